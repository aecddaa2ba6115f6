/-
  The law as far as its first loop, walked.
-/
import Derived.Test.YtpodnhoafbbkkaaGreatDoorProg
import Derived.Test.YtpodnhoafbbkkaaGreatDoorXMxAR
import Derived.Test.YtpodnhoafbbkkaaGreatDoorLgP
import Derived.WalkKit
import Derived.WalkSpells
import Derived.StillTactics
import Derived.LoopIn
import Derived.RowKit3
import Derived.Below
import Derived.OwnWalk
open Go Go.Mx Go.RowKit
namespace Go.Proofs.YtpodnhoafbbkkaaGreatDoor
noncomputable section
theorem xl_info5 : (Tryz.prog.info? 5).map (fun i => (i.zero, i.size, i.bytes)) = some (some (.int .u8 0), 1, 1) := by kernel_rfl
theorem xl_t22 : Tryz.prog.underlying 23 = some (.slice 5) := by kernel_rfl
theorem below_stays {w w' : World} (h : Stays w w') : Below w.heap.size w w' := ⟨h.os, h.tape, h.output, h.size, h.heap⟩
theorem stays_of_below {w w' : World} (h : Below w.heap.size w w') : Stays w w' := ⟨h.size, h.os, h.tape, h.output, h.block⟩
/-- so many x -/
def xs (n : Nat) : List UInt8 := List.replicate n 120
theorem xs_len (n : Nat) : (xs n).length = n := by simp [xs]
theorem xs_at {n k : Nat} (h : k < n) : (xs n).getD k 0 = 120 := by
  rw [List.getD, xs, List.getElem?_replicate, if_pos h]
  rfl
theorem fill1 {wr : World} {B g n k : Nat} {e : TypeId} (hk : k < n) (hown : wr.ownsRow B e 1 (.slice (some ⟨g, 0, none⟩) n n) n (fillC (xs n) k)) :
    (wr.setCell ⟨g, k, none⟩ (.int .u8 120)).ownsRow B e 1 (.slice (some ⟨g, 0, none⟩) n n) n (fillC (xs n) (k + 1)) := by
  have h1 := (hown.stored k (.int .u8 120)).1
  have hs := fillC_set (xs n) (k := k) (by rw [xs_len]; exact hk)
  rw [xs_at hk] at hs
  rw [← hs]
  exact h1
theorem xl_block {w : World} {B g n : Nat} {e : TypeId} (hown : w.ownsRow B e 1 (.slice (some ⟨g, 0, none⟩) n n) n (fillC (xs n) n)) :
    ∃ cur : Array Value, w.heap[g]? = some (.cells cur e (0, 0)) ∧ cur.size = n ∧ (cur.toList.drop 0).take (xs n).length = (xs n).map byteV := by
  rcases hown.2 with ⟨h, _⟩ | ⟨g', cap, cur, h, _, hg, hnc, _, hcs, ht⟩
  · cases h
  · simp only [Value.slice.injEq, Option.some.injEq, Addr.mk.injEq, and_true, true_and] at h
    obtain ⟨rfl, rfl⟩ := h
    refine ⟨cur, hg, by omega, ?_⟩
    rw [List.drop_zero, xs_len, ← Nat.mul_one n, ht, Nat.mul_one]
    apply List.ext_getElem?
    intro j
    rw [fillC_get, List.getElem?_map, xs_len]
    by_cases hj : j < n
    · rw [if_pos hj, if_pos hj, xs_at hj, xs, List.getElem?_replicate, if_pos hj]
      rfl
    · rw [if_neg hj, xs, List.getElem?_replicate, if_neg hj]
      rfl
set_option maxHeartbeats 1600000 in
set_option maxRecDepth 100000 in
theorem xl_out (x y : Int) (w : World) (hal : Calls Tryz.prog 4 #[] w fun e w' => e = .returned (.bool true) ∧ Below w.heap.size w w') (h : x < 0 ∨ 1100 < x ∨ y < 1 ∨ 5 < y) :
    Calls Tryz.prog 3 #[.int .i64 x, .int .i64 y] w fun e w' => e = .returned (.bool true) ∧ Below w.heap.size w w' := by
  by_cases h1 : x < 0
  rotate_left
  by_cases h2 : 1100 < x
  rotate_left
  by_cases h3 : y < 1
  rotate_left
  have h4 : 5 < y := by omega
  all_goals
    clear h
    go_enter Tryz.func3, Tryz.ntmps3
    go_wp2_with fail
    go_at_call 4
    refine hal.mono ?_
    rintro e w1 ⟨rfl, hb1⟩
    clear hal
    go_wp2
    go_ret
    exact ⟨rfl, hb1⟩
/-- what stands behind the first loop -/
noncomputable def xlRest : Code := sndN 5 (Tryz.f3.body.getD .skip)
structure RestOk (n t : Nat) : Prop where
  go : ∀ (o : Array Oper) (b : Code), Code.seq (Code.region 9 o false) b = xlRest → ∀ (a : Act) (w : World) (B g : Nat) (Q : Exit → Act → World → Prop), a.tmps.getD 0 undef = .int .i64 (n : Int) → a.tmps.getD 1 undef = .int .i64 (t : Int) → a.tmps.getD 6 undef = .slice (some ⟨g, 0, none⟩) n n → 93 ≤ a.tmps.size → a.defers = [] →
  w.ownsRow B 5 1 (.slice (some ⟨g, 0, none⟩) n n) n (fillC (xs n) n) → (∀ (a' : Act) (w' : World), a'.defers = [] → a'.tmps.getD 4 undef = .bool true → Stays w w' → Q .ret a' w') → (Code.seq (Code.region 9 o false) b).wp Tryz.prog Q a w
set_option maxHeartbeats 3200000 in
set_option maxRecDepth 100000 in
theorem xl_in (n t : Nat) (w : World) (hs : n ≤ 1100) (ht1 : 1 ≤ t) (ht5 : t ≤ 5) (hrest : RestOk n t) (hal : Calls Tryz.prog 4 #[] w fun e w' => e = .returned (.bool true) ∧ Below w.heap.size w w') :
    Calls Tryz.prog 3 #[.int .i64 (n : Int), .int .i64 (t : Int)] w fun e w' => e = .returned (.bool true) ∧ Below w.heap.size w w' := by
  obtain ⟨i0, hi, hz0, hz1, hz2⟩ := info_parts xl_info5
  have HR : Hid (RestOk n t) := hrest
  clear hrest
  go_enter Tryz.func3, Tryz.ntmps3
  go_wp2_with fail
  go_at_call 4
  refine hal.mono ?_
  rintro e w1 ⟨rfl, hb1⟩
  clear hal
  have hg := hb1.size
  go_wp2_with (at_make; refine wpList_make_full _ rfl _ _ 23 rfl w.heap.size 5 i0 (.int .u8 0) 1 xl_t22 hi hz0 hz1 .i64 .i64 _ _ n rfl rfl rfl rfl (by rw [hz2]; omega) (by unfold maxLen; omega) hg ?_)
  intro w2 hown hgrow
  have e0 : (madeCells #[Value.int .u8 0] n).toList = fillC (xs n) 0 := by
    rw [fillC_zero, xs_len]
    exact toList_madeCells_one _ _
  rw [e0] at hown
  have hbel2 : Below w.heap.size w w2 := hb1.grown hgrow hg (fun k hk => by cases hk)
  clear hgrow e0 hb1 hz0 hz1 hz2 hi
  go_wp2
  go_loopw [7] (fun i wr => ∃ k : Nat, k ≤ n ∧ i = .int .i64 k ∧ wr.ownsRow w.heap.size 5 1 (.slice (some ⟨w1.heap.size, 0, none⟩) n n) n (fillC (xs n) k) ∧ Below w.heap.size w wr) (fun i _ => n - (intOf i).toNat)
  case atStart => exact ⟨0, Nat.zero_le _, rfl, hown, hbel2⟩
  case round =>
    obtain ⟨k, hk, rfl, ho, hb⟩ := hrel
    clear hown hbel2
    by_cases hlt : k < n
    · have hcl := ho.cellAt k (by omega)
      rw [fillC_get, if_pos (by rw [xs_len]; exact hlt), if_neg (by omega)] at hcl
      have hfz := ho.frozenAt k
      have hst := fill1 hlt ho
      have hst : Hid _ := hst
      clear ho
      go_wp2
      go_roundw
      case rel => exact ⟨k + 1, by omega, by go_num, hst.out, hb.setCell (p := ⟨_, k, none⟩) hg _⟩
      case measure => simp [intOf]; omega
    · have hkl : k = n := by omega
      subst hkl
      first | go_values | go_skip | go_guarded | go_step | go_upon | go_in | go_back | (simp only [Int.not_lt, Int.not_le] at *; go_simp)
      first | go_values | go_skip | go_guarded | go_step | go_upon | go_in | go_back | (simp only [Int.not_lt, Int.not_le] at *; go_simp)
      first | go_values | go_skip | go_guarded | go_step | go_upon | go_in | go_back | (simp only [Int.not_lt, Int.not_le] at *; go_simp)
      first | go_values | go_skip | go_guarded | go_step | go_upon | go_in | go_back | (simp only [Int.not_lt, Int.not_le] at *; go_simp)
      first | go_values | go_skip | go_guarded | go_step | go_upon | go_in | go_back | (simp only [Int.not_lt, Int.not_le] at *; go_simp)
      first | go_values | go_skip | go_guarded | go_step | go_upon | go_in | go_back | (simp only [Int.not_lt, Int.not_le] at *; go_simp)
      first | go_values | go_skip | go_guarded | go_step | go_upon | go_in | go_back | (simp only [Int.not_lt, Int.not_le] at *; go_simp)
      first | go_values | go_skip | go_guarded | go_step | go_upon | go_in | go_back | (simp only [Int.not_lt, Int.not_le] at *; go_simp)
      first | go_values | go_skip | go_guarded | go_step | go_upon | go_in | go_back | (simp only [Int.not_lt, Int.not_le] at *; go_simp)
      first | go_values | go_skip | go_guarded | go_step | go_upon | go_in | go_back | (simp only [Int.not_lt, Int.not_le] at *; go_simp)
      first | go_values | go_skip | go_guarded | go_step | go_upon | go_in | go_back | (simp only [Int.not_lt, Int.not_le] at *; go_simp)
      first | go_values | go_skip | go_guarded | go_step | go_upon | go_in | go_back | (simp only [Int.not_lt, Int.not_le] at *; go_simp)
      first | go_values | go_skip | go_guarded | go_step | go_upon | go_in | go_back | (simp only [Int.not_lt, Int.not_le] at *; go_simp)
      first | go_values | go_skip | go_guarded | go_step | go_upon | go_in | go_back | (simp only [Int.not_lt, Int.not_le] at *; go_simp)
      first | go_values | go_skip | go_guarded | go_step | go_upon | go_in | go_back | (simp only [Int.not_lt, Int.not_le] at *; go_simp)
      first | go_values | go_skip | go_guarded | go_step | go_upon | go_in | go_back | (simp only [Int.not_lt, Int.not_le] at *; go_simp)
      first | go_values | go_skip | go_guarded | go_step | go_upon | go_in | go_back | (simp only [Int.not_lt, Int.not_le] at *; go_simp)
      first | go_values | go_skip | go_guarded | go_step | go_upon | go_in | go_back | (simp only [Int.not_lt, Int.not_le] at *; go_simp)
      first | go_values | go_skip | go_guarded | go_step | go_upon | go_in | go_back | (simp only [Int.not_lt, Int.not_le] at *; go_simp)
      first | go_values | go_skip | go_guarded | go_step | go_upon | go_in | go_back | (simp only [Int.not_lt, Int.not_le] at *; go_simp)
      first | go_values | go_skip | go_guarded | go_step | go_upon | go_in | go_back | (simp only [Int.not_lt, Int.not_le] at *; go_simp)
      first | go_values | go_skip | go_guarded | go_step | go_upon | go_in | go_back | (simp only [Int.not_lt, Int.not_le] at *; go_simp)
      refine HR.out.go _ _ ?_ _ _ w.heap.size w1.heap.size _ ?_ ?_ ?_ ?_ ?_ ?_ ?_
      kernel_rfl
      rfl
      rfl
      rfl
      exact Nat.le_of_ble_eq_true rfl
      rfl
      exact ho
      intro a' w' hd hv hst
      exact bodyPost_ret (results_tmp rfl _ _ _) hd ⟨by rw [hv], hb.trans ((below_stays hst).mono hb.size)⟩
theorem xl_any (n0 n1 : Int) {W : World} (hal : Calls Tryz.prog 4 #[] W fun e W' => e = .returned (.bool true) ∧ Below W.heap.size W W') (hrest : ∀ n t : Nat, n ≤ 1100 → 1 ≤ t → t ≤ 5 → RestOk n t) :
    Calls Tryz.prog 3 #[.int .i64 n0, .int .i64 n1] W fun e W' => e = .returned (.bool true) ∧ Stays W W' := by
  by_cases h : n0 < 0 ∨ 1100 < n0 ∨ n1 < 1 ∨ 5 < n1
  · exact (xl_out n0 n1 W hal h).mono fun e W' h => ⟨h.1, stays_of_below h.2⟩
  · obtain ⟨n, rfl⟩ := Int.eq_ofNat_of_zero_le (show 0 ≤ n0 by omega)
    obtain ⟨t, rfl⟩ := Int.eq_ofNat_of_zero_le (show 0 ≤ n1 by omega)
    exact (xl_in n t W (by omega) (by omega) (by omega) (hrest n t (by omega) (by omega) (by omega)) hal).mono fun e W' h => ⟨h.1, stays_of_below h.2⟩
end
end Go.Proofs.YtpodnhoafbbkkaaGreatDoor
