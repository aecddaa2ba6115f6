/-
  The law as far as its loop, walked.
-/
import Derived.Test.YtiinlpdophgfjaaGreatDoorProg
import Derived.Test.YtiinlpdophgfjaaGreatDoorXMxBA
import Derived.WalkKit
import Derived.WalkSpells
import Derived.StillTactics
import Derived.LoopIn
import Derived.RowKit3
import Derived.Below
import Derived.OwnWalk
open Go Go.Mx Go.RowKit
namespace Go.Proofs.YtiinlpdophgfjaaGreatDoor
noncomputable section
theorem below_stays {w w' : World} (h : Stays w w') : Below w.heap.size w w' := ⟨h.os, h.tape, h.output, h.size, h.heap⟩
/-- what stands behind the law's loop -/
noncomputable def tpRest : Code := Mx.sndN 4 (Tryz.f3.body.getD .skip)
structure RestOk (s : ByteArray) (n : Int) (more : Value) (w1 : World) : Prop where
  go : ∀ (o : Array Oper) (b : Code), Code.seq (Code.region 9 o false) b = tpRest → ∀ (a : Act) (w : World) (Q : Exit → Act → World → Prop), a.tmps.getD 0 undef = .string s → a.tmps.getD 1 undef = .int .i64 n → a.tmps.getD 2 undef = more → 77 ≤ a.tmps.size → a.defers = [] →
  Below w1.heap.size w1 w → (∀ (a' : Act) (w' : World), a'.defers = [] → a'.tmps.getD 6 undef = .bool true → Mx.Stays w w' → Q .ret a' w') → (Code.seq (Code.region 9 o false) b).wp Tryz.prog Q a w
set_option maxHeartbeats 3200000 in
set_option maxRecDepth 100000 in
theorem tp_any (s : ByteArray) (n : Int) (p : Option Addr) (m c : Nat) (w : World) (hal : Calls Tryz.prog 4 #[] w fun e w' => e = .returned (.bool true) ∧ Below w.heap.size w w')
    (hrest : s.size ≤ 200 → m ≤ 10 → (∀ b ∈ s.data.toList, b ≠ 37 ∧ b ≠ 92) → ∀ w1, Below w.heap.size w w1 → RestOk s n (.slice p m c) w1) :
    Calls Tryz.prog 3 #[.string s, .int .i64 n, .slice p m c] w fun e w' => e = .returned (.bool true) ∧ Below w.heap.size w w' := by
  by_cases hs : s.size ≤ 200
  rotate_left
  · go_enter Tryz.func3, Tryz.ntmps3
    go_wp2_with fail
    go_at_call 4
    refine hal.mono ?_
    rintro e w1 ⟨rfl, hb1⟩
    clear hal
    go_wp2
    go_ret
    exact ⟨rfl, hb1⟩
  by_cases hm : m ≤ 10
  rotate_left
  · go_enter Tryz.func3, Tryz.ntmps3
    go_wp2_with fail
    go_at_call 4
    refine hal.mono ?_
    rintro e w1 ⟨rfl, hb1⟩
    clear hal
    go_wp2
    go_ret
    exact ⟨rfl, hb1⟩
  have HR : Hid ((∀ b ∈ s.data.toList, b ≠ 37 ∧ b ≠ 92) → ∀ w1, Below w.heap.size w w1 → RestOk s n (.slice p m c) w1) := hrest hs hm
  clear hrest
  go_enter Tryz.func3, Tryz.ntmps3
  go_wp2_with fail
  go_at_call 4
  refine hal.mono ?_
  rintro e w1 ⟨rfl, hb1⟩
  clear hal
  go_wp2
  go_loopw [8] (fun i wr => ∃ k : Nat, k ≤ s.size ∧ i = .int .i64 k ∧ (∀ b ∈ s.data.toList.take k, b ≠ 37 ∧ b ≠ 92) ∧ wr = w1) (fun i _ => s.size - (intOf i).toNat)
  case atStart => exact ⟨0, Nat.zero_le _, rfl, by simp, rfl⟩
  case round =>
    obtain ⟨k, hk, rfl, hg, rfl⟩ := hrel
    by_cases hlt : k < s.size
    · by_cases h37 : (s[k].toNat : Int) = 37
      · go_wp2
        go_ret
        exact ⟨rfl, hb1⟩
      by_cases h92 : (s[k].toNat : Int) = 92
      · go_wp2
        go_ret
        exact ⟨rfl, hb1⟩
      have hst : Hid (∀ b ∈ s.data.toList.take (k + 1), b ≠ 37 ∧ b ≠ 92) := by
        intro b hb
        rw [List.take_succ_eq_append_getElem (by simpa using hlt)] at hb
        rcases List.mem_append.1 hb with hb | hb
        · exact hg b hb
        · rw [List.mem_singleton] at hb
          subst hb
          refine ⟨fun e => h37 ?_, fun e => h92 ?_⟩
          · show ((s.data.toList[k]'(by simpa using hlt)).toNat : Int) = 37
            rw [e]; rfl
          · show ((s.data.toList[k]'(by simpa using hlt)).toNat : Int) = 92
            rw [e]; rfl
      clear hg
      go_wp2
      · rename_i hbad
        rcases hbad with hbad | hbad
        · exact absurd (by simpa using hbad) h37
        · exact absurd (by simpa using hbad) h92
      · go_roundw
        case rel => exact ⟨k + 1, by omega, by go_num, hst.out, by first | trivial | rfl⟩
        case measure => simp [intOf]; omega
    · have hkl : k = s.size := by omega
      subst hkl
      have hgood : Hid (∀ b ∈ s.data.toList, b ≠ 37 ∧ b ≠ 92) := fun b hb => hg b (by rw [List.take_of_length_le (by simp)]; exact hb)
      clear hg
      first | go_values | go_skip | go_guarded | go_step | go_upon | go_in | go_back | (simp only [Int.not_lt, Int.not_le] at *; go_simp)
      first | go_values | go_skip | go_guarded | go_step | go_upon | go_in | go_back | (simp only [Int.not_lt, Int.not_le] at *; go_simp)
      first | go_values | go_skip | go_guarded | go_step | go_upon | go_in | go_back | (simp only [Int.not_lt, Int.not_le] at *; go_simp)
      first | go_values | go_skip | go_guarded | go_step | go_upon | go_in | go_back | (simp only [Int.not_lt, Int.not_le] at *; go_simp)
      first | go_values | go_skip | go_guarded | go_step | go_upon | go_in | go_back | (simp only [Int.not_lt, Int.not_le] at *; go_simp)
      first | go_values | go_skip | go_guarded | go_step | go_upon | go_in | go_back | (simp only [Int.not_lt, Int.not_le] at *; go_simp)
      first | go_values | go_skip | go_guarded | go_step | go_upon | go_in | go_back | (simp only [Int.not_lt, Int.not_le] at *; go_simp)
      first | go_values | go_skip | go_guarded | go_step | go_upon | go_in | go_back | (simp only [Int.not_lt, Int.not_le] at *; go_simp)
      first | go_values | go_skip | go_guarded | go_step | go_upon | go_in | go_back | (simp only [Int.not_lt, Int.not_le] at *; go_simp)
      first | go_values | go_skip | go_guarded | go_step | go_upon | go_in | go_back | (simp only [Int.not_lt, Int.not_le] at *; go_simp)
      first | go_values | go_skip | go_guarded | go_step | go_upon | go_in | go_back | (simp only [Int.not_lt, Int.not_le] at *; go_simp)
      first | go_values | go_skip | go_guarded | go_step | go_upon | go_in | go_back | (simp only [Int.not_lt, Int.not_le] at *; go_simp)
      first | go_values | go_skip | go_guarded | go_step | go_upon | go_in | go_back | (simp only [Int.not_lt, Int.not_le] at *; go_simp)
      first | go_values | go_skip | go_guarded | go_step | go_upon | go_in | go_back | (simp only [Int.not_lt, Int.not_le] at *; go_simp)
      first | go_values | go_skip | go_guarded | go_step | go_upon | go_in | go_back | (simp only [Int.not_lt, Int.not_le] at *; go_simp)
      first | go_values | go_skip | go_guarded | go_step | go_upon | go_in | go_back | (simp only [Int.not_lt, Int.not_le] at *; go_simp)
      first | go_values | go_skip | go_guarded | go_step | go_upon | go_in | go_back | (simp only [Int.not_lt, Int.not_le] at *; go_simp)
      first | go_values | go_skip | go_guarded | go_step | go_upon | go_in | go_back | (simp only [Int.not_lt, Int.not_le] at *; go_simp)
      first | go_values | go_skip | go_guarded | go_step | go_upon | go_in | go_back | (simp only [Int.not_lt, Int.not_le] at *; go_simp)
      first | go_values | go_skip | go_guarded | go_step | go_upon | go_in | go_back | (simp only [Int.not_lt, Int.not_le] at *; go_simp)
      first | go_values | go_skip | go_guarded | go_step | go_upon | go_in | go_back | (simp only [Int.not_lt, Int.not_le] at *; go_simp)
      first | go_values | go_skip | go_guarded | go_step | go_upon | go_in | go_back | (simp only [Int.not_lt, Int.not_le] at *; go_simp)
      first | go_values | go_skip | go_guarded | go_step | go_upon | go_in | go_back | (simp only [Int.not_lt, Int.not_le] at *; go_simp)
      first | go_values | go_skip | go_guarded | go_step | go_upon | go_in | go_back | (simp only [Int.not_lt, Int.not_le] at *; go_simp)
      first | go_values | go_skip | go_guarded | go_step | go_upon | go_in | go_back | (simp only [Int.not_lt, Int.not_le] at *; go_simp)
      refine (HR.out hgood.out _ hb1).go _ _ ?_ _ _ _ ?_ ?_ ?_ ?_ ?_ ?_ ?_
      kernel_rfl
      rfl
      rfl
      rfl
      exact Nat.le_of_ble_eq_true rfl
      rfl
      exact Below.refl _ _
      intro a' w' hd hv hst
      exact bodyPost_ret (results_tmp rfl _ _ _) hd ⟨by rw [hv], hb1.trans ((below_stays hst).mono hb1.size)⟩
end
end Go.Proofs.YtiinlpdophgfjaaGreatDoor
