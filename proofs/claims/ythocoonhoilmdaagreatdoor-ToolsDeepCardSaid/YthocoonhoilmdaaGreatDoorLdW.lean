/-
  The law, walked.
-/
import Derived.Test.YthocoonhoilmdaaGreatDoorLeW
import Derived.Test.YthocoonhoilmdaaGreatDoorXMxAL
import Derived.BigQuiet
import Derived.Deep.QuietTactic
import Derived.Deep.RegionLaw
import Derived.Deep.RegionWith
import Derived.Deep.RegionHeld3
import Derived.RegionTactic
import Derived.WalkKit
import Derived.WalkSpells
import Derived.StillTactics
import Derived.LoopIn
import Derived.RowKit3
import Derived.Below
import Derived.OwnWalk
import Derived.KernelRfl
open Go Go.Mx Go.RowKit
namespace Go.Proofs.YthocoonhoilmdaaGreatDoor
set_option maxRecDepth 100000
noncomputable section
/-! the law of ToolsDeep, walked -/
set_option maxHeartbeats 1600000 in
set_option maxRecDepth 100000 in
theorem law_out {W : World} (lo : Option Addr) (m lc : Nat) (n : Int) (h : m < 1 ∨ 8 < m ∨ n < 1 ∨ (m : Int) < n) (hal : Calls Tryz.prog 5 #[] W fun e w' => e = .returned (.bool true) ∧ Below W.heap.size W w') :
    Calls Tryz.prog 4 #[.slice lo m lc, .int .i64 n] W fun e w' => e = .returned (.bool true) ∧ Below W.heap.size W w' := by
  have h' : (m : Int) < 1 ∨ (¬ (m : Int) < 1 ∧ (8 : Int) < m) ∨ (¬ (m : Int) < 1 ∧ ¬ (8 : Int) < m ∧ n < 1) ∨ (¬ (m : Int) < 1 ∧ ¬ (8 : Int) < m ∧ ¬ n < 1 ∧ (m : Int) < n) := by omega
  rcases h' with h1 | ⟨h1, h2⟩ | ⟨h1, h2, h3⟩ | ⟨h1, h2, h3, h4⟩
  all_goals
    go_enter Tryz.func4, Tryz.ntmps4
    go_wp2_with fail
    go_at_call 5
    refine hal.mono ?_
    rintro e w1 ⟨rfl, hb1⟩
    go_wp2
    go_ret
    exact ⟨rfl, hb1⟩
set_option maxHeartbeats 6400000 in
set_option maxRecDepth 100000 in
theorem law_in {W : World} (hmx : MaxIs W) (ns : List ByteArray) (m k : Nat) (hlen : ns.length = m) (hm1 : 1 ≤ m) (hm8 : m ≤ 8) (hkm : k < m) (b off cap : Nat) (hb : b < W.heap.size) (hc : ∀ j (hj : j < ns.length), W.cell? ⟨b, off + j, none⟩ = some (.string ns[j])) (hsz : ∀ x ∈ ns, x.size ≤ 9223372036854775807)
    (hal : Calls Tryz.prog 5 #[] W fun e w' => e = .returned (.bool true) ∧ Below W.heap.size W w') :
    Calls Tryz.prog 4 #[.slice (some ⟨b, off, none⟩) m cap, .int .i64 ((k : Int) + 1)] W fun e w' => e = .returned (.bool true) ∧ Below W.heap.size W w' := by
  have g1 : ¬ (m : Int) < 1 := by omega
  have g2 : ¬ (8 : Int) < m := by omega
  have g3 : ¬ ((k : Int) + 1) < 1 := by omega
  have g4 : ¬ (m : Int) < (k : Int) + 1 := by omega
  have HC : Hid (∀ w, Below W.heap.size W w → ∀ j (hj : j < ns.length), w.cell? ⟨b, off + j, none⟩ = some (.string ns[j])) := fun w hw j hj => (hw.cell (by exact hb)).trans (hc j hj)
  have HZ : Hid (∀ x ∈ ns, x.size ≤ 9223372036854775807) := hsz
  have HM : Hid (∀ w, Below W.heap.size W w → MaxIs w) := fun w hw => hmx.below hmx.lt hw
  have HLEN : Hid (ns.length = m) := hlen
  clear hc hsz hmx hlen
  go_enter Tryz.func4, Tryz.ntmps4
  go_wp2_with fail
  go_at_call 5
  refine hal.mono ?_
  rintro e w1 ⟨rfl, hb1⟩
  clear hal
  go_wp2
  go_loopw [6, 7, 8] (fun s p i wr => ∃ (j : Nat) (s0 p0 : ByteArray), j ≤ m ∧ s = .string s0 ∧ p = .string p0 ∧ i = .int .i64 j ∧ Hid (wr = w1) ∧ Hid (s0 = pB (ns.take j) ∧ p0 = pB (ns.take (min j (k + 1))) ∧ ∀ x ∈ ns.take j, NameOk x)) (fun _ _ i _ => m - (intOf i).toNat)
  case atStart => exact ⟨0, _, _, Nat.zero_le _, rfl, rfl, rfl, (rfl : w1 = w1), ⟨rfl, by rw [Nat.min_eq_left (Nat.zero_le _)]; rfl, fun x hx => by cases hx⟩⟩
  case round =>
    obtain ⟨j, s0, p0, hj, rfl, rfl, rfl, HWr, HI⟩ := hrel
    have hwr := HWr.out
    subst hwr
    clear HWr
    by_cases hjm : j < m
    · have hcx := HC.out wr hb1 j (by rw [HLEN.out]; exact hjm)
      obtain ⟨y, hy⟩ : ∃ y, y = ns[j]'(by rw [HLEN.out]; exact hjm) := ⟨_, rfl⟩
      have HY : Hid (y = ns[j]'(by rw [HLEN.out]; exact hjm)) := hy
      have hyz : y.size ≤ 9223372036854775807 := by rw [hy]; exact HZ.out _ (List.getElem_mem _)
      rw [← hy] at hcx
      clear hy
      have hji : (j : Int) < m := by omega
      by_cases c1 : y.data.toList = []
      · have e0 := isE c1
        go_wp2
        go_ret
        exact ⟨rfl, hb1⟩
      have e0 := isE' c1
      by_cases c2 : (20 : Int) < y.size
      · go_wp2
        go_ret
        exact ⟨rfl, hb1⟩
      have hy0 : 0 < y.size := by
        rw [size_data]
        exact List.length_pos_iff.2 c1
      by_cases c3 : (y[0].toNat : Int) = 46
      · go_wp2
        go_ret
        exact ⟨rfl, hb1⟩
      have hA1 := at_any y 47 wr (by unfold maxLen; omega) (by decide)
      have hA2 := at_any y 0 wr (by unfold maxLen; omega) (by decide)
      obtain ⟨i1, hi1⟩ : ∃ i, i = Lib.indexByte y.data.toList (UInt8.ofNat 47) := ⟨_, rfl⟩
      obtain ⟨i2, hi2⟩ : ∃ i, i = Lib.indexByte y.data.toList (UInt8.ofNat 0) := ⟨_, rfl⟩
      rw [← hi1] at hA1
      rw [← hi2] at hA2
      have HI1 : Hid (i1 = Lib.indexByte y.data.toList (UInt8.ofNat 47) ∧ i2 = Lib.indexByte y.data.toList (UInt8.ofNat 0)) := ⟨hi1, hi2⟩
      clear hi1 hi2
      by_cases c4 : 0 ≤ i1
      · go_wp2_with fail
        go_at_call 10
        refine hA1.mono ?_
        rintro e w2 ⟨rfl, rfl⟩
        go_wp2
        go_ret
        exact ⟨rfl, hb1⟩
      by_cases c5 : 0 ≤ i2
      · go_wp2_with fail
        go_at_call 10
        refine hA1.mono ?_
        rintro e w2 ⟨rfl, rfl⟩
        go_wp2_with fail
        go_at_call 10
        refine hA2.mono ?_
        rintro e w3 ⟨rfl, rfl⟩
        go_wp2
        go_ret
        exact ⟨rfl, hb1⟩
      have hN : NameOk y := by
        refine ⟨c1, fun e => c3 ?_, fun e => c4 ?_, fun e => c5 ?_, by omega⟩
        · have h2 : y.data.toList[0]? = some 46 := by rw [← List.head?_eq_getElem?]; exact e
          have h3 := (List.getElem?_eq_some_iff.1 h2).2
          have h4 : y[0] = 46 := h3
          rw [h4]
          rfl
        · rw [HI1.out.1]; exact idxB_mem e
        · rw [HI1.out.2]; exact idxB_mem e
      obtain ⟨s1, hs1⟩ : ∃ s1, s1 = (s0 ++ (⟨#[47]⟩ : ByteArray)) ++ y := ⟨_, rfl⟩
      have hs1' : (s0 ++ (⟨#[47]⟩ : ByteArray)) ++ y = s1 := hs1.symm
      have hs0z : s0.size ≤ 168 := by
        have h1 := pL_le HI.out.2.2
        rw [List.length_take] at h1
        rw [HI.out.1, pB_size]
        omega
      have hyz2 : y.size ≤ 20 := by omega
      have z1 : ¬ 9223372036854775807 < s0.size + 1 := by omega
      have z2 : ¬ 9223372036854775807 < s0.size + 1 + y.size := by omega
      have HE : Hid (s1 = pB (ns.take (j + 1)) ∧ ∀ x ∈ ns.take (j + 1), NameOk x) := by
        have e : ns.take (j + 1) = ns.take j ++ [y] := by rw [HY.out]; exact List.take_succ_eq_append_getElem _
        refine ⟨?_, fun x hx => ?_⟩
        · rw [e, pB_app, ← HI.out.1, hs1]
          apply ba_ext
          simp [ByteArray.data_append, pB_data, pL]
        · rw [e] at hx
          rcases List.mem_append.1 hx with hx | hx
          · exact HI.out.2.2 x hx
          · rw [List.mem_singleton.1 hx]; exact hN
      clear hs1 HI1 hN hyz
      by_cases c6 : (j : Int) < (k : Int) + 1
      · have e6 : min (j + 1) (k + 1) = j + 1 := by omega
        go_wp2_with fail
        go_at_call 10
        refine hA1.mono ?_
        rintro e w2 ⟨rfl, rfl⟩
        go_wp2_with fail
        go_at_call 10
        refine hA2.mono ?_
        rintro e w3 ⟨rfl, rfl⟩
        go_wp2
        case roundEnd =>
          refine ⟨⟨j + 1, s1, s1, by omega, rfl, rfl, by go_num, by first | trivial | exact (rfl : w3 = w3), ⟨HE.out.1, by rw [e6]; exact HE.out.1, HE.out.2⟩⟩, ?_⟩
          simp [intOf]
          omega
        all_goals
          go_ret
          exact ⟨rfl, hb1⟩
      · have e6 : Hid (min (j + 1) (k + 1) = min j (k + 1)) := (by omega : min (j + 1) (k + 1) = min j (k + 1))
        go_wp2_with fail
        go_at_call 10
        refine hA1.mono ?_
        rintro e w2 ⟨rfl, rfl⟩
        go_wp2_with fail
        go_at_call 10
        refine hA2.mono ?_
        rintro e w3 ⟨rfl, rfl⟩
        go_wp2
        case roundEnd =>
          refine ⟨⟨j + 1, s1, p0, by omega, rfl, rfl, by go_num, by first | trivial | exact (rfl : w3 = w3), ⟨HE.out.1, by rw [e6.out]; exact HI.out.2.1, HE.out.2⟩⟩, ?_⟩
          simp [intOf]
          omega
        all_goals
          go_ret
          exact ⟨rfl, hb1⟩
    · have hjm' : j = m := by omega
      obtain ⟨L, hLd⟩ : ∃ L, L = ns ++ [(⟨#[120]⟩ : ByteArray)] := ⟨_, rfl⟩
      have hns : ns.take m = ns := List.take_of_length_le (by rw [HLEN.out]; exact Nat.le_refl _)
      have hNN : ∀ x ∈ ns, NameOk x := fun x hx => HI.out.2.2 x (by rw [hjm', hns]; exact hx)
      have C : Chain L m := by rw [hLd]; exact chain_of HLEN.out hm1 hm8 hNN
      have hes : s0 = pB (L.take m) := by rw [HI.out.1, hjm', hLd, take_chain HLEN.out (Nat.le_refl m)]
      have hep : p0 = pB (L.take (k + 1)) := by rw [HI.out.2.1, hjm', Nat.min_eq_right (by omega), hLd, take_chain HLEN.out (by omega)]
      have hex : s0 ++ (⟨#[47, 120]⟩ : ByteArray) = pB (L.take (m + 1)) := by rw [HI.out.1, hjm', hns, hLd]; exact chain_x HLEN.out
      have hs0z : s0.size ≤ 189 := by rw [hes]; exact C.small m
      obtain ⟨sx, hsx⟩ : ∃ sx, sx = s0 ++ (⟨#[47, 120]⟩ : ByteArray) := ⟨_, rfl⟩
      have hsx' : s0 ++ (⟨#[47, 120]⟩ : ByteArray) = sx := hsx.symm
      have HS : Hid (s0 = pB (L.take m) ∧ p0 = pB (L.take (k + 1)) ∧ sx = pB (L.take (m + 1))) := ⟨hes, hep, by rw [hsx]; exact hex⟩
      have z1 : ¬ 9223372036854775807 < s0.size + 2 := by omega
      have HC9 : Hid (L.length ≤ 9 ∧ m ≤ L.length) := by
        have := C.len
        exact ⟨by omega, by omega⟩
      clear HI HC HZ HLEN hLd hns hNN hes hep hex hsx
      go_wp2_with fail
      go_at_call 6
      refine (new_deep wr).mono ?_
      rintro e w2 ⟨fb, mb, rfl, hF2, hb12, hfb, hmb⟩
      have hz1 := hb1.size
      have S2 : LS W w2 fb mb [] := ⟨hb1.trans (hb12.mono hz1), by omega, by omega, fun x hx => by cases hx⟩
      have G2 : Grow fb mb L m 0 w2 := ⟨[], hF2, Nodes.nil L m⟩
      clear hF2 hb12 hfb hmb hz1
      obtain ⟨X2, hX2⟩ : ∃ X, X = w2.alloc (.cells #[.string ⟨#[45, 112]⟩, .string s0] 9) := ⟨_, rfl⟩
      obtain ⟨B2, A2⟩ := step_first (args := [⟨#[45, 112]⟩, s0]) hX2
      have Y2 := S2.mono B2
      have R2 := go_mkp C (G2.below B2) (Nat.zero_le _) (HM.out X2 Y2.below) (by rw [← HS.out.1]; exact A2)
      clear B2 A2
      go_wp2_with fail
      rw [← hX2]
      clear hX2
      go_at_call 9
      refine R2.mono ?_
      rintro e w3 ⟨o3, n3, c3, rfl, hB3, G3⟩
      have S3 := Y2.but hB3
      clear R2 hB3 Y2 S2 G2
      obtain ⟨X3, hX3⟩ : ∃ X, X = (w3.alloc (.cells #[.int .i64 0, .slice none 0 0, .slice o3 n3 c3] 33)).alloc (.cells #[.string ⟨#[45, 112]⟩, .string s0] 9) := ⟨_, rfl⟩
      obtain ⟨Y3, B3, A3⟩ := S3.next (s := 0) (o2 := o3) (m2 := n3) (c2 := c3) (args := [⟨#[45, 112]⟩, s0]) G3.size hX3
      have R3 := go_mkp C (G3.below B3) (Nat.le_refl _) (HM.out X3 Y3.below) (by rw [← HS.out.1]; exact A3)
      clear B3 A3
      go_wp2_with fail
      rw [← hX3]
      clear hX3
      go_at_call 9
      refine R3.mono ?_
      rintro e w4 ⟨o4, n4, c4, rfl, hB4, G4⟩
      have S4 := Y3.but hB4
      clear R3 hB4 Y3 S3 G3
      obtain ⟨X4, hX4⟩ : ∃ X, X = (w4.alloc (.cells #[.int .i64 0, .slice none 0 0, .slice o4 n4 c4] 33)).alloc (.cells #[.string s0] 9) := ⟨_, rfl⟩
      obtain ⟨Y4, B4, A4⟩ := S4.next (s := 0) (o2 := o4) (m2 := n4) (c2 := c4) (args := [s0]) G4.size hX4
      have R4 := go_mks C (G4.below B4)  (HM.out X4 Y4.below) (by rw [← HS.out.1]; exact A4)
      clear B4 A4
      go_wp2_with fail
      rw [← hX4]
      clear hX4
      go_at_call 9
      refine R4.mono ?_
      rintro e w5 ⟨o5, n5, c5, rfl, hB5, G5⟩
      have S5 := Y4.but hB5
      clear R4 hB5 Y4 S4 G4
      obtain ⟨X5, hX5⟩ : ∃ X, X = w5.alloc (.cells #[.int .i64 1, .slice none 0 0, .slice o5 n5 c5] 33) := ⟨_, rfl⟩
      obtain ⟨Y5, B5⟩ := S5.one (s := 1) (o2 := o5) (m2 := n5) (c2 := c5) G5.size hX5
      have G5' := G5.below B5
      have R5 := all_tre (G5'.tre (Nat.le_refl _) (by omega)) (Nat.le_refl _) HC9.out.2 HC9.out.1
      clear B5
      go_wp2_with fail
      rw [← hX5]
      clear hX5
      go_at_call 11
      refine R5.mono ?_
      rintro e w6 ⟨o6, c6, rfl, hB6⟩
      have S6 := Y5.mono hB6
      have G6 := G5'.below hB6
      clear R5 hB6 Y5 S5 G5 G5'
      obtain ⟨X6, hX6⟩ : ∃ X, X = w6.alloc (.cells #[.int .u8 121] 5 (1, 2)) := ⟨_, rfl⟩
      have B6 : Below w6.heap.size w6 X6 := by rw [hX6]; exact (Below.refl _ _).alloc (Nat.le_refl _) _
      have Y6 := S6.mono B6
      have R6 := write_x C (G6.below B6) (HM.out X6 Y6.below) w6.heap.size (by rw [hX6, cell_u (heap_alloc_new _ _)]; rfl) (by have := G6.size; omega)
      rw [← HS.out.2.2] at R6
      have hcv := fun (w : World) (C : Array Value) (n c : Nat) => Lib.run_convert_bytes_const (P := Tryz.prog) w 24 5 C n c v_t28 v_t5
      clear B6
      go_wp2_with fail
      rw [← hX6]
      clear hX6 hcv
      go_at_call 8
      refine R6.mono ?_
      rintro e w7 ⟨rfl, T7, hB7⟩
      have S7 := Y6.but hB7
      clear R6 hB7 Y6 S6 G6
      obtain ⟨X7, hX7⟩ : ∃ X, X = w7.alloc (.cells #[.string p0] 9) := ⟨_, rfl⟩
      obtain ⟨B7, A7⟩ := step_first (args := [p0]) hX7
      have Y7 := S7.mono B7
      have R7 := go_rms C (T7.below B7) hkm (HM.out X7 Y7.below) (by rw [← HS.out.2.1]; exact A7)
      clear B7 A7
      go_wp2_with fail
      rw [← hX7]
      clear hX7
      go_at_call 9
      refine R7.mono ?_
      rintro e w8 ⟨o8, n8, c8, rfl, hB8, T8⟩
      have S8 := Y7.but hB8
      clear R7 hB8 Y7 S7 T7
      obtain ⟨X8, hX8⟩ : ∃ X, X = (w8.alloc (.cells #[.int .i64 1, .slice none 0 0, .slice o8 n8 c8] 33)).alloc (.cells #[.string ⟨#[45, 114]⟩, .string p0] 9) := ⟨_, rfl⟩
      obtain ⟨Y8, B8, A8⟩ := S8.next (s := 1) (o2 := o8) (m2 := n8) (c2 := c8) (args := [⟨#[45, 114]⟩, p0]) T8.size hX8
      have R8 := go_rmr C (T8.below B8) hkm (HM.out X8 Y8.below) (by rw [← HS.out.2.1]; exact A8)
      clear B8 A8
      go_wp2_with fail
      rw [← hX8]
      clear hX8
      go_at_call 9
      refine R8.mono ?_
      rintro e w9 ⟨o9, n9, c9, rfl, hB9, T9⟩
      have S9 := Y8.but hB9
      clear R8 hB9 Y8 S8 T8
      obtain ⟨X9, hX9⟩ : ∃ X, X = w9.alloc (.cells #[.int .i64 0, .slice none 0 0, .slice o9 n9 c9] 33) := ⟨_, rfl⟩
      obtain ⟨Y9, B9⟩ := S9.one (s := 0) (o2 := o9) (m2 := n9) (c2 := c9) T9.size hX9
      have T9' := T9.below B9
      have R9 := all_tre T9' (by omega) (by have := HC9.out.2; omega) HC9.out.1
      clear B9
      go_wp2_with fail
      rw [← hX9]
      clear hX9
      go_at_call 11
      refine R9.mono ?_
      rintro e w10 ⟨o10, c10, rfl, hB10⟩
      have S10 := Y9.mono hB10
      have T10 := T9'.below hB10
      clear R9 hB10 Y9 S9 T9 T9'
      obtain ⟨X10, hX10⟩ : ∃ X, X = w10.alloc (.cells #[.string ⟨#[45, 114, 102]⟩, .string p0] 9) := ⟨_, rfl⟩
      obtain ⟨B10, A10⟩ := step_first (args := [⟨#[45, 114, 102]⟩, p0]) hX10
      have Y10 := S10.mono B10
      have R10 := go_rmf C (T10.below B10) hkm (HM.out X10 Y10.below) (by rw [← HS.out.2.1]; exact A10)
      clear B10 A10
      go_wp2_with fail
      rw [← hX10]
      clear hX10
      go_at_call 9
      refine R10.mono ?_
      rintro e w11 ⟨o11, n11, c11, rfl, hB11, T11⟩
      have S11 := Y10.but hB11
      clear R10 hB11 Y10 S10 T10
      obtain ⟨X11, hX11⟩ : ∃ X, X = (w11.alloc (.cells #[.int .i64 0, .slice none 0 0, .slice o11 n11 c11] 33)).alloc (.cells #[.string ⟨#[45, 114]⟩, .string p0] 9) := ⟨_, rfl⟩
      obtain ⟨Y11, B11, A11⟩ := S11.next (s := 0) (o2 := o11) (m2 := n11) (c2 := c11) (args := [⟨#[45, 114]⟩, p0]) T11.size hX11
      have R11 := go_rmn C (T11.below B11) hkm (HM.out X11 Y11.below) (by rw [← HS.out.2.1]; exact A11)
      clear B11 A11
      go_wp2_with fail
      rw [← hX11]
      clear hX11
      go_at_call 9
      refine R11.mono ?_
      rintro e w12 ⟨o12, n12, c12, rfl, hB12, T12⟩
      have S12 := Y11.but hB12
      clear R11 hB12 Y11 S11 T11
      obtain ⟨X12, hX12⟩ : ∃ X, X = w12.alloc (.cells #[.int .i64 1, .slice none 0 0, .slice o12 n12 c12] 33) := ⟨_, rfl⟩
      obtain ⟨Y12, B12⟩ := S12.one (s := 1) (o2 := o12) (m2 := n12) (c2 := c12) T12.size hX12
      have q1 := (Y12.told (w3.heap.size, 0) (by simp)).1
      have q2 := (Y12.told (w4.heap.size, 0) (by simp)).1
      have q3 := (Y12.told (w5.heap.size, 1) (by simp)).1
      have q4 := (Y12.told (w8.heap.size, 1) (by simp)).1
      have q5 := (Y12.told (w9.heap.size, 0) (by simp)).1
      have q6 := (Y12.told (w11.heap.size, 0) (by simp)).1
      have q7 := (Y12.told (w12.heap.size, 1) (by simp)).1
      have HW : Hid (Below W.heap.size W X12) := Y12.below
      clear Y12 B12 S12 T12
      subst hX12
      go_wp2
      go_ret
      exact ⟨rfl, HW.out⟩
end
end Go.Proofs.YthocoonhoilmdaaGreatDoor
