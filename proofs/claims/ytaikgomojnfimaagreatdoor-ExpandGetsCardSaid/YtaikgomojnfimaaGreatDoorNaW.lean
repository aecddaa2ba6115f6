/-
  How far names go, walked.
-/
import Derived.Test.YtaikgomojnfimaaGreatDoorProg
import Derived.Lib.Strings
import Derived.Lib.ConvBytes
import Derived.Test.YtaikgomojnfimaaGreatDoorXMx3
import Derived.BigQuiet
import Derived.Deep.QuietTactic
import Derived.Deep.RegionLaw
import Derived.Deep.RegionWith
import Derived.Deep.RegionHeld3
import Derived.RegionTactic
import Derived.WalkKit
import Derived.WalkSpells
import Derived.StillTactics
import Derived.LoopIn
import Derived.RowKit3
import Derived.Below
import Derived.OwnWalk
import Derived.KernelRfl
open Go Go.Mx Go.RowKit
namespace Go.Proofs.YtaikgomojnfimaaGreatDoor
set_option maxRecDepth 100000
noncomputable section
/-! names: letters, digits, and how far a name goes -/
def letF (n : Nat) : Bool := (decide (97 ≤ n) && decide (n ≤ 122)) || (decide (65 ≤ n) && decide (n ≤ 90)) || decide (n = 95)
def digF (n : Nat) : Bool := decide (48 ≤ n) && decide (n ≤ 57)
def okAt (s : ByteArray) (j : Nat) : Bool := letF (s.data.toList.getD j 0).toNat || (decide (0 < j) && digF (s.data.toList.getD j 0).toNat)
def allOk (s : ByteArray) : Prop := ∀ j, j < s.size → okAt s j = true
theorem let_cases (c : Nat) : (letF c = false ∧ c < 65) ∨ (letF c = true ∧ 65 ≤ c ∧ c ≤ 90) ∨ (letF c = false ∧ 90 < c ∧ c < 95) ∨ (letF c = true ∧ c = 95) ∨ (letF c = false ∧ c = 96) ∨ (letF c = true ∧ 97 ≤ c ∧ c ≤ 122) ∨ (letF c = false ∧ 122 < c) := by
  unfold letF
  by_cases h1 : c < 65
  · exact .inl ⟨by simp; omega, h1⟩
  by_cases h2 : c ≤ 90
  · exact .inr (.inl ⟨by simp; omega, by omega, h2⟩)
  by_cases h3 : c < 95
  · exact .inr (.inr (.inl ⟨by simp; omega, by omega, h3⟩))
  by_cases h4 : c = 95
  · exact .inr (.inr (.inr (.inl ⟨by simp [h4], h4⟩)))
  by_cases h5 : c = 96
  · exact .inr (.inr (.inr (.inr (.inl ⟨by simp [h5], h5⟩))))
  by_cases h6 : c ≤ 122
  · exact .inr (.inr (.inr (.inr (.inr (.inl ⟨by simp; omega, by omega, h6⟩)))))
  · exact .inr (.inr (.inr (.inr (.inr (.inr ⟨by simp; omega, by omega⟩)))))
theorem dig_cases (c : Nat) : (digF c = false ∧ c < 48) ∨ (digF c = true ∧ 48 ≤ c ∧ c ≤ 57) ∨ (digF c = false ∧ 57 < c) := by
  unfold digF
  by_cases h1 : c < 48
  · exact .inl ⟨by simp; omega, h1⟩
  by_cases h2 : c ≤ 57
  · exact .inr (.inl ⟨by simp; omega, by omega, h2⟩)
  · exact .inr (.inr ⟨by simp; omega, by omega⟩)
theorem vstart_any (c : Nat) (hc : c < 256) (w : World) : Calls Tryz.prog 75 #[.int .u8 c] w fun e w' => e = .returned (.bool (letF c)) ∧ w' = w := by
  rcases let_cases c with ⟨h, h1⟩ | ⟨h, h1, h2⟩ | ⟨h, h1, h2⟩ | ⟨h, h1⟩ | ⟨h, h1⟩ | ⟨h, h1, h2⟩ | ⟨h, h1⟩
  all_goals
    rw [h]
    clear h
    (try subst h1)
    go_enter Tryz.func75, Tryz.ntmps75
    go_wp2
    all_goals (go_ret; refine ⟨?_, rfl⟩; first | rfl | (simp; done) | (simp; omega))
theorem rlet_any (c : Nat) (hc : c < 256) (w : World) : Calls Tryz.prog 78 #[.int .u8 c] w fun e w' => e = .returned (.bool (letF c)) ∧ w' = w := by
  rcases let_cases c with ⟨h, h1⟩ | ⟨h, h1, h2⟩ | ⟨h, h1, h2⟩ | ⟨h, h1⟩ | ⟨h, h1⟩ | ⟨h, h1, h2⟩ | ⟨h, h1⟩
  all_goals
    rw [h]
    clear h
    (try subst h1)
    go_enter Tryz.func78, Tryz.ntmps78
    go_wp2
    all_goals (go_ret; refine ⟨?_, rfl⟩; first | rfl | (simp; done) | (simp; omega))
theorem vdig_any (c : Nat) (hc : c < 256) (w : World) : Calls Tryz.prog 76 #[.int .u8 c] w fun e w' => e = .returned (.bool (digF c)) ∧ w' = w := by
  rcases dig_cases c with ⟨h, h1⟩ | ⟨h, h1, h2⟩ | ⟨h, h1⟩
  all_goals
    rw [h]
    clear h
    go_enter Tryz.func76, Tryz.ntmps76
    go_wp2
    all_goals (go_ret; refine ⟨?_, rfl⟩; first | rfl | (simp; done) | (simp; omega))
theorem rdig_any (c : Nat) (hc : c < 256) (w : World) : Calls Tryz.prog 43 #[.int .u8 c] w fun e w' => e = .returned (.bool (digF c)) ∧ w' = w := by
  rcases dig_cases c with ⟨h, h1⟩ | ⟨h, h1, h2⟩ | ⟨h, h1⟩
  all_goals
    rw [h]
    clear h
    go_enter Tryz.func43, Tryz.ntmps43
    go_wp2
    all_goals (go_ret; refine ⟨?_, rfl⟩; first | rfl | (simp; done) | (simp; omega))
theorem byte_at (s : ByteArray) (k : Nat) (h : k < s.size) : (s[k].toNat : Int) = ((s.data.toList.getD k 0).toNat : Int) ∧ (s.data.toList.getD k 0).toNat < 256 := by
  have h2 : k < s.data.toList.length := h
  have : s.data.toList.getD k 0 = s[k] := by
    simp [List.getD, List.getElem?_eq_getElem h2]
    rfl
  rw [this]
  exact ⟨rfl, UInt8.toNat_lt _⟩
theorem okAt_eq {s : ByteArray} {k : Nat} (h : k < s.size) : okAt s k = (letF s[k].toNat || (decide (0 < k) && digF s[k].toNat)) := by
  have h2 : k < s.data.toList.length := h
  have e : s.data.toList.getD k 0 = s[k] := by
    simp [List.getD, List.getElem?_eq_getElem h2]
    rfl
  unfold okAt
  rw [e]
/-- what a count of a name's bytes says -/
def RunIs (s : ByteArray) (n : Nat) : Prop := n ≤ s.size ∧ (n = s.size ↔ allOk s)
theorem run_out {s : ByteArray} {k : Nat} (h : k < s.size) (hk : okAt s k = false) : RunIs s k := ⟨by omega, ⟨fun e => by omega, fun ha => by have := ha k h; rw [hk] at this; cases this⟩⟩
theorem run_all {s : ByteArray} (ha : ∀ j, j < s.size → okAt s j = true) : RunIs s s.size := ⟨Nat.le_refl _, ⟨fun _ => ha, fun _ => rfl⟩⟩
set_option maxHeartbeats 1600000 in
set_option maxRecDepth 100000 in
theorem vrun_any (s : ByteArray) (hs : s.size ≤ 1100000) (w : World) : Calls Tryz.prog 53 #[.string s] w fun e w' => ∃ n : Nat, e = .returned (.int .i64 n) ∧ w' = w ∧ RunIs s n := by
  go_enter Tryz.func53, Tryz.ntmps53
  go_wp2
  go_loopw [3] (fun i wr => wr = w ∧ ∃ k : Nat, k ≤ s.size ∧ i = .int .i64 k ∧ ∀ j, j < k → okAt s j = true) (fun i _ => s.size - (intOf i).toNat)
  case atStart => exact ⟨rfl, 0, Nat.zero_le _, rfl, fun _ h => absurd h (Nat.not_lt_zero _)⟩
  case round =>
    obtain ⟨rfl, k, hk, rfl, hok⟩ := hrel
    by_cases hlt : k < s.size
    · have hlt' : (k : Int) < (s.size : Int) := by omega
      have he := okAt_eq hlt
      have hb := UInt8.toNat_lt s[k]
      have hS := vstart_any s[k].toNat hb wr
      have hD := vdig_any s[k].toNat hb wr
      have HN : Hid (okAt s k = true → ∀ j, j < k + 1 → okAt s j = true) := fun h j hj => by
        by_cases e : j = k
        · rw [e]; exact h
        · exact hok j (by omega)
      have HO : Hid (okAt s k = false → RunIs s k) := fun h => run_out hlt h
      clear hok
      cases hl : letF s[k].toNat with
      | true =>
        rw [hl] at he hS
        have HE := HN.out (by rw [he]; rfl)
        clear HN HO he hD
        have HE' : Hid (∀ j, j < k + 1 → okAt s j = true) := HE
        clear HE
        go_wp2_with fail
        go_at_call 75
        refine hS.mono ?_
        rintro e w1 ⟨rfl, hw1⟩
        subst hw1
        go_wp2
        go_roundw
        case rel => exact ⟨by first | trivial | rfl, k + 1, by omega, by go_num, HE'.out⟩
        case measure => simp [intOf]; omega
      | false =>
        rw [hl] at he hS
        by_cases h0 : 0 < k
        · have h0' : (0 : Int) < (k : Int) := by omega
          cases hd : digF s[k].toNat with
          | true =>
            have HE : Hid (∀ j, j < k + 1 → okAt s j = true) := HN.out (by rw [he, hd]; simp [h0])
            rw [hd] at hD
            clear HN HO he
            go_wp2_with fail
            go_at_call 75
            refine hS.mono ?_
            rintro e w1 ⟨rfl, hw1⟩
            subst hw1
            go_wp2_with fail
            go_at_call 76
            refine hD.mono ?_
            rintro e w2 ⟨rfl, hw2⟩
            subst hw2
            go_wp2
            go_roundw
            case rel => exact ⟨by first | trivial | rfl, k + 1, by omega, by go_num, HE.out⟩
            case measure => simp [intOf]; omega
          | false =>
            have HE : Hid (RunIs s k) := HO.out (by rw [he, hd]; simp)
            rw [hd] at hD
            clear HN HO he
            go_wp2_with fail
            go_at_call 75
            refine hS.mono ?_
            rintro e w1 ⟨rfl, hw1⟩
            subst hw1
            go_wp2_with fail
            go_at_call 76
            refine hD.mono ?_
            rintro e w2 ⟨rfl, hw2⟩
            subst hw2
            go_wp2
            go_ret
            exact ⟨k, rfl, rfl, HE.out⟩
        · have hk0 : k = 0 := by omega
          subst hk0
          have HE : Hid (RunIs s 0) := HO.out (by rw [he]; simp)
          clear HN HO he
          go_wp2_with fail
          go_at_call 75
          refine hS.mono ?_
          rintro e w1 ⟨rfl, hw1⟩
          subst hw1
          go_wp2
          go_ret
          exact ⟨0, rfl, rfl, HE.out⟩
    · have hkk : k = s.size := by omega
      subst hkk
      have HE : Hid (RunIs s s.size) := run_all hok
      clear hok
      go_wp2
      go_ret
      exact ⟨_, rfl, rfl, HE.out⟩
theorem eqB {s : ByteArray} {c : List UInt8} (h : s.data.toList = c) : (s.toList == c) = true := by rw [Lib.toList_data, h]; exact beq_self_eq_true c
theorem neB {s : ByteArray} {c : List UInt8} (h : s.data.toList ≠ c) : (s.toList == c) = false := by rw [Lib.toList_data]; exact beq_eq_false_iff_ne.2 h
def nameB (s : ByteArray) : Bool := decide (s.data.toList ≠ []) && decide (s.size ≤ 60) && (List.range s.size).all (okAt s)
theorem all_iff (s : ByteArray) : (List.range s.size).all (okAt s) = true ↔ allOk s := by simp [allOk]
theorem nameB_run {s : ByteArray} {n : Nat} (h0 : s.data.toList ≠ []) (h1 : s.size ≤ 60) (h : RunIs s n) : nameB s = decide (n = s.size) := by
  unfold nameB
  rw [decide_eq_true h0, decide_eq_true h1, Bool.true_and, Bool.true_and]
  by_cases e : n = s.size
  · rw [decide_eq_true e]
    exact (all_iff s).2 (h.2.1 e)
  · rw [decide_eq_false e]
    cases e2 : (List.range s.size).all (okAt s) with
    | false => rfl
    | true => exact absurd (h.2.2 ((all_iff s).1 e2)) e
set_option maxHeartbeats 1600000 in
set_option maxRecDepth 100000 in
theorem vname_any (s : ByteArray) (hs : s.size ≤ 1100000) (w : World) : Calls Tryz.prog 31 #[.string s] w fun e w' => e = .returned (.bool (nameB s)) ∧ w' = w := by
  obtain ⟨b, hb⟩ : ∃ b, b = nameB s := ⟨_, rfl⟩
  have HB : Hid (b = nameB s) := hb
  rw [← hb]
  clear hb
  by_cases c1 : s.data.toList = []
  · have e0 := eqB c1
    have hb2 : b = false := by rw [HB.out]; simp [nameB, c1]
    subst hb2
    clear c1
    go_enter Tryz.func31, Tryz.ntmps31
    go_wp2
    go_ret
    exact ⟨rfl, rfl⟩
  · have e0 := neB c1
    by_cases c2 : s.size ≤ 60
    · have c2' : (s.size : Int) ≤ 60 := by omega
      have hR := vrun_any s hs w
      have HX : Hid (∀ n, RunIs s n → b = decide (n = s.size)) := fun n h => by rw [HB.out]; exact nameB_run c1 c2 h
      clear c1
      go_enter Tryz.func31, Tryz.ntmps31
      go_wp2_with fail
      go_at_call 53
      refine hR.mono ?_
      rintro e w1 ⟨n, rfl, hw1, hn⟩
      subst hw1
      have hx := HX.out n hn
      by_cases hq : n = s.size
      · rw [decide_eq_true hq] at hx
        subst hx
        subst hq
        go_wp2
        go_ret
        exact ⟨rfl, rfl⟩
      · rw [decide_eq_false hq] at hx
        subst hx
        have hq' : ((n : Int) == (s.size : Int)) = false := beq_eq_false_iff_ne.2 (by omega)
        go_wp2
        go_ret
        exact ⟨rfl, rfl⟩
    · have c2' : ¬ (s.size : Int) ≤ 60 := by omega
      have hb2 : b = false := by rw [HB.out]; simp [nameB, c2]
      subst hb2
      clear c1 c2
      go_enter Tryz.func31, Tryz.ntmps31
      go_wp2
      go_ret
      exact ⟨rfl, rfl⟩
end
end Go.Proofs.YtaikgomojnfimaaGreatDoor
