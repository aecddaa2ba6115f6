/-
  What two tells of any texts, walked.
-/
import Derived.Test.YtnafpdchpddloaaGreatDoorChW
import Derived.Deep.RegionWith
import Derived.Deep.RegionHeld3
import Derived.RegionTactic
import Derived.WalkKit
import Derived.WalkSpells
import Derived.StillTactics
import Derived.LoopIn
import Derived.RowKit3
import Derived.Below
import Derived.OwnWalk
import Derived.KernelRfl
open Go Go.RowKit
namespace Go.Proofs.YtnafpdchpddloaaGreatDoor
/-! two -/
noncomputable def twoF (T : TT) (a op b : ByteArray) : Bool × Int × Bool :=
  if op.data.toList = [61] then (a.toList == b.toList, 0, true) else if op.data.toList = [33, 61] then (!(a.toList == b.toList), 0, true) else if op.data.toList = [45, 110, 116] then (decide (ptF T b < ptF T a), 0, true)
  else if ((cmpF op (numF a).1 (numF b).1).2 && !((numF a).2 && (numF b).2)) = true then (false, 2, true) else ((cmpF op (numF a).1 (numF b).1).1, 0, (cmpF op (numF a).1 (numF b).1).2)
set_option maxHeartbeats 3200000 in
set_option maxRecDepth 100000 in
theorem two_any {T : TT} {fb fo : Nat} {w : World} (h : EnvD w fb fo T) (a op b : ByteArray) (hsa : a.size ≤ 1100000) (hsb : b.size ≤ 1100000) :
    Calls Tryz.prog 112 #[.agg #[.pointer (some ⟨fb, fo, none⟩), .string slB], .string a, .string op, .string b] w fun e w' => e = .returned (.tuple #[.bool (twoF T a op b).1, .int .i64 (twoF T a op b).2.1, .bool (twoF T a op b).2.2]) ∧ Below w.heap.size w w' := by
  have hR0 : twoF T a op b = if op.data.toList = [61] then (a.toList == b.toList, 0, true) else if op.data.toList = [33, 61] then (!(a.toList == b.toList), 0, true) else if op.data.toList = [45, 110, 116] then (decide (ptF T b < ptF T a), 0, true)
    else if ((cmpF op (numF a).1 (numF b).1).2 && !((numF a).2 && (numF b).2)) = true then (false, 2, true) else ((cmpF op (numF a).1 (numF b).1).1, 0, (cmpF op (numF a).1 (numF b).1).2) := rfl
  obtain ⟨r, hr⟩ : ∃ r, r = twoF T a op b := ⟨_, rfl⟩
  rw [← hr] at hR0 ⊢
  clear hr
  have hb0 := (Below.refl w.heap.size w).alloc (Nat.le_refl _) (.cells #[.pointer (some ⟨fb, fo, none⟩), .string slB] 106)
  by_cases c0 : op.data.toList = [61]
  · have e0 := eqB c0
    rw [if_pos c0] at hR0
    subst hR0
    clear h
    go_enter Tryz.func112, Tryz.ntmps112
    go_wp2
    go_ret3
    exact ⟨rfl, hb0⟩
  have e0 := neB c0
  by_cases c1 : op.data.toList = [33, 61]
  · have e1 := eqB c1
    rw [if_neg c0, if_pos c1] at hR0
    subst hR0
    clear h
    go_enter Tryz.func112, Tryz.ntmps112
    go_wp2
    go_ret3
    exact ⟨rfl, hb0⟩
  have e1 := neB c1
  by_cases c2 : op.data.toList = [45, 110, 116]
  · have e2 := eqB c2
    rw [if_neg c0, if_neg c1, if_pos c2] at hR0
    subst hR0
    generalize hb0w : w.alloc (.cells #[.pointer (some ⟨fb, fo, none⟩), .string slB] 106) = w1 at hb0
    have HA : Hid (∀ w', Below w1.heap.size w1 w' → Calls Tryz.prog 142 #[.agg #[.pointer (some ⟨fb, fo, none⟩), .string slB], .string a] w' fun e w'' => e = .returned (.int .i64 (ptF T a)) ∧ Below w'.heap.size w' w'') := fun w' hb => pt_any (h.below (hb0.trans (hb.mono hb0.size))).env a hsa
    have HB : Hid (∀ w', Below w1.heap.size w1 w' → Calls Tryz.prog 142 #[.agg #[.pointer (some ⟨fb, fo, none⟩), .string slB], .string b] w' fun e w'' => e = .returned (.int .i64 (ptF T b)) ∧ Below w'.heap.size w' w'') := fun w' hb => pt_any (h.below (hb0.trans (hb.mono hb0.size))).env b hsb
    have hp0 : w1.cell? ⟨w.heap.size, 0, none⟩ = some (.pointer (some ⟨fb, fo, none⟩)) := by rw [← hb0w]; exact World.cell?_alloc_at _ _ _ _ rfl
    have hp1 : w1.cell? ⟨w.heap.size, 1, none⟩ = some (.string slB) := by rw [← hb0w]; exact World.cell?_alloc_at _ _ _ _ rfl
    have hlt : w.heap.size < w1.heap.size := by rw [← hb0w]; simp
    clear h
    generalize ptF T a = ta at HA ⊢
    generalize ptF T b = tb at HB ⊢
    go_enter Tryz.func112, Tryz.ntmps112
    go_wp2
    clear hb0w
    go_region_with (first
      | (go_at_call_of 142 (Value.string a); refine (HA.out _ ?_).mono ?_; (first | exact hb2 | exact (Below.drew (Below.refl _ _)).trans hb2); rintro e w3 ⟨rfl, hb3⟩)
      | (go_at_call_of 142 (Value.string b); refine (HB.out _ ?_).mono ?_; (first | exact hb2 | exact (Below.drew (Below.refl _ _)).trans hb2); rintro e w3 ⟨rfl, hb3⟩)
      | (go_at_call_of 142 (Value.string a); refine (HA.out _ ?_).mono ?_; (first | exact Below.refl _ _ | exact Below.drew (Below.refl _ _)); rintro e w2 ⟨rfl, hb2⟩; have g0 : w2.cell? ⟨w.heap.size, 0, none⟩ = some (.pointer (some ⟨fb, fo, none⟩)) := (hb2.cell (by exact hlt)).trans hp0; have g1 : w2.cell? ⟨w.heap.size, 1, none⟩ = some (.string slB) := (hb2.cell (by exact hlt)).trans hp1)
      | (go_at_call_of 142 (Value.string b); refine (HB.out _ ?_).mono ?_; (first | exact Below.refl _ _ | exact Below.drew (Below.refl _ _)); rintro e w2 ⟨rfl, hb2⟩; have g0 : w2.cell? ⟨w.heap.size, 0, none⟩ = some (.pointer (some ⟨fb, fo, none⟩)) := (hb2.cell (by exact hlt)).trans hp0; have g1 : w2.cell? ⟨w.heap.size, 1, none⟩ = some (.string slB) := (hb2.cell (by exact hlt)).trans hp1))
    all_goals
      go_wp2
      go_ret3
      exact ⟨rfl, hb0.trans (((Below.drew (Below.refl _ _)).trans (hb2.trans (hb3.mono hb2.size))).mono hb0.size)⟩
  have e2 := neB c2
  rw [if_neg c0, if_neg c1, if_neg c2] at hR0
  have HNa : Hid (∀ w, Calls Tryz.prog 143 #[.string a] w fun e w' => e = .returned (.tuple #[.int .i64 (numF a).1, .bool (numF a).2]) ∧ Below w.heap.size w w') := fun w => num_any a hsa w
  have HNb : Hid (∀ w, Calls Tryz.prog 143 #[.string b] w fun e w' => e = .returned (.tuple #[.int .i64 (numF b).1, .bool (numF b).2]) ∧ Below w.heap.size w w') := fun w => num_any b hsb w
  generalize numF a = na at hR0 HNa
  generalize numF b = nb at hR0 HNb
  obtain ⟨xa, fa⟩ := na
  obtain ⟨xb, fb2⟩ := nb
  simp only at hR0 HNa HNb
  have HC : Hid (∀ w, Calls Tryz.prog 144 #[.string op, .int .i64 xa, .int .i64 xb] w fun e w' => e = .returned (.tuple #[.bool (cmpF op xa xb).1, .bool (cmpF op xa xb).2]) ∧ w' = w) := fun w => cmp_any op xa xb w
  generalize cmpF op xa xb = cr at hR0 HC
  obtain ⟨is, ok⟩ := cr
  simp only at hR0 HC
  clear h
  cases ok <;> cases fa <;> cases fb2
  all_goals
    simp at hR0
    subst hR0
    go_enter Tryz.func112, Tryz.ntmps112
    go_wp2_with fail
    go_at_call_of 143 (Value.string a)
    refine (HNa.out _).mono ?_
    rintro e w1 ⟨rfl, hb1⟩
    go_wp2_with fail
    go_at_call_of 143 (Value.string b)
    refine (HNb.out _).mono ?_
    rintro e w2 ⟨rfl, hb2⟩
    go_wp2_with fail
    go_at_call 144
    refine (HC.out _).mono ?_
    rintro e w3 ⟨rfl, hw⟩
    subst hw
    go_wp2
    go_ret3
    exact ⟨rfl, hb0.trans ((hb1.trans (hb2.mono hb1.size)).mono hb0.size)⟩
end Go.Proofs.YtnafpdchpddloaaGreatDoor
