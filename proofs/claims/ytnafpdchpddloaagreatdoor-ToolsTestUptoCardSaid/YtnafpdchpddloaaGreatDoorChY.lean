/-
  What check.Test tells of any texts, walked.
-/
import Derived.Test.YtnafpdchpddloaaGreatDoorChX
import Derived.Deep.RegionWith
import Derived.Deep.RegionHeld3
import Derived.RegionTactic
import Derived.WalkKit
import Derived.WalkSpells
import Derived.StillTactics
import Derived.LoopIn
import Derived.RowKit3
import Derived.Below
import Derived.OwnWalk
import Derived.KernelRfl
open Go Go.RowKit
namespace Go.Proofs.YtnafpdchpddloaaGreatDoor
/-! test -/
def notP (x : Bool × Int) : Bool × Int := (!x.1 && x.2 == 0, x.2)
def isBang (a : ByteArray) : Prop := a.data.toList = [33]
instance (a : ByteArray) : Decidable (isBang a) := inferInstanceAs (Decidable (a.data.toList = [33]))
noncomputable def testF (T : TT) : List ByteArray → Bool × Int
  | [] => (false, 0)
  | [s] => (!s.toList.isEmpty, 0)
  | [a, b] => if isBang a then notP (testF T [b]) else oneF T a b
  | [a, b, c] => if (twoF T a b c).2.2 = true then ((twoF T a b c).1, (twoF T a b c).2.1) else if isBang a then notP (testF T [b, c]) else (false, 2)
  | [a, b, c, d] => if isBang a then notP (testF T [b, c, d]) else (false, 2)
  | _ => (false, 2)
/-- these texts stand there -/
structure ArgsAt (w : World) (g off : Nat) (l : List ByteArray) : Prop where
  lt : g < w.heap.size
  cells : ∀ (k : Nat) (h : k < l.length), w.cell? ⟨g, off + k, none⟩ = some (.string l[k])
theorem ArgsAt.below {w w' : World} {g off : Nat} {l : List ByteArray} (h : ArgsAt w g off l) (hb : Below w.heap.size w w') : ArgsAt w' g off l :=
  ⟨Nat.lt_of_lt_of_le h.lt hb.size, fun k hk => by rw [hb.cell (by exact h.lt)]; exact h.cells k hk⟩
theorem ArgsAt.tail {w : World} {g off : Nat} {a : ByteArray} {l : List ByteArray} (h : ArgsAt w g off (a :: l)) : ArgsAt w g (off + 1) l :=
  ⟨h.lt, fun k hk => by
    have := h.cells (k + 1) (by simp; omega)
    rw [show off + 1 + k = off + (k + 1) by omega]
    exact this⟩
def TestSaid (T : TT) (fb fo : Nat) (l : List ByteArray) : Prop := ∀ (w : World) (g off cap : Nat), EnvD w fb fo T → l.length ≤ cap → ArgsAt w g off l →
  Calls Tryz.prog 84 #[.agg #[.pointer (some ⟨fb, fo, none⟩), .string slB], .slice (some ⟨g, off, none⟩) l.length cap] w fun e w' => e = .returned (.tuple #[.bool (testF T l).1, .int .i64 (testF T l).2]) ∧ Below w.heap.size w w'
theorem test_zero {T : TT} {fb fo : Nat} (w : World) (o : Option Addr) (cap : Nat) : Calls Tryz.prog 84 #[.agg #[.pointer (some ⟨fb, fo, none⟩), .string slB], .slice o 0 cap] w fun e w' => e = .returned (.tuple #[.bool (testF T []).1, .int .i64 (testF T []).2]) ∧ Below w.heap.size w w' := by
  have hb0 := (Below.refl w.heap.size w).alloc (Nat.le_refl _) (.cells #[.pointer (some ⟨fb, fo, none⟩), .string slB] 106)
  have hR0 : testF T [] = (false, 0) := by rw [testF]
  rw [hR0]
  go_enter Tryz.func84, Tryz.ntmps84
  go_wp2
  go_ret2
  exact ⟨rfl, hb0⟩
theorem test_one {T : TT} {fb fo : Nat} (s : ByteArray) : TestSaid T fb fo [s] := by
  intro w g off cap _ hcap hA
  obtain ⟨c, rfl⟩ : ∃ c, cap = c + 1 := ⟨cap - 1, by simp at hcap; omega⟩
  have h0 : w.cell? ⟨g, off, none⟩ = some (.string s) := hA.cells 0 (by simp)
  have hb0 := (Below.refl w.heap.size w).alloc (Nat.le_refl _) (.cells #[.pointer (some ⟨fb, fo, none⟩), .string slB] 106)
  have h1 : (w.alloc (.cells #[.pointer (some ⟨fb, fo, none⟩), .string slB] 106)).cell? ⟨g, off, none⟩ = some (.string s) := by rw [hb0.cell (by exact hA.lt)]; exact h0
  have hR0 : testF T [s] = (!s.toList.isEmpty, 0) := by rw [testF]
  rw [hR0]
  clear hA hcap hR0
  show Calls Tryz.prog 84 #[.agg #[.pointer (some ⟨fb, fo, none⟩), .string slB], .slice (some ⟨g, off, none⟩) 1 (c + 1)] w _
  by_cases z : s.data.toList = []
  · have ez := isE z
    rw [ez]
    go_enter Tryz.func84, Tryz.ntmps84
    go_wp2
    go_ret2
    exact ⟨rfl, hb0⟩
  · have ez := isE' z
    rw [ez]
    go_enter Tryz.func84, Tryz.ntmps84
    go_wp2
    go_ret2
    exact ⟨rfl, hb0⟩
set_option maxHeartbeats 1600000 in
set_option maxRecDepth 100000 in
theorem not_any {T : TT} {fb fo : Nat} (a b : ByteArray) (r : List ByteArray) (hT : TestSaid T fb fo (b :: r)) (w : World) (g off c : Nat) (h : EnvD w fb fo T) (hcap : r.length ≤ c) (hA : ArgsAt w g off (a :: b :: r)) :
    Calls Tryz.prog 110 #[.agg #[.pointer (some ⟨fb, fo, none⟩), .string slB], .slice (some ⟨g, off, none⟩) (r.length + 2) (c + 2)] w fun e w' => e = .returned (.tuple #[.bool (if isBang a then notP (testF T (b :: r)) else (false, 2)).1, .int .i64 (if isBang a then notP (testF T (b :: r)) else (false, 2)).2]) ∧ Below w.heap.size w w' := by
  have hb0 := (Below.refl w.heap.size w).alloc (Nat.le_refl _) (.cells #[.pointer (some ⟨fb, fo, none⟩), .string slB] 106)
  have h0 : w.cell? ⟨g, off, none⟩ = some (.string a) := hA.cells 0 (by simp)
  have h1 : (w.alloc (.cells #[.pointer (some ⟨fb, fo, none⟩), .string slB] 106)).cell? ⟨g, off, none⟩ = some (.string a) := by rw [hb0.cell (by exact hA.lt)]; exact h0
  by_cases z : isBang a
  · have ez := eqB z
    rw [if_pos z]
    have hp0 : (w.alloc (.cells #[.pointer (some ⟨fb, fo, none⟩), .string slB] 106)).cell? ⟨w.heap.size, 0, none⟩ = some (.pointer (some ⟨fb, fo, none⟩)) := World.cell?_alloc_at _ _ _ _ rfl
    have hp1 : (w.alloc (.cells #[.pointer (some ⟨fb, fo, none⟩), .string slB] 106)).cell? ⟨w.heap.size, 1, none⟩ = some (.string slB) := World.cell?_alloc_at _ _ _ _ rfl
    have HT : Hid (∀ w', Below w.heap.size w w' → Calls Tryz.prog 84 #[.agg #[.pointer (some ⟨fb, fo, none⟩), .string slB], .slice (some ⟨g, off + 1, none⟩) (r.length + 1) (c + 1)] w' fun e w'' => e = .returned (.tuple #[.bool (testF T (b :: r)).1, .int .i64 (testF T (b :: r)).2]) ∧ Below w'.heap.size w' w'') := fun w' hb => hT w' g (off + 1) (c + 1) (h.below hb) (by simp; omega) (hA.below hb).tail
    generalize testF T (b :: r) = x at HT
    obtain ⟨x, e1⟩ := x
    generalize hw1 : w.alloc (.cells #[.pointer (some ⟨fb, fo, none⟩), .string slB] 106) = w1 at hb0 h1 hp0 hp1
    clear h hA hT h0
    obtain ⟨n, hn⟩ : ∃ n, n = r.length := ⟨_, rfl⟩
    rw [← hn] at HT hcap ⊢
    clear hn
    go_enter Tryz.func110, Tryz.ntmps110
    go_wp2
    clear hw1
    have HT1 : Hid (∀ w', Below w1.heap.size w1 w' → Calls Tryz.prog 84 #[.agg #[.pointer (some ⟨fb, fo, none⟩), .string slB], .slice (some ⟨g, off + 1, none⟩) (n + 1) (c + 1)] w' fun e w'' => e = .returned (.tuple #[.bool x, .int .i64 e1]) ∧ Below w'.heap.size w' w'') := fun w' hb => HT.out w' (hb0.trans (hb.mono hb0.size))
    clear HT
    go_region_with (go_at_call 84; refine (HT1.out _ ?_).mono ?_; (first | exact Below.refl _ _ | exact Below.drew (Below.refl _ _)); rintro e w2 ⟨rfl, hb2⟩)
    all_goals
      have hbw := hb0.trans (((Below.drew (Below.refl w1.heap.size w1)).trans hb2).mono hb0.size)
      clear hb2
      cases x
    all_goals
      go_wp2
      all_goals
        go_ret2
        exact ⟨rfl, hbw⟩
  · have ez := neB z
    rw [if_neg z]
    clear h hA hT
    go_enter Tryz.func110, Tryz.ntmps110
    go_wp2
    go_ret2
    exact ⟨rfl, hb0⟩
/-! two to four words -/
set_option maxHeartbeats 1600000 in
set_option maxRecDepth 100000 in
theorem test_two {T : TT} {fb fo : Nat} (a b : ByteArray) (_hsa : a.size ≤ 1100000) (hsb : b.size ≤ 1100000) (hT1 : TestSaid T fb fo [b]) : TestSaid T fb fo [a, b] := by
  intro w g off cap h hcap hA
  obtain ⟨c, rfl⟩ : ∃ c, cap = c + 2 := ⟨cap - 2, by simp at hcap; omega⟩
  have hb0 := (Below.refl w.heap.size w).alloc (Nat.le_refl _) (.cells #[.pointer (some ⟨fb, fo, none⟩), .string slB] 106)
  have q0 : w.cell? ⟨g, off, none⟩ = some (.string a) := hA.cells 0 (by simp)
  have q1 : w.cell? ⟨g, off + 1, none⟩ = some (.string b) := hA.cells 1 (by simp)
  have p0 : (w.alloc (.cells #[.pointer (some ⟨fb, fo, none⟩), .string slB] 106)).cell? ⟨g, off, none⟩ = some (.string a) := by rw [hb0.cell (by exact hA.lt)]; exact q0
  have p1 : (w.alloc (.cells #[.pointer (some ⟨fb, fo, none⟩), .string slB] 106)).cell? ⟨g, off + 1, none⟩ = some (.string b) := by rw [hb0.cell (by exact hA.lt)]; exact q1
  have hp0 : (w.alloc (.cells #[.pointer (some ⟨fb, fo, none⟩), .string slB] 106)).cell? ⟨w.heap.size, 0, none⟩ = some (.pointer (some ⟨fb, fo, none⟩)) := World.cell?_alloc_at _ _ _ _ rfl
  have hp1 : (w.alloc (.cells #[.pointer (some ⟨fb, fo, none⟩), .string slB] 106)).cell? ⟨w.heap.size, 1, none⟩ = some (.string slB) := World.cell?_alloc_at _ _ _ _ rfl
  show Calls Tryz.prog 84 #[.agg #[.pointer (some ⟨fb, fo, none⟩), .string slB], .slice (some ⟨g, off, none⟩) 2 (c + 2)] w _
  by_cases z : isBang a
  · have ez := eqB z
    have hR0 : testF T [a, b] = notP (testF T [b]) := by conv => lhs; rw [testF, if_pos z]
    have hN : Hid (∀ w', Below w.heap.size w w' → Calls Tryz.prog 110 #[.agg #[.pointer (some ⟨fb, fo, none⟩), .string slB], .slice (some ⟨g, off, none⟩) 2 (c + 2)] w' fun e w'' => e = .returned (.tuple #[.bool (notP (testF T [b])).1, .int .i64 (notP (testF T [b])).2]) ∧ Below w'.heap.size w' w'') := fun w' hb => by
      have := not_any a b [] hT1 w' g off c (h.below hb) (Nat.zero_le _) (hA.below hb)
      rw [if_pos z] at this
      exact this
    rw [hR0]
    generalize notP (testF T [b]) = x at hN ⊢
    clear h hA hT1 hR0 q0 q1
    go_enter Tryz.func84, Tryz.ntmps84
    go_wp2_with fail
    go_at_call 110
    refine (hN.out _ hb0).mono ?_
    rintro e w2 ⟨rfl, hb2⟩
    go_wp2
    go_ret2
    exact ⟨rfl, hb0.trans (hb2.mono hb0.size)⟩
  · have ez := neB z
    have hR0 : testF T [a, b] = oneF T a b := by conv => lhs; rw [testF, if_neg z]
    rw [hR0]
    generalize hw1 : w.alloc (.cells #[.pointer (some ⟨fb, fo, none⟩), .string slB] 106) = w1 at hb0 p0 p1 hp0 hp1
    have hO : Hid (∀ w', Below w1.heap.size w1 w' → Calls Tryz.prog 111 #[.agg #[.pointer (some ⟨fb, fo, none⟩), .string slB], .string a, .string b] w' fun e w'' => e = .returned (.tuple #[.bool (oneF T a b).1, .int .i64 (oneF T a b).2]) ∧ Below w'.heap.size w' w'') := fun w' hb => one_any (h.below (hb0.trans (hb.mono hb0.size))) a b hsb
    generalize oneF T a b = x at hO ⊢
    clear h hA hT1 hR0 q0 q1
    go_enter Tryz.func84, Tryz.ntmps84
    go_wp2
    clear hw1
    go_region_with (go_at_call 111; refine (hO.out _ ?_).mono ?_; (first | exact Below.refl _ _ | exact Below.drew (Below.refl _ _)); rintro e w2 ⟨rfl, hb2⟩)
    all_goals
      have hbw := hb0.trans (((Below.drew (Below.refl w1.heap.size w1)).trans hb2).mono hb0.size)
      clear hb2
      go_wp2
      go_ret2
      exact ⟨rfl, hbw⟩
set_option maxHeartbeats 3200000 in
set_option maxRecDepth 100000 in
theorem test_three {T : TT} {fb fo : Nat} (a b c : ByteArray) (hsa : a.size ≤ 1100000) (hsc : c.size ≤ 1100000) (hT1 : TestSaid T fb fo [b, c]) : TestSaid T fb fo [a, b, c] := by
  intro w g off cap h hcap hA
  obtain ⟨k, rfl⟩ : ∃ k, cap = k + 1 + 2 := ⟨cap - 3, by simp at hcap; omega⟩
  have hb0 := (Below.refl w.heap.size w).alloc (Nat.le_refl _) (.cells #[.pointer (some ⟨fb, fo, none⟩), .string slB] 106)
  have q0 : w.cell? ⟨g, off, none⟩ = some (.string a) := hA.cells 0 (by simp)
  have q1 : w.cell? ⟨g, off + 1, none⟩ = some (.string b) := hA.cells 1 (by simp)
  have q2 : w.cell? ⟨g, off + 2, none⟩ = some (.string c) := hA.cells 2 (by simp)
  have p0 : (w.alloc (.cells #[.pointer (some ⟨fb, fo, none⟩), .string slB] 106)).cell? ⟨g, off, none⟩ = some (.string a) := by rw [hb0.cell (by exact hA.lt)]; exact q0
  have p1 : (w.alloc (.cells #[.pointer (some ⟨fb, fo, none⟩), .string slB] 106)).cell? ⟨g, off + 1, none⟩ = some (.string b) := by rw [hb0.cell (by exact hA.lt)]; exact q1
  have p2 : (w.alloc (.cells #[.pointer (some ⟨fb, fo, none⟩), .string slB] 106)).cell? ⟨g, off + 2, none⟩ = some (.string c) := by rw [hb0.cell (by exact hA.lt)]; exact q2
  have hp0 : (w.alloc (.cells #[.pointer (some ⟨fb, fo, none⟩), .string slB] 106)).cell? ⟨w.heap.size, 0, none⟩ = some (.pointer (some ⟨fb, fo, none⟩)) := World.cell?_alloc_at _ _ _ _ rfl
  have hp1 : (w.alloc (.cells #[.pointer (some ⟨fb, fo, none⟩), .string slB] 106)).cell? ⟨w.heap.size, 1, none⟩ = some (.string slB) := World.cell?_alloc_at _ _ _ _ rfl
  show Calls Tryz.prog 84 #[.agg #[.pointer (some ⟨fb, fo, none⟩), .string slB], .slice (some ⟨g, off, none⟩) 3 (k + 1 + 2)] w _
  generalize hw1 : w.alloc (.cells #[.pointer (some ⟨fb, fo, none⟩), .string slB] 106) = w1 at hb0 p0 p1 p2 hp0 hp1
  have hO : Hid (∀ w', Below w1.heap.size w1 w' → Calls Tryz.prog 112 #[.agg #[.pointer (some ⟨fb, fo, none⟩), .string slB], .string a, .string b, .string c] w' fun e w'' => e = .returned (.tuple #[.bool (twoF T a b c).1, .int .i64 (twoF T a b c).2.1, .bool (twoF T a b c).2.2]) ∧ Below w'.heap.size w' w'') := fun w' hb => two_any (h.below (hb0.trans (hb.mono hb0.size))) a b c hsa hsc
  have hN : Hid (∀ w', Below w.heap.size w w' → Calls Tryz.prog 110 #[.agg #[.pointer (some ⟨fb, fo, none⟩), .string slB], .slice (some ⟨g, off, none⟩) 3 (k + 1 + 2)] w' fun e w'' => e = .returned (.tuple #[.bool (if isBang a then notP (testF T [b, c]) else (false, 2)).1, .int .i64 (if isBang a then notP (testF T [b, c]) else (false, 2)).2]) ∧ Below w'.heap.size w' w'') := fun w' hb => not_any a b [c] hT1 w' g off (k + 1) (h.below hb) (by simp) (hA.below hb)
  have hR0 : testF T [a, b, c] = if (twoF T a b c).2.2 = true then ((twoF T a b c).1, (twoF T a b c).2.1) else if isBang a then notP (testF T [b, c]) else (false, 2) := by conv => lhs; rw [testF]
  obtain ⟨r, hr⟩ : ∃ r, r = testF T [a, b, c] := ⟨_, rfl⟩
  rw [← hr] at hR0 ⊢
  clear hr
  generalize twoF T a b c = x at hO hR0
  generalize (if isBang a then notP (testF T [b, c]) else (false, 2)) = y at hN hR0
  obtain ⟨x1, x2, x3⟩ := x
  obtain ⟨y1, y2⟩ := y
  simp only at hO hN hR0
  have hlt : w.heap.size < w1.heap.size := by rw [← hw1]; simp
  have hgl : g < w1.heap.size := by have := hA.lt; omega
  clear h hA hT1 q0 q1 q2
  go_enter Tryz.func84, Tryz.ntmps84
  go_wp2
  clear hw1
  go_region_held3 (fun w' => w'.cell? ⟨w.heap.size, 0, none⟩ = some (.pointer (some ⟨fb, fo, none⟩)) ∧ w'.cell? ⟨w.heap.size, 1, none⟩ = some (.string slB) ∧ w'.cell? ⟨g, off, none⟩ = some (.string a) ∧ w'.cell? ⟨g, off + 1, none⟩ = some (.string b) ∧ w'.cell? ⟨g, off + 2, none⟩ = some (.string c))
    (first | exact ⟨hp0, hp1, p0, p1, p2⟩ | exact ⟨g0, g1, g2, g3, g4⟩)
    (first
      | (go_at_call 112; refine (hO.out _ ?_).mono ?_; (first | exact Below.refl _ _ | exact Below.drew (Below.refl _ _)); rintro e w2 ⟨rfl, hb2⟩; have g0 := (hb2.cell (by exact hlt)).trans hp0; have g1 := (hb2.cell (by exact hlt)).trans hp1; have g2 := (hb2.cell (by exact hgl)).trans p0; have g3 := (hb2.cell (by exact hgl)).trans p1; have g4 := (hb2.cell (by exact hgl)).trans p2))
  all_goals
    have hbw := hb0.trans (((Below.drew (Below.refl w1.heap.size w1)).trans hb2).mono hb0.size)
    have hN1 := hN.out w2 hbw
    clear hb2 hO hN
    cases x3
  · rw [if_neg (by simp)] at hR0
    subst hR0
    go_wp2_with fail
    go_at_call 110
    refine hN1.mono ?_
    rintro e w3 ⟨rfl, hb3⟩
    go_wp2
    go_ret2
    exact ⟨rfl, hbw.trans (hb3.mono hbw.size)⟩
  · rw [if_pos rfl] at hR0
    subst hR0
    clear hN1
    go_wp2
    go_ret2
    exact ⟨rfl, hbw⟩
theorem test_four {T : TT} {fb fo : Nat} (a b c d : ByteArray) (hT1 : TestSaid T fb fo [b, c, d]) : TestSaid T fb fo [a, b, c, d] := by
  intro w g off cap h hcap hA
  obtain ⟨k, rfl⟩ : ∃ k, cap = k + 2 + 2 := ⟨cap - 4, by simp at hcap; omega⟩
  have hb0 := (Below.refl w.heap.size w).alloc (Nat.le_refl _) (.cells #[.pointer (some ⟨fb, fo, none⟩), .string slB] 106)
  show Calls Tryz.prog 84 #[.agg #[.pointer (some ⟨fb, fo, none⟩), .string slB], .slice (some ⟨g, off, none⟩) 4 (k + 2 + 2)] w _
  have hN : Hid (∀ w', Below w.heap.size w w' → Calls Tryz.prog 110 #[.agg #[.pointer (some ⟨fb, fo, none⟩), .string slB], .slice (some ⟨g, off, none⟩) 4 (k + 2 + 2)] w' fun e w'' => e = .returned (.tuple #[.bool (if isBang a then notP (testF T [b, c, d]) else (false, 2)).1, .int .i64 (if isBang a then notP (testF T [b, c, d]) else (false, 2)).2]) ∧ Below w'.heap.size w' w'') := fun w' hb => not_any a b [c, d] hT1 w' g off (k + 2) (h.below hb) (by simp) (hA.below hb)
  have hR0 : testF T [a, b, c, d] = if isBang a then notP (testF T [b, c, d]) else (false, 2) := by conv => lhs; rw [testF]
  rw [hR0]
  generalize (if isBang a then notP (testF T [b, c, d]) else (false, 2)) = y at hN ⊢
  clear h hA hT1 hR0
  go_enter Tryz.func84, Tryz.ntmps84
  go_wp2_with fail
  go_at_call 110
  refine (hN.out _ hb0).mono ?_
  rintro e w2 ⟨rfl, hb2⟩
  go_wp2
  go_ret2
  exact ⟨rfl, hb0.trans (hb2.mono hb0.size)⟩
theorem test_many {T : TT} {fb fo : Nat} (l : List ByteArray) (hl : 5 ≤ l.length) (hl2 : l.length ≤ 2000000) : TestSaid T fb fo l := by
  intro w g off cap _ hcap hA
  have hb0 := (Below.refl w.heap.size w).alloc (Nat.le_refl _) (.cells #[.pointer (some ⟨fb, fo, none⟩), .string slB] 106)
  have hR0 : testF T l = (false, 2) := by
    match l, hl with
    | _ :: _ :: _ :: _ :: _ :: _, _ => rw [testF] <;> simp
  rw [hR0]
  generalize l.length = n at hl hl2 hcap
  clear hA hR0
  go_enter Tryz.func84, Tryz.ntmps84
  go_wp2
  go_ret2
  exact ⟨rfl, hb0⟩
theorem test_any {T : TT} {fb fo : Nat} (l : List ByteArray) (hs : ∀ s ∈ l, s.size ≤ 1100000) (hl : 0 < l.length) (hl2 : l.length ≤ 2000000) : TestSaid T fb fo l := by
  match l, hs, hl, hl2 with
  | [a], _, _, _ => exact test_one a
  | [a, b], hs, _, _ => exact test_two a b (hs a (by simp)) (hs b (by simp)) (test_one b)
  | [a, b, c], hs, _, _ => exact test_three a b c (hs a (by simp)) (hs c (by simp)) (test_two b c (hs b (by simp)) (hs c (by simp)) (test_one c))
  | [a, b, c, d], hs, _, _ => exact test_four a b c d (test_three b c d (hs b (by simp)) (hs d (by simp)) (test_two c d (hs c (by simp)) (hs d (by simp)) (test_one d)))
  | a :: b :: c :: d :: e :: r, _, _, hl2 => exact test_many _ (by simp) hl2
/-- check.Test -/
theorem Test_any {T : TT} {fb fo : Nat} {w : World} (h : EnvD w fb fo T) (l : List ByteArray) (hs : ∀ s ∈ l, s.size ≤ 1100000) (hl2 : l.length ≤ 2000000) (o : Option Addr) (cap : Nat) (hv : l = [] ∨ ∃ g off, o = some ⟨g, off, none⟩ ∧ l.length ≤ cap ∧ ArgsAt w g off l) :
    Calls Tryz.prog 60 #[.pointer (some ⟨fb, fo, none⟩), .string slB, .slice o l.length cap] w fun e w' => e = .returned (.tuple #[.bool (testF T l).1, .int .i64 (testF T l).2]) ∧ Below w.heap.size w w' := by
  have key : Calls Tryz.prog 84 #[.agg #[.pointer (some ⟨fb, fo, none⟩), .string slB], .slice o l.length cap] w fun e w' => e = .returned (.tuple #[.bool (testF T l).1, .int .i64 (testF T l).2]) ∧ Below w.heap.size w w' := by
    by_cases h0 : l = []
    · subst h0
      exact test_zero w o cap
    · rcases hv with hv | ⟨g, off, rfl, hc, hA⟩
      · exact absurd hv h0
      · exact test_any l hs (List.length_pos_iff.2 h0) hl2 w g off cap h hc hA
  generalize testF T l = x at key ⊢
  clear hv hs h
  go_enter Tryz.func60, Tryz.ntmps60
  go_wp2_with fail
  go_at_call 84
  refine key.mono ?_
  rintro e w2 ⟨rfl, hb2⟩
  go_wp2
  go_ret2
  exact ⟨rfl, hb2⟩
end Go.Proofs.YtnafpdchpddloaaGreatDoor
