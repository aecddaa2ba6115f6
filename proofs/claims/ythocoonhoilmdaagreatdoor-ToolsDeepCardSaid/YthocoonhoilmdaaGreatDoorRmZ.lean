/-
  rm, walked.
-/
import Derived.Test.YthocoonhoilmdaaGreatDoorRmY
import Derived.Test.YthocoonhoilmdaaGreatDoorXMxAL
import Derived.BigQuiet
import Derived.Deep.QuietTactic
import Derived.Deep.RegionLaw
import Derived.Deep.RegionWith
import Derived.Deep.RegionHeld3
import Derived.RegionTactic
import Derived.WalkKit
import Derived.WalkSpells
import Derived.StillTactics
import Derived.LoopIn
import Derived.RowKit3
import Derived.Below
import Derived.OwnWalk
import Derived.KernelRfl
open Go Go.Mx Go.RowKit
namespace Go.Proofs.YthocoonhoilmdaaGreatDoor
set_option maxRecDepth 100000
noncomputable section
/-! rm -/
set_option maxHeartbeats 3200000 in
set_option maxRecDepth 100000 in
theorem rm_none {w0 : World} {fb ga goff cap : Nat} {p : ByteArray} {Q : World → Prop} (hA : ArgsAt w0 ga goff [p]) (_hc : 1 ≤ cap) (hmx : MaxIs w0) (hs : p.size ≤ 1000) (hx : absF p = (p, 0)) (n1 : p.data.toList ≠ [45, 102]) (n2 : p.data.toList ≠ [45, 114]) (n3 : p.data.toList ≠ [45, 114, 102]) (n4 : p.data.toList ≠ [45, 102, 114])
    (HK : ∀ X, RmS w0 X fb (.slice (some ⟨ga, goff, none⟩) 1 cap) false false → Calls Tryz.prog 58 #[.string p, .string p, .pointer (some ⟨w0.heap.size + 1, 0, none⟩), .pointer (some ⟨w0.heap.size + 1 + 1, 0, none⟩), .pointer (some ⟨w0.heap.size + 1 + 1 + 1, 0, none⟩)] X fun e w' => e = .returned (.tuple #[]) ∧ Q w') :
    Calls Tryz.prog 31 #[.pointer (some ⟨w0.heap.size, 0, none⟩)] (w0.alloc (.cells #[.pointer (some ⟨fb, 0, none⟩), .string slB, .string ⟨#[114, 109]⟩, .slice (some ⟨ga, goff, none⟩) 1 cap, .slice none 0 0, .int .i64 0, .slice none 0 0, .slice none 0 0] 59)) fun e w' => e = .returned (.tuple #[]) ∧ Q w' := by
  have a0 : w0.cell? ⟨ga, goff, none⟩ = some (.string p) := hA.cells 0 (by simp)
  have hgl := hA.lt
  have b0 : ∀ o1 o2 o3 o4 : Obj, ((((w0.alloc o1).alloc o2).alloc o3).alloc o4).cell? ⟨ga, goff, none⟩ = some (.string p) := fun o1 o2 o3 o4 => by
    have hb3 : Below w0.heap.size w0 ((((w0.alloc o1).alloc o2).alloc o3).alloc o4) := ((((Below.refl _ _).alloc (Nat.le_refl _) _).alloc (by simp) _).alloc (by simp; omega) _).alloc (by simp; omega) _
    exact (hb3.cell (by exact hgl)).trans a0
  have e1 := neB n1
  have e2 := neB n2
  have e3 := neB n3
  have e4 := neB n4
  obtain ⟨W1, hW1⟩ : ∃ W1, W1 = (w0.alloc (.cells #[.pointer (some ⟨fb, 0, none⟩), .string slB, .string ⟨#[114, 109]⟩, (.slice (some ⟨ga, goff, none⟩) 1 cap), .slice none 0 0, .int .i64 0, .slice none 0 0, .slice none 0 0] 59)).alloc (.cells #[.pointer (some ⟨w0.heap.size, 0, none⟩)] 57) := ⟨_, rfl⟩
  have hz1 : W1.heap.size = w0.heap.size + 2 := by rw [hW1]; simp
  have hu1 : W1.heap[w0.heap.size]? = some (.cells #[.pointer (some ⟨fb, 0, none⟩), .string slB, .string ⟨#[114, 109]⟩, (.slice (some ⟨ga, goff, none⟩) 1 cap), .slice none 0 0, .int .i64 0, .slice none 0 0, .slice none 0 0] 59) := by
    rw [hW1, Go.heap_alloc_old _ _ (by simp)]
    exact heap_alloc_new _ _
  have hx1 : W1.heap[w0.heap.size + 1]? = some (.cells #[.pointer (some ⟨w0.heap.size, 0, none⟩)] 57) := by
    have := heap_alloc_new (w0.alloc (.cells #[.pointer (some ⟨fb, 0, none⟩), .string slB, .string ⟨#[114, 109]⟩, (.slice (some ⟨ga, goff, none⟩) 1 cap), .slice none 0 0, .int .i64 0, .slice none 0 0, .slice none 0 0] 59)) (.cells #[.pointer (some ⟨w0.heap.size, 0, none⟩)] 57)
    rw [hW1]
    simpa using this
  have hb1 : Below w0.heap.size w0 W1 := by rw [hW1]; exact ((Below.refl _ _).alloc (Nat.le_refl _) _).alloc (by simp) _
  obtain ⟨W3, hW3⟩ : ∃ W3, W3 = (W1.alloc (.cells #[.bool false] 4)).alloc (.cells #[.bool false] 4) := ⟨_, rfl⟩
  have HW := hW3
  rw [hW1] at HW
  have hz3 : W3.heap.size = w0.heap.size + 4 := by rw [hW3]; simp [hz1]
  have hS : RmS w0 W3 fb (.slice (some ⟨ga, goff, none⟩) 1 cap) false false := by
    refine ⟨?_, ?_, ?_, ?_, ?_, by omega⟩
    · rw [hW3, Go.heap_alloc_old _ _ (by simp [hz1] <;> omega), Go.heap_alloc_old _ _ (by omega)]
      exact hu1
    · rw [hW3, Go.heap_alloc_old _ _ (by simp [hz1] <;> omega), Go.heap_alloc_old _ _ (by omega)]
      exact hx1
    · have h1 := heap_alloc_new W1 (.cells #[.bool false] 4)
      have h2 := Go.heap_alloc_old (W1.alloc (.cells #[.bool false] 4)) (.cells #[.bool false] 4) (r := W1.heap.size) (by simp)
      rw [h1, ← hW3, hz1] at h2
      rw [show w0.heap.size + 1 + 1 = w0.heap.size + 2 from rfl, cell_u h2]
      rfl
    · have h1 := heap_alloc_new (W1.alloc (.cells #[.bool false] 4)) (.cells #[.bool false] 4)
      have h2 : (W1.alloc (.cells #[.bool false] 4)).heap.size = w0.heap.size + 3 := by simp [hz1]
      rw [← hW3, h2] at h1
      rw [show w0.heap.size + 1 + 1 + 1 = w0.heap.size + 3 from rfl, cell_u h1]
      rfl
    · rw [hW3]
      exact (hb1.alloc (by omega) _).alloc (by simp; omega) _
  have HE : Hid (∀ X, Sm X W3 → Calls Tryz.prog 51 #[.pointer (some ⟨w0.heap.size, 0, none⟩), (.slice (some ⟨ga, goff, none⟩) 1 cap), .func (.func 58) #[] #[.pointer (some ⟨w0.heap.size + 1, 0, none⟩), .pointer (some ⟨w0.heap.size + 1 + 1, 0, none⟩), .pointer (some ⟨w0.heap.size + 1 + 1 + 1, 0, none⟩)]] X fun e w'' => e = .returned (.tuple #[]) ∧ Q w'') := fun X hX => by
    have hSX := hS.mono hX.to
    refine each_rm (Q := Q) (by rw [cell_u hSX.u]; rfl) (hmx.below hmx.lt hSX.below) p p (by omega) hx ga goff cap ((hSX.below.cell (by exact hgl)).trans a0) _ _ _ fun w1 hw1 => ?_
    exact HK w1 (hSX.mono hw1)
  have c0 : W3.cell? ⟨w0.heap.size, 3, none⟩ = some (.slice (some ⟨ga, goff, none⟩) 1 cap) := by rw [cell_u hS.u]; rfl
  have c1 : W3.cell? ⟨w0.heap.size + 1, 0, none⟩ = some (.pointer (some ⟨w0.heap.size, 0, none⟩)) := by rw [cell_u hS.box]; rfl
  have hmf : ∀ (fn : Fn) (first cap : Array Value) (w : World), (Instr.makeFunc fn first cap).run Tryz.prog w = .ok (.func fn first cap) w := fun _ _ _ _ => rfl
  have q0 := (hS.below.cell (p := ⟨ga, goff, none⟩) (by exact hgl)).trans a0
  have q2 := hS.cd
  have q3 := hS.cq
  clear hmx hA a0 hW3 hz3 hz1 hu1 hx1 hb1 hW1 hS hx HK
  go_enter Tryz.func31, Tryz.ntmps31
  go_wp2_with fail
  rw [← HW]
  clear HW b0
  go_region_law
    (first
      | (go_simp; go_at_call 51; refine (HE.out _ (by exact ⟨rfl, rfl, rfl, rfl⟩)).mono ?_; rintro e w2 ⟨rfl, hQ⟩; dsimp only))
  all_goals
    go_end0
    exact ⟨rfl, hQ⟩
set_option maxHeartbeats 3200000 in
set_option maxRecDepth 100000 in
theorem rm_r {w0 : World} {fb ga goff cap : Nat} {p : ByteArray} {Q : World → Prop} (hA : ArgsAt w0 ga goff [⟨#[45, 114]⟩, p]) (hc : 2 ≤ cap) (hmx : MaxIs w0) (hs : p.size ≤ 1000) (hx : absF p = (p, 0))
    (HK : ∀ X, RmS w0 X fb (.slice (some ⟨ga, goff + 1, none⟩) 1 (cap - 1)) true false → Calls Tryz.prog 58 #[.string p, .string p, .pointer (some ⟨w0.heap.size + 1, 0, none⟩), .pointer (some ⟨w0.heap.size + 1 + 1, 0, none⟩), .pointer (some ⟨w0.heap.size + 1 + 1 + 1, 0, none⟩)] X fun e w' => e = .returned (.tuple #[]) ∧ Q w') :
    Calls Tryz.prog 31 #[.pointer (some ⟨w0.heap.size, 0, none⟩)] (w0.alloc (.cells #[.pointer (some ⟨fb, 0, none⟩), .string slB, .string ⟨#[114, 109]⟩, .slice (some ⟨ga, goff, none⟩) 2 cap, .slice none 0 0, .int .i64 0, .slice none 0 0, .slice none 0 0] 59)) fun e w' => e = .returned (.tuple #[]) ∧ Q w' := by
  have a0 : w0.cell? ⟨ga, goff, none⟩ = some (.string ⟨#[45, 114]⟩) := hA.cells 0 (by simp)
  have a1 : w0.cell? ⟨ga, goff + 1, none⟩ = some (.string p) := hA.cells 1 (by simp)
  have hgl := hA.lt
  have b0 : ∀ o1 o2 o3 o4 : Obj, ((((w0.alloc o1).alloc o2).alloc o3).alloc o4).cell? ⟨ga, goff, none⟩ = some (.string ⟨#[45, 114]⟩) := fun o1 o2 o3 o4 => by
    have hb3 : Below w0.heap.size w0 ((((w0.alloc o1).alloc o2).alloc o3).alloc o4) := ((((Below.refl _ _).alloc (Nat.le_refl _) _).alloc (by simp) _).alloc (by simp; omega) _).alloc (by simp; omega) _
    exact (hb3.cell (by exact hgl)).trans a0
  have hc1 : ¬ cap = 1 := by omega
  obtain ⟨W1, hW1⟩ : ∃ W1, W1 = (w0.alloc (.cells #[.pointer (some ⟨fb, 0, none⟩), .string slB, .string ⟨#[114, 109]⟩, (.slice (some ⟨ga, goff + 1, none⟩) 1 (cap - 1)), .slice none 0 0, .int .i64 0, .slice none 0 0, .slice none 0 0] 59)).alloc (.cells #[.pointer (some ⟨w0.heap.size, 0, none⟩)] 57) := ⟨_, rfl⟩
  have hz1 : W1.heap.size = w0.heap.size + 2 := by rw [hW1]; simp
  have hu1 : W1.heap[w0.heap.size]? = some (.cells #[.pointer (some ⟨fb, 0, none⟩), .string slB, .string ⟨#[114, 109]⟩, (.slice (some ⟨ga, goff + 1, none⟩) 1 (cap - 1)), .slice none 0 0, .int .i64 0, .slice none 0 0, .slice none 0 0] 59) := by
    rw [hW1, Go.heap_alloc_old _ _ (by simp)]
    exact heap_alloc_new _ _
  have hx1 : W1.heap[w0.heap.size + 1]? = some (.cells #[.pointer (some ⟨w0.heap.size, 0, none⟩)] 57) := by
    have := heap_alloc_new (w0.alloc (.cells #[.pointer (some ⟨fb, 0, none⟩), .string slB, .string ⟨#[114, 109]⟩, (.slice (some ⟨ga, goff + 1, none⟩) 1 (cap - 1)), .slice none 0 0, .int .i64 0, .slice none 0 0, .slice none 0 0] 59)) (.cells #[.pointer (some ⟨w0.heap.size, 0, none⟩)] 57)
    rw [hW1]
    simpa using this
  have hb1 : Below w0.heap.size w0 W1 := by rw [hW1]; exact ((Below.refl _ _).alloc (Nat.le_refl _) _).alloc (by simp) _
  obtain ⟨W3, hW3⟩ : ∃ W3, W3 = (W1.alloc (.cells #[.bool true] 4)).alloc (.cells #[.bool false] 4) := ⟨_, rfl⟩
  have HW := hW3
  rw [hW1] at HW
  have hz3 : W3.heap.size = w0.heap.size + 4 := by rw [hW3]; simp [hz1]
  have hS : RmS w0 W3 fb (.slice (some ⟨ga, goff + 1, none⟩) 1 (cap - 1)) true false := by
    refine ⟨?_, ?_, ?_, ?_, ?_, by omega⟩
    · rw [hW3, Go.heap_alloc_old _ _ (by simp [hz1] <;> omega), Go.heap_alloc_old _ _ (by omega)]
      exact hu1
    · rw [hW3, Go.heap_alloc_old _ _ (by simp [hz1] <;> omega), Go.heap_alloc_old _ _ (by omega)]
      exact hx1
    · have h1 := heap_alloc_new W1 (.cells #[.bool true] 4)
      have h2 := Go.heap_alloc_old (W1.alloc (.cells #[.bool true] 4)) (.cells #[.bool false] 4) (r := W1.heap.size) (by simp)
      rw [h1, ← hW3, hz1] at h2
      rw [show w0.heap.size + 1 + 1 = w0.heap.size + 2 from rfl, cell_u h2]
      rfl
    · have h1 := heap_alloc_new (W1.alloc (.cells #[.bool true] 4)) (.cells #[.bool false] 4)
      have h2 : (W1.alloc (.cells #[.bool true] 4)).heap.size = w0.heap.size + 3 := by simp [hz1]
      rw [← hW3, h2] at h1
      rw [show w0.heap.size + 1 + 1 + 1 = w0.heap.size + 3 from rfl, cell_u h1]
      rfl
    · rw [hW3]
      exact (hb1.alloc (by omega) _).alloc (by simp; omega) _
  have HE : Hid (∀ X, Sm X W3 → Calls Tryz.prog 51 #[.pointer (some ⟨w0.heap.size, 0, none⟩), (.slice (some ⟨ga, goff + 1, none⟩) 1 (cap - 1)), .func (.func 58) #[] #[.pointer (some ⟨w0.heap.size + 1, 0, none⟩), .pointer (some ⟨w0.heap.size + 1 + 1, 0, none⟩), .pointer (some ⟨w0.heap.size + 1 + 1 + 1, 0, none⟩)]] X fun e w'' => e = .returned (.tuple #[]) ∧ Q w'') := fun X hX => by
    have hSX := hS.mono hX.to
    refine each_rm (Q := Q) (by rw [cell_u hSX.u]; rfl) (hmx.below hmx.lt hSX.below) p p (by omega) hx ga (goff + 1) (cap - 1) ((hSX.below.cell (by exact hgl)).trans a1) _ _ _ fun w1 hw1 => ?_
    exact HK w1 (hSX.mono hw1)
  have c0 : W3.cell? ⟨w0.heap.size, 3, none⟩ = some (.slice (some ⟨ga, goff + 1, none⟩) 1 (cap - 1)) := by rw [cell_u hS.u]; rfl
  have c1 : W3.cell? ⟨w0.heap.size + 1, 0, none⟩ = some (.pointer (some ⟨w0.heap.size, 0, none⟩)) := by rw [cell_u hS.box]; rfl
  have hmf : ∀ (fn : Fn) (first cap : Array Value) (w : World), (Instr.makeFunc fn first cap).run Tryz.prog w = .ok (.func fn first cap) w := fun _ _ _ _ => rfl
  have q2 := hS.cd
  have q3 := hS.cq
  clear hmx hA a0 a1 hW3 hz3 hz1 hu1 hx1 hb1 hW1 hS hx HK
  go_enter Tryz.func31, Tryz.ntmps31
  go_wp2_with fail
  apply cutG
  · intro H
    go_region_law (fail)
    all_goals exact H
  rw [← HW]
  clear HW b0
  go_wp2_with fail
  go_region_law
    (first
      | (go_simp; go_at_call 51; refine (HE.out _ (by exact ⟨rfl, rfl, rfl, rfl⟩)).mono ?_; rintro e w2 ⟨rfl, hQ⟩; dsimp only))
  all_goals
    go_end0
    exact ⟨rfl, hQ⟩
set_option maxHeartbeats 3200000 in
set_option maxRecDepth 100000 in
theorem rm_rf {w0 : World} {fb ga goff cap : Nat} {p : ByteArray} {Q : World → Prop} (hA : ArgsAt w0 ga goff [⟨#[45, 114, 102]⟩, p]) (hc : 2 ≤ cap) (hmx : MaxIs w0) (hs : p.size ≤ 1000) (hx : absF p = (p, 0))
    (HK : ∀ X, RmS w0 X fb (.slice (some ⟨ga, goff + 1, none⟩) 1 (cap - 1)) true true → Calls Tryz.prog 58 #[.string p, .string p, .pointer (some ⟨w0.heap.size + 1, 0, none⟩), .pointer (some ⟨w0.heap.size + 1 + 1, 0, none⟩), .pointer (some ⟨w0.heap.size + 1 + 1 + 1, 0, none⟩)] X fun e w' => e = .returned (.tuple #[]) ∧ Q w') :
    Calls Tryz.prog 31 #[.pointer (some ⟨w0.heap.size, 0, none⟩)] (w0.alloc (.cells #[.pointer (some ⟨fb, 0, none⟩), .string slB, .string ⟨#[114, 109]⟩, .slice (some ⟨ga, goff, none⟩) 2 cap, .slice none 0 0, .int .i64 0, .slice none 0 0, .slice none 0 0] 59)) fun e w' => e = .returned (.tuple #[]) ∧ Q w' := by
  have a0 : w0.cell? ⟨ga, goff, none⟩ = some (.string ⟨#[45, 114, 102]⟩) := hA.cells 0 (by simp)
  have a1 : w0.cell? ⟨ga, goff + 1, none⟩ = some (.string p) := hA.cells 1 (by simp)
  have hgl := hA.lt
  have b0 : ∀ o1 o2 o3 o4 : Obj, ((((w0.alloc o1).alloc o2).alloc o3).alloc o4).cell? ⟨ga, goff, none⟩ = some (.string ⟨#[45, 114, 102]⟩) := fun o1 o2 o3 o4 => by
    have hb3 : Below w0.heap.size w0 ((((w0.alloc o1).alloc o2).alloc o3).alloc o4) := ((((Below.refl _ _).alloc (Nat.le_refl _) _).alloc (by simp) _).alloc (by simp; omega) _).alloc (by simp; omega) _
    exact (hb3.cell (by exact hgl)).trans a0
  have hc1 : ¬ cap = 1 := by omega
  obtain ⟨W1, hW1⟩ : ∃ W1, W1 = (w0.alloc (.cells #[.pointer (some ⟨fb, 0, none⟩), .string slB, .string ⟨#[114, 109]⟩, (.slice (some ⟨ga, goff + 1, none⟩) 1 (cap - 1)), .slice none 0 0, .int .i64 0, .slice none 0 0, .slice none 0 0] 59)).alloc (.cells #[.pointer (some ⟨w0.heap.size, 0, none⟩)] 57) := ⟨_, rfl⟩
  have hz1 : W1.heap.size = w0.heap.size + 2 := by rw [hW1]; simp
  have hu1 : W1.heap[w0.heap.size]? = some (.cells #[.pointer (some ⟨fb, 0, none⟩), .string slB, .string ⟨#[114, 109]⟩, (.slice (some ⟨ga, goff + 1, none⟩) 1 (cap - 1)), .slice none 0 0, .int .i64 0, .slice none 0 0, .slice none 0 0] 59) := by
    rw [hW1, Go.heap_alloc_old _ _ (by simp)]
    exact heap_alloc_new _ _
  have hx1 : W1.heap[w0.heap.size + 1]? = some (.cells #[.pointer (some ⟨w0.heap.size, 0, none⟩)] 57) := by
    have := heap_alloc_new (w0.alloc (.cells #[.pointer (some ⟨fb, 0, none⟩), .string slB, .string ⟨#[114, 109]⟩, (.slice (some ⟨ga, goff + 1, none⟩) 1 (cap - 1)), .slice none 0 0, .int .i64 0, .slice none 0 0, .slice none 0 0] 59)) (.cells #[.pointer (some ⟨w0.heap.size, 0, none⟩)] 57)
    rw [hW1]
    simpa using this
  have hb1 : Below w0.heap.size w0 W1 := by rw [hW1]; exact ((Below.refl _ _).alloc (Nat.le_refl _) _).alloc (by simp) _
  obtain ⟨W3, hW3⟩ : ∃ W3, W3 = (W1.alloc (.cells #[.bool true] 4)).alloc (.cells #[.bool true] 4) := ⟨_, rfl⟩
  have HW := hW3
  rw [hW1] at HW
  have hz3 : W3.heap.size = w0.heap.size + 4 := by rw [hW3]; simp [hz1]
  have hS : RmS w0 W3 fb (.slice (some ⟨ga, goff + 1, none⟩) 1 (cap - 1)) true true := by
    refine ⟨?_, ?_, ?_, ?_, ?_, by omega⟩
    · rw [hW3, Go.heap_alloc_old _ _ (by simp [hz1] <;> omega), Go.heap_alloc_old _ _ (by omega)]
      exact hu1
    · rw [hW3, Go.heap_alloc_old _ _ (by simp [hz1] <;> omega), Go.heap_alloc_old _ _ (by omega)]
      exact hx1
    · have h1 := heap_alloc_new W1 (.cells #[.bool true] 4)
      have h2 := Go.heap_alloc_old (W1.alloc (.cells #[.bool true] 4)) (.cells #[.bool true] 4) (r := W1.heap.size) (by simp)
      rw [h1, ← hW3, hz1] at h2
      rw [show w0.heap.size + 1 + 1 = w0.heap.size + 2 from rfl, cell_u h2]
      rfl
    · have h1 := heap_alloc_new (W1.alloc (.cells #[.bool true] 4)) (.cells #[.bool true] 4)
      have h2 : (W1.alloc (.cells #[.bool true] 4)).heap.size = w0.heap.size + 3 := by simp [hz1]
      rw [← hW3, h2] at h1
      rw [show w0.heap.size + 1 + 1 + 1 = w0.heap.size + 3 from rfl, cell_u h1]
      rfl
    · rw [hW3]
      exact (hb1.alloc (by omega) _).alloc (by simp; omega) _
  have HE : Hid (∀ X, Sm X W3 → Calls Tryz.prog 51 #[.pointer (some ⟨w0.heap.size, 0, none⟩), (.slice (some ⟨ga, goff + 1, none⟩) 1 (cap - 1)), .func (.func 58) #[] #[.pointer (some ⟨w0.heap.size + 1, 0, none⟩), .pointer (some ⟨w0.heap.size + 1 + 1, 0, none⟩), .pointer (some ⟨w0.heap.size + 1 + 1 + 1, 0, none⟩)]] X fun e w'' => e = .returned (.tuple #[]) ∧ Q w'') := fun X hX => by
    have hSX := hS.mono hX.to
    refine each_rm (Q := Q) (by rw [cell_u hSX.u]; rfl) (hmx.below hmx.lt hSX.below) p p (by omega) hx ga (goff + 1) (cap - 1) ((hSX.below.cell (by exact hgl)).trans a1) _ _ _ fun w1 hw1 => ?_
    exact HK w1 (hSX.mono hw1)
  have c0 : W3.cell? ⟨w0.heap.size, 3, none⟩ = some (.slice (some ⟨ga, goff + 1, none⟩) 1 (cap - 1)) := by rw [cell_u hS.u]; rfl
  have c1 : W3.cell? ⟨w0.heap.size + 1, 0, none⟩ = some (.pointer (some ⟨w0.heap.size, 0, none⟩)) := by rw [cell_u hS.box]; rfl
  have hmf : ∀ (fn : Fn) (first cap : Array Value) (w : World), (Instr.makeFunc fn first cap).run Tryz.prog w = .ok (.func fn first cap) w := fun _ _ _ _ => rfl
  have q2 := hS.cd
  have q3 := hS.cq
  clear hmx hA a0 a1 hW3 hz3 hz1 hu1 hx1 hb1 hW1 hS hx HK
  go_enter Tryz.func31, Tryz.ntmps31
  go_wp2_with fail
  apply cutG
  · intro H
    go_region_law (fail)
    all_goals exact H
  rw [← HW]
  clear HW b0
  go_wp2_with fail
  go_region_law
    (first
      | (go_simp; go_at_call 51; refine (HE.out _ (by exact ⟨rfl, rfl, rfl, rfl⟩)).mono ?_; rintro e w2 ⟨rfl, hQ⟩; dsimp only))
  all_goals
    go_end0
    exact ⟨rfl, hQ⟩
end
end Go.Proofs.YthocoonhoilmdaaGreatDoor
