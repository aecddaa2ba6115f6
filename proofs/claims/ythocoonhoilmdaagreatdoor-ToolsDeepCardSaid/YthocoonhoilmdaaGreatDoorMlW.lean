/-
  mkdir, walked.
-/
import Derived.Test.YthocoonhoilmdaaGreatDoorMkW
import Derived.Test.YthocoonhoilmdaaGreatDoorXMxAL
import Derived.BigQuiet
import Derived.Deep.QuietTactic
import Derived.Deep.RegionLaw
import Derived.Deep.RegionWith
import Derived.Deep.RegionHeld3
import Derived.RegionTactic
import Derived.WalkKit
import Derived.WalkSpells
import Derived.StillTactics
import Derived.LoopIn
import Derived.RowKit3
import Derived.Below
import Derived.OwnWalk
import Derived.KernelRfl
open Go Go.Mx Go.RowKit
namespace Go.Proofs.YthocoonhoilmdaaGreatDoor
set_option maxRecDepth 100000
noncomputable section
/-! mkdir -/
theorem cutG {G X : Prop} (h : G → X) (g : G) : X := h g
theorem pB_not {l : List ByteArray} {b : UInt8} {c : List UInt8} (h : ∀ x ∈ l, NameOk x) (h0 : l ≠ []) (hb : b ≠ 47) : (pB l).data.toList ≠ b :: c := by
  match l, h0 with
  | s :: r, _ =>
    rw [pB_data]
    intro e
    simp only [pL, List.cons.injEq] at e
    exact hb e.1.symm
def mkN : ByteArray := ⟨#[109, 107, 100, 105, 114]⟩
set_option maxHeartbeats 3200000 in
set_option maxRecDepth 100000 in
theorem mkdir_p {w0 : World} {fb mb : Nat} {L : List ByteArray} {m j : Nat} (hG : Grow fb mb L m j w0) (hjm : j ≤ m) (hmx : MaxIs w0) (hL : ∀ x ∈ L, NameOk x) (hm1 : 1 ≤ m) (hmL : m ≤ L.length) (h9 : L.length ≤ 9) (ga goff cap : Nat) (hA : ArgsAt w0 ga goff [⟨#[45, 112]⟩, pB (L.take m)]) (hc : 2 ≤ cap) :
    Calls Tryz.prog 32 #[.pointer (some ⟨w0.heap.size, 0, none⟩)] (w0.alloc (.cells #[.pointer (some ⟨fb, 0, none⟩), .string slB, .string ⟨#[109, 107, 100, 105, 114]⟩, .slice (some ⟨ga, goff, none⟩) 2 cap, .slice none 0 0, .int .i64 0, .slice none 0 0, .slice none 0 0] 59)) fun e w'' => e = .returned (.tuple #[]) ∧ ∃ A' lb, US w'' w'' w0.heap.size (.pointer (some ⟨fb, 0, none⟩)) (.string slB) (.string ⟨#[109, 107, 100, 105, 114]⟩) A' (.slice none 0 0) 0 [] lb ∧ But2 w0 w'' fb mb ∧ Grow fb mb L m m w'' := by
  have a0 : w0.cell? ⟨ga, goff, none⟩ = some (.string ⟨#[45, 112]⟩) := hA.cells 0 (by simp)
  have a1 : w0.cell? ⟨ga, goff + 1, none⟩ = some (.string (pB (L.take m))) := hA.cells 1 (by simp)
  have hgl := hA.lt
  obtain ⟨U, hU⟩ : ∃ U, U = Obj.cells #[.pointer (some ⟨fb, 0, none⟩), .string slB, .string ⟨#[109, 107, 100, 105, 114]⟩, .slice (some ⟨ga, goff, none⟩) 2 cap, .slice none 0 0, .int .i64 0, .slice none 0 0, .slice none 0 0] 59 := ⟨_, rfl⟩
  have hmf : ∀ (fn : Fn) (first cap : Array Value) (w : World), (Instr.makeFunc fn first cap).run Tryz.prog w = .ok (.func fn first cap) w := fun _ _ _ _ => rfl
  have hst : ∀ (a : Addr) (f : Fn) (x y : Array Value) (w : World), (store a (.func f x y)).run Tryz.prog w = stored Tryz.prog w a (.func f x y) .plain := fun a f x y w => run_store Tryz.prog w a _ .plain rfl
  have b0 : ∀ o1 o2 o3 : Obj, (((w0.alloc o1).alloc o2).alloc o3).cell? ⟨ga, goff, none⟩ = some (.string ⟨#[45, 112]⟩) := fun o1 o2 o3 => by
    have hb3 : Below w0.heap.size w0 (((w0.alloc o1).alloc o2).alloc o3) := (((Below.refl _ _).alloc (Nat.le_refl _) _).alloc (by simp) _).alloc (by simp; omega) _
    exact (hb3.cell (by exact hgl)).trans a0
  have hc1 : ¬ cap = 1 := by omega
  obtain ⟨W3, hW3⟩ : ∃ W3, W3 = ((w0.alloc (.cells #[.pointer (some ⟨fb, 0, none⟩), .string slB, .string ⟨#[109, 107, 100, 105, 114]⟩, .slice (some ⟨ga, goff + 1, none⟩) 1 (cap - 1), .slice none 0 0, .int .i64 0, .slice none 0 0, .slice none 0 0] 59)).alloc (.cells #[.pointer (some ⟨w0.heap.size, 0, none⟩)] 57)).alloc (.cells #[.func (.func 61) #[.pointer (some ⟨w0.heap.size, 0, none⟩)] #[]] 65) := ⟨_, rfl⟩
  have HW := hW3
  have hz3 : W3.heap.size = w0.heap.size + 3 := by rw [hW3]; simp
  have hb3 : Below w0.heap.size w0 W3 := by rw [hW3]; exact (((Below.refl _ _).alloc (Nat.le_refl _) _).alloc (by simp) _).alloc (by simp; omega) _
  have hu3 : W3.heap[w0.heap.size]? = some (.cells #[.pointer (some ⟨fb, 0, none⟩), .string slB, .string ⟨#[109, 107, 100, 105, 114]⟩, .slice (some ⟨ga, goff + 1, none⟩) 1 (cap - 1), .slice none 0 0, .int .i64 0, .slice none 0 0, .slice none 0 0] 59) := by
    rw [hW3, Go.heap_alloc_old _ _ (by simp; omega), Go.heap_alloc_old _ _ (by simp)]
    exact heap_alloc_new _ _
  have hx3 : W3.heap[w0.heap.size + 1]? = some (.cells #[.pointer (some ⟨w0.heap.size, 0, none⟩)] 57) := by
    rw [hW3, Go.heap_alloc_old _ _ (by simp)]
    have := heap_alloc_new (w0.alloc (.cells #[.pointer (some ⟨fb, 0, none⟩), .string slB, .string ⟨#[109, 107, 100, 105, 114]⟩, .slice (some ⟨ga, goff + 1, none⟩) 1 (cap - 1), .slice none 0 0, .int .i64 0, .slice none 0 0, .slice none 0 0] 59)) (.cells #[.pointer (some ⟨w0.heap.size, 0, none⟩)] 57)
    simpa using this
  have hh3 : W3.heap[w0.heap.size + 1 + 1]? = some (.cells #[.func (.func 61) #[.pointer (some ⟨w0.heap.size, 0, none⟩)] #[]] 65) := by
    have := heap_alloc_new ((w0.alloc (.cells #[.pointer (some ⟨fb, 0, none⟩), .string slB, .string ⟨#[109, 107, 100, 105, 114]⟩, .slice (some ⟨ga, goff + 1, none⟩) 1 (cap - 1), .slice none 0 0, .int .i64 0, .slice none 0 0, .slice none 0 0] 59)).alloc (.cells #[.pointer (some ⟨w0.heap.size, 0, none⟩)] 57)) (.cells #[.func (.func 61) #[.pointer (some ⟨w0.heap.size, 0, none⟩)] #[]] 65)
    rw [hW3]
    simpa using this
  have hgs := hG.size
  have HE : Hid (∀ X, Sm X W3 → Calls Tryz.prog 51 #[.pointer (some ⟨w0.heap.size, 0, none⟩), .slice (some ⟨ga, goff + 1, none⟩) 1 (cap - 1), .func (.func 62) #[] #[.pointer (some ⟨w0.heap.size + 1, 0, none⟩), .pointer (some ⟨w0.heap.size + 1 + 1, 0, none⟩)]] X fun e w'' => e = .returned (.tuple #[]) ∧ ∃ A' lb, US w'' w'' w0.heap.size (.pointer (some ⟨fb, 0, none⟩)) (.string slB) (.string ⟨#[109, 107, 100, 105, 114]⟩) A' (.slice none 0 0) 0 [] lb ∧ But2 w0 w'' fb mb ∧ Grow fb mb L m m w'') := fun X hX => by
    have hu0 : US X X w0.heap.size (.pointer (some ⟨fb, 0, none⟩)) (.string slB) (.string ⟨#[109, 107, 100, 105, 114]⟩) (.slice (some ⟨ga, goff + 1, none⟩) 1 (cap - 1)) (.slice none 0 0) 0 [] [] :=
      ⟨⟨.slice none 0 0, .slice none 0 0, by rw [hX.1]; exact hu3, World.ownsRow_nil _ _ _ _, World.ownsRow_nil _ _ _ _, .inl rfl, ⟨fun _ => rfl, fun _ => rfl⟩, ⟨fun _ => rfl, fun _ => rfl⟩⟩, by rw [hX.1]; exact hx3, by rw [hX.1]; omega, Below.refl _ _⟩
    have hbX : Below w0.heap.size w0 X := hb3.trans (hX.to.mono (by omega))
    have hzX : X.heap.size = w0.heap.size + 3 := by rw [hX.1]; exact hz3
    refine each_mk (Q := fun w'' => ∃ A' lb, US w'' w'' w0.heap.size (.pointer (some ⟨fb, 0, none⟩)) (.string slB) (.string ⟨#[109, 107, 100, 105, 114]⟩) A' (.slice none 0 0) 0 [] lb ∧ But2 w0 w'' fb mb ∧ Grow fb mb L m m w'') (by rw [hX.cell, cell_u hu3]; rfl) (hmx.below hmx.lt hbX) (pB (L.take m)) (pB (L.take m)) (by have := pB_small hL h9 m; omega) (absF_pB (take_ok hL m) (fun e => by have h0 : (L.take m).length = 0 := (by rw [e]; rfl); rw [List.length_take] at h0; omega) (by rw [List.length_take]; omega)) ga (goff + 1) (cap - 1) ((hbX.cell (by exact hgl)).trans a1) _ _ fun w1 hb1 => ?_
    have hb01 : Below w0.heap.size w0 w1 := hbX.trans (hb1.mono (by omega))
    refine (mk1_p (ub := w0.heap.size) (hb := w0.heap.size + 1 + 1) (pB (L.take m)) ?_ ?_ ?_ hgs.1 hgs.2 (hG.below hb01) hjm (hmx.below hmx.lt hb01) hL hm1 hmL h9).mono ?_
    · rw [hb1.cell (by show w0.heap.size + 1 < _; omega), hX.cell, cell_u hx3]
      rfl
    · rw [hb1.cell (by show w0.heap.size + 1 + 1 < _; omega), hX.cell, cell_u hh3]
      rfl
    · rw [hb1.cell (by show w0.heap.size < _; omega), hX.cell, cell_u hu3]
      rfl
    · rintro e w' ⟨h1, h2, h3⟩
      exact ⟨h1, _, [], (hu0.below hb1 |> fun h => US.but (w := w1) ⟨h.ex, h.box, h.lt, Below.refl _ _⟩ h3 hgs.1 hgs.2), (But2.of fb mb hb01).trans h3, h2⟩
  have c0 : W3.cell? ⟨w0.heap.size, 3, none⟩ = some (.slice (some ⟨ga, goff + 1, none⟩) 1 (cap - 1)) := by rw [cell_u hu3]; rfl
  have c1 : W3.cell? ⟨w0.heap.size + 1, 0, none⟩ = some (.pointer (some ⟨w0.heap.size, 0, none⟩)) := by rw [cell_u hx3]; rfl
  clear hG hmx hL hA a0 a1 hW3 hz3 hb3 hu3 hx3 hh3 hgs
  go_enter Tryz.func32, Tryz.ntmps32
  go_wp2_with fail
  apply cutG
  · intro H
    go_region_law (fail)
    all_goals exact H
  rw [← HW]
  clear HW b0
  go_wp2_with fail
  go_region_law
    (first
      | (go_simp; go_at_call 51; refine (HE.out _ (by exact ⟨rfl, rfl, rfl, rfl⟩)).mono ?_; rintro e w2 ⟨rfl, hQ⟩; dsimp only))
  all_goals
    go_end0
    exact ⟨rfl, hQ⟩
/-! mkdir of what is there -/
set_option maxHeartbeats 3200000 in
set_option maxRecDepth 100000 in
theorem mkdir_s {w0 : World} {fb mb : Nat} {L : List ByteArray} {m : Nat} (hG : Grow fb mb L m m w0) (hmx : MaxIs w0) (hL : ∀ x ∈ L, NameOk x) (hm1 : 1 ≤ m) (hmL : m ≤ L.length) (h9 : L.length ≤ 9) (ga goff cap : Nat) (hA : ArgsAt w0 ga goff [pB (L.take m)]) (_hc : 1 ≤ cap) :
    Calls Tryz.prog 32 #[.pointer (some ⟨w0.heap.size, 0, none⟩)] (w0.alloc (.cells #[.pointer (some ⟨fb, 0, none⟩), .string slB, .string ⟨#[109, 107, 100, 105, 114]⟩, .slice (some ⟨ga, goff, none⟩) 1 cap, .slice none 0 0, .int .i64 0, .slice none 0 0, .slice none 0 0] 59)) fun e w'' => e = .returned (.tuple #[]) ∧ ∃ A' lb, US w'' w'' w0.heap.size (.pointer (some ⟨fb, 0, none⟩)) (.string slB) (.string ⟨#[109, 107, 100, 105, 114]⟩) A' (.slice none 0 0) 1 [] lb ∧ But2 w0 w'' fb mb ∧ Grow fb mb L m m w'' := by
  have a0 : w0.cell? ⟨ga, goff, none⟩ = some (.string (pB (L.take m))) := hA.cells 0 (by simp)
  have hgl := hA.lt
  obtain ⟨U, hU⟩ : ∃ U, U = Obj.cells #[.pointer (some ⟨fb, 0, none⟩), .string slB, .string ⟨#[109, 107, 100, 105, 114]⟩, .slice (some ⟨ga, goff, none⟩) 1 cap, .slice none 0 0, .int .i64 0, .slice none 0 0, .slice none 0 0] 59 := ⟨_, rfl⟩
  have hmf : ∀ (fn : Fn) (first cap : Array Value) (w : World), (Instr.makeFunc fn first cap).run Tryz.prog w = .ok (.func fn first cap) w := fun _ _ _ _ => rfl
  have hst : ∀ (a : Addr) (f : Fn) (x y : Array Value) (w : World), (store a (.func f x y)).run Tryz.prog w = stored Tryz.prog w a (.func f x y) .plain := fun a f x y w => run_store Tryz.prog w a _ .plain rfl
  have b0 : ∀ o1 o2 o3 : Obj, (((w0.alloc o1).alloc o2).alloc o3).cell? ⟨ga, goff, none⟩ = some (.string (pB (L.take m))) := fun o1 o2 o3 => by
    have hb3 : Below w0.heap.size w0 (((w0.alloc o1).alloc o2).alloc o3) := (((Below.refl _ _).alloc (Nat.le_refl _) _).alloc (by simp) _).alloc (by simp; omega) _
    exact (hb3.cell (by exact hgl)).trans a0
  have hne : ((pB (L.take m)).toList == [45, 112]) = false := neB (pB_not (take_ok hL m) (fun e => by have h0 : (L.take m).length = 0 := (by rw [e]; rfl); rw [List.length_take] at h0; omega) (by decide))
  obtain ⟨W3, hW3⟩ : ∃ W3, W3 = ((w0.alloc (.cells #[.pointer (some ⟨fb, 0, none⟩), .string slB, .string ⟨#[109, 107, 100, 105, 114]⟩, .slice (some ⟨ga, goff, none⟩) 1 cap, .slice none 0 0, .int .i64 0, .slice none 0 0, .slice none 0 0] 59)).alloc (.cells #[.pointer (some ⟨w0.heap.size, 0, none⟩)] 57)).alloc (.cells #[.func (.func 60) #[.pointer (some ⟨fb, 0, none⟩)] #[]] 65) := ⟨_, rfl⟩
  have HW := hW3
  have hz3 : W3.heap.size = w0.heap.size + 3 := by rw [hW3]; simp
  have hb3 : Below w0.heap.size w0 W3 := by rw [hW3]; exact (((Below.refl _ _).alloc (Nat.le_refl _) _).alloc (by simp) _).alloc (by simp; omega) _
  have hu3 : W3.heap[w0.heap.size]? = some (.cells #[.pointer (some ⟨fb, 0, none⟩), .string slB, .string ⟨#[109, 107, 100, 105, 114]⟩, .slice (some ⟨ga, goff, none⟩) 1 cap, .slice none 0 0, .int .i64 0, .slice none 0 0, .slice none 0 0] 59) := by
    rw [hW3, Go.heap_alloc_old _ _ (by simp; omega), Go.heap_alloc_old _ _ (by simp)]
    exact heap_alloc_new _ _
  have hx3 : W3.heap[w0.heap.size + 1]? = some (.cells #[.pointer (some ⟨w0.heap.size, 0, none⟩)] 57) := by
    rw [hW3, Go.heap_alloc_old _ _ (by simp)]
    have := heap_alloc_new (w0.alloc (.cells #[.pointer (some ⟨fb, 0, none⟩), .string slB, .string ⟨#[109, 107, 100, 105, 114]⟩, .slice (some ⟨ga, goff, none⟩) 1 cap, .slice none 0 0, .int .i64 0, .slice none 0 0, .slice none 0 0] 59)) (.cells #[.pointer (some ⟨w0.heap.size, 0, none⟩)] 57)
    simpa using this
  have hh3 : W3.heap[w0.heap.size + 1 + 1]? = some (.cells #[.func (.func 60) #[.pointer (some ⟨fb, 0, none⟩)] #[]] 65) := by
    have := heap_alloc_new ((w0.alloc (.cells #[.pointer (some ⟨fb, 0, none⟩), .string slB, .string ⟨#[109, 107, 100, 105, 114]⟩, .slice (some ⟨ga, goff, none⟩) 1 cap, .slice none 0 0, .int .i64 0, .slice none 0 0, .slice none 0 0] 59)).alloc (.cells #[.pointer (some ⟨w0.heap.size, 0, none⟩)] 57)) (.cells #[.func (.func 60) #[.pointer (some ⟨fb, 0, none⟩)] #[]] 65)
    rw [hW3]
    simpa using this
  have hgs := hG.size
  have HE : Hid (∀ X, Sm X W3 → Calls Tryz.prog 51 #[.pointer (some ⟨w0.heap.size, 0, none⟩), .slice (some ⟨ga, goff, none⟩) 1 cap, .func (.func 62) #[] #[.pointer (some ⟨w0.heap.size + 1, 0, none⟩), .pointer (some ⟨w0.heap.size + 1 + 1, 0, none⟩)]] X fun e w'' => e = .returned (.tuple #[]) ∧ ∃ A' lb, US w'' w'' w0.heap.size (.pointer (some ⟨fb, 0, none⟩)) (.string slB) (.string ⟨#[109, 107, 100, 105, 114]⟩) A' (.slice none 0 0) 1 [] lb ∧ But2 w0 w'' fb mb ∧ Grow fb mb L m m w'') := fun X hX => by
    have hu0 : US X X w0.heap.size (.pointer (some ⟨fb, 0, none⟩)) (.string slB) (.string ⟨#[109, 107, 100, 105, 114]⟩) (.slice (some ⟨ga, goff, none⟩) 1 cap) (.slice none 0 0) 0 [] [] :=
      ⟨⟨.slice none 0 0, .slice none 0 0, by rw [hX.1]; exact hu3, World.ownsRow_nil _ _ _ _, World.ownsRow_nil _ _ _ _, .inl rfl, ⟨fun _ => rfl, fun _ => rfl⟩, ⟨fun _ => rfl, fun _ => rfl⟩⟩, by rw [hX.1]; exact hx3, by rw [hX.1]; omega, Below.refl _ _⟩
    have hbX : Below w0.heap.size w0 X := hb3.trans (hX.to.mono (by omega))
    have hzX : X.heap.size = w0.heap.size + 3 := by rw [hX.1]; exact hz3
    refine each_mk (Q := fun w'' => ∃ A' lb, US w'' w'' w0.heap.size (.pointer (some ⟨fb, 0, none⟩)) (.string slB) (.string ⟨#[109, 107, 100, 105, 114]⟩) A' (.slice none 0 0) 1 [] lb ∧ But2 w0 w'' fb mb ∧ Grow fb mb L m m w'') (by rw [hX.cell, cell_u hu3]; rfl) (hmx.below hmx.lt hbX) (pB (L.take m)) (pB (L.take m)) (by have := pB_small hL h9 m; omega) (absF_pB (take_ok hL m) (fun e => by have h0 : (L.take m).length = 0 := (by rw [e]; rfl); rw [List.length_take] at h0; omega) (by rw [List.length_take]; omega)) ga goff cap ((hbX.cell (by exact hgl)).trans a0) _ _ fun w1 hb1 => ?_
    have hb01 : Below w0.heap.size w0 w1 := hbX.trans (hb1.mono (by omega))
    have hu1 : US w1 w1 w0.heap.size (.pointer (some ⟨fb, 0, none⟩)) (.string slB) (.string ⟨#[109, 107, 100, 105, 114]⟩) (.slice (some ⟨ga, goff, none⟩) 1 cap) (.slice none 0 0) 0 [] [] := (hu0.below hb1 |> fun h => ⟨h.ex, h.box, h.lt, Below.refl _ _⟩)
    refine (mk1_there (ub := w0.heap.size) (hb := w0.heap.size + 1 + 1) (pB (L.take m)) (by have := pB_small hL h9 m; omega) (by decide) hu1 ?_ (hG.below hb01) (hmx.below hmx.lt hb01) hL hm1 hmL h9).mono ?_
    · rw [hb1.cell (by show w0.heap.size + 1 + 1 < _; omega), hX.cell, cell_u hh3]
      rfl
    · rintro e w' ⟨h1, lb, h2⟩
      have hbw : Below w0.heap.size w0 w' := hb01.trans h2.kept
      exact ⟨h1, _, lb, ⟨h2.ex, h2.box, h2.lt, Below.refl _ _⟩, But2.of fb mb hbw, hG.below hbw⟩
  have c0 : W3.cell? ⟨w0.heap.size, 3, none⟩ = some (.slice (some ⟨ga, goff, none⟩) 1 cap) := by rw [cell_u hu3]; rfl
  have q0 := (hb3.cell (p := ⟨ga, goff, none⟩) (by exact hgl)).trans a0
  have c1 : W3.cell? ⟨w0.heap.size + 1, 0, none⟩ = some (.pointer (some ⟨w0.heap.size, 0, none⟩)) := by rw [cell_u hx3]; rfl
  obtain ⟨p, hp⟩ : ∃ p, p = pB (L.take m) := ⟨_, rfl⟩
  rw [← hp] at b0 hne q0
  clear hp
  clear hG hmx hL hA a0 hW3 hz3 hb3 hu3 hx3 hh3 hgs
  go_enter Tryz.func32, Tryz.ntmps32
  go_wp2_with fail
  rw [← HW]
  clear HW b0
  go_region_law
    (first
      | (go_simp; go_at_call 51; refine (HE.out _ (by exact ⟨rfl, rfl, rfl, rfl⟩)).mono ?_; rintro e w2 ⟨rfl, hQ⟩; dsimp only))
  all_goals
    go_end0
    exact ⟨rfl, hQ⟩
end
end Go.Proofs.YthocoonhoilmdaaGreatDoor
