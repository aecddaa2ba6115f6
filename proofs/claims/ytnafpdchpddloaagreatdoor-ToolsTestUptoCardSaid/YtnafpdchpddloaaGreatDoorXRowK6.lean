/-
  A part of a small executor of the model, proved sound (21 of 30). No condition.
-/
import Derived.Test.YtnafpdchpddloaaGreatDoorXMxG
import Derived.OpenShut
import Derived.LaidMore
import Derived.ProofKit
import Derived.Stop.Joined
import Derived.WideShapes
import Derived.Carry
import Derived.Test.YtnafpdchpddloaaGreatDoorXMxQ
import Derived.ChangeSlices
import Derived.SliceStrings
namespace Go.Mx
noncomputable section
theorem Stays.keptBut {W W' : World} (h : Stays W W') (may : MemPlace → Prop) : W.keptBut W' may := by
  refine ⟨h.os, h.output, fun i hi => ?_⟩
  rw [h.heap i hi]
  have := World.keptBut_refl W may
  exact this.2.2 i hi
end
end Go.Mx
namespace Go.Mx
open Go.ChangeShapes Go.WideShapes Go.RowKit
noncomputable section
theorem Stays.below {W W' : World} (h : Stays W W') : Below W.heap.size W W' := ⟨h.os, h.tape, h.output, h.size, h.heap⟩
end
end Go.Mx
namespace Go.Mx
open Go.ChangeShapes Go.WideShapes Go.RowKit
noncomputable section
end
end Go.Mx
namespace Go.Mx
open Go.ChangeShapes Go.WideShapes Go.RowKit
noncomputable section
end
end Go.Mx
namespace Go.Mx
open Go.ChangeShapes Go.WideShapes Go.RowKit
noncomputable section
theorem row_of_cells {W : World} {a : Addr} {cap : Nat} {f : Nat → Value} (h0 : 0 < cap) (all : ∀ i, i < cap → W.cell? (a.add i) = some (f i)) :
    a.spot = none ∧ ∃ arr ty fz, W.heap[a.block]? = some (.cells arr ty fz) ∧ a.off + cap ≤ arr.size ∧ ∀ i, i < cap → arr[a.off + i]? = some (f i) := by
  have hb0 := all 0 h0
  have hadd : ∀ i, a.spot = none → a.add i = ⟨a.block, a.off + i, none⟩ := by
    intro i hs
    obtain ⟨ab, ao, as⟩ := a
    simp only at hs
    subst hs
    simp [Addr.add]
  have hspot : a.spot = none := by
    have h1 := hb0
    have h2 : a.add 0 = a := by simp [Addr.add]
    rw [h2] at h1
    unfold World.cell? at h1
    split at h1
    · cases hs : a.spot with
      | none => rfl
      | some s => simp [hs] at h1
    · cases h1
  refine ⟨hspot, ?_⟩
  obtain ⟨arr, ty, fz, hblk⟩ : ∃ arr ty fz, W.heap[a.block]? = some (.cells arr ty fz) := by
    have h1 := hb0
    rw [hadd 0 hspot] at h1
    unfold World.cell? at h1
    split at h1
    · rename_i c u f hh
      exact ⟨c, u, f, hh⟩
    · cases h1
  have hget : ∀ i, i < cap → arr[a.off + i]? = some (f i) := by
    intro i hi
    have hcc := all i hi
    rw [hadd i hspot] at hcc
    simp only [World.cell?, hblk] at hcc
    simpa using hcc
  refine ⟨arr, ty, fz, hblk, ?_, hget⟩
  have := (Array.getElem?_eq_some_iff.1 (hget (cap - 1) (by omega))).1
  omega
end
end Go.Mx
namespace Go.Mx
noncomputable section
variable {ρ : Ren}
end
end Go.Mx
