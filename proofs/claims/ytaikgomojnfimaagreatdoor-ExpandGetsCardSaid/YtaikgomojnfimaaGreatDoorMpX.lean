/-
  The parameters of the program, walked.
-/
import Derived.Test.YtaikgomojnfimaaGreatDoorMpW
import Derived.BigQuiet
import Derived.Deep.QuietTactic
import Derived.Deep.RegionLaw
import Derived.Deep.RegionWith
import Derived.Deep.RegionHeld3
import Derived.RegionTactic
import Derived.WalkKit
import Derived.WalkSpells
import Derived.StillTactics
import Derived.LoopIn
import Derived.RowKit3
import Derived.Below
import Derived.OwnWalk
import Derived.KernelRfl
open Go Go.Mx Go.RowKit
namespace Go.Proofs.YtaikgomojnfimaaGreatDoor
set_option maxRecDepth 100000
noncomputable section
/-! the program's parameters -/
theorem cell_u {w : World} {b i : Nat} {a : Array Value} {ty : TypeId} {fz : Nat × Nat} (hh : w.heap[b]? = some (.cells a ty fz)) : w.cell? ⟨b, i, none⟩ = a[i]? := by
  unfold World.cell?
  simp [hh]
theorem set_same {w : World} {b o : Nat} {v : Value} {arr : Array Value} {ty : TypeId} {fz : Nat × Nat} (hh : w.heap[b]? = some (.cells arr ty fz)) : (w.setCell ⟨b, o, none⟩ v).heap[b]? = some (.cells (arr.setIfInBounds o v) ty fz) := by
  unfold World.setCell
  show (w.heap.modify b _)[b]? = _
  rw [Array.getElem?_modify, if_pos rfl, hh]
  rfl
theorem set_other {w : World} {b o j : Nat} {v : Value} (h : j ≠ b) : (w.setCell ⟨b, o, none⟩ v).heap[j]? = w.heap[j]? := by
  unfold World.setCell
  show (w.heap.modify b _)[j]? = _
  rw [Array.getElem?_modify, if_neg (Ne.symm h)]
theorem set_size {w : World} {b o : Nat} {v : Value} : (w.setCell ⟨b, o, none⟩ v).heap.size = w.heap.size := by
  unfold World.setCell
  show (w.heap.modify b _).size = _
  simp
theorem nf_zero {w : World} {b i : Nat} {arr : Array Value} {ty : TypeId} (hh : w.heap[b]? = some (.cells arr ty (0, 0))) : w.frozen? ⟨b, i, none⟩ = false := by
  unfold World.frozen?
  simp [hh]
theorem below_stays {w w' : World} (h : Stays w w') : Below w.heap.size w w' := ⟨h.os, h.tape, h.output, h.size, h.heap⟩
theorem MapIs.same {w w' : World} {m : Option Nat} {M : ML} (h : MapIs w m M) (hk : ∀ mb, m = some mb → w'.heap[mb]? = w.heap[mb]?) : MapIs w' m M := by
  rcases h with h | ⟨mb, es, cl, h1, h2, h3⟩
  · exact .inl h
  · exact .inr ⟨mb, es, cl, h1, (hk mb h1).trans h2, h3⟩
/-- the program's parameters are these -/
structure VIs (w : World) (vb : Nat) (m : Option Nat) (M : ML) : Prop where
  v : w.heap[vb]? = some (.cells #[.map m] 45 (0, 0))
  map : MapIs w m M
theorem VIs.below {w w' : World} {vb : Nat} {m : Option Nat} {M : ML} (h : VIs w vb m M) (hb : Below w.heap.size w w') : VIs w' vb m M := by
  refine ⟨by rw [hb.block vb (Array.getElem?_eq_some_iff.1 h.v).1]; exact h.v, h.map.same fun mb e => hb.block mb ?_⟩
  rcases h.map with ⟨h1, _⟩ | ⟨mb', es, cl, h1, h2, _⟩
  · rw [h1] at e; cases e
  · rw [h1] at e
    cases e
    exact (Array.getElem?_eq_some_iff.1 h2).1
set_option maxHeartbeats 1600000 in
set_option maxRecDepth 100000 in
theorem vget_any {w : World} {vb : Nat} {m : Option Nat} {M : ML} (h : VIs w vb m M) (k : ByteArray) : Calls Tryz.prog 21 #[.pointer (some ⟨vb, 0, none⟩), .string k] w fun e w' => e = .returned (.tuple #[.string ((look M k).getD ⟨#[]⟩), .bool (look M k).isSome]) ∧ w' = w := by
  have hl := run_look h.map k
  have c0 : w.cell? ⟨vb, 0, none⟩ = some (.map m) := by rw [cell_u h.v]; rfl
  clear h
  generalize (look M k).getD ⟨#[]⟩ = a at hl ⊢
  generalize (look M k).isSome = b at hl ⊢
  go_enter Tryz.func21, Tryz.ntmps21
  go_wp2
  go_ret2
  exact ⟨rfl, rfl⟩
/-- blocks but a parameter's own stand as they stood -/
structure ButV (w w' : World) (vb : Nat) (m : Option Nat) : Prop where
  os : w'.os = w.os
  tape : w'.tape = w.tape
  output : w'.output = w.output
  size : w.heap.size ≤ w'.heap.size
  kept : ∀ j, j < w.heap.size → j ≠ vb → some j ≠ m → w'.heap[j]? = w.heap[j]?
theorem ButV.refl (w : World) (vb : Nat) (m : Option Nat) : ButV w w vb m := ⟨rfl, rfl, rfl, Nat.le_refl _, fun _ _ _ _ => rfl⟩
theorem ButV.of {w w' : World} (vb : Nat) (m : Option Nat) (h : Below w.heap.size w w') : ButV w w' vb m := ⟨h.os, h.tape, h.output, h.size, fun j hj _ _ => h.block j hj⟩
def zeroB (v : ByteArray) : Bool := decide (0 ≤ Lib.indexByte v.data.toList 0)
/-- what a name's being given a value makes of parameters -/
def setF (M : ML) (k v : ByteArray) : ML := if nameB k = true ∧ zeroB v = false ∧ v.size ≤ 4096 then put M k v else M
end
end Go.Proofs.YtaikgomojnfimaaGreatDoor
