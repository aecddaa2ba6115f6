/-
  A part of a small executor of the model, proved sound (30 of 30). No condition.
-/
import GoSem.ClaimGoes
import Derived.KernelRfl
namespace Go.Mx
noncomputable section
theorem all_parts {α : Type} {p : α → Bool} {l : List α} (k : Nat) (h1 : (l.take k).all p = true) (h2 : (l.drop k).all p = true) : l.all p = true := by
  rw [← List.take_append_drop k l, List.all_append, h1, h2]
  rfl
theorem goes_none {P : Program} (h : P.funcs.toList.all (fun fn => !fn.goes) = true) (f : FuncId) : P.goes f = false := by
  have hm : ∀ fn ∈ P.funcs.toList, fn.goes = false := fun fn hf => by simpa using List.all_eq_true.1 h fn hf
  have h1 : ((P.closure f).any fun g => (P.funcs[g]?).any Func.goes) = false := by
    rw [List.any_eq_false]
    intro g _
    cases e : P.funcs[g]? with
    | none => simp
    | some fn =>
      have := hm fn (by rw [Array.mem_toList_iff]; exact Array.mem_of_getElem? e)
      simp [this]
  have h2 : P.funcs.any Func.goes = false := by
    rw [← Array.any_toList, List.any_eq_false]
    intro fn hf
    simp [hm fn hf]
  unfold Program.goes
  rw [h1, h2]
  simp
theorem goesBy_none {P : Program} (h : P.funcs.toList.all (fun fn => !fn.goes) = true) {c : OpenClaim} (hs : c.start = .entering) : false = c.goesBy P := by
  unfold OpenClaim.goesBy Program.goesAt Program.goesFrom
  rw [hs]
  cases P.funcNamed c.func with
  | none => rfl
  | some f => simp [goes_none h f]
end
end Go.Mx
