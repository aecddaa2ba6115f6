/-
  A part of a small executor of the model, proved sound (21 of 33). No condition.
-/
import Derived.Test.YtbkilngeedbkpaaGreatDoorXMxQ
import Derived.Lib.ItoaLen
import Derived.Test.YtbkilngeedbkpaaGreatDoorXRowK6
import Derived.Sort.Grow
import Derived.Lib.LaidTab
import Derived.Deep.Draws
import Derived.Lib.ItoaNum
import Derived.Lib.AtoiAllCases
import Derived.Lib.SlTrimSet
import Derived.Lib.Strings
namespace Go.Mx
open Instr Builtin
noncomputable section
variable {P : Program} {ρ : Ren} {h : T O} {nx : Nat} {w : World} {ng : Nat}
end
end Go.Mx
namespace Go.Mx
open Instr Builtin
noncomputable section
variable {P : Program} {ρ : Ren} {h : T O} {nx : Nat} {w : World} {ng : Nat}
theorem hkL_cons {p : Nat × HookF} {l : List (Nat × HookF)} (h1 : HookOk P ng p.1 p.2) (h2 : HKok P ng (hkL l)) : HKok P ng (hkL (p :: l)) := by
  intro g f hf
  have hf : (Bool.rec (hkL l g) (some p.2) (Nat.beq p.1 g) : Option HookF) = some f := hf
  cases e : Nat.beq p.1 g with
  | true =>
    rw [e] at hf
    cases hf
    have e := beq_spec e
    subst e
    exact h1
  | false =>
    rw [e] at hf
    exact h2 g f hf
end
end Go.Mx
namespace Go.Mx
open Instr Builtin
noncomputable section
variable {P : Program} {ρ : Ren} {h : T O} {nx : Nat} {w : World} {ng : Nat}
end
end Go.Mx
namespace Go.Mx
open Go.Lib
end Go.Mx
namespace Go.Mx
open Instr Builtin
noncomputable section
variable {P : Program} {ρ : Ren} {h : T O} {nx : Nat} {w : World} {ng : Nat}
end
end Go.Mx
