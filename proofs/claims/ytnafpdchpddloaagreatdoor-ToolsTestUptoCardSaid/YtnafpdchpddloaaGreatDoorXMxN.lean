/-
  A part of a small executor of the model, proved sound (19 of 30). No condition.
-/
import Derived.Test.YtnafpdchpddloaaGreatDoorXMxL
import Derived.Lib.IndexAny
import Derived.Carry
namespace Go.Mx
noncomputable section
variable {P : Program} {ρ : Ren} {h : T O} {nx : Nat} {w : World} {ng : Nat}
def eqB (x : Bool) (v : V) : Bool := vB v fun b => bs_eq b x
end
end Go.Mx
namespace Go.Mx
open Go.RowKit
noncomputable section
variable {P : Program} {ρ : Ren} {h : T O} {nx : Nat} {w : World} {ng : Nat}
end
end Go.Mx
namespace Go.Mx
noncomputable section
variable {P : Program} {ρ : Ren} {h : T O} {nx : Nat} {w : World} {ng : Nat}
end
end Go.Mx
