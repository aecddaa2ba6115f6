/-
  A part of a small executor of the model, proved sound (29 of 35). No condition.
-/
import Derived.Test.YtiinlpdophgfjaaGreatDoorXMxAG
import Derived.Test.YtiinlpdophgfjaaGreatDoorXRowK6
import Derived.Test.YtiinlpdophgfjaaGreatDoorXMxAM
import Derived.Test.YtiinlpdophgfjaaGreatDoorXMxL
namespace Go.Mx
noncomputable section
variable {P : Program} {ng : Nat}
def sndN : Nat → Code → Code
  | 0, c => c
  | n + 1, .seq _ b => sndN n b
  | _ + 1, c => c
end
end Go.Mx
namespace Go.Mx
noncomputable section
variable {P : Program} {ng : Nat} {ρ : Ren}
end
end Go.Mx
