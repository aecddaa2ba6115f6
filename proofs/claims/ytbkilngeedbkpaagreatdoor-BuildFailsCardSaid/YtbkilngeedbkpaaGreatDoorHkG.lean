/-
  Fields of three texts are met by what they told. No condition.
-/
import Derived.Test.YtbkilngeedbkpaaGreatDoorHkC
open Go Go.Mx
namespace Go.Proofs.YtbkilngeedbkpaaGreatDoor
set_option maxRecDepth 1000000
noncomputable section
def hkG : List (Nat × HookF) := (298, hkFi2) :: hkD
theorem hkGok : HKok Tryz.prog 12 (hkL hkG) := hkL_cons fi2 hkDok
end
end Go.Proofs.YtbkilngeedbkpaaGreatDoor
