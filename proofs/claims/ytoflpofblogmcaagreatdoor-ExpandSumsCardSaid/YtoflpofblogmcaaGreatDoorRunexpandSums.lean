/-
  The runs of expandSums. No condition.
-/
import Derived.Test.YtoflpofblogmcaaGreatDoorRunexpandSums0
import Derived.Test.YtoflpofblogmcaaGreatDoorRunexpandSums1
import Derived.Test.YtoflpofblogmcaaGreatDoorRunexpandSums2
open Go Go.Mx
namespace Go.Proofs.YtoflpofblogmcaaGreatDoor
set_option maxRecDepth 1000000
noncomputable section
theorem es_all : True := trivial
end
end Go.Proofs.YtoflpofblogmcaaGreatDoor
