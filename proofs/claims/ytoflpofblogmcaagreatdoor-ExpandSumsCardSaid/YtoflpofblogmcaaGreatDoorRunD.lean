/-
  Runs of expandSums, stated. No condition.
-/
import Derived.Test.YtoflpofblogmcaaGreatDoorHkC
open Go Go.Mx
namespace Go.Proofs.YtoflpofblogmcaaGreatDoor
set_option maxRecDepth 1000000
noncomputable section
def esRunP (τ : Nat → Nat) (C : O → Bool) (a b c : V) : Bool := stK O.none (.v powV (τ 1)) 1 (putO [(8, .c .nil 0 false)] .leaf) (fun h0 => run Tryz.prog 8 (hkL hkC) 100000 3 (.cons a (.cons b (.cons c .nil))) h0 11 (fun v h' _ => isBP true 1 C v h') (fun _ _ _ => false))
end
end Go.Proofs.YtoflpofblogmcaaGreatDoor
