/-
  How a scanner reads words, stated. No condition.
-/
import Derived.Test.YtdkpggfooahnnaaGreatDoorHkC
open Go Go.Mx
namespace Go.Proofs.YtdkpggfooahnnaaGreatDoor
set_option maxRecDepth 1000000
noncomputable section
def tokaR (n : Nat) (τ : Nat → Nat) : Bool := mkTK τ tbl (putO (tokO 12 97 122 n [120, 61] (some 10) 250) .leaf) (fun h0 => R0 180 (.cons (.p 12 0) .nil) h0 (12 + 3 + n) (tokK 12 97 122 n [120, 61] (some 10) 250 355) (fun _ _ _ => false))
def tokbR (n : Nat) (τ : Nat → Nat) : Bool := mkTK τ tbl (putO (tokO 12 97 122 n [] (some 32) 250) .leaf) (fun h0 => R0 180 (.cons (.p 12 0) .nil) h0 (12 + 3 + n) (tokK 12 97 122 n [] (some 32) 250 355) (fun _ _ _ => false))
end
end Go.Proofs.YtdkpggfooahnnaaGreatDoor
