/-
  Itoa at small numbers (2 of 4). No condition.
-/
import Derived.Test.YtdkpggfooahnnaaGreatDoorHkC
import Derived.Test.YtdkpggfooahnnaaGreatDoorXMxAQ
open Go Go.Mx
namespace Go.Proofs.YtdkpggfooahnnaaGreatDoor
set_option maxRecDepth 1000000
noncomputable section
theorem it1 (τ : Nat → Nat) : allN 525 (fun i => mkTK τ tbl .leaf (fun h0 => R0 18 (.cons (.i .i64 (Int.ofNat (i + 525))) .nil) h0 12 (fun v _ _ => isDg4 (i + 525) v) (fun _ _ _ => false))) = true := by kernel_rfl
end
end Go.Proofs.YtdkpggfooahnnaaGreatDoor
