/-
  Runs of execShells, by the kernel (4 of 7). No condition.
-/
import Derived.Test.YtnpdmljafaolpaaGreatDoorRunexecShells0
open Go Go.Mx
namespace Go.Proofs.YtnpdmljafaolpaaGreatDoor
set_option maxRecDepth 1000000
noncomputable section
theorem xh_5t (τ : Nat → Nat) : xhRun τ (.cons (formW M 97 122 58 60 12 5) (.cons (.b true) .nil)) (12 + 3) = true := by kernel_rfl
end
end Go.Proofs.YtnpdmljafaolpaaGreatDoor
