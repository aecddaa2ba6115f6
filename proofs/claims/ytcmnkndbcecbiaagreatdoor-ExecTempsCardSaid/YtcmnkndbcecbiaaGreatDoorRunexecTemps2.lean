/-
  Runs of execTemps, by the kernel (3 of 3). No condition.
-/
import Derived.Test.YtcmnkndbcecbiaaGreatDoorRunexecTemps0
open Go Go.Mx
namespace Go.Proofs.YtcmnkndbcecbiaaGreatDoor
set_option maxRecDepth 1000000
noncomputable section
theorem xt_hf (τ : Nat → Nat) : xtRun τ (.cons (formV M 97 122 40 12 1) (.cons (formV M 97 122 40 (12 + 3) 1) (.cons (.b false) .nil))) (12 + 6) = true := by kernel_rfl
end
end Go.Proofs.YtcmnkndbcecbiaaGreatDoor
