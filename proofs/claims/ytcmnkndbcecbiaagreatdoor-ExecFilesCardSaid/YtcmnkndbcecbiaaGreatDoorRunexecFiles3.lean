/-
  Runs of execFiles, by the kernel (4 of 5). No condition.
-/
import Derived.Test.YtcmnkndbcecbiaaGreatDoorRunexecFiles0
open Go Go.Mx
namespace Go.Proofs.YtcmnkndbcecbiaaGreatDoor
set_option maxRecDepth 1000000
noncomputable section
theorem xf_h10t (τ : Nat → Nat) : xfRun τ (.cons (formV M 97 122 60 12 1) (.cons (formV M 97 122 60 (12 + 3) 0) (.cons (.b true) .nil))) (12 + 6) = true := by kernel_rfl
theorem xf_h00t (τ : Nat → Nat) : xfRun τ (.cons (formV M 97 122 60 12 0) (.cons (formV M 97 122 60 (12 + 3) 0) (.cons (.b true) .nil))) (12 + 6) = true := by kernel_rfl
end
end Go.Proofs.YtcmnkndbcecbiaaGreatDoor
