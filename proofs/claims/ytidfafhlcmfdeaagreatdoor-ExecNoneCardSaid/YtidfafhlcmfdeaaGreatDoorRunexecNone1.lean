/-
  Runs of execNone, by the kernel (2 of 4). No condition.
-/
import Derived.Test.YtidfafhlcmfdeaaGreatDoorRunexecNone0
open Go Go.Mx
namespace Go.Proofs.YtidfafhlcmfdeaaGreatDoor
set_option maxRecDepth 1000000
noncomputable section
theorem xn_w1 (τ : Nat → Nat) : xnRun τ (.cons (.w (atomsV 97 122 1 12 .nil)) .nil) 13 = true := by kernel_rfl
theorem xn_w5 (τ : Nat → Nat) : xnRun τ (.cons (.w (atomsV 97 122 5 12 .nil)) .nil) 17 = true := by kernel_rfl
theorem xn_w9 (τ : Nat → Nat) : xnRun τ (.cons (.w (atomsV 97 122 9 12 .nil)) .nil) 21 = true := by kernel_rfl
theorem xn_w13 (τ : Nat → Nat) : xnRun τ (.cons (.w (atomsV 97 122 13 12 .nil)) .nil) 25 = true := by kernel_rfl
theorem xn_w17 (τ : Nat → Nat) : xnRun τ (.cons (.w (atomsV 97 122 17 12 .nil)) .nil) 29 = true := by kernel_rfl
theorem xn_w21 (τ : Nat → Nat) : xnRun τ (.cons (.w (atomsV 97 122 21 12 .nil)) .nil) 33 = true := by kernel_rfl
theorem xn_w25 (τ : Nat → Nat) : xnRun τ (.cons (.w (atomsV 97 122 25 12 .nil)) .nil) 37 = true := by kernel_rfl
theorem xn_w29 (τ : Nat → Nat) : xnRun τ (.cons (.w (atomsV 97 122 29 12 .nil)) .nil) 41 = true := by kernel_rfl
theorem xn_w33 (τ : Nat → Nat) : xnRun τ (.cons (.w (atomsV 97 122 33 12 .nil)) .nil) 45 = true := by kernel_rfl
theorem xn_w37 (τ : Nat → Nat) : xnRun τ (.cons (.w (atomsV 97 122 37 12 .nil)) .nil) 49 = true := by kernel_rfl
end
end Go.Proofs.YtidfafhlcmfdeaaGreatDoor
