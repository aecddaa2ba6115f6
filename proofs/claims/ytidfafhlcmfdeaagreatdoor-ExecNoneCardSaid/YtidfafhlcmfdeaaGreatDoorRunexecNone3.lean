/-
  Runs of execNone, by the kernel (4 of 4). No condition.
-/
import Derived.Test.YtidfafhlcmfdeaaGreatDoorRunexecNone0
open Go Go.Mx
namespace Go.Proofs.YtidfafhlcmfdeaaGreatDoor
set_option maxRecDepth 1000000
noncomputable section
theorem xn_w3 (τ : Nat → Nat) : xnRun τ (.cons (.w (atomsV 97 122 3 12 .nil)) .nil) 15 = true := by kernel_rfl
theorem xn_w7 (τ : Nat → Nat) : xnRun τ (.cons (.w (atomsV 97 122 7 12 .nil)) .nil) 19 = true := by kernel_rfl
theorem xn_w11 (τ : Nat → Nat) : xnRun τ (.cons (.w (atomsV 97 122 11 12 .nil)) .nil) 23 = true := by kernel_rfl
theorem xn_w15 (τ : Nat → Nat) : xnRun τ (.cons (.w (atomsV 97 122 15 12 .nil)) .nil) 27 = true := by kernel_rfl
theorem xn_w19 (τ : Nat → Nat) : xnRun τ (.cons (.w (atomsV 97 122 19 12 .nil)) .nil) 31 = true := by kernel_rfl
theorem xn_w23 (τ : Nat → Nat) : xnRun τ (.cons (.w (atomsV 97 122 23 12 .nil)) .nil) 35 = true := by kernel_rfl
theorem xn_w27 (τ : Nat → Nat) : xnRun τ (.cons (.w (atomsV 97 122 27 12 .nil)) .nil) 39 = true := by kernel_rfl
theorem xn_w31 (τ : Nat → Nat) : xnRun τ (.cons (.w (atomsV 97 122 31 12 .nil)) .nil) 43 = true := by kernel_rfl
theorem xn_w35 (τ : Nat → Nat) : xnRun τ (.cons (.w (atomsV 97 122 35 12 .nil)) .nil) 47 = true := by kernel_rfl
theorem xn_w39 (τ : Nat → Nat) : xnRun τ (.cons (.w (atomsV 97 122 39 12 .nil)) .nil) 51 = true := by kernel_rfl
end
end Go.Proofs.YtidfafhlcmfdeaaGreatDoor
