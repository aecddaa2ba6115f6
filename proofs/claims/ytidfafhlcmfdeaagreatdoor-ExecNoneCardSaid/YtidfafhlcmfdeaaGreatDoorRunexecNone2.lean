/-
  Runs of execNone, by the kernel (3 of 4). No condition.
-/
import Derived.Test.YtidfafhlcmfdeaaGreatDoorRunexecNone0
open Go Go.Mx
namespace Go.Proofs.YtidfafhlcmfdeaaGreatDoor
set_option maxRecDepth 1000000
noncomputable section
theorem xn_w2 (τ : Nat → Nat) : xnRun τ (.cons (.w (atomsV 97 122 2 12 .nil)) .nil) 14 = true := by kernel_rfl
theorem xn_w6 (τ : Nat → Nat) : xnRun τ (.cons (.w (atomsV 97 122 6 12 .nil)) .nil) 18 = true := by kernel_rfl
theorem xn_w10 (τ : Nat → Nat) : xnRun τ (.cons (.w (atomsV 97 122 10 12 .nil)) .nil) 22 = true := by kernel_rfl
theorem xn_w14 (τ : Nat → Nat) : xnRun τ (.cons (.w (atomsV 97 122 14 12 .nil)) .nil) 26 = true := by kernel_rfl
theorem xn_w18 (τ : Nat → Nat) : xnRun τ (.cons (.w (atomsV 97 122 18 12 .nil)) .nil) 30 = true := by kernel_rfl
theorem xn_w22 (τ : Nat → Nat) : xnRun τ (.cons (.w (atomsV 97 122 22 12 .nil)) .nil) 34 = true := by kernel_rfl
theorem xn_w26 (τ : Nat → Nat) : xnRun τ (.cons (.w (atomsV 97 122 26 12 .nil)) .nil) 38 = true := by kernel_rfl
theorem xn_w30 (τ : Nat → Nat) : xnRun τ (.cons (.w (atomsV 97 122 30 12 .nil)) .nil) 42 = true := by kernel_rfl
theorem xn_w34 (τ : Nat → Nat) : xnRun τ (.cons (.w (atomsV 97 122 34 12 .nil)) .nil) 46 = true := by kernel_rfl
theorem xn_w38 (τ : Nat → Nat) : xnRun τ (.cons (.w (atomsV 97 122 38 12 .nil)) .nil) 50 = true := by kernel_rfl
end
end Go.Proofs.YtidfafhlcmfdeaaGreatDoor
