/-
  Runs of makeMacros, by the kernel (8 of 9). No condition.
-/
import Derived.Test.YtbkilngeedbkpaaGreatDoorRunmakeMacros0
open Go Go.Mx
namespace Go.Proofs.YtbkilngeedbkpaaGreatDoor
set_option maxRecDepth 1000000
noncomputable section
theorem xm_w57t (τ : Nat → Nat) : xmRun τ (.cons (.w (atomsV 97 122 57 12 .nil)) (.cons (.b true) .nil)) 69 = true := by kernel_rfl
theorem xm_w53t (τ : Nat → Nat) : xmRun τ (.cons (.w (atomsV 97 122 53 12 .nil)) (.cons (.b true) .nil)) 65 = true := by kernel_rfl
theorem xm_w49t (τ : Nat → Nat) : xmRun τ (.cons (.w (atomsV 97 122 49 12 .nil)) (.cons (.b true) .nil)) 61 = true := by kernel_rfl
theorem xm_w45t (τ : Nat → Nat) : xmRun τ (.cons (.w (atomsV 97 122 45 12 .nil)) (.cons (.b true) .nil)) 57 = true := by kernel_rfl
theorem xm_w41t (τ : Nat → Nat) : xmRun τ (.cons (.w (atomsV 97 122 41 12 .nil)) (.cons (.b true) .nil)) 53 = true := by kernel_rfl
theorem xm_w37t (τ : Nat → Nat) : xmRun τ (.cons (.w (atomsV 97 122 37 12 .nil)) (.cons (.b true) .nil)) 49 = true := by kernel_rfl
theorem xm_w33t (τ : Nat → Nat) : xmRun τ (.cons (.w (atomsV 97 122 33 12 .nil)) (.cons (.b true) .nil)) 45 = true := by kernel_rfl
theorem xm_w29t (τ : Nat → Nat) : xmRun τ (.cons (.w (atomsV 97 122 29 12 .nil)) (.cons (.b true) .nil)) 41 = true := by kernel_rfl
theorem xm_w25t (τ : Nat → Nat) : xmRun τ (.cons (.w (atomsV 97 122 25 12 .nil)) (.cons (.b true) .nil)) 37 = true := by kernel_rfl
theorem xm_w21t (τ : Nat → Nat) : xmRun τ (.cons (.w (atomsV 97 122 21 12 .nil)) (.cons (.b true) .nil)) 33 = true := by kernel_rfl
theorem xm_w17t (τ : Nat → Nat) : xmRun τ (.cons (.w (atomsV 97 122 17 12 .nil)) (.cons (.b true) .nil)) 29 = true := by kernel_rfl
theorem xm_w13t (τ : Nat → Nat) : xmRun τ (.cons (.w (atomsV 97 122 13 12 .nil)) (.cons (.b true) .nil)) 25 = true := by kernel_rfl
theorem xm_w9t (τ : Nat → Nat) : xmRun τ (.cons (.w (atomsV 97 122 9 12 .nil)) (.cons (.b true) .nil)) 21 = true := by kernel_rfl
theorem xm_w5t (τ : Nat → Nat) : xmRun τ (.cons (.w (atomsV 97 122 5 12 .nil)) (.cons (.b true) .nil)) 17 = true := by kernel_rfl
theorem xm_w1t (τ : Nat → Nat) : xmRun τ (.cons (.w (atomsV 97 122 1 12 .nil)) (.cons (.b true) .nil)) 13 = true := by kernel_rfl
end
end Go.Proofs.YtbkilngeedbkpaaGreatDoor
