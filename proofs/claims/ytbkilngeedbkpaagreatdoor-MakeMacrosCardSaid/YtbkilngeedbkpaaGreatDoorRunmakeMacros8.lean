/-
  Runs of makeMacros, by the kernel (9 of 9). No condition.
-/
import Derived.Test.YtbkilngeedbkpaaGreatDoorRunmakeMacros0
open Go Go.Mx
namespace Go.Proofs.YtbkilngeedbkpaaGreatDoor
set_option maxRecDepth 1000000
noncomputable section
theorem xm_w57f (τ : Nat → Nat) : xmRun τ (.cons (.w (atomsV 97 122 57 12 .nil)) (.cons (.b false) .nil)) 69 = true := by kernel_rfl
theorem xm_w53f (τ : Nat → Nat) : xmRun τ (.cons (.w (atomsV 97 122 53 12 .nil)) (.cons (.b false) .nil)) 65 = true := by kernel_rfl
theorem xm_w49f (τ : Nat → Nat) : xmRun τ (.cons (.w (atomsV 97 122 49 12 .nil)) (.cons (.b false) .nil)) 61 = true := by kernel_rfl
theorem xm_w45f (τ : Nat → Nat) : xmRun τ (.cons (.w (atomsV 97 122 45 12 .nil)) (.cons (.b false) .nil)) 57 = true := by kernel_rfl
theorem xm_w41f (τ : Nat → Nat) : xmRun τ (.cons (.w (atomsV 97 122 41 12 .nil)) (.cons (.b false) .nil)) 53 = true := by kernel_rfl
theorem xm_w37f (τ : Nat → Nat) : xmRun τ (.cons (.w (atomsV 97 122 37 12 .nil)) (.cons (.b false) .nil)) 49 = true := by kernel_rfl
theorem xm_w33f (τ : Nat → Nat) : xmRun τ (.cons (.w (atomsV 97 122 33 12 .nil)) (.cons (.b false) .nil)) 45 = true := by kernel_rfl
theorem xm_w29f (τ : Nat → Nat) : xmRun τ (.cons (.w (atomsV 97 122 29 12 .nil)) (.cons (.b false) .nil)) 41 = true := by kernel_rfl
theorem xm_w25f (τ : Nat → Nat) : xmRun τ (.cons (.w (atomsV 97 122 25 12 .nil)) (.cons (.b false) .nil)) 37 = true := by kernel_rfl
theorem xm_w21f (τ : Nat → Nat) : xmRun τ (.cons (.w (atomsV 97 122 21 12 .nil)) (.cons (.b false) .nil)) 33 = true := by kernel_rfl
theorem xm_w17f (τ : Nat → Nat) : xmRun τ (.cons (.w (atomsV 97 122 17 12 .nil)) (.cons (.b false) .nil)) 29 = true := by kernel_rfl
theorem xm_w13f (τ : Nat → Nat) : xmRun τ (.cons (.w (atomsV 97 122 13 12 .nil)) (.cons (.b false) .nil)) 25 = true := by kernel_rfl
theorem xm_w9f (τ : Nat → Nat) : xmRun τ (.cons (.w (atomsV 97 122 9 12 .nil)) (.cons (.b false) .nil)) 21 = true := by kernel_rfl
theorem xm_w5f (τ : Nat → Nat) : xmRun τ (.cons (.w (atomsV 97 122 5 12 .nil)) (.cons (.b false) .nil)) 17 = true := by kernel_rfl
theorem xm_w1f (τ : Nat → Nat) : xmRun τ (.cons (.w (atomsV 97 122 1 12 .nil)) (.cons (.b false) .nil)) 13 = true := by kernel_rfl
end
end Go.Proofs.YtbkilngeedbkpaaGreatDoor
