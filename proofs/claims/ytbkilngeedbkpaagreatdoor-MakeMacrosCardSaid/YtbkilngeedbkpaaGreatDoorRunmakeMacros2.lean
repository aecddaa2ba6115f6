/-
  Runs of makeMacros, by the kernel (3 of 9). No condition.
-/
import Derived.Test.YtbkilngeedbkpaaGreatDoorRunmakeMacros0
open Go Go.Mx
namespace Go.Proofs.YtbkilngeedbkpaaGreatDoor
set_option maxRecDepth 1000000
noncomputable section
theorem xm_w60f (τ : Nat → Nat) : xmRun τ (.cons (.w (atomsV 97 122 60 12 .nil)) (.cons (.b false) .nil)) 72 = true := by kernel_rfl
theorem xm_w56f (τ : Nat → Nat) : xmRun τ (.cons (.w (atomsV 97 122 56 12 .nil)) (.cons (.b false) .nil)) 68 = true := by kernel_rfl
theorem xm_w52f (τ : Nat → Nat) : xmRun τ (.cons (.w (atomsV 97 122 52 12 .nil)) (.cons (.b false) .nil)) 64 = true := by kernel_rfl
theorem xm_w48f (τ : Nat → Nat) : xmRun τ (.cons (.w (atomsV 97 122 48 12 .nil)) (.cons (.b false) .nil)) 60 = true := by kernel_rfl
theorem xm_w44f (τ : Nat → Nat) : xmRun τ (.cons (.w (atomsV 97 122 44 12 .nil)) (.cons (.b false) .nil)) 56 = true := by kernel_rfl
theorem xm_w40f (τ : Nat → Nat) : xmRun τ (.cons (.w (atomsV 97 122 40 12 .nil)) (.cons (.b false) .nil)) 52 = true := by kernel_rfl
theorem xm_w36f (τ : Nat → Nat) : xmRun τ (.cons (.w (atomsV 97 122 36 12 .nil)) (.cons (.b false) .nil)) 48 = true := by kernel_rfl
theorem xm_w32f (τ : Nat → Nat) : xmRun τ (.cons (.w (atomsV 97 122 32 12 .nil)) (.cons (.b false) .nil)) 44 = true := by kernel_rfl
theorem xm_w28f (τ : Nat → Nat) : xmRun τ (.cons (.w (atomsV 97 122 28 12 .nil)) (.cons (.b false) .nil)) 40 = true := by kernel_rfl
theorem xm_w24f (τ : Nat → Nat) : xmRun τ (.cons (.w (atomsV 97 122 24 12 .nil)) (.cons (.b false) .nil)) 36 = true := by kernel_rfl
theorem xm_w20f (τ : Nat → Nat) : xmRun τ (.cons (.w (atomsV 97 122 20 12 .nil)) (.cons (.b false) .nil)) 32 = true := by kernel_rfl
theorem xm_w16f (τ : Nat → Nat) : xmRun τ (.cons (.w (atomsV 97 122 16 12 .nil)) (.cons (.b false) .nil)) 28 = true := by kernel_rfl
theorem xm_w12f (τ : Nat → Nat) : xmRun τ (.cons (.w (atomsV 97 122 12 12 .nil)) (.cons (.b false) .nil)) 24 = true := by kernel_rfl
theorem xm_w8f (τ : Nat → Nat) : xmRun τ (.cons (.w (atomsV 97 122 8 12 .nil)) (.cons (.b false) .nil)) 20 = true := by kernel_rfl
theorem xm_w4f (τ : Nat → Nat) : xmRun τ (.cons (.w (atomsV 97 122 4 12 .nil)) (.cons (.b false) .nil)) 16 = true := by kernel_rfl
theorem xm_w0f (τ : Nat → Nat) : xmRun τ (.cons (.w (atomsV 97 122 0 12 .nil)) (.cons (.b false) .nil)) 12 = true := by kernel_rfl
end
end Go.Proofs.YtbkilngeedbkpaaGreatDoor
