/-
  Runs of makeMacros, by the kernel (5 of 9). No condition.
-/
import Derived.Test.YtbkilngeedbkpaaGreatDoorRunmakeMacros0
open Go Go.Mx
namespace Go.Proofs.YtbkilngeedbkpaaGreatDoor
set_option maxRecDepth 1000000
noncomputable section
theorem xm_w59f (τ : Nat → Nat) : xmRun τ (.cons (.w (atomsV 97 122 59 12 .nil)) (.cons (.b false) .nil)) 71 = true := by kernel_rfl
theorem xm_w55f (τ : Nat → Nat) : xmRun τ (.cons (.w (atomsV 97 122 55 12 .nil)) (.cons (.b false) .nil)) 67 = true := by kernel_rfl
theorem xm_w51f (τ : Nat → Nat) : xmRun τ (.cons (.w (atomsV 97 122 51 12 .nil)) (.cons (.b false) .nil)) 63 = true := by kernel_rfl
theorem xm_w47f (τ : Nat → Nat) : xmRun τ (.cons (.w (atomsV 97 122 47 12 .nil)) (.cons (.b false) .nil)) 59 = true := by kernel_rfl
theorem xm_w43f (τ : Nat → Nat) : xmRun τ (.cons (.w (atomsV 97 122 43 12 .nil)) (.cons (.b false) .nil)) 55 = true := by kernel_rfl
theorem xm_w39f (τ : Nat → Nat) : xmRun τ (.cons (.w (atomsV 97 122 39 12 .nil)) (.cons (.b false) .nil)) 51 = true := by kernel_rfl
theorem xm_w35f (τ : Nat → Nat) : xmRun τ (.cons (.w (atomsV 97 122 35 12 .nil)) (.cons (.b false) .nil)) 47 = true := by kernel_rfl
theorem xm_w31f (τ : Nat → Nat) : xmRun τ (.cons (.w (atomsV 97 122 31 12 .nil)) (.cons (.b false) .nil)) 43 = true := by kernel_rfl
theorem xm_w27f (τ : Nat → Nat) : xmRun τ (.cons (.w (atomsV 97 122 27 12 .nil)) (.cons (.b false) .nil)) 39 = true := by kernel_rfl
theorem xm_w23f (τ : Nat → Nat) : xmRun τ (.cons (.w (atomsV 97 122 23 12 .nil)) (.cons (.b false) .nil)) 35 = true := by kernel_rfl
theorem xm_w19f (τ : Nat → Nat) : xmRun τ (.cons (.w (atomsV 97 122 19 12 .nil)) (.cons (.b false) .nil)) 31 = true := by kernel_rfl
theorem xm_w15f (τ : Nat → Nat) : xmRun τ (.cons (.w (atomsV 97 122 15 12 .nil)) (.cons (.b false) .nil)) 27 = true := by kernel_rfl
theorem xm_w11f (τ : Nat → Nat) : xmRun τ (.cons (.w (atomsV 97 122 11 12 .nil)) (.cons (.b false) .nil)) 23 = true := by kernel_rfl
theorem xm_w7f (τ : Nat → Nat) : xmRun τ (.cons (.w (atomsV 97 122 7 12 .nil)) (.cons (.b false) .nil)) 19 = true := by kernel_rfl
theorem xm_w3f (τ : Nat → Nat) : xmRun τ (.cons (.w (atomsV 97 122 3 12 .nil)) (.cons (.b false) .nil)) 15 = true := by kernel_rfl
end
end Go.Proofs.YtbkilngeedbkpaaGreatDoor
