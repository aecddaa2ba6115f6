/-
  Runs of makeMacros, by the kernel (2 of 9). No condition.
-/
import Derived.Test.YtbkilngeedbkpaaGreatDoorRunmakeMacros0
open Go Go.Mx
namespace Go.Proofs.YtbkilngeedbkpaaGreatDoor
set_option maxRecDepth 1000000
noncomputable section
theorem xm_w60t (τ : Nat → Nat) : xmRun τ (.cons (.w (atomsV 97 122 60 12 .nil)) (.cons (.b true) .nil)) 72 = true := by kernel_rfl
theorem xm_w56t (τ : Nat → Nat) : xmRun τ (.cons (.w (atomsV 97 122 56 12 .nil)) (.cons (.b true) .nil)) 68 = true := by kernel_rfl
theorem xm_w52t (τ : Nat → Nat) : xmRun τ (.cons (.w (atomsV 97 122 52 12 .nil)) (.cons (.b true) .nil)) 64 = true := by kernel_rfl
theorem xm_w48t (τ : Nat → Nat) : xmRun τ (.cons (.w (atomsV 97 122 48 12 .nil)) (.cons (.b true) .nil)) 60 = true := by kernel_rfl
theorem xm_w44t (τ : Nat → Nat) : xmRun τ (.cons (.w (atomsV 97 122 44 12 .nil)) (.cons (.b true) .nil)) 56 = true := by kernel_rfl
theorem xm_w40t (τ : Nat → Nat) : xmRun τ (.cons (.w (atomsV 97 122 40 12 .nil)) (.cons (.b true) .nil)) 52 = true := by kernel_rfl
theorem xm_w36t (τ : Nat → Nat) : xmRun τ (.cons (.w (atomsV 97 122 36 12 .nil)) (.cons (.b true) .nil)) 48 = true := by kernel_rfl
theorem xm_w32t (τ : Nat → Nat) : xmRun τ (.cons (.w (atomsV 97 122 32 12 .nil)) (.cons (.b true) .nil)) 44 = true := by kernel_rfl
theorem xm_w28t (τ : Nat → Nat) : xmRun τ (.cons (.w (atomsV 97 122 28 12 .nil)) (.cons (.b true) .nil)) 40 = true := by kernel_rfl
theorem xm_w24t (τ : Nat → Nat) : xmRun τ (.cons (.w (atomsV 97 122 24 12 .nil)) (.cons (.b true) .nil)) 36 = true := by kernel_rfl
theorem xm_w20t (τ : Nat → Nat) : xmRun τ (.cons (.w (atomsV 97 122 20 12 .nil)) (.cons (.b true) .nil)) 32 = true := by kernel_rfl
theorem xm_w16t (τ : Nat → Nat) : xmRun τ (.cons (.w (atomsV 97 122 16 12 .nil)) (.cons (.b true) .nil)) 28 = true := by kernel_rfl
theorem xm_w12t (τ : Nat → Nat) : xmRun τ (.cons (.w (atomsV 97 122 12 12 .nil)) (.cons (.b true) .nil)) 24 = true := by kernel_rfl
theorem xm_w8t (τ : Nat → Nat) : xmRun τ (.cons (.w (atomsV 97 122 8 12 .nil)) (.cons (.b true) .nil)) 20 = true := by kernel_rfl
theorem xm_w4t (τ : Nat → Nat) : xmRun τ (.cons (.w (atomsV 97 122 4 12 .nil)) (.cons (.b true) .nil)) 16 = true := by kernel_rfl
theorem xm_w0t (τ : Nat → Nat) : xmRun τ (.cons (.w (atomsV 97 122 0 12 .nil)) (.cons (.b true) .nil)) 12 = true := by kernel_rfl
end
end Go.Proofs.YtbkilngeedbkpaaGreatDoor
