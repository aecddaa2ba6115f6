/-
  Runs of makeMacros, by the kernel (4 of 9). No condition.
-/
import Derived.Test.YtbkilngeedbkpaaGreatDoorRunmakeMacros0
open Go Go.Mx
namespace Go.Proofs.YtbkilngeedbkpaaGreatDoor
set_option maxRecDepth 1000000
noncomputable section
theorem xm_w59t (τ : Nat → Nat) : xmRun τ (.cons (.w (atomsV 97 122 59 12 .nil)) (.cons (.b true) .nil)) 71 = true := by kernel_rfl
theorem xm_w55t (τ : Nat → Nat) : xmRun τ (.cons (.w (atomsV 97 122 55 12 .nil)) (.cons (.b true) .nil)) 67 = true := by kernel_rfl
theorem xm_w51t (τ : Nat → Nat) : xmRun τ (.cons (.w (atomsV 97 122 51 12 .nil)) (.cons (.b true) .nil)) 63 = true := by kernel_rfl
theorem xm_w47t (τ : Nat → Nat) : xmRun τ (.cons (.w (atomsV 97 122 47 12 .nil)) (.cons (.b true) .nil)) 59 = true := by kernel_rfl
theorem xm_w43t (τ : Nat → Nat) : xmRun τ (.cons (.w (atomsV 97 122 43 12 .nil)) (.cons (.b true) .nil)) 55 = true := by kernel_rfl
theorem xm_w39t (τ : Nat → Nat) : xmRun τ (.cons (.w (atomsV 97 122 39 12 .nil)) (.cons (.b true) .nil)) 51 = true := by kernel_rfl
theorem xm_w35t (τ : Nat → Nat) : xmRun τ (.cons (.w (atomsV 97 122 35 12 .nil)) (.cons (.b true) .nil)) 47 = true := by kernel_rfl
theorem xm_w31t (τ : Nat → Nat) : xmRun τ (.cons (.w (atomsV 97 122 31 12 .nil)) (.cons (.b true) .nil)) 43 = true := by kernel_rfl
theorem xm_w27t (τ : Nat → Nat) : xmRun τ (.cons (.w (atomsV 97 122 27 12 .nil)) (.cons (.b true) .nil)) 39 = true := by kernel_rfl
theorem xm_w23t (τ : Nat → Nat) : xmRun τ (.cons (.w (atomsV 97 122 23 12 .nil)) (.cons (.b true) .nil)) 35 = true := by kernel_rfl
theorem xm_w19t (τ : Nat → Nat) : xmRun τ (.cons (.w (atomsV 97 122 19 12 .nil)) (.cons (.b true) .nil)) 31 = true := by kernel_rfl
theorem xm_w15t (τ : Nat → Nat) : xmRun τ (.cons (.w (atomsV 97 122 15 12 .nil)) (.cons (.b true) .nil)) 27 = true := by kernel_rfl
theorem xm_w11t (τ : Nat → Nat) : xmRun τ (.cons (.w (atomsV 97 122 11 12 .nil)) (.cons (.b true) .nil)) 23 = true := by kernel_rfl
theorem xm_w7t (τ : Nat → Nat) : xmRun τ (.cons (.w (atomsV 97 122 7 12 .nil)) (.cons (.b true) .nil)) 19 = true := by kernel_rfl
theorem xm_w3t (τ : Nat → Nat) : xmRun τ (.cons (.w (atomsV 97 122 3 12 .nil)) (.cons (.b true) .nil)) 15 = true := by kernel_rfl
end
end Go.Proofs.YtbkilngeedbkpaaGreatDoor
