/-
  Runs of makeMacros, by the kernel (7 of 9). No condition.
-/
import Derived.Test.YtbkilngeedbkpaaGreatDoorRunmakeMacros0
open Go Go.Mx
namespace Go.Proofs.YtbkilngeedbkpaaGreatDoor
set_option maxRecDepth 1000000
noncomputable section
theorem xm_w58f (τ : Nat → Nat) : xmRun τ (.cons (.w (atomsV 97 122 58 12 .nil)) (.cons (.b false) .nil)) 70 = true := by kernel_rfl
theorem xm_w54f (τ : Nat → Nat) : xmRun τ (.cons (.w (atomsV 97 122 54 12 .nil)) (.cons (.b false) .nil)) 66 = true := by kernel_rfl
theorem xm_w50f (τ : Nat → Nat) : xmRun τ (.cons (.w (atomsV 97 122 50 12 .nil)) (.cons (.b false) .nil)) 62 = true := by kernel_rfl
theorem xm_w46f (τ : Nat → Nat) : xmRun τ (.cons (.w (atomsV 97 122 46 12 .nil)) (.cons (.b false) .nil)) 58 = true := by kernel_rfl
theorem xm_w42f (τ : Nat → Nat) : xmRun τ (.cons (.w (atomsV 97 122 42 12 .nil)) (.cons (.b false) .nil)) 54 = true := by kernel_rfl
theorem xm_w38f (τ : Nat → Nat) : xmRun τ (.cons (.w (atomsV 97 122 38 12 .nil)) (.cons (.b false) .nil)) 50 = true := by kernel_rfl
theorem xm_w34f (τ : Nat → Nat) : xmRun τ (.cons (.w (atomsV 97 122 34 12 .nil)) (.cons (.b false) .nil)) 46 = true := by kernel_rfl
theorem xm_w30f (τ : Nat → Nat) : xmRun τ (.cons (.w (atomsV 97 122 30 12 .nil)) (.cons (.b false) .nil)) 42 = true := by kernel_rfl
theorem xm_w26f (τ : Nat → Nat) : xmRun τ (.cons (.w (atomsV 97 122 26 12 .nil)) (.cons (.b false) .nil)) 38 = true := by kernel_rfl
theorem xm_w22f (τ : Nat → Nat) : xmRun τ (.cons (.w (atomsV 97 122 22 12 .nil)) (.cons (.b false) .nil)) 34 = true := by kernel_rfl
theorem xm_w18f (τ : Nat → Nat) : xmRun τ (.cons (.w (atomsV 97 122 18 12 .nil)) (.cons (.b false) .nil)) 30 = true := by kernel_rfl
theorem xm_w14f (τ : Nat → Nat) : xmRun τ (.cons (.w (atomsV 97 122 14 12 .nil)) (.cons (.b false) .nil)) 26 = true := by kernel_rfl
theorem xm_w10f (τ : Nat → Nat) : xmRun τ (.cons (.w (atomsV 97 122 10 12 .nil)) (.cons (.b false) .nil)) 22 = true := by kernel_rfl
theorem xm_w6f (τ : Nat → Nat) : xmRun τ (.cons (.w (atomsV 97 122 6 12 .nil)) (.cons (.b false) .nil)) 18 = true := by kernel_rfl
theorem xm_w2f (τ : Nat → Nat) : xmRun τ (.cons (.w (atomsV 97 122 2 12 .nil)) (.cons (.b false) .nil)) 14 = true := by kernel_rfl
end
end Go.Proofs.YtbkilngeedbkpaaGreatDoor
