/-
  Runs of makeMacros, by the kernel (6 of 9). No condition.
-/
import Derived.Test.YtbkilngeedbkpaaGreatDoorRunmakeMacros0
open Go Go.Mx
namespace Go.Proofs.YtbkilngeedbkpaaGreatDoor
set_option maxRecDepth 1000000
noncomputable section
theorem xm_w58t (τ : Nat → Nat) : xmRun τ (.cons (.w (atomsV 97 122 58 12 .nil)) (.cons (.b true) .nil)) 70 = true := by kernel_rfl
theorem xm_w54t (τ : Nat → Nat) : xmRun τ (.cons (.w (atomsV 97 122 54 12 .nil)) (.cons (.b true) .nil)) 66 = true := by kernel_rfl
theorem xm_w50t (τ : Nat → Nat) : xmRun τ (.cons (.w (atomsV 97 122 50 12 .nil)) (.cons (.b true) .nil)) 62 = true := by kernel_rfl
theorem xm_w46t (τ : Nat → Nat) : xmRun τ (.cons (.w (atomsV 97 122 46 12 .nil)) (.cons (.b true) .nil)) 58 = true := by kernel_rfl
theorem xm_w42t (τ : Nat → Nat) : xmRun τ (.cons (.w (atomsV 97 122 42 12 .nil)) (.cons (.b true) .nil)) 54 = true := by kernel_rfl
theorem xm_w38t (τ : Nat → Nat) : xmRun τ (.cons (.w (atomsV 97 122 38 12 .nil)) (.cons (.b true) .nil)) 50 = true := by kernel_rfl
theorem xm_w34t (τ : Nat → Nat) : xmRun τ (.cons (.w (atomsV 97 122 34 12 .nil)) (.cons (.b true) .nil)) 46 = true := by kernel_rfl
theorem xm_w30t (τ : Nat → Nat) : xmRun τ (.cons (.w (atomsV 97 122 30 12 .nil)) (.cons (.b true) .nil)) 42 = true := by kernel_rfl
theorem xm_w26t (τ : Nat → Nat) : xmRun τ (.cons (.w (atomsV 97 122 26 12 .nil)) (.cons (.b true) .nil)) 38 = true := by kernel_rfl
theorem xm_w22t (τ : Nat → Nat) : xmRun τ (.cons (.w (atomsV 97 122 22 12 .nil)) (.cons (.b true) .nil)) 34 = true := by kernel_rfl
theorem xm_w18t (τ : Nat → Nat) : xmRun τ (.cons (.w (atomsV 97 122 18 12 .nil)) (.cons (.b true) .nil)) 30 = true := by kernel_rfl
theorem xm_w14t (τ : Nat → Nat) : xmRun τ (.cons (.w (atomsV 97 122 14 12 .nil)) (.cons (.b true) .nil)) 26 = true := by kernel_rfl
theorem xm_w10t (τ : Nat → Nat) : xmRun τ (.cons (.w (atomsV 97 122 10 12 .nil)) (.cons (.b true) .nil)) 22 = true := by kernel_rfl
theorem xm_w6t (τ : Nat → Nat) : xmRun τ (.cons (.w (atomsV 97 122 6 12 .nil)) (.cons (.b true) .nil)) 18 = true := by kernel_rfl
theorem xm_w2t (τ : Nat → Nat) : xmRun τ (.cons (.w (atomsV 97 122 2 12 .nil)) (.cons (.b true) .nil)) 14 = true := by kernel_rfl
end
end Go.Proofs.YtbkilngeedbkpaaGreatDoor
