/-
  Runs of execNone, by the kernel (1 of 4). No condition.
-/
import Derived.Test.YtidfafhlcmfdeaaGreatDoorHk
open Go Go.Mx
namespace Go.Proofs.YtidfafhlcmfdeaaGreatDoor
set_option maxRecDepth 1000000
noncomputable section
def xnRun (τ : Nat → Nat) (args : V) (nx : Nat) : Bool := mkTK τ tbl .leaf (fun h0 => run Tryz.prog 12 (hkL hkB) 100000 3 args h0 nx (fun v _ _ => isB true v) (fun _ _ _ => false))
theorem xn_flo (τ : Nat → Nat) : allN 40 (fun k => xnRun τ (.cons (.y (atomsV 97 122 k 12 (.cons (.x (12 + k) .u8 0 96) .nil)) (12 + k + 1) (k + 1) 40) .nil) (12 + k + 2)) = true := by kernel_rfl
theorem xn_fhi (τ : Nat → Nat) : allN 40 (fun k => xnRun τ (.cons (.y (atomsV 97 122 k 12 (.cons (.x (12 + k) .u8 123 255) .nil)) (12 + k + 1) (k + 1) 40) .nil) (12 + k + 2)) = true := by kernel_rfl
theorem xn_l (τ : Nat → Nat) : xnRun τ (.cons (.y .nil 12 41 9223372036854775807) .nil) 13 = true := by kernel_rfl
theorem xn_w0 (τ : Nat → Nat) : xnRun τ (.cons (.w (atomsV 97 122 0 12 .nil)) .nil) 12 = true := by kernel_rfl
theorem xn_w4 (τ : Nat → Nat) : xnRun τ (.cons (.w (atomsV 97 122 4 12 .nil)) .nil) 16 = true := by kernel_rfl
theorem xn_w8 (τ : Nat → Nat) : xnRun τ (.cons (.w (atomsV 97 122 8 12 .nil)) .nil) 20 = true := by kernel_rfl
theorem xn_w12 (τ : Nat → Nat) : xnRun τ (.cons (.w (atomsV 97 122 12 12 .nil)) .nil) 24 = true := by kernel_rfl
theorem xn_w16 (τ : Nat → Nat) : xnRun τ (.cons (.w (atomsV 97 122 16 12 .nil)) .nil) 28 = true := by kernel_rfl
theorem xn_w20 (τ : Nat → Nat) : xnRun τ (.cons (.w (atomsV 97 122 20 12 .nil)) .nil) 32 = true := by kernel_rfl
theorem xn_w24 (τ : Nat → Nat) : xnRun τ (.cons (.w (atomsV 97 122 24 12 .nil)) .nil) 36 = true := by kernel_rfl
theorem xn_w28 (τ : Nat → Nat) : xnRun τ (.cons (.w (atomsV 97 122 28 12 .nil)) .nil) 40 = true := by kernel_rfl
theorem xn_w32 (τ : Nat → Nat) : xnRun τ (.cons (.w (atomsV 97 122 32 12 .nil)) .nil) 44 = true := by kernel_rfl
theorem xn_w36 (τ : Nat → Nat) : xnRun τ (.cons (.w (atomsV 97 122 36 12 .nil)) .nil) 48 = true := by kernel_rfl
theorem xn_w40 (τ : Nat → Nat) : xnRun τ (.cons (.w (atomsV 97 122 40 12 .nil)) .nil) 52 = true := by kernel_rfl
end
end Go.Proofs.YtidfafhlcmfdeaaGreatDoor
