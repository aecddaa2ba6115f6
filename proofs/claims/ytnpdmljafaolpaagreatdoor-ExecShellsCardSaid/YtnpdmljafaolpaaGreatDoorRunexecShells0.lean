/-
  Runs of execShells, by the kernel (1 of 7). No condition.
-/
import Derived.Test.YtnpdmljafaolpaaGreatDoorHkF
open Go Go.Mx
namespace Go.Proofs.YtnpdmljafaolpaaGreatDoor
set_option maxRecDepth 1000000
noncomputable section
def lk : LH := [(85, 5, 0, 0, 6, [23, 24, 25, 26, 27, 28, 29, 30, 31, 32, 33, 34, 35, 36, 37, 38, 39], 97, 122)]
def xhRun (τ : Nat → Nat) (args : V) (nx : Nat) : Bool := mkTK τ tbl .leaf (fun h0 => runL Tryz.prog 12 (hkL hkF) lk 100000 3 args h0 nx (fun v _ _ => isB true v) (fun _ _ _ => false))
theorem xh_2t (τ : Nat → Nat) : xhRun τ (.cons (formW M 97 122 58 60 12 2) (.cons (.b true) .nil)) (12 + 3) = true := by kernel_rfl
theorem xh_2f (τ : Nat → Nat) : xhRun τ (.cons (formW M 97 122 58 60 12 2) (.cons (.b false) .nil)) (12 + 3) = true := by kernel_rfl
theorem xh_3t (τ : Nat → Nat) : xhRun τ (.cons (formW M 97 122 58 60 12 3) (.cons (.b true) .nil)) (12 + 3) = true := by kernel_rfl
theorem xh_3f (τ : Nat → Nat) : xhRun τ (.cons (formW M 97 122 58 60 12 3) (.cons (.b false) .nil)) (12 + 3) = true := by kernel_rfl
theorem xh_4t (τ : Nat → Nat) : xhRun τ (.cons (formW M 97 122 58 60 12 4) (.cons (.b true) .nil)) (12 + 3) = true := by kernel_rfl
theorem xh_4f (τ : Nat → Nat) : xhRun τ (.cons (formW M 97 122 58 60 12 4) (.cons (.b false) .nil)) (12 + 3) = true := by kernel_rfl
end
end Go.Proofs.YtnpdmljafaolpaaGreatDoor
