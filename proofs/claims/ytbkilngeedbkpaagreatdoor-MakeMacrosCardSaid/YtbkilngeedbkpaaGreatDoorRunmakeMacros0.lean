/-
  Runs of makeMacros, by the kernel (1 of 9). No condition.
-/
import Derived.Test.YtbkilngeedbkpaaGreatDoorHkJ
open Go Go.Mx
namespace Go.Proofs.YtbkilngeedbkpaaGreatDoor
set_option maxRecDepth 1000000
noncomputable section
def xmRun (τ : Nat → Nat) (args : V) (nx : Nat) : Bool := mkTK τ tbl .leaf (fun h0 => run Tryz.prog 12 (hkL hkJ) 100000 4 args h0 nx (fun v _ _ => isB true v) (fun _ _ _ => false))
theorem xm_flo (g : Bool) (τ : Nat → Nat) : allN 60 (fun k => xmRun τ (.cons (.y (atomsV 97 122 k 12 (.cons (.x (12 + k) .u8 0 96) .nil)) (12 + k + 1) (k + 1) 60) (.cons (.b g) .nil)) (12 + k + 2)) = true := by kernel_rfl
theorem xm_fhi (g : Bool) (τ : Nat → Nat) : allN 60 (fun k => xmRun τ (.cons (.y (atomsV 97 122 k 12 (.cons (.x (12 + k) .u8 123 255) .nil)) (12 + k + 1) (k + 1) 60) (.cons (.b g) .nil)) (12 + k + 2)) = true := by kernel_rfl
theorem xm_l (g : Bool) (τ : Nat → Nat) : xmRun τ (.cons (.y .nil 12 61 9223372036854775807) (.cons (.b g) .nil)) 13 = true := by kernel_rfl
end
end Go.Proofs.YtbkilngeedbkpaaGreatDoor
