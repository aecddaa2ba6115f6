/-
  Runs of expandDefaults, by the kernel (1 of 22). No condition.
-/
import Derived.Test.YtfmcnkepidedpaaGreatDoorHk
open Go Go.Mx
namespace Go.Proofs.YtfmcnkepidedpaaGreatDoor
set_option maxRecDepth 1000000
noncomputable section
def xdRun (τ : Nat → Nat) (a b v w : V) (nx : Nat) : Bool := mkTK τ tbl .leaf (fun h0 => run Tryz.prog 8 (hkL hkB) 100000 3 (.cons a (.cons b (.cons v (.cons w .nil)))) h0 nx (fun v _ _ => isB true v) (fun _ _ _ => false))
theorem xd_an (m : Nat) (b : Int) (τ : Nat → Nat) : xdRun τ (.i .i64 (Int.negSucc m)) (.i .i64 b) .nil .nil 8 = true := by kernel_rfl
theorem xd_ab (m : Nat) (b : Int) (τ : Nat → Nat) : xdRun τ (.i .i64 (Int.ofNat (m + 3))) (.i .i64 b) .nil .nil 8 = true := by kernel_rfl
theorem xd_bn (m : Nat) (τ : Nat → Nat) : xdRun τ (.x (8) .i64 0 2) (.i .i64 (Int.negSucc m)) .nil .nil 9 = true := by kernel_rfl
theorem xd_bb (m : Nat) (τ : Nat → Nat) : xdRun τ (.x (8) .i64 0 2) (.i .i64 (Int.ofNat (m + 8))) .nil .nil 9 = true := by kernel_rfl
theorem xd_e (τ : Nat → Nat) : xdRun τ (.x (8) .i64 0 2) (.x (9) .i64 0 7) (.s []) .nil 10 = true := by kernel_rfl
theorem xd_l (τ : Nat → Nat) : xdRun τ (.x (9) .i64 0 2) (.x (10) .i64 0 7) (elV 8 61 9223372036854775807) .nil 11 = true := by kernel_rfl
theorem xd_wl (τ : Nat → Nat) : xdRun τ (.x (10) .i64 0 2) (.x (11) .i64 0 7) (elV 9 1 60) (.y .nil 8 61 9223372036854775807) 12 = true := by kernel_rfl
theorem xd_flo (τ : Nat → Nat) : allN 60 (fun k => xdRun τ (.x (8 + (k + 3)) .i64 0 2) (.x (8 + (k + 4)) .i64 0 7) (elV (8 + (k + 2)) 1 60) (.y (atomsV 97 122 k 8 (.cons (.x (8 + k) .u8 0 96) .nil)) (8 + (k + 1)) (k + 1) 60) (8 + (k + 5))) = true := by kernel_rfl
theorem xd_fhi (τ : Nat → Nat) : allN 60 (fun k => xdRun τ (.x (8 + (k + 3)) .i64 0 2) (.x (8 + (k + 4)) .i64 0 7) (elV (8 + (k + 2)) 1 60) (.y (atomsV 97 122 k 8 (.cons (.x (8 + k) .u8 123 255) .nil)) (8 + (k + 1)) (k + 1) 60) (8 + (k + 5))) = true := by kernel_rfl
end
end Go.Proofs.YtfmcnkepidedpaaGreatDoor
