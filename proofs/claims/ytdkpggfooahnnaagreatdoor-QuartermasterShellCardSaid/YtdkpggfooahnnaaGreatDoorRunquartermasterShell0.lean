/-
  Runs of quartermasterShell, by the kernel (1 of 6). No condition.
-/
import Derived.Test.YtdkpggfooahnnaaGreatDoorHkQ
import Derived.Test.YtdkpggfooahnnaaGreatDoorXMxAN
open Go Go.Mx
namespace Go.Proofs.YtdkpggfooahnnaaGreatDoor
set_option maxRecDepth 1000000
noncomputable section
def lk : LH := [(91, 6, 8, 0, 9, [37, 38, 39, 40, 41, 42, 43, 44, 45, 46, 47, 48, 49, 50, 51, 52, 53], 97, 122)]
def xqRun (hk : List (Nat × HookF)) (τ : Nat → Nat) (a b z : V) : Bool := mkTK τ tbl .leaf (fun h0 => runL Tryz.prog 12 (hkL hk) lk 100000 5 (.cons a (.cons b (.cons z .nil))) h0 20 (fun v _ _ => isB true v) (fun _ _ _ => false))
theorem xq_a4 (τ : Nat → Nat) : xqRun hkS0 τ (formV M 97 122 40 12 4) .nil .nil = true := by kernel_rfl
theorem xq_b4 (τ : Nat → Nat) : xqRun hkS0 τ (anyS 12 0 40) (.y .nil (12 + 3) 41 9223372036854775807) .nil = true := by kernel_rfl
theorem xq_ng (m : Nat) (τ : Nat → Nat) : xqRun hkS0 τ (anyS 12 0 40) (anyS (12 + 3) 0 40) (.i .i64 (Int.negSucc m)) = true := by kernel_rfl
theorem xq_bg (m : Nat) (τ : Nat → Nat) : xqRun hkS0 τ (anyS 12 0 40) (anyS (12 + 3) 0 40) (.i .i64 (Int.ofNat (m + 256))) = true := by kernel_rfl
theorem xq_st (τ : Nat → Nat) : allN 40 (fun k => xqRun hkS0 τ (formS M 97 122 40 12 k true) (anyS (12 + 3) 0 40) (.x 18 .i64 0 255)) = true := by kernel_rfl
theorem xq_t0t (τ : Nat → Nat) : allN 40 (fun k => xqRun hkS0 τ (formV M 97 122 40 12 0) (formS M 97 122 40 (12 + 3) k true) (.x 18 .i64 0 255)) = true := by kernel_rfl
theorem xq_t1t (τ : Nat → Nat) : allN 40 (fun k => xqRun hkS0 τ (formV M 97 122 40 12 1) (formS M 97 122 40 (12 + 3) k true) (.x 18 .i64 0 255)) = true := by kernel_rfl
theorem xq_sf (τ : Nat → Nat) : allN 40 (fun k => xqRun hkS0 τ (formS M 97 122 40 12 k false) (anyS (12 + 3) 0 40) (.x 18 .i64 0 255)) = true := by kernel_rfl
theorem xq_t0f (τ : Nat → Nat) : allN 40 (fun k => xqRun hkS0 τ (formV M 97 122 40 12 0) (formS M 97 122 40 (12 + 3) k false) (.x 18 .i64 0 255)) = true := by kernel_rfl
theorem xq_t1f (τ : Nat → Nat) : allN 40 (fun k => xqRun hkS0 τ (formV M 97 122 40 12 1) (formS M 97 122 40 (12 + 3) k false) (.x 18 .i64 0 255)) = true := by kernel_rfl
end
end Go.Proofs.YtdkpggfooahnnaaGreatDoor
