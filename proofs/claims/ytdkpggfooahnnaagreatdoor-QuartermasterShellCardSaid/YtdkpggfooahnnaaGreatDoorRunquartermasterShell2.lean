/-
  Runs of quartermasterShell, by the kernel (3 of 6). No condition.
-/
import Derived.Test.YtdkpggfooahnnaaGreatDoorRunquartermasterShell0
open Go Go.Mx
namespace Go.Proofs.YtdkpggfooahnnaaGreatDoor
set_option maxRecDepth 1000000
noncomputable section
theorem xq_h11_1 (τ : Nat → Nat) : xqRun hkS1 τ (formV M 97 122 40 12 1) (formV M 97 122 40 (12 + 3) 1) (.o 2 (t1V 18 49 57 0 48) 3 0 0) = true := by kernel_rfl
theorem xq_h10_0 (τ : Nat → Nat) : xqRun hkS0 τ (formV M 97 122 40 12 1) (formV M 97 122 40 (12 + 3) 0) (.i .i64 (Int.ofNat 0)) = true := by kernel_rfl
theorem xq_h10_5 (τ : Nat → Nat) : xqRun hkS5 τ (formV M 97 122 40 12 1) (formV M 97 122 40 (12 + 3) 0) (.o 2 (t1V 18 48 53 202 0) 3 0 0) = true := by kernel_rfl
theorem xq_h01_4 (τ : Nat → Nat) : xqRun hkS4 τ (formV M 97 122 40 12 0) (formV M 97 122 40 (12 + 3) 1) (.o 2 (t2V 18 48 52 19 48 57 0 328) 3 0 0) = true := by kernel_rfl
theorem xq_h00_3 (τ : Nat → Nat) : xqRun hkS3 τ (formV M 97 122 40 12 0) (formV M 97 122 40 (12 + 3) 0) (.o 2 (t2V 18 48 57 19 48 57 0 428) 3 0 0) = true := by kernel_rfl
end
end Go.Proofs.YtdkpggfooahnnaaGreatDoor
