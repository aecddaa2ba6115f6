/-
  Runs of expandSums, by the kernel (3 of 3). No condition.
-/
import Derived.Test.YtoflpofblogmcaaGreatDoorRunD
open Go Go.Mx
namespace Go.Proofs.YtoflpofblogmcaaGreatDoor
set_option maxRecDepth 1000000
noncomputable section
theorem es_mnf (τ : Nat → Nat) (C : O → Bool) : esRunP τ C (.i .i64 (Int.negSucc 9223372036854775807)) (rngV 10 18446744073709551613 1) (.b false) = C (.v powV (τ 1)) := by kernel_rfl
theorem es_mpt (τ : Nat → Nat) (C : O → Bool) : esRunP τ C (.i .i64 (Int.negSucc 9223372036854775807)) (rngV 10 0 18446744073709551614) (.b true) = C (.v powV (τ 1)) := by kernel_rfl
theorem es_nnf (τ : Nat → Nat) (C : O → Bool) : esRunP τ C (rngV 9 18446744073709551613 1) (rngV 10 18446744073709551613 1) (.b false) = C (.v powV (τ 1)) := by kernel_rfl
theorem es_npt (τ : Nat → Nat) (C : O → Bool) : esRunP τ C (rngV 9 18446744073709551613 1) (rngV 10 0 18446744073709551614) (.b true) = C (.v powV (τ 1)) := by kernel_rfl
theorem es_pnf (τ : Nat → Nat) (C : O → Bool) : esRunP τ C (rngV 9 0 18446744073709551614) (rngV 10 18446744073709551613 1) (.b false) = C (.v powV (τ 1)) := by kernel_rfl
theorem es_ppt (τ : Nat → Nat) (C : O → Bool) : esRunP τ C (rngV 9 0 18446744073709551614) (rngV 10 0 18446744073709551614) (.b true) = C (.v powV (τ 1)) := by kernel_rfl
end
end Go.Proofs.YtoflpofblogmcaaGreatDoor
