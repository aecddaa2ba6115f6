/-
  Runs of expandSums, by the kernel (1 of 3). No condition.
-/
import Derived.Test.YtoflpofblogmcaaGreatDoorRunD
open Go Go.Mx
namespace Go.Proofs.YtoflpofblogmcaaGreatDoor
set_option maxRecDepth 1000000
noncomputable section
theorem es_mmf (τ : Nat → Nat) (C : O → Bool) : esRunP τ C (.i .i64 (Int.negSucc 9223372036854775807)) (.i .i64 (Int.negSucc 9223372036854775807)) (.b false) = C (.v powV (τ 1)) := by kernel_rfl
theorem es_mnt (τ : Nat → Nat) (C : O → Bool) : esRunP τ C (.i .i64 (Int.negSucc 9223372036854775807)) (rngV 10 18446744073709551613 1) (.b true) = C (.v powV (τ 1)) := by kernel_rfl
theorem es_nmf (τ : Nat → Nat) (C : O → Bool) : esRunP τ C (rngV 9 18446744073709551613 1) (.i .i64 (Int.negSucc 9223372036854775807)) (.b false) = C (.v powV (τ 1)) := by kernel_rfl
theorem es_nnt (τ : Nat → Nat) (C : O → Bool) : esRunP τ C (rngV 9 18446744073709551613 1) (rngV 10 18446744073709551613 1) (.b true) = C (.v powV (τ 1)) := by kernel_rfl
theorem es_pmf (τ : Nat → Nat) (C : O → Bool) : esRunP τ C (rngV 9 0 18446744073709551614) (.i .i64 (Int.negSucc 9223372036854775807)) (.b false) = C (.v powV (τ 1)) := by kernel_rfl
theorem es_pnt (τ : Nat → Nat) (C : O → Bool) : esRunP τ C (rngV 9 0 18446744073709551614) (rngV 10 18446744073709551613 1) (.b true) = C (.v powV (τ 1)) := by kernel_rfl
end
end Go.Proofs.YtoflpofblogmcaaGreatDoor
