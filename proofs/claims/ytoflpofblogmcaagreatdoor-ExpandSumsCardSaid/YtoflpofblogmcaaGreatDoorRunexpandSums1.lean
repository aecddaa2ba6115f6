/-
  Runs of expandSums, by the kernel (2 of 3). No condition.
-/
import Derived.Test.YtoflpofblogmcaaGreatDoorRunD
open Go Go.Mx
namespace Go.Proofs.YtoflpofblogmcaaGreatDoor
set_option maxRecDepth 1000000
noncomputable section
theorem es_mmt (τ : Nat → Nat) (C : O → Bool) : esRunP τ C (.i .i64 (Int.negSucc 9223372036854775807)) (.i .i64 (Int.negSucc 9223372036854775807)) (.b true) = C (.v powV (τ 1)) := by kernel_rfl
theorem es_mpf (τ : Nat → Nat) (C : O → Bool) : esRunP τ C (.i .i64 (Int.negSucc 9223372036854775807)) (rngV 10 0 18446744073709551614) (.b false) = C (.v powV (τ 1)) := by kernel_rfl
theorem es_nmt (τ : Nat → Nat) (C : O → Bool) : esRunP τ C (rngV 9 18446744073709551613 1) (.i .i64 (Int.negSucc 9223372036854775807)) (.b true) = C (.v powV (τ 1)) := by kernel_rfl
theorem es_npf (τ : Nat → Nat) (C : O → Bool) : esRunP τ C (rngV 9 18446744073709551613 1) (rngV 10 0 18446744073709551614) (.b false) = C (.v powV (τ 1)) := by kernel_rfl
theorem es_pmt (τ : Nat → Nat) (C : O → Bool) : esRunP τ C (rngV 9 0 18446744073709551614) (.i .i64 (Int.negSucc 9223372036854775807)) (.b true) = C (.v powV (τ 1)) := by kernel_rfl
theorem es_ppf (τ : Nat → Nat) (C : O → Bool) : esRunP τ C (rngV 9 0 18446744073709551614) (rngV 10 0 18446744073709551614) (.b false) = C (.v powV (τ 1)) := by kernel_rfl
end
end Go.Proofs.YtoflpofblogmcaaGreatDoor
