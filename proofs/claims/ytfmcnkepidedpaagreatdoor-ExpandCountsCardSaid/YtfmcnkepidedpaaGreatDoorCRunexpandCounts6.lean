/-
  Runs of expandCounts, by the kernel (7 of 8). No condition.
-/
import Derived.Test.YtfmcnkepidedpaaGreatDoorCRunexpandCounts0
open Go Go.Mx
namespace Go.Proofs.YtfmcnkepidedpaaGreatDoor
set_option maxRecDepth 1000000
noncomputable section
theorem ec_e29 (ty : Nat) (τ : Nat → Nat) (C : O → Bool) : ecRunP τ C (.s []) (.sl 8 0 29 1) (anyV 38) (elsV 0 9223372036854775807 29 9 .nil) ty 39 = C (.v powV (τ 1)) := by kernel_rfl
theorem ec_n26 (ty : Nat) (τ : Nat → Nat) (C : O → Bool) : ecRunP τ C (nzV 35 36 299) (.sl 8 0 26 1) (anyV 37) (elsV 0 9223372036854775807 26 9 .nil) ty 38 = C (.v powV (τ 1)) := by kernel_rfl
theorem ec_e22 (ty : Nat) (τ : Nat → Nat) (C : O → Bool) : ecRunP τ C (.s []) (.sl 8 0 22 1) (anyV 31) (elsV 0 9223372036854775807 22 9 .nil) ty 32 = C (.v powV (τ 1)) := by kernel_rfl
theorem ec_n19 (ty : Nat) (τ : Nat → Nat) (C : O → Bool) : ecRunP τ C (nzV 28 29 299) (.sl 8 0 19 1) (anyV 30) (elsV 0 9223372036854775807 19 9 .nil) ty 31 = C (.v powV (τ 1)) := by kernel_rfl
theorem ec_e15 (ty : Nat) (τ : Nat → Nat) (C : O → Bool) : ecRunP τ C (.s []) (.sl 8 0 15 1) (anyV 24) (elsV 0 9223372036854775807 15 9 .nil) ty 25 = C (.v powV (τ 1)) := by kernel_rfl
theorem ec_n12 (ty : Nat) (τ : Nat → Nat) (C : O → Bool) : ecRunP τ C (nzV 21 22 299) (.sl 8 0 12 1) (anyV 23) (elsV 0 9223372036854775807 12 9 .nil) ty 24 = C (.v powV (τ 1)) := by kernel_rfl
theorem ec_e8 (ty : Nat) (τ : Nat → Nat) (C : O → Bool) : ecRunP τ C (.s []) (.sl 8 0 8 1) (anyV 17) (elsV 0 9223372036854775807 8 9 .nil) ty 18 = C (.v powV (τ 1)) := by kernel_rfl
theorem ec_n5 (ty : Nat) (τ : Nat → Nat) (C : O → Bool) : ecRunP τ C (nzV 14 15 299) (.sl 8 0 5 1) (anyV 16) (elsV 0 9223372036854775807 5 9 .nil) ty 17 = C (.v powV (τ 1)) := by kernel_rfl
theorem ec_e1 (ty : Nat) (τ : Nat → Nat) (C : O → Bool) : ecRunP τ C (.s []) (.sl 8 0 1 1) (anyV 10) (elsV 0 9223372036854775807 1 9 .nil) ty 11 = C (.v powV (τ 1)) := by kernel_rfl
end
end Go.Proofs.YtfmcnkepidedpaaGreatDoor
