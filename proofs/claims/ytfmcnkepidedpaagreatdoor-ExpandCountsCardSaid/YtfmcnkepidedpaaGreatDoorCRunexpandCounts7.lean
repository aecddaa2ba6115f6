/-
  Runs of expandCounts, by the kernel (8 of 8). No condition.
-/
import Derived.Test.YtfmcnkepidedpaaGreatDoorCRunexpandCounts0
open Go Go.Mx
namespace Go.Proofs.YtfmcnkepidedpaaGreatDoor
set_option maxRecDepth 1000000
noncomputable section
theorem ec_n29 (ty : Nat) (τ : Nat → Nat) (C : O → Bool) : ecRunP τ C (nzV 38 39 299) (.sl 8 0 29 1) (anyV 40) (elsV 0 9223372036854775807 29 9 .nil) ty 41 = C (.v powV (τ 1)) := by kernel_rfl
theorem ec_e25 (ty : Nat) (τ : Nat → Nat) (C : O → Bool) : ecRunP τ C (.s []) (.sl 8 0 25 1) (anyV 34) (elsV 0 9223372036854775807 25 9 .nil) ty 35 = C (.v powV (τ 1)) := by kernel_rfl
theorem ec_n22 (ty : Nat) (τ : Nat → Nat) (C : O → Bool) : ecRunP τ C (nzV 31 32 299) (.sl 8 0 22 1) (anyV 33) (elsV 0 9223372036854775807 22 9 .nil) ty 34 = C (.v powV (τ 1)) := by kernel_rfl
theorem ec_e18 (ty : Nat) (τ : Nat → Nat) (C : O → Bool) : ecRunP τ C (.s []) (.sl 8 0 18 1) (anyV 27) (elsV 0 9223372036854775807 18 9 .nil) ty 28 = C (.v powV (τ 1)) := by kernel_rfl
theorem ec_n15 (ty : Nat) (τ : Nat → Nat) (C : O → Bool) : ecRunP τ C (nzV 24 25 299) (.sl 8 0 15 1) (anyV 26) (elsV 0 9223372036854775807 15 9 .nil) ty 27 = C (.v powV (τ 1)) := by kernel_rfl
theorem ec_e11 (ty : Nat) (τ : Nat → Nat) (C : O → Bool) : ecRunP τ C (.s []) (.sl 8 0 11 1) (anyV 20) (elsV 0 9223372036854775807 11 9 .nil) ty 21 = C (.v powV (τ 1)) := by kernel_rfl
theorem ec_n8 (ty : Nat) (τ : Nat → Nat) (C : O → Bool) : ecRunP τ C (nzV 17 18 299) (.sl 8 0 8 1) (anyV 19) (elsV 0 9223372036854775807 8 9 .nil) ty 20 = C (.v powV (τ 1)) := by kernel_rfl
theorem ec_e4 (ty : Nat) (τ : Nat → Nat) (C : O → Bool) : ecRunP τ C (.s []) (.sl 8 0 4 1) (anyV 13) (elsV 0 9223372036854775807 4 9 .nil) ty 14 = C (.v powV (τ 1)) := by kernel_rfl
theorem ec_n1 (ty : Nat) (τ : Nat → Nat) (C : O → Bool) : ecRunP τ C (nzV 10 11 299) (.sl 8 0 1 1) (anyV 12) (elsV 0 9223372036854775807 1 9 .nil) ty 13 = C (.v powV (τ 1)) := by kernel_rfl
end
end Go.Proofs.YtfmcnkepidedpaaGreatDoor
