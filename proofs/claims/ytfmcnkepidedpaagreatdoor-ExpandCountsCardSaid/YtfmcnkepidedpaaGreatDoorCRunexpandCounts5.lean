/-
  Runs of expandCounts, by the kernel (6 of 8). No condition.
-/
import Derived.Test.YtfmcnkepidedpaaGreatDoorCRunexpandCounts0
open Go Go.Mx
namespace Go.Proofs.YtfmcnkepidedpaaGreatDoor
set_option maxRecDepth 1000000
noncomputable section
theorem ec_n30 (ty : Nat) (τ : Nat → Nat) (C : O → Bool) : ecRunP τ C (nzV 39 40 299) (.sl 8 0 30 1) (anyV 41) (elsV 0 9223372036854775807 30 9 .nil) ty 42 = C (.v powV (τ 1)) := by kernel_rfl
theorem ec_e26 (ty : Nat) (τ : Nat → Nat) (C : O → Bool) : ecRunP τ C (.s []) (.sl 8 0 26 1) (anyV 35) (elsV 0 9223372036854775807 26 9 .nil) ty 36 = C (.v powV (τ 1)) := by kernel_rfl
theorem ec_n23 (ty : Nat) (τ : Nat → Nat) (C : O → Bool) : ecRunP τ C (nzV 32 33 299) (.sl 8 0 23 1) (anyV 34) (elsV 0 9223372036854775807 23 9 .nil) ty 35 = C (.v powV (τ 1)) := by kernel_rfl
theorem ec_e19 (ty : Nat) (τ : Nat → Nat) (C : O → Bool) : ecRunP τ C (.s []) (.sl 8 0 19 1) (anyV 28) (elsV 0 9223372036854775807 19 9 .nil) ty 29 = C (.v powV (τ 1)) := by kernel_rfl
theorem ec_n16 (ty : Nat) (τ : Nat → Nat) (C : O → Bool) : ecRunP τ C (nzV 25 26 299) (.sl 8 0 16 1) (anyV 27) (elsV 0 9223372036854775807 16 9 .nil) ty 28 = C (.v powV (τ 1)) := by kernel_rfl
theorem ec_e12 (ty : Nat) (τ : Nat → Nat) (C : O → Bool) : ecRunP τ C (.s []) (.sl 8 0 12 1) (anyV 21) (elsV 0 9223372036854775807 12 9 .nil) ty 22 = C (.v powV (τ 1)) := by kernel_rfl
theorem ec_n9 (ty : Nat) (τ : Nat → Nat) (C : O → Bool) : ecRunP τ C (nzV 18 19 299) (.sl 8 0 9 1) (anyV 20) (elsV 0 9223372036854775807 9 9 .nil) ty 21 = C (.v powV (τ 1)) := by kernel_rfl
theorem ec_e5 (ty : Nat) (τ : Nat → Nat) (C : O → Bool) : ecRunP τ C (.s []) (.sl 8 0 5 1) (anyV 14) (elsV 0 9223372036854775807 5 9 .nil) ty 15 = C (.v powV (τ 1)) := by kernel_rfl
theorem ec_n2 (ty : Nat) (τ : Nat → Nat) (C : O → Bool) : ecRunP τ C (nzV 11 12 299) (.sl 8 0 2 1) (anyV 13) (elsV 0 9223372036854775807 2 9 .nil) ty 14 = C (.v powV (τ 1)) := by kernel_rfl
end
end Go.Proofs.YtfmcnkepidedpaaGreatDoor
