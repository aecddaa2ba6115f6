/-
  Runs of expandCounts, by the kernel (5 of 8). No condition.
-/
import Derived.Test.YtfmcnkepidedpaaGreatDoorCRunexpandCounts0
open Go Go.Mx
namespace Go.Proofs.YtfmcnkepidedpaaGreatDoor
set_option maxRecDepth 1000000
noncomputable section
theorem ec_e30 (ty : Nat) (τ : Nat → Nat) (C : O → Bool) : ecRunP τ C (.s []) (.sl 8 0 30 1) (anyV 39) (elsV 0 9223372036854775807 30 9 .nil) ty 40 = C (.v powV (τ 1)) := by kernel_rfl
theorem ec_n27 (ty : Nat) (τ : Nat → Nat) (C : O → Bool) : ecRunP τ C (nzV 36 37 299) (.sl 8 0 27 1) (anyV 38) (elsV 0 9223372036854775807 27 9 .nil) ty 39 = C (.v powV (τ 1)) := by kernel_rfl
theorem ec_e23 (ty : Nat) (τ : Nat → Nat) (C : O → Bool) : ecRunP τ C (.s []) (.sl 8 0 23 1) (anyV 32) (elsV 0 9223372036854775807 23 9 .nil) ty 33 = C (.v powV (τ 1)) := by kernel_rfl
theorem ec_n20 (ty : Nat) (τ : Nat → Nat) (C : O → Bool) : ecRunP τ C (nzV 29 30 299) (.sl 8 0 20 1) (anyV 31) (elsV 0 9223372036854775807 20 9 .nil) ty 32 = C (.v powV (τ 1)) := by kernel_rfl
theorem ec_e16 (ty : Nat) (τ : Nat → Nat) (C : O → Bool) : ecRunP τ C (.s []) (.sl 8 0 16 1) (anyV 25) (elsV 0 9223372036854775807 16 9 .nil) ty 26 = C (.v powV (τ 1)) := by kernel_rfl
theorem ec_n13 (ty : Nat) (τ : Nat → Nat) (C : O → Bool) : ecRunP τ C (nzV 22 23 299) (.sl 8 0 13 1) (anyV 24) (elsV 0 9223372036854775807 13 9 .nil) ty 25 = C (.v powV (τ 1)) := by kernel_rfl
theorem ec_e9 (ty : Nat) (τ : Nat → Nat) (C : O → Bool) : ecRunP τ C (.s []) (.sl 8 0 9 1) (anyV 18) (elsV 0 9223372036854775807 9 9 .nil) ty 19 = C (.v powV (τ 1)) := by kernel_rfl
theorem ec_n6 (ty : Nat) (τ : Nat → Nat) (C : O → Bool) : ecRunP τ C (nzV 15 16 299) (.sl 8 0 6 1) (anyV 17) (elsV 0 9223372036854775807 6 9 .nil) ty 18 = C (.v powV (τ 1)) := by kernel_rfl
theorem ec_e2 (ty : Nat) (τ : Nat → Nat) (C : O → Bool) : ecRunP τ C (.s []) (.sl 8 0 2 1) (anyV 11) (elsV 0 9223372036854775807 2 9 .nil) ty 12 = C (.v powV (τ 1)) := by kernel_rfl
end
end Go.Proofs.YtfmcnkepidedpaaGreatDoor
