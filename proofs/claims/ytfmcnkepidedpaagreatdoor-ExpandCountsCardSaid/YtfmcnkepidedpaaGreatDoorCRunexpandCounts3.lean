/-
  Runs of expandCounts, by the kernel (4 of 8). No condition.
-/
import Derived.Test.YtfmcnkepidedpaaGreatDoorCRunexpandCounts0
open Go Go.Mx
namespace Go.Proofs.YtfmcnkepidedpaaGreatDoor
set_option maxRecDepth 1000000
noncomputable section
theorem ec_zl (ty : Nat) (τ : Nat → Nat) : allN 300 (fun k => ecRun τ (zzV 10 11 k (Nat.sub 299 k)) (lenV 8 9 1 30) .nil .nil ty 12) = true := by kernel_rfl
theorem ec_e27 (ty : Nat) (τ : Nat → Nat) (C : O → Bool) : ecRunP τ C (.s []) (.sl 8 0 27 1) (anyV 36) (elsV 0 9223372036854775807 27 9 .nil) ty 37 = C (.v powV (τ 1)) := by kernel_rfl
theorem ec_n24 (ty : Nat) (τ : Nat → Nat) (C : O → Bool) : ecRunP τ C (nzV 33 34 299) (.sl 8 0 24 1) (anyV 35) (elsV 0 9223372036854775807 24 9 .nil) ty 36 = C (.v powV (τ 1)) := by kernel_rfl
theorem ec_e20 (ty : Nat) (τ : Nat → Nat) (C : O → Bool) : ecRunP τ C (.s []) (.sl 8 0 20 1) (anyV 29) (elsV 0 9223372036854775807 20 9 .nil) ty 30 = C (.v powV (τ 1)) := by kernel_rfl
theorem ec_n17 (ty : Nat) (τ : Nat → Nat) (C : O → Bool) : ecRunP τ C (nzV 26 27 299) (.sl 8 0 17 1) (anyV 28) (elsV 0 9223372036854775807 17 9 .nil) ty 29 = C (.v powV (τ 1)) := by kernel_rfl
theorem ec_e13 (ty : Nat) (τ : Nat → Nat) (C : O → Bool) : ecRunP τ C (.s []) (.sl 8 0 13 1) (anyV 22) (elsV 0 9223372036854775807 13 9 .nil) ty 23 = C (.v powV (τ 1)) := by kernel_rfl
theorem ec_n10 (ty : Nat) (τ : Nat → Nat) (C : O → Bool) : ecRunP τ C (nzV 19 20 299) (.sl 8 0 10 1) (anyV 21) (elsV 0 9223372036854775807 10 9 .nil) ty 22 = C (.v powV (τ 1)) := by kernel_rfl
theorem ec_e6 (ty : Nat) (τ : Nat → Nat) (C : O → Bool) : ecRunP τ C (.s []) (.sl 8 0 6 1) (anyV 15) (elsV 0 9223372036854775807 6 9 .nil) ty 16 = C (.v powV (τ 1)) := by kernel_rfl
theorem ec_n3 (ty : Nat) (τ : Nat → Nat) (C : O → Bool) : ecRunP τ C (nzV 12 13 299) (.sl 8 0 3 1) (anyV 14) (elsV 0 9223372036854775807 3 9 .nil) ty 15 = C (.v powV (τ 1)) := by kernel_rfl
end
end Go.Proofs.YtfmcnkepidedpaaGreatDoor
