/-
  Runs of expandCounts, by the kernel (3 of 8). No condition.
-/
import Derived.Test.YtfmcnkepidedpaaGreatDoorCRunexpandCounts0
open Go Go.Mx
namespace Go.Proofs.YtfmcnkepidedpaaGreatDoor
set_option maxRecDepth 1000000
noncomputable section
theorem ec_ze (ty : Nat) (τ : Nat → Nat) : allN 300 (fun k => ecRun τ (zzV 9 10 k (Nat.sub 299 k)) .se .nil .nil ty 11) = true := by kernel_rfl
theorem ec_n28 (ty : Nat) (τ : Nat → Nat) (C : O → Bool) : ecRunP τ C (nzV 37 38 299) (.sl 8 0 28 1) (anyV 39) (elsV 0 9223372036854775807 28 9 .nil) ty 40 = C (.v powV (τ 1)) := by kernel_rfl
theorem ec_e24 (ty : Nat) (τ : Nat → Nat) (C : O → Bool) : ecRunP τ C (.s []) (.sl 8 0 24 1) (anyV 33) (elsV 0 9223372036854775807 24 9 .nil) ty 34 = C (.v powV (τ 1)) := by kernel_rfl
theorem ec_n21 (ty : Nat) (τ : Nat → Nat) (C : O → Bool) : ecRunP τ C (nzV 30 31 299) (.sl 8 0 21 1) (anyV 32) (elsV 0 9223372036854775807 21 9 .nil) ty 33 = C (.v powV (τ 1)) := by kernel_rfl
theorem ec_e17 (ty : Nat) (τ : Nat → Nat) (C : O → Bool) : ecRunP τ C (.s []) (.sl 8 0 17 1) (anyV 26) (elsV 0 9223372036854775807 17 9 .nil) ty 27 = C (.v powV (τ 1)) := by kernel_rfl
theorem ec_n14 (ty : Nat) (τ : Nat → Nat) (C : O → Bool) : ecRunP τ C (nzV 23 24 299) (.sl 8 0 14 1) (anyV 25) (elsV 0 9223372036854775807 14 9 .nil) ty 26 = C (.v powV (τ 1)) := by kernel_rfl
theorem ec_e10 (ty : Nat) (τ : Nat → Nat) (C : O → Bool) : ecRunP τ C (.s []) (.sl 8 0 10 1) (anyV 19) (elsV 0 9223372036854775807 10 9 .nil) ty 20 = C (.v powV (τ 1)) := by kernel_rfl
theorem ec_n7 (ty : Nat) (τ : Nat → Nat) (C : O → Bool) : ecRunP τ C (nzV 16 17 299) (.sl 8 0 7 1) (anyV 18) (elsV 0 9223372036854775807 7 9 .nil) ty 19 = C (.v powV (τ 1)) := by kernel_rfl
theorem ec_e3 (ty : Nat) (τ : Nat → Nat) (C : O → Bool) : ecRunP τ C (.s []) (.sl 8 0 3 1) (anyV 12) (elsV 0 9223372036854775807 3 9 .nil) ty 13 = C (.v powV (τ 1)) := by kernel_rfl
end
end Go.Proofs.YtfmcnkepidedpaaGreatDoor
