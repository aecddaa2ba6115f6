/-
  Runs of expandCounts, by the kernel (2 of 8). No condition.
-/
import Derived.Test.YtfmcnkepidedpaaGreatDoorCRunexpandCounts0
open Go Go.Mx
namespace Go.Proofs.YtfmcnkepidedpaaGreatDoor
set_option maxRecDepth 1000000
noncomputable section
theorem ec_zs (ty : Nat) (τ : Nat → Nat) : allN 300 (fun k => ecRun τ (zzV 9 10 k (Nat.sub 299 k)) .sn .nil .nil ty 11) = true := by kernel_rfl
theorem ec_e28 (ty : Nat) (τ : Nat → Nat) (C : O → Bool) : ecRunP τ C (.s []) (.sl 8 0 28 1) (anyV 37) (elsV 0 9223372036854775807 28 9 .nil) ty 38 = C (.v powV (τ 1)) := by kernel_rfl
theorem ec_n25 (ty : Nat) (τ : Nat → Nat) (C : O → Bool) : ecRunP τ C (nzV 34 35 299) (.sl 8 0 25 1) (anyV 36) (elsV 0 9223372036854775807 25 9 .nil) ty 37 = C (.v powV (τ 1)) := by kernel_rfl
theorem ec_e21 (ty : Nat) (τ : Nat → Nat) (C : O → Bool) : ecRunP τ C (.s []) (.sl 8 0 21 1) (anyV 30) (elsV 0 9223372036854775807 21 9 .nil) ty 31 = C (.v powV (τ 1)) := by kernel_rfl
theorem ec_n18 (ty : Nat) (τ : Nat → Nat) (C : O → Bool) : ecRunP τ C (nzV 27 28 299) (.sl 8 0 18 1) (anyV 29) (elsV 0 9223372036854775807 18 9 .nil) ty 30 = C (.v powV (τ 1)) := by kernel_rfl
theorem ec_e14 (ty : Nat) (τ : Nat → Nat) (C : O → Bool) : ecRunP τ C (.s []) (.sl 8 0 14 1) (anyV 23) (elsV 0 9223372036854775807 14 9 .nil) ty 24 = C (.v powV (τ 1)) := by kernel_rfl
theorem ec_n11 (ty : Nat) (τ : Nat → Nat) (C : O → Bool) : ecRunP τ C (nzV 20 21 299) (.sl 8 0 11 1) (anyV 22) (elsV 0 9223372036854775807 11 9 .nil) ty 23 = C (.v powV (τ 1)) := by kernel_rfl
theorem ec_e7 (ty : Nat) (τ : Nat → Nat) (C : O → Bool) : ecRunP τ C (.s []) (.sl 8 0 7 1) (anyV 16) (elsV 0 9223372036854775807 7 9 .nil) ty 17 = C (.v powV (τ 1)) := by kernel_rfl
theorem ec_n4 (ty : Nat) (τ : Nat → Nat) (C : O → Bool) : ecRunP τ C (nzV 13 14 299) (.sl 8 0 4 1) (anyV 15) (elsV 0 9223372036854775807 4 9 .nil) ty 16 = C (.v powV (τ 1)) := by kernel_rfl
end
end Go.Proofs.YtfmcnkepidedpaaGreatDoor
