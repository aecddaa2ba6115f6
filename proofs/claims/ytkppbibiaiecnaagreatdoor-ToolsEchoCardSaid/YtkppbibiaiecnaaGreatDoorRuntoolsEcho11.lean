/-
  Runs of toolsEcho, by the kernel (12 of 13). No condition.
-/
import Derived.Test.YtkppbibiaiecnaaGreatDoorRuntoolsEcho0
open Go Go.Mx
namespace Go.Proofs.YtkppbibiaiecnaaGreatDoor
set_option maxRecDepth 1000000
noncomputable section
theorem te_g39 (ty : Nat) (τ : Nat → Nat) : teRun τ (.sl 9 0 39 1) (.b false) (elsV 0 200 39 10 .nil) ty 49 = true := by kernel_rfl
theorem te_z38 (ty : Nat) (τ : Nat → Nat) : teRun τ (.sl 9 0 38 1) (.b true) (.cons (.s []) (elsV 0 200 37 10 .nil)) ty 47 = true := by kernel_rfl
theorem te_a37 (ty : Nat) (τ : Nat → Nat) : teRun τ (.sl 9 0 37 1) (.b true) (.cons (.w (.cons (.x 46 .u8 0 44) (.cons (.x 47 .u8 0 255) .nil))) (elsV 0 200 36 10 .nil)) ty 48 = true := by kernel_rfl
theorem te_c36 (ty : Nat) (τ : Nat → Nat) : teRun τ (.sl 9 0 36 1) (.b true) (.cons (.w (.cons (.i .u8 45) (.cons (.x 46 .u8 0 109) .nil))) (elsV 0 200 35 10 .nil)) ty 47 = true := by kernel_rfl
theorem te_n35 (ty : Nat) (τ : Nat → Nat) : teRun τ (.sl 9 0 35 1) (.b true) (.cons (.s [45, 110]) (elsV 0 200 34 10 .nil)) ty 44 = true := by kernel_rfl
theorem te_g33 (ty : Nat) (τ : Nat → Nat) : teRun τ (.sl 9 0 33 1) (.b false) (elsV 0 200 33 10 .nil) ty 43 = true := by kernel_rfl
theorem te_z32 (ty : Nat) (τ : Nat → Nat) : teRun τ (.sl 9 0 32 1) (.b true) (.cons (.s []) (elsV 0 200 31 10 .nil)) ty 41 = true := by kernel_rfl
theorem te_a31 (ty : Nat) (τ : Nat → Nat) : teRun τ (.sl 9 0 31 1) (.b true) (.cons (.w (.cons (.x 40 .u8 0 44) (.cons (.x 41 .u8 0 255) .nil))) (elsV 0 200 30 10 .nil)) ty 42 = true := by kernel_rfl
theorem te_c30 (ty : Nat) (τ : Nat → Nat) : teRun τ (.sl 9 0 30 1) (.b true) (.cons (.w (.cons (.i .u8 45) (.cons (.x 40 .u8 0 109) .nil))) (elsV 0 200 29 10 .nil)) ty 41 = true := by kernel_rfl
theorem te_n29 (ty : Nat) (τ : Nat → Nat) : teRun τ (.sl 9 0 29 1) (.b true) (.cons (.s [45, 110]) (elsV 0 200 28 10 .nil)) ty 38 = true := by kernel_rfl
theorem te_g27 (ty : Nat) (τ : Nat → Nat) : teRun τ (.sl 9 0 27 1) (.b false) (elsV 0 200 27 10 .nil) ty 37 = true := by kernel_rfl
theorem te_z26 (ty : Nat) (τ : Nat → Nat) : teRun τ (.sl 9 0 26 1) (.b true) (.cons (.s []) (elsV 0 200 25 10 .nil)) ty 35 = true := by kernel_rfl
theorem te_a25 (ty : Nat) (τ : Nat → Nat) : teRun τ (.sl 9 0 25 1) (.b true) (.cons (.w (.cons (.x 34 .u8 0 44) (.cons (.x 35 .u8 0 255) .nil))) (elsV 0 200 24 10 .nil)) ty 36 = true := by kernel_rfl
theorem te_c24 (ty : Nat) (τ : Nat → Nat) : teRun τ (.sl 9 0 24 1) (.b true) (.cons (.w (.cons (.i .u8 45) (.cons (.x 34 .u8 0 109) .nil))) (elsV 0 200 23 10 .nil)) ty 35 = true := by kernel_rfl
theorem te_n23 (ty : Nat) (τ : Nat → Nat) : teRun τ (.sl 9 0 23 1) (.b true) (.cons (.s [45, 110]) (elsV 0 200 22 10 .nil)) ty 32 = true := by kernel_rfl
theorem te_g21 (ty : Nat) (τ : Nat → Nat) : teRun τ (.sl 9 0 21 1) (.b false) (elsV 0 200 21 10 .nil) ty 31 = true := by kernel_rfl
theorem te_z20 (ty : Nat) (τ : Nat → Nat) : teRun τ (.sl 9 0 20 1) (.b true) (.cons (.s []) (elsV 0 200 19 10 .nil)) ty 29 = true := by kernel_rfl
theorem te_a19 (ty : Nat) (τ : Nat → Nat) : teRun τ (.sl 9 0 19 1) (.b true) (.cons (.w (.cons (.x 28 .u8 0 44) (.cons (.x 29 .u8 0 255) .nil))) (elsV 0 200 18 10 .nil)) ty 30 = true := by kernel_rfl
theorem te_c18 (ty : Nat) (τ : Nat → Nat) : teRun τ (.sl 9 0 18 1) (.b true) (.cons (.w (.cons (.i .u8 45) (.cons (.x 28 .u8 0 109) .nil))) (elsV 0 200 17 10 .nil)) ty 29 = true := by kernel_rfl
theorem te_n17 (ty : Nat) (τ : Nat → Nat) : teRun τ (.sl 9 0 17 1) (.b true) (.cons (.s [45, 110]) (elsV 0 200 16 10 .nil)) ty 26 = true := by kernel_rfl
theorem te_g15 (ty : Nat) (τ : Nat → Nat) : teRun τ (.sl 9 0 15 1) (.b false) (elsV 0 200 15 10 .nil) ty 25 = true := by kernel_rfl
theorem te_z14 (ty : Nat) (τ : Nat → Nat) : teRun τ (.sl 9 0 14 1) (.b true) (.cons (.s []) (elsV 0 200 13 10 .nil)) ty 23 = true := by kernel_rfl
theorem te_a13 (ty : Nat) (τ : Nat → Nat) : teRun τ (.sl 9 0 13 1) (.b true) (.cons (.w (.cons (.x 22 .u8 0 44) (.cons (.x 23 .u8 0 255) .nil))) (elsV 0 200 12 10 .nil)) ty 24 = true := by kernel_rfl
theorem te_c12 (ty : Nat) (τ : Nat → Nat) : teRun τ (.sl 9 0 12 1) (.b true) (.cons (.w (.cons (.i .u8 45) (.cons (.x 22 .u8 0 109) .nil))) (elsV 0 200 11 10 .nil)) ty 23 = true := by kernel_rfl
theorem te_n11 (ty : Nat) (τ : Nat → Nat) : teRun τ (.sl 9 0 11 1) (.b true) (.cons (.s [45, 110]) (elsV 0 200 10 10 .nil)) ty 20 = true := by kernel_rfl
theorem te_g9 (ty : Nat) (τ : Nat → Nat) : teRun τ (.sl 9 0 9 1) (.b false) (elsV 0 200 9 10 .nil) ty 19 = true := by kernel_rfl
theorem te_z8 (ty : Nat) (τ : Nat → Nat) : teRun τ (.sl 9 0 8 1) (.b true) (.cons (.s []) (elsV 0 200 7 10 .nil)) ty 17 = true := by kernel_rfl
theorem te_a7 (ty : Nat) (τ : Nat → Nat) : teRun τ (.sl 9 0 7 1) (.b true) (.cons (.w (.cons (.x 16 .u8 0 44) (.cons (.x 17 .u8 0 255) .nil))) (elsV 0 200 6 10 .nil)) ty 18 = true := by kernel_rfl
theorem te_c6 (ty : Nat) (τ : Nat → Nat) : teRun τ (.sl 9 0 6 1) (.b true) (.cons (.w (.cons (.i .u8 45) (.cons (.x 16 .u8 0 109) .nil))) (elsV 0 200 5 10 .nil)) ty 17 = true := by kernel_rfl
theorem te_n5 (ty : Nat) (τ : Nat → Nat) : teRun τ (.sl 9 0 5 1) (.b true) (.cons (.s [45, 110]) (elsV 0 200 4 10 .nil)) ty 14 = true := by kernel_rfl
theorem te_g3 (ty : Nat) (τ : Nat → Nat) : teRun τ (.sl 9 0 3 1) (.b false) (elsV 0 200 3 10 .nil) ty 13 = true := by kernel_rfl
theorem te_z2 (ty : Nat) (τ : Nat → Nat) : teRun τ (.sl 9 0 2 1) (.b true) (.cons (.s []) (elsV 0 200 1 10 .nil)) ty 11 = true := by kernel_rfl
theorem te_b1 (ty : Nat) (τ : Nat → Nat) : teRun τ (.sl 9 0 1 1) (.b true) (.cons (.w (.cons (.x 10 .u8 46 255) (.cons (.x 11 .u8 0 255) .nil))) (elsV 0 200 0 10 .nil)) ty 12 = true := by kernel_rfl
end
end Go.Proofs.YtkppbibiaiecnaaGreatDoor
