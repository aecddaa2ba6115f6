/-
  Runs of toolsEcho, by the kernel (10 of 13). No condition.
-/
import Derived.Test.YtkppbibiaiecnaaGreatDoorRuntoolsEcho0
open Go Go.Mx
namespace Go.Proofs.YtkppbibiaiecnaaGreatDoor
set_option maxRecDepth 1000000
noncomputable section
theorem te_n40 (ty : Nat) (τ : Nat → Nat) : teRun τ (.sl 9 0 40 1) (.b true) (.cons (.s [45, 110]) (elsV 0 200 39 10 .nil)) ty 49 = true := by kernel_rfl
theorem te_g38 (ty : Nat) (τ : Nat → Nat) : teRun τ (.sl 9 0 38 1) (.b false) (elsV 0 200 38 10 .nil) ty 48 = true := by kernel_rfl
theorem te_z37 (ty : Nat) (τ : Nat → Nat) : teRun τ (.sl 9 0 37 1) (.b true) (.cons (.s []) (elsV 0 200 36 10 .nil)) ty 46 = true := by kernel_rfl
theorem te_a36 (ty : Nat) (τ : Nat → Nat) : teRun τ (.sl 9 0 36 1) (.b true) (.cons (.w (.cons (.x 45 .u8 0 44) (.cons (.x 46 .u8 0 255) .nil))) (elsV 0 200 35 10 .nil)) ty 47 = true := by kernel_rfl
theorem te_c35 (ty : Nat) (τ : Nat → Nat) : teRun τ (.sl 9 0 35 1) (.b true) (.cons (.w (.cons (.i .u8 45) (.cons (.x 45 .u8 0 109) .nil))) (elsV 0 200 34 10 .nil)) ty 46 = true := by kernel_rfl
theorem te_n34 (ty : Nat) (τ : Nat → Nat) : teRun τ (.sl 9 0 34 1) (.b true) (.cons (.s [45, 110]) (elsV 0 200 33 10 .nil)) ty 43 = true := by kernel_rfl
theorem te_g32 (ty : Nat) (τ : Nat → Nat) : teRun τ (.sl 9 0 32 1) (.b false) (elsV 0 200 32 10 .nil) ty 42 = true := by kernel_rfl
theorem te_z31 (ty : Nat) (τ : Nat → Nat) : teRun τ (.sl 9 0 31 1) (.b true) (.cons (.s []) (elsV 0 200 30 10 .nil)) ty 40 = true := by kernel_rfl
theorem te_a30 (ty : Nat) (τ : Nat → Nat) : teRun τ (.sl 9 0 30 1) (.b true) (.cons (.w (.cons (.x 39 .u8 0 44) (.cons (.x 40 .u8 0 255) .nil))) (elsV 0 200 29 10 .nil)) ty 41 = true := by kernel_rfl
theorem te_c29 (ty : Nat) (τ : Nat → Nat) : teRun τ (.sl 9 0 29 1) (.b true) (.cons (.w (.cons (.i .u8 45) (.cons (.x 39 .u8 0 109) .nil))) (elsV 0 200 28 10 .nil)) ty 40 = true := by kernel_rfl
theorem te_n28 (ty : Nat) (τ : Nat → Nat) : teRun τ (.sl 9 0 28 1) (.b true) (.cons (.s [45, 110]) (elsV 0 200 27 10 .nil)) ty 37 = true := by kernel_rfl
theorem te_g26 (ty : Nat) (τ : Nat → Nat) : teRun τ (.sl 9 0 26 1) (.b false) (elsV 0 200 26 10 .nil) ty 36 = true := by kernel_rfl
theorem te_z25 (ty : Nat) (τ : Nat → Nat) : teRun τ (.sl 9 0 25 1) (.b true) (.cons (.s []) (elsV 0 200 24 10 .nil)) ty 34 = true := by kernel_rfl
theorem te_a24 (ty : Nat) (τ : Nat → Nat) : teRun τ (.sl 9 0 24 1) (.b true) (.cons (.w (.cons (.x 33 .u8 0 44) (.cons (.x 34 .u8 0 255) .nil))) (elsV 0 200 23 10 .nil)) ty 35 = true := by kernel_rfl
theorem te_c23 (ty : Nat) (τ : Nat → Nat) : teRun τ (.sl 9 0 23 1) (.b true) (.cons (.w (.cons (.i .u8 45) (.cons (.x 33 .u8 0 109) .nil))) (elsV 0 200 22 10 .nil)) ty 34 = true := by kernel_rfl
theorem te_n22 (ty : Nat) (τ : Nat → Nat) : teRun τ (.sl 9 0 22 1) (.b true) (.cons (.s [45, 110]) (elsV 0 200 21 10 .nil)) ty 31 = true := by kernel_rfl
theorem te_g20 (ty : Nat) (τ : Nat → Nat) : teRun τ (.sl 9 0 20 1) (.b false) (elsV 0 200 20 10 .nil) ty 30 = true := by kernel_rfl
theorem te_z19 (ty : Nat) (τ : Nat → Nat) : teRun τ (.sl 9 0 19 1) (.b true) (.cons (.s []) (elsV 0 200 18 10 .nil)) ty 28 = true := by kernel_rfl
theorem te_a18 (ty : Nat) (τ : Nat → Nat) : teRun τ (.sl 9 0 18 1) (.b true) (.cons (.w (.cons (.x 27 .u8 0 44) (.cons (.x 28 .u8 0 255) .nil))) (elsV 0 200 17 10 .nil)) ty 29 = true := by kernel_rfl
theorem te_c17 (ty : Nat) (τ : Nat → Nat) : teRun τ (.sl 9 0 17 1) (.b true) (.cons (.w (.cons (.i .u8 45) (.cons (.x 27 .u8 0 109) .nil))) (elsV 0 200 16 10 .nil)) ty 28 = true := by kernel_rfl
theorem te_n16 (ty : Nat) (τ : Nat → Nat) : teRun τ (.sl 9 0 16 1) (.b true) (.cons (.s [45, 110]) (elsV 0 200 15 10 .nil)) ty 25 = true := by kernel_rfl
theorem te_g14 (ty : Nat) (τ : Nat → Nat) : teRun τ (.sl 9 0 14 1) (.b false) (elsV 0 200 14 10 .nil) ty 24 = true := by kernel_rfl
theorem te_z13 (ty : Nat) (τ : Nat → Nat) : teRun τ (.sl 9 0 13 1) (.b true) (.cons (.s []) (elsV 0 200 12 10 .nil)) ty 22 = true := by kernel_rfl
theorem te_a12 (ty : Nat) (τ : Nat → Nat) : teRun τ (.sl 9 0 12 1) (.b true) (.cons (.w (.cons (.x 21 .u8 0 44) (.cons (.x 22 .u8 0 255) .nil))) (elsV 0 200 11 10 .nil)) ty 23 = true := by kernel_rfl
theorem te_c11 (ty : Nat) (τ : Nat → Nat) : teRun τ (.sl 9 0 11 1) (.b true) (.cons (.w (.cons (.i .u8 45) (.cons (.x 21 .u8 0 109) .nil))) (elsV 0 200 10 10 .nil)) ty 22 = true := by kernel_rfl
theorem te_n10 (ty : Nat) (τ : Nat → Nat) : teRun τ (.sl 9 0 10 1) (.b true) (.cons (.s [45, 110]) (elsV 0 200 9 10 .nil)) ty 19 = true := by kernel_rfl
theorem te_g8 (ty : Nat) (τ : Nat → Nat) : teRun τ (.sl 9 0 8 1) (.b false) (elsV 0 200 8 10 .nil) ty 18 = true := by kernel_rfl
theorem te_z7 (ty : Nat) (τ : Nat → Nat) : teRun τ (.sl 9 0 7 1) (.b true) (.cons (.s []) (elsV 0 200 6 10 .nil)) ty 16 = true := by kernel_rfl
theorem te_a6 (ty : Nat) (τ : Nat → Nat) : teRun τ (.sl 9 0 6 1) (.b true) (.cons (.w (.cons (.x 15 .u8 0 44) (.cons (.x 16 .u8 0 255) .nil))) (elsV 0 200 5 10 .nil)) ty 17 = true := by kernel_rfl
theorem te_c5 (ty : Nat) (τ : Nat → Nat) : teRun τ (.sl 9 0 5 1) (.b true) (.cons (.w (.cons (.i .u8 45) (.cons (.x 15 .u8 0 109) .nil))) (elsV 0 200 4 10 .nil)) ty 16 = true := by kernel_rfl
theorem te_n4 (ty : Nat) (τ : Nat → Nat) : teRun τ (.sl 9 0 4 1) (.b true) (.cons (.s [45, 110]) (elsV 0 200 3 10 .nil)) ty 13 = true := by kernel_rfl
theorem te_g2 (ty : Nat) (τ : Nat → Nat) : teRun τ (.sl 9 0 2 1) (.b false) (elsV 0 200 2 10 .nil) ty 12 = true := by kernel_rfl
theorem te_o1 (ty : Nat) (τ : Nat → Nat) : teRun τ (.sl 9 0 1 1) (.b true) (.cons (elV 10 1 1) (elsV 0 200 0 10 .nil)) ty 11 = true := by kernel_rfl
end
end Go.Proofs.YtkppbibiaiecnaaGreatDoor
