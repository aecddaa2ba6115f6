/-
  Runs of toolsEcho, by the kernel (2 of 13). No condition.
-/
import Derived.Test.YtkppbibiaiecnaaGreatDoorRuntoolsEcho0
open Go Go.Mx
namespace Go.Proofs.YtkppbibiaiecnaaGreatDoor
set_option maxRecDepth 1000000
noncomputable section
theorem te_g40 (ty : Nat) (τ : Nat → Nat) : teRun τ (.sl 9 0 40 1) (.b false) (elsV 0 200 40 10 .nil) ty 50 = true := by kernel_rfl
theorem te_z39 (ty : Nat) (τ : Nat → Nat) : teRun τ (.sl 9 0 39 1) (.b true) (.cons (.s []) (elsV 0 200 38 10 .nil)) ty 48 = true := by kernel_rfl
theorem te_a38 (ty : Nat) (τ : Nat → Nat) : teRun τ (.sl 9 0 38 1) (.b true) (.cons (.w (.cons (.x 47 .u8 0 44) (.cons (.x 48 .u8 0 255) .nil))) (elsV 0 200 37 10 .nil)) ty 49 = true := by kernel_rfl
theorem te_c37 (ty : Nat) (τ : Nat → Nat) : teRun τ (.sl 9 0 37 1) (.b true) (.cons (.w (.cons (.i .u8 45) (.cons (.x 47 .u8 0 109) .nil))) (elsV 0 200 36 10 .nil)) ty 48 = true := by kernel_rfl
theorem te_n36 (ty : Nat) (τ : Nat → Nat) : teRun τ (.sl 9 0 36 1) (.b true) (.cons (.s [45, 110]) (elsV 0 200 35 10 .nil)) ty 45 = true := by kernel_rfl
theorem te_g34 (ty : Nat) (τ : Nat → Nat) : teRun τ (.sl 9 0 34 1) (.b false) (elsV 0 200 34 10 .nil) ty 44 = true := by kernel_rfl
theorem te_z33 (ty : Nat) (τ : Nat → Nat) : teRun τ (.sl 9 0 33 1) (.b true) (.cons (.s []) (elsV 0 200 32 10 .nil)) ty 42 = true := by kernel_rfl
theorem te_a32 (ty : Nat) (τ : Nat → Nat) : teRun τ (.sl 9 0 32 1) (.b true) (.cons (.w (.cons (.x 41 .u8 0 44) (.cons (.x 42 .u8 0 255) .nil))) (elsV 0 200 31 10 .nil)) ty 43 = true := by kernel_rfl
theorem te_c31 (ty : Nat) (τ : Nat → Nat) : teRun τ (.sl 9 0 31 1) (.b true) (.cons (.w (.cons (.i .u8 45) (.cons (.x 41 .u8 0 109) .nil))) (elsV 0 200 30 10 .nil)) ty 42 = true := by kernel_rfl
theorem te_n30 (ty : Nat) (τ : Nat → Nat) : teRun τ (.sl 9 0 30 1) (.b true) (.cons (.s [45, 110]) (elsV 0 200 29 10 .nil)) ty 39 = true := by kernel_rfl
theorem te_g28 (ty : Nat) (τ : Nat → Nat) : teRun τ (.sl 9 0 28 1) (.b false) (elsV 0 200 28 10 .nil) ty 38 = true := by kernel_rfl
theorem te_z27 (ty : Nat) (τ : Nat → Nat) : teRun τ (.sl 9 0 27 1) (.b true) (.cons (.s []) (elsV 0 200 26 10 .nil)) ty 36 = true := by kernel_rfl
theorem te_a26 (ty : Nat) (τ : Nat → Nat) : teRun τ (.sl 9 0 26 1) (.b true) (.cons (.w (.cons (.x 35 .u8 0 44) (.cons (.x 36 .u8 0 255) .nil))) (elsV 0 200 25 10 .nil)) ty 37 = true := by kernel_rfl
theorem te_c25 (ty : Nat) (τ : Nat → Nat) : teRun τ (.sl 9 0 25 1) (.b true) (.cons (.w (.cons (.i .u8 45) (.cons (.x 35 .u8 0 109) .nil))) (elsV 0 200 24 10 .nil)) ty 36 = true := by kernel_rfl
theorem te_n24 (ty : Nat) (τ : Nat → Nat) : teRun τ (.sl 9 0 24 1) (.b true) (.cons (.s [45, 110]) (elsV 0 200 23 10 .nil)) ty 33 = true := by kernel_rfl
theorem te_g22 (ty : Nat) (τ : Nat → Nat) : teRun τ (.sl 9 0 22 1) (.b false) (elsV 0 200 22 10 .nil) ty 32 = true := by kernel_rfl
theorem te_z21 (ty : Nat) (τ : Nat → Nat) : teRun τ (.sl 9 0 21 1) (.b true) (.cons (.s []) (elsV 0 200 20 10 .nil)) ty 30 = true := by kernel_rfl
theorem te_a20 (ty : Nat) (τ : Nat → Nat) : teRun τ (.sl 9 0 20 1) (.b true) (.cons (.w (.cons (.x 29 .u8 0 44) (.cons (.x 30 .u8 0 255) .nil))) (elsV 0 200 19 10 .nil)) ty 31 = true := by kernel_rfl
theorem te_c19 (ty : Nat) (τ : Nat → Nat) : teRun τ (.sl 9 0 19 1) (.b true) (.cons (.w (.cons (.i .u8 45) (.cons (.x 29 .u8 0 109) .nil))) (elsV 0 200 18 10 .nil)) ty 30 = true := by kernel_rfl
theorem te_n18 (ty : Nat) (τ : Nat → Nat) : teRun τ (.sl 9 0 18 1) (.b true) (.cons (.s [45, 110]) (elsV 0 200 17 10 .nil)) ty 27 = true := by kernel_rfl
theorem te_g16 (ty : Nat) (τ : Nat → Nat) : teRun τ (.sl 9 0 16 1) (.b false) (elsV 0 200 16 10 .nil) ty 26 = true := by kernel_rfl
theorem te_z15 (ty : Nat) (τ : Nat → Nat) : teRun τ (.sl 9 0 15 1) (.b true) (.cons (.s []) (elsV 0 200 14 10 .nil)) ty 24 = true := by kernel_rfl
theorem te_a14 (ty : Nat) (τ : Nat → Nat) : teRun τ (.sl 9 0 14 1) (.b true) (.cons (.w (.cons (.x 23 .u8 0 44) (.cons (.x 24 .u8 0 255) .nil))) (elsV 0 200 13 10 .nil)) ty 25 = true := by kernel_rfl
theorem te_c13 (ty : Nat) (τ : Nat → Nat) : teRun τ (.sl 9 0 13 1) (.b true) (.cons (.w (.cons (.i .u8 45) (.cons (.x 23 .u8 0 109) .nil))) (elsV 0 200 12 10 .nil)) ty 24 = true := by kernel_rfl
theorem te_n12 (ty : Nat) (τ : Nat → Nat) : teRun τ (.sl 9 0 12 1) (.b true) (.cons (.s [45, 110]) (elsV 0 200 11 10 .nil)) ty 21 = true := by kernel_rfl
theorem te_g10 (ty : Nat) (τ : Nat → Nat) : teRun τ (.sl 9 0 10 1) (.b false) (elsV 0 200 10 10 .nil) ty 20 = true := by kernel_rfl
theorem te_z9 (ty : Nat) (τ : Nat → Nat) : teRun τ (.sl 9 0 9 1) (.b true) (.cons (.s []) (elsV 0 200 8 10 .nil)) ty 18 = true := by kernel_rfl
theorem te_a8 (ty : Nat) (τ : Nat → Nat) : teRun τ (.sl 9 0 8 1) (.b true) (.cons (.w (.cons (.x 17 .u8 0 44) (.cons (.x 18 .u8 0 255) .nil))) (elsV 0 200 7 10 .nil)) ty 19 = true := by kernel_rfl
theorem te_c7 (ty : Nat) (τ : Nat → Nat) : teRun τ (.sl 9 0 7 1) (.b true) (.cons (.w (.cons (.i .u8 45) (.cons (.x 17 .u8 0 109) .nil))) (elsV 0 200 6 10 .nil)) ty 18 = true := by kernel_rfl
theorem te_n6 (ty : Nat) (τ : Nat → Nat) : teRun τ (.sl 9 0 6 1) (.b true) (.cons (.s [45, 110]) (elsV 0 200 5 10 .nil)) ty 15 = true := by kernel_rfl
theorem te_g4 (ty : Nat) (τ : Nat → Nat) : teRun τ (.sl 9 0 4 1) (.b false) (elsV 0 200 4 10 .nil) ty 14 = true := by kernel_rfl
theorem te_z3 (ty : Nat) (τ : Nat → Nat) : teRun τ (.sl 9 0 3 1) (.b true) (.cons (.s []) (elsV 0 200 2 10 .nil)) ty 12 = true := by kernel_rfl
theorem te_a2 (ty : Nat) (τ : Nat → Nat) : teRun τ (.sl 9 0 2 1) (.b true) (.cons (.w (.cons (.x 11 .u8 0 44) (.cons (.x 12 .u8 0 255) .nil))) (elsV 0 200 1 10 .nil)) ty 13 = true := by kernel_rfl
theorem te_d1 (ty : Nat) (τ : Nat → Nat) : teRun τ (.sl 9 0 1 1) (.b true) (.cons (.w (.cons (.i .u8 45) (.cons (.x 11 .u8 111 255) .nil))) (elsV 0 200 0 10 .nil)) ty 12 = true := by kernel_rfl
end
end Go.Proofs.YtkppbibiaiecnaaGreatDoor
