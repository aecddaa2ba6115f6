/-
  Runs of toolsEcho, by the kernel (4 of 13). No condition.
-/
import Derived.Test.YtkppbibiaiecnaaGreatDoorRuntoolsEcho0
open Go Go.Mx
namespace Go.Proofs.YtkppbibiaiecnaaGreatDoor
set_option maxRecDepth 1000000
noncomputable section
theorem te_z40 (ty : Nat) (τ : Nat → Nat) : teRun τ (.sl 9 0 40 1) (.b true) (.cons (.s []) (elsV 0 200 39 10 .nil)) ty 49 = true := by kernel_rfl
theorem te_a39 (ty : Nat) (τ : Nat → Nat) : teRun τ (.sl 9 0 39 1) (.b true) (.cons (.w (.cons (.x 48 .u8 0 44) (.cons (.x 49 .u8 0 255) .nil))) (elsV 0 200 38 10 .nil)) ty 50 = true := by kernel_rfl
theorem te_c38 (ty : Nat) (τ : Nat → Nat) : teRun τ (.sl 9 0 38 1) (.b true) (.cons (.w (.cons (.i .u8 45) (.cons (.x 48 .u8 0 109) .nil))) (elsV 0 200 37 10 .nil)) ty 49 = true := by kernel_rfl
theorem te_n37 (ty : Nat) (τ : Nat → Nat) : teRun τ (.sl 9 0 37 1) (.b true) (.cons (.s [45, 110]) (elsV 0 200 36 10 .nil)) ty 46 = true := by kernel_rfl
theorem te_g35 (ty : Nat) (τ : Nat → Nat) : teRun τ (.sl 9 0 35 1) (.b false) (elsV 0 200 35 10 .nil) ty 45 = true := by kernel_rfl
theorem te_z34 (ty : Nat) (τ : Nat → Nat) : teRun τ (.sl 9 0 34 1) (.b true) (.cons (.s []) (elsV 0 200 33 10 .nil)) ty 43 = true := by kernel_rfl
theorem te_a33 (ty : Nat) (τ : Nat → Nat) : teRun τ (.sl 9 0 33 1) (.b true) (.cons (.w (.cons (.x 42 .u8 0 44) (.cons (.x 43 .u8 0 255) .nil))) (elsV 0 200 32 10 .nil)) ty 44 = true := by kernel_rfl
theorem te_c32 (ty : Nat) (τ : Nat → Nat) : teRun τ (.sl 9 0 32 1) (.b true) (.cons (.w (.cons (.i .u8 45) (.cons (.x 42 .u8 0 109) .nil))) (elsV 0 200 31 10 .nil)) ty 43 = true := by kernel_rfl
theorem te_n31 (ty : Nat) (τ : Nat → Nat) : teRun τ (.sl 9 0 31 1) (.b true) (.cons (.s [45, 110]) (elsV 0 200 30 10 .nil)) ty 40 = true := by kernel_rfl
theorem te_g29 (ty : Nat) (τ : Nat → Nat) : teRun τ (.sl 9 0 29 1) (.b false) (elsV 0 200 29 10 .nil) ty 39 = true := by kernel_rfl
theorem te_z28 (ty : Nat) (τ : Nat → Nat) : teRun τ (.sl 9 0 28 1) (.b true) (.cons (.s []) (elsV 0 200 27 10 .nil)) ty 37 = true := by kernel_rfl
theorem te_a27 (ty : Nat) (τ : Nat → Nat) : teRun τ (.sl 9 0 27 1) (.b true) (.cons (.w (.cons (.x 36 .u8 0 44) (.cons (.x 37 .u8 0 255) .nil))) (elsV 0 200 26 10 .nil)) ty 38 = true := by kernel_rfl
theorem te_c26 (ty : Nat) (τ : Nat → Nat) : teRun τ (.sl 9 0 26 1) (.b true) (.cons (.w (.cons (.i .u8 45) (.cons (.x 36 .u8 0 109) .nil))) (elsV 0 200 25 10 .nil)) ty 37 = true := by kernel_rfl
theorem te_n25 (ty : Nat) (τ : Nat → Nat) : teRun τ (.sl 9 0 25 1) (.b true) (.cons (.s [45, 110]) (elsV 0 200 24 10 .nil)) ty 34 = true := by kernel_rfl
theorem te_g23 (ty : Nat) (τ : Nat → Nat) : teRun τ (.sl 9 0 23 1) (.b false) (elsV 0 200 23 10 .nil) ty 33 = true := by kernel_rfl
theorem te_z22 (ty : Nat) (τ : Nat → Nat) : teRun τ (.sl 9 0 22 1) (.b true) (.cons (.s []) (elsV 0 200 21 10 .nil)) ty 31 = true := by kernel_rfl
theorem te_a21 (ty : Nat) (τ : Nat → Nat) : teRun τ (.sl 9 0 21 1) (.b true) (.cons (.w (.cons (.x 30 .u8 0 44) (.cons (.x 31 .u8 0 255) .nil))) (elsV 0 200 20 10 .nil)) ty 32 = true := by kernel_rfl
theorem te_c20 (ty : Nat) (τ : Nat → Nat) : teRun τ (.sl 9 0 20 1) (.b true) (.cons (.w (.cons (.i .u8 45) (.cons (.x 30 .u8 0 109) .nil))) (elsV 0 200 19 10 .nil)) ty 31 = true := by kernel_rfl
theorem te_n19 (ty : Nat) (τ : Nat → Nat) : teRun τ (.sl 9 0 19 1) (.b true) (.cons (.s [45, 110]) (elsV 0 200 18 10 .nil)) ty 28 = true := by kernel_rfl
theorem te_g17 (ty : Nat) (τ : Nat → Nat) : teRun τ (.sl 9 0 17 1) (.b false) (elsV 0 200 17 10 .nil) ty 27 = true := by kernel_rfl
theorem te_z16 (ty : Nat) (τ : Nat → Nat) : teRun τ (.sl 9 0 16 1) (.b true) (.cons (.s []) (elsV 0 200 15 10 .nil)) ty 25 = true := by kernel_rfl
theorem te_a15 (ty : Nat) (τ : Nat → Nat) : teRun τ (.sl 9 0 15 1) (.b true) (.cons (.w (.cons (.x 24 .u8 0 44) (.cons (.x 25 .u8 0 255) .nil))) (elsV 0 200 14 10 .nil)) ty 26 = true := by kernel_rfl
theorem te_c14 (ty : Nat) (τ : Nat → Nat) : teRun τ (.sl 9 0 14 1) (.b true) (.cons (.w (.cons (.i .u8 45) (.cons (.x 24 .u8 0 109) .nil))) (elsV 0 200 13 10 .nil)) ty 25 = true := by kernel_rfl
theorem te_n13 (ty : Nat) (τ : Nat → Nat) : teRun τ (.sl 9 0 13 1) (.b true) (.cons (.s [45, 110]) (elsV 0 200 12 10 .nil)) ty 22 = true := by kernel_rfl
theorem te_g11 (ty : Nat) (τ : Nat → Nat) : teRun τ (.sl 9 0 11 1) (.b false) (elsV 0 200 11 10 .nil) ty 21 = true := by kernel_rfl
theorem te_z10 (ty : Nat) (τ : Nat → Nat) : teRun τ (.sl 9 0 10 1) (.b true) (.cons (.s []) (elsV 0 200 9 10 .nil)) ty 19 = true := by kernel_rfl
theorem te_a9 (ty : Nat) (τ : Nat → Nat) : teRun τ (.sl 9 0 9 1) (.b true) (.cons (.w (.cons (.x 18 .u8 0 44) (.cons (.x 19 .u8 0 255) .nil))) (elsV 0 200 8 10 .nil)) ty 20 = true := by kernel_rfl
theorem te_c8 (ty : Nat) (τ : Nat → Nat) : teRun τ (.sl 9 0 8 1) (.b true) (.cons (.w (.cons (.i .u8 45) (.cons (.x 18 .u8 0 109) .nil))) (elsV 0 200 7 10 .nil)) ty 19 = true := by kernel_rfl
theorem te_n7 (ty : Nat) (τ : Nat → Nat) : teRun τ (.sl 9 0 7 1) (.b true) (.cons (.s [45, 110]) (elsV 0 200 6 10 .nil)) ty 16 = true := by kernel_rfl
theorem te_g5 (ty : Nat) (τ : Nat → Nat) : teRun τ (.sl 9 0 5 1) (.b false) (elsV 0 200 5 10 .nil) ty 15 = true := by kernel_rfl
theorem te_z4 (ty : Nat) (τ : Nat → Nat) : teRun τ (.sl 9 0 4 1) (.b true) (.cons (.s []) (elsV 0 200 3 10 .nil)) ty 13 = true := by kernel_rfl
theorem te_a3 (ty : Nat) (τ : Nat → Nat) : teRun τ (.sl 9 0 3 1) (.b true) (.cons (.w (.cons (.x 12 .u8 0 44) (.cons (.x 13 .u8 0 255) .nil))) (elsV 0 200 2 10 .nil)) ty 14 = true := by kernel_rfl
theorem te_c2 (ty : Nat) (τ : Nat → Nat) : teRun τ (.sl 9 0 2 1) (.b true) (.cons (.w (.cons (.i .u8 45) (.cons (.x 12 .u8 0 109) .nil))) (elsV 0 200 1 10 .nil)) ty 13 = true := by kernel_rfl
theorem te_l1 (ty : Nat) (τ : Nat → Nat) : teRun τ (.sl 9 0 1 1) (.b true) (.cons (elV 10 3 200) (elsV 0 200 0 10 .nil)) ty 11 = true := by kernel_rfl
end
end Go.Proofs.YtkppbibiaiecnaaGreatDoor
