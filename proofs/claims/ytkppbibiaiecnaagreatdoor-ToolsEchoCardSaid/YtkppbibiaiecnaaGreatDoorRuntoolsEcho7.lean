/-
  Runs of toolsEcho, by the kernel (8 of 13). No condition.
-/
import Derived.Test.YtkppbibiaiecnaaGreatDoorRuntoolsEcho0
open Go Go.Mx
namespace Go.Proofs.YtkppbibiaiecnaaGreatDoor
set_option maxRecDepth 1000000
noncomputable section
theorem te_c40 (ty : Nat) (τ : Nat → Nat) : teRun τ (.sl 9 0 40 1) (.b true) (.cons (.w (.cons (.i .u8 45) (.cons (.x 50 .u8 0 109) .nil))) (elsV 0 200 39 10 .nil)) ty 51 = true := by kernel_rfl
theorem te_n39 (ty : Nat) (τ : Nat → Nat) : teRun τ (.sl 9 0 39 1) (.b true) (.cons (.s [45, 110]) (elsV 0 200 38 10 .nil)) ty 48 = true := by kernel_rfl
theorem te_g37 (ty : Nat) (τ : Nat → Nat) : teRun τ (.sl 9 0 37 1) (.b false) (elsV 0 200 37 10 .nil) ty 47 = true := by kernel_rfl
theorem te_z36 (ty : Nat) (τ : Nat → Nat) : teRun τ (.sl 9 0 36 1) (.b true) (.cons (.s []) (elsV 0 200 35 10 .nil)) ty 45 = true := by kernel_rfl
theorem te_a35 (ty : Nat) (τ : Nat → Nat) : teRun τ (.sl 9 0 35 1) (.b true) (.cons (.w (.cons (.x 44 .u8 0 44) (.cons (.x 45 .u8 0 255) .nil))) (elsV 0 200 34 10 .nil)) ty 46 = true := by kernel_rfl
theorem te_c34 (ty : Nat) (τ : Nat → Nat) : teRun τ (.sl 9 0 34 1) (.b true) (.cons (.w (.cons (.i .u8 45) (.cons (.x 44 .u8 0 109) .nil))) (elsV 0 200 33 10 .nil)) ty 45 = true := by kernel_rfl
theorem te_n33 (ty : Nat) (τ : Nat → Nat) : teRun τ (.sl 9 0 33 1) (.b true) (.cons (.s [45, 110]) (elsV 0 200 32 10 .nil)) ty 42 = true := by kernel_rfl
theorem te_g31 (ty : Nat) (τ : Nat → Nat) : teRun τ (.sl 9 0 31 1) (.b false) (elsV 0 200 31 10 .nil) ty 41 = true := by kernel_rfl
theorem te_z30 (ty : Nat) (τ : Nat → Nat) : teRun τ (.sl 9 0 30 1) (.b true) (.cons (.s []) (elsV 0 200 29 10 .nil)) ty 39 = true := by kernel_rfl
theorem te_a29 (ty : Nat) (τ : Nat → Nat) : teRun τ (.sl 9 0 29 1) (.b true) (.cons (.w (.cons (.x 38 .u8 0 44) (.cons (.x 39 .u8 0 255) .nil))) (elsV 0 200 28 10 .nil)) ty 40 = true := by kernel_rfl
theorem te_c28 (ty : Nat) (τ : Nat → Nat) : teRun τ (.sl 9 0 28 1) (.b true) (.cons (.w (.cons (.i .u8 45) (.cons (.x 38 .u8 0 109) .nil))) (elsV 0 200 27 10 .nil)) ty 39 = true := by kernel_rfl
theorem te_n27 (ty : Nat) (τ : Nat → Nat) : teRun τ (.sl 9 0 27 1) (.b true) (.cons (.s [45, 110]) (elsV 0 200 26 10 .nil)) ty 36 = true := by kernel_rfl
theorem te_g25 (ty : Nat) (τ : Nat → Nat) : teRun τ (.sl 9 0 25 1) (.b false) (elsV 0 200 25 10 .nil) ty 35 = true := by kernel_rfl
theorem te_z24 (ty : Nat) (τ : Nat → Nat) : teRun τ (.sl 9 0 24 1) (.b true) (.cons (.s []) (elsV 0 200 23 10 .nil)) ty 33 = true := by kernel_rfl
theorem te_a23 (ty : Nat) (τ : Nat → Nat) : teRun τ (.sl 9 0 23 1) (.b true) (.cons (.w (.cons (.x 32 .u8 0 44) (.cons (.x 33 .u8 0 255) .nil))) (elsV 0 200 22 10 .nil)) ty 34 = true := by kernel_rfl
theorem te_c22 (ty : Nat) (τ : Nat → Nat) : teRun τ (.sl 9 0 22 1) (.b true) (.cons (.w (.cons (.i .u8 45) (.cons (.x 32 .u8 0 109) .nil))) (elsV 0 200 21 10 .nil)) ty 33 = true := by kernel_rfl
theorem te_n21 (ty : Nat) (τ : Nat → Nat) : teRun τ (.sl 9 0 21 1) (.b true) (.cons (.s [45, 110]) (elsV 0 200 20 10 .nil)) ty 30 = true := by kernel_rfl
theorem te_g19 (ty : Nat) (τ : Nat → Nat) : teRun τ (.sl 9 0 19 1) (.b false) (elsV 0 200 19 10 .nil) ty 29 = true := by kernel_rfl
theorem te_z18 (ty : Nat) (τ : Nat → Nat) : teRun τ (.sl 9 0 18 1) (.b true) (.cons (.s []) (elsV 0 200 17 10 .nil)) ty 27 = true := by kernel_rfl
theorem te_a17 (ty : Nat) (τ : Nat → Nat) : teRun τ (.sl 9 0 17 1) (.b true) (.cons (.w (.cons (.x 26 .u8 0 44) (.cons (.x 27 .u8 0 255) .nil))) (elsV 0 200 16 10 .nil)) ty 28 = true := by kernel_rfl
theorem te_c16 (ty : Nat) (τ : Nat → Nat) : teRun τ (.sl 9 0 16 1) (.b true) (.cons (.w (.cons (.i .u8 45) (.cons (.x 26 .u8 0 109) .nil))) (elsV 0 200 15 10 .nil)) ty 27 = true := by kernel_rfl
theorem te_n15 (ty : Nat) (τ : Nat → Nat) : teRun τ (.sl 9 0 15 1) (.b true) (.cons (.s [45, 110]) (elsV 0 200 14 10 .nil)) ty 24 = true := by kernel_rfl
theorem te_g13 (ty : Nat) (τ : Nat → Nat) : teRun τ (.sl 9 0 13 1) (.b false) (elsV 0 200 13 10 .nil) ty 23 = true := by kernel_rfl
theorem te_z12 (ty : Nat) (τ : Nat → Nat) : teRun τ (.sl 9 0 12 1) (.b true) (.cons (.s []) (elsV 0 200 11 10 .nil)) ty 21 = true := by kernel_rfl
theorem te_a11 (ty : Nat) (τ : Nat → Nat) : teRun τ (.sl 9 0 11 1) (.b true) (.cons (.w (.cons (.x 20 .u8 0 44) (.cons (.x 21 .u8 0 255) .nil))) (elsV 0 200 10 10 .nil)) ty 22 = true := by kernel_rfl
theorem te_c10 (ty : Nat) (τ : Nat → Nat) : teRun τ (.sl 9 0 10 1) (.b true) (.cons (.w (.cons (.i .u8 45) (.cons (.x 20 .u8 0 109) .nil))) (elsV 0 200 9 10 .nil)) ty 21 = true := by kernel_rfl
theorem te_n9 (ty : Nat) (τ : Nat → Nat) : teRun τ (.sl 9 0 9 1) (.b true) (.cons (.s [45, 110]) (elsV 0 200 8 10 .nil)) ty 18 = true := by kernel_rfl
theorem te_g7 (ty : Nat) (τ : Nat → Nat) : teRun τ (.sl 9 0 7 1) (.b false) (elsV 0 200 7 10 .nil) ty 17 = true := by kernel_rfl
theorem te_z6 (ty : Nat) (τ : Nat → Nat) : teRun τ (.sl 9 0 6 1) (.b true) (.cons (.s []) (elsV 0 200 5 10 .nil)) ty 15 = true := by kernel_rfl
theorem te_a5 (ty : Nat) (τ : Nat → Nat) : teRun τ (.sl 9 0 5 1) (.b true) (.cons (.w (.cons (.x 14 .u8 0 44) (.cons (.x 15 .u8 0 255) .nil))) (elsV 0 200 4 10 .nil)) ty 16 = true := by kernel_rfl
theorem te_c4 (ty : Nat) (τ : Nat → Nat) : teRun τ (.sl 9 0 4 1) (.b true) (.cons (.w (.cons (.i .u8 45) (.cons (.x 14 .u8 0 109) .nil))) (elsV 0 200 3 10 .nil)) ty 15 = true := by kernel_rfl
theorem te_n3 (ty : Nat) (τ : Nat → Nat) : teRun τ (.sl 9 0 3 1) (.b true) (.cons (.s [45, 110]) (elsV 0 200 2 10 .nil)) ty 12 = true := by kernel_rfl
theorem te_x1 (g : Bool) (ty : Nat) (τ : Nat → Nat) : allN 1 (fun k => teRun τ (.sl 9 0 1 1) (.b g) (elsV 0 200 k 10 (.cons (elV (10 + k) 201 9223372036854775807) .nil)) ty (10 + (k + 1))) = true := by kernel_rfl
end
end Go.Proofs.YtkppbibiaiecnaaGreatDoor
