/-
  Runs of toolsEcho, by the kernel (6 of 13). No condition.
-/
import Derived.Test.YtkppbibiaiecnaaGreatDoorRuntoolsEcho0
open Go Go.Mx
namespace Go.Proofs.YtkppbibiaiecnaaGreatDoor
set_option maxRecDepth 1000000
noncomputable section
theorem te_a40 (ty : Nat) (τ : Nat → Nat) : teRun τ (.sl 9 0 40 1) (.b true) (.cons (.w (.cons (.x 49 .u8 0 44) (.cons (.x 50 .u8 0 255) .nil))) (elsV 0 200 39 10 .nil)) ty 51 = true := by kernel_rfl
theorem te_c39 (ty : Nat) (τ : Nat → Nat) : teRun τ (.sl 9 0 39 1) (.b true) (.cons (.w (.cons (.i .u8 45) (.cons (.x 49 .u8 0 109) .nil))) (elsV 0 200 38 10 .nil)) ty 50 = true := by kernel_rfl
theorem te_n38 (ty : Nat) (τ : Nat → Nat) : teRun τ (.sl 9 0 38 1) (.b true) (.cons (.s [45, 110]) (elsV 0 200 37 10 .nil)) ty 47 = true := by kernel_rfl
theorem te_g36 (ty : Nat) (τ : Nat → Nat) : teRun τ (.sl 9 0 36 1) (.b false) (elsV 0 200 36 10 .nil) ty 46 = true := by kernel_rfl
theorem te_z35 (ty : Nat) (τ : Nat → Nat) : teRun τ (.sl 9 0 35 1) (.b true) (.cons (.s []) (elsV 0 200 34 10 .nil)) ty 44 = true := by kernel_rfl
theorem te_a34 (ty : Nat) (τ : Nat → Nat) : teRun τ (.sl 9 0 34 1) (.b true) (.cons (.w (.cons (.x 43 .u8 0 44) (.cons (.x 44 .u8 0 255) .nil))) (elsV 0 200 33 10 .nil)) ty 45 = true := by kernel_rfl
theorem te_c33 (ty : Nat) (τ : Nat → Nat) : teRun τ (.sl 9 0 33 1) (.b true) (.cons (.w (.cons (.i .u8 45) (.cons (.x 43 .u8 0 109) .nil))) (elsV 0 200 32 10 .nil)) ty 44 = true := by kernel_rfl
theorem te_n32 (ty : Nat) (τ : Nat → Nat) : teRun τ (.sl 9 0 32 1) (.b true) (.cons (.s [45, 110]) (elsV 0 200 31 10 .nil)) ty 41 = true := by kernel_rfl
theorem te_g30 (ty : Nat) (τ : Nat → Nat) : teRun τ (.sl 9 0 30 1) (.b false) (elsV 0 200 30 10 .nil) ty 40 = true := by kernel_rfl
theorem te_z29 (ty : Nat) (τ : Nat → Nat) : teRun τ (.sl 9 0 29 1) (.b true) (.cons (.s []) (elsV 0 200 28 10 .nil)) ty 38 = true := by kernel_rfl
theorem te_a28 (ty : Nat) (τ : Nat → Nat) : teRun τ (.sl 9 0 28 1) (.b true) (.cons (.w (.cons (.x 37 .u8 0 44) (.cons (.x 38 .u8 0 255) .nil))) (elsV 0 200 27 10 .nil)) ty 39 = true := by kernel_rfl
theorem te_c27 (ty : Nat) (τ : Nat → Nat) : teRun τ (.sl 9 0 27 1) (.b true) (.cons (.w (.cons (.i .u8 45) (.cons (.x 37 .u8 0 109) .nil))) (elsV 0 200 26 10 .nil)) ty 38 = true := by kernel_rfl
theorem te_n26 (ty : Nat) (τ : Nat → Nat) : teRun τ (.sl 9 0 26 1) (.b true) (.cons (.s [45, 110]) (elsV 0 200 25 10 .nil)) ty 35 = true := by kernel_rfl
theorem te_g24 (ty : Nat) (τ : Nat → Nat) : teRun τ (.sl 9 0 24 1) (.b false) (elsV 0 200 24 10 .nil) ty 34 = true := by kernel_rfl
theorem te_z23 (ty : Nat) (τ : Nat → Nat) : teRun τ (.sl 9 0 23 1) (.b true) (.cons (.s []) (elsV 0 200 22 10 .nil)) ty 32 = true := by kernel_rfl
theorem te_a22 (ty : Nat) (τ : Nat → Nat) : teRun τ (.sl 9 0 22 1) (.b true) (.cons (.w (.cons (.x 31 .u8 0 44) (.cons (.x 32 .u8 0 255) .nil))) (elsV 0 200 21 10 .nil)) ty 33 = true := by kernel_rfl
theorem te_c21 (ty : Nat) (τ : Nat → Nat) : teRun τ (.sl 9 0 21 1) (.b true) (.cons (.w (.cons (.i .u8 45) (.cons (.x 31 .u8 0 109) .nil))) (elsV 0 200 20 10 .nil)) ty 32 = true := by kernel_rfl
theorem te_n20 (ty : Nat) (τ : Nat → Nat) : teRun τ (.sl 9 0 20 1) (.b true) (.cons (.s [45, 110]) (elsV 0 200 19 10 .nil)) ty 29 = true := by kernel_rfl
theorem te_g18 (ty : Nat) (τ : Nat → Nat) : teRun τ (.sl 9 0 18 1) (.b false) (elsV 0 200 18 10 .nil) ty 28 = true := by kernel_rfl
theorem te_z17 (ty : Nat) (τ : Nat → Nat) : teRun τ (.sl 9 0 17 1) (.b true) (.cons (.s []) (elsV 0 200 16 10 .nil)) ty 26 = true := by kernel_rfl
theorem te_a16 (ty : Nat) (τ : Nat → Nat) : teRun τ (.sl 9 0 16 1) (.b true) (.cons (.w (.cons (.x 25 .u8 0 44) (.cons (.x 26 .u8 0 255) .nil))) (elsV 0 200 15 10 .nil)) ty 27 = true := by kernel_rfl
theorem te_c15 (ty : Nat) (τ : Nat → Nat) : teRun τ (.sl 9 0 15 1) (.b true) (.cons (.w (.cons (.i .u8 45) (.cons (.x 25 .u8 0 109) .nil))) (elsV 0 200 14 10 .nil)) ty 26 = true := by kernel_rfl
theorem te_n14 (ty : Nat) (τ : Nat → Nat) : teRun τ (.sl 9 0 14 1) (.b true) (.cons (.s [45, 110]) (elsV 0 200 13 10 .nil)) ty 23 = true := by kernel_rfl
theorem te_g12 (ty : Nat) (τ : Nat → Nat) : teRun τ (.sl 9 0 12 1) (.b false) (elsV 0 200 12 10 .nil) ty 22 = true := by kernel_rfl
theorem te_z11 (ty : Nat) (τ : Nat → Nat) : teRun τ (.sl 9 0 11 1) (.b true) (.cons (.s []) (elsV 0 200 10 10 .nil)) ty 20 = true := by kernel_rfl
theorem te_a10 (ty : Nat) (τ : Nat → Nat) : teRun τ (.sl 9 0 10 1) (.b true) (.cons (.w (.cons (.x 19 .u8 0 44) (.cons (.x 20 .u8 0 255) .nil))) (elsV 0 200 9 10 .nil)) ty 21 = true := by kernel_rfl
theorem te_c9 (ty : Nat) (τ : Nat → Nat) : teRun τ (.sl 9 0 9 1) (.b true) (.cons (.w (.cons (.i .u8 45) (.cons (.x 19 .u8 0 109) .nil))) (elsV 0 200 8 10 .nil)) ty 20 = true := by kernel_rfl
theorem te_n8 (ty : Nat) (τ : Nat → Nat) : teRun τ (.sl 9 0 8 1) (.b true) (.cons (.s [45, 110]) (elsV 0 200 7 10 .nil)) ty 17 = true := by kernel_rfl
theorem te_g6 (ty : Nat) (τ : Nat → Nat) : teRun τ (.sl 9 0 6 1) (.b false) (elsV 0 200 6 10 .nil) ty 16 = true := by kernel_rfl
theorem te_z5 (ty : Nat) (τ : Nat → Nat) : teRun τ (.sl 9 0 5 1) (.b true) (.cons (.s []) (elsV 0 200 4 10 .nil)) ty 14 = true := by kernel_rfl
theorem te_a4 (ty : Nat) (τ : Nat → Nat) : teRun τ (.sl 9 0 4 1) (.b true) (.cons (.w (.cons (.x 13 .u8 0 44) (.cons (.x 14 .u8 0 255) .nil))) (elsV 0 200 3 10 .nil)) ty 15 = true := by kernel_rfl
theorem te_c3 (ty : Nat) (τ : Nat → Nat) : teRun τ (.sl 9 0 3 1) (.b true) (.cons (.w (.cons (.i .u8 45) (.cons (.x 13 .u8 0 109) .nil))) (elsV 0 200 2 10 .nil)) ty 14 = true := by kernel_rfl
theorem te_n2 (ty : Nat) (τ : Nat → Nat) : teRun τ (.sl 9 0 2 1) (.b true) (.cons (.s [45, 110]) (elsV 0 200 1 10 .nil)) ty 11 = true := by kernel_rfl
end
end Go.Proofs.YtkppbibiaiecnaaGreatDoor
