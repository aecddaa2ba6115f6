/-
  Runs of toolsEcho, by the kernel (5 of 13). No condition.
-/
import Derived.Test.YtkppbibiaiecnaaGreatDoorRuntoolsEcho0
open Go Go.Mx
namespace Go.Proofs.YtkppbibiaiecnaaGreatDoor
set_option maxRecDepth 1000000
noncomputable section
theorem te_o40 (ty : Nat) (τ : Nat → Nat) : teRun τ (.sl 9 0 40 1) (.b true) (.cons (elV 49 1 1) (elsV 0 200 39 10 .nil)) ty 50 = true := by kernel_rfl
theorem te_b39 (ty : Nat) (τ : Nat → Nat) : teRun τ (.sl 9 0 39 1) (.b true) (.cons (.w (.cons (.x 48 .u8 46 255) (.cons (.x 49 .u8 0 255) .nil))) (elsV 0 200 38 10 .nil)) ty 50 = true := by kernel_rfl
theorem te_d38 (ty : Nat) (τ : Nat → Nat) : teRun τ (.sl 9 0 38 1) (.b true) (.cons (.w (.cons (.i .u8 45) (.cons (.x 48 .u8 111 255) .nil))) (elsV 0 200 37 10 .nil)) ty 49 = true := by kernel_rfl
theorem te_l37 (ty : Nat) (τ : Nat → Nat) : teRun τ (.sl 9 0 37 1) (.b true) (.cons (elV 46 3 200) (elsV 0 200 36 10 .nil)) ty 47 = true := by kernel_rfl
theorem te_x35 (g : Bool) (ty : Nat) (τ : Nat → Nat) : allN 35 (fun k => teRun τ (.sl 9 0 35 1) (.b g) (elsV 0 200 k 10 (.cons (elV (10 + k) 201 9223372036854775807) .nil)) ty (10 + (k + 1))) = true := by kernel_rfl
theorem te_o34 (ty : Nat) (τ : Nat → Nat) : teRun τ (.sl 9 0 34 1) (.b true) (.cons (elV 43 1 1) (elsV 0 200 33 10 .nil)) ty 44 = true := by kernel_rfl
theorem te_b33 (ty : Nat) (τ : Nat → Nat) : teRun τ (.sl 9 0 33 1) (.b true) (.cons (.w (.cons (.x 42 .u8 46 255) (.cons (.x 43 .u8 0 255) .nil))) (elsV 0 200 32 10 .nil)) ty 44 = true := by kernel_rfl
theorem te_d32 (ty : Nat) (τ : Nat → Nat) : teRun τ (.sl 9 0 32 1) (.b true) (.cons (.w (.cons (.i .u8 45) (.cons (.x 42 .u8 111 255) .nil))) (elsV 0 200 31 10 .nil)) ty 43 = true := by kernel_rfl
theorem te_l31 (ty : Nat) (τ : Nat → Nat) : teRun τ (.sl 9 0 31 1) (.b true) (.cons (elV 40 3 200) (elsV 0 200 30 10 .nil)) ty 41 = true := by kernel_rfl
theorem te_x29 (g : Bool) (ty : Nat) (τ : Nat → Nat) : allN 29 (fun k => teRun τ (.sl 9 0 29 1) (.b g) (elsV 0 200 k 10 (.cons (elV (10 + k) 201 9223372036854775807) .nil)) ty (10 + (k + 1))) = true := by kernel_rfl
theorem te_o28 (ty : Nat) (τ : Nat → Nat) : teRun τ (.sl 9 0 28 1) (.b true) (.cons (elV 37 1 1) (elsV 0 200 27 10 .nil)) ty 38 = true := by kernel_rfl
theorem te_b27 (ty : Nat) (τ : Nat → Nat) : teRun τ (.sl 9 0 27 1) (.b true) (.cons (.w (.cons (.x 36 .u8 46 255) (.cons (.x 37 .u8 0 255) .nil))) (elsV 0 200 26 10 .nil)) ty 38 = true := by kernel_rfl
theorem te_d26 (ty : Nat) (τ : Nat → Nat) : teRun τ (.sl 9 0 26 1) (.b true) (.cons (.w (.cons (.i .u8 45) (.cons (.x 36 .u8 111 255) .nil))) (elsV 0 200 25 10 .nil)) ty 37 = true := by kernel_rfl
theorem te_l25 (ty : Nat) (τ : Nat → Nat) : teRun τ (.sl 9 0 25 1) (.b true) (.cons (elV 34 3 200) (elsV 0 200 24 10 .nil)) ty 35 = true := by kernel_rfl
theorem te_x23 (g : Bool) (ty : Nat) (τ : Nat → Nat) : allN 23 (fun k => teRun τ (.sl 9 0 23 1) (.b g) (elsV 0 200 k 10 (.cons (elV (10 + k) 201 9223372036854775807) .nil)) ty (10 + (k + 1))) = true := by kernel_rfl
theorem te_o22 (ty : Nat) (τ : Nat → Nat) : teRun τ (.sl 9 0 22 1) (.b true) (.cons (elV 31 1 1) (elsV 0 200 21 10 .nil)) ty 32 = true := by kernel_rfl
theorem te_b21 (ty : Nat) (τ : Nat → Nat) : teRun τ (.sl 9 0 21 1) (.b true) (.cons (.w (.cons (.x 30 .u8 46 255) (.cons (.x 31 .u8 0 255) .nil))) (elsV 0 200 20 10 .nil)) ty 32 = true := by kernel_rfl
theorem te_d20 (ty : Nat) (τ : Nat → Nat) : teRun τ (.sl 9 0 20 1) (.b true) (.cons (.w (.cons (.i .u8 45) (.cons (.x 30 .u8 111 255) .nil))) (elsV 0 200 19 10 .nil)) ty 31 = true := by kernel_rfl
theorem te_l19 (ty : Nat) (τ : Nat → Nat) : teRun τ (.sl 9 0 19 1) (.b true) (.cons (elV 28 3 200) (elsV 0 200 18 10 .nil)) ty 29 = true := by kernel_rfl
theorem te_x17 (g : Bool) (ty : Nat) (τ : Nat → Nat) : allN 17 (fun k => teRun τ (.sl 9 0 17 1) (.b g) (elsV 0 200 k 10 (.cons (elV (10 + k) 201 9223372036854775807) .nil)) ty (10 + (k + 1))) = true := by kernel_rfl
theorem te_o16 (ty : Nat) (τ : Nat → Nat) : teRun τ (.sl 9 0 16 1) (.b true) (.cons (elV 25 1 1) (elsV 0 200 15 10 .nil)) ty 26 = true := by kernel_rfl
theorem te_b15 (ty : Nat) (τ : Nat → Nat) : teRun τ (.sl 9 0 15 1) (.b true) (.cons (.w (.cons (.x 24 .u8 46 255) (.cons (.x 25 .u8 0 255) .nil))) (elsV 0 200 14 10 .nil)) ty 26 = true := by kernel_rfl
theorem te_d14 (ty : Nat) (τ : Nat → Nat) : teRun τ (.sl 9 0 14 1) (.b true) (.cons (.w (.cons (.i .u8 45) (.cons (.x 24 .u8 111 255) .nil))) (elsV 0 200 13 10 .nil)) ty 25 = true := by kernel_rfl
theorem te_l13 (ty : Nat) (τ : Nat → Nat) : teRun τ (.sl 9 0 13 1) (.b true) (.cons (elV 22 3 200) (elsV 0 200 12 10 .nil)) ty 23 = true := by kernel_rfl
theorem te_x11 (g : Bool) (ty : Nat) (τ : Nat → Nat) : allN 11 (fun k => teRun τ (.sl 9 0 11 1) (.b g) (elsV 0 200 k 10 (.cons (elV (10 + k) 201 9223372036854775807) .nil)) ty (10 + (k + 1))) = true := by kernel_rfl
theorem te_o10 (ty : Nat) (τ : Nat → Nat) : teRun τ (.sl 9 0 10 1) (.b true) (.cons (elV 19 1 1) (elsV 0 200 9 10 .nil)) ty 20 = true := by kernel_rfl
theorem te_b9 (ty : Nat) (τ : Nat → Nat) : teRun τ (.sl 9 0 9 1) (.b true) (.cons (.w (.cons (.x 18 .u8 46 255) (.cons (.x 19 .u8 0 255) .nil))) (elsV 0 200 8 10 .nil)) ty 20 = true := by kernel_rfl
theorem te_d8 (ty : Nat) (τ : Nat → Nat) : teRun τ (.sl 9 0 8 1) (.b true) (.cons (.w (.cons (.i .u8 45) (.cons (.x 18 .u8 111 255) .nil))) (elsV 0 200 7 10 .nil)) ty 19 = true := by kernel_rfl
theorem te_l7 (ty : Nat) (τ : Nat → Nat) : teRun τ (.sl 9 0 7 1) (.b true) (.cons (elV 16 3 200) (elsV 0 200 6 10 .nil)) ty 17 = true := by kernel_rfl
theorem te_x5 (g : Bool) (ty : Nat) (τ : Nat → Nat) : allN 5 (fun k => teRun τ (.sl 9 0 5 1) (.b g) (elsV 0 200 k 10 (.cons (elV (10 + k) 201 9223372036854775807) .nil)) ty (10 + (k + 1))) = true := by kernel_rfl
theorem te_o4 (ty : Nat) (τ : Nat → Nat) : teRun τ (.sl 9 0 4 1) (.b true) (.cons (elV 13 1 1) (elsV 0 200 3 10 .nil)) ty 14 = true := by kernel_rfl
theorem te_b3 (ty : Nat) (τ : Nat → Nat) : teRun τ (.sl 9 0 3 1) (.b true) (.cons (.w (.cons (.x 12 .u8 46 255) (.cons (.x 13 .u8 0 255) .nil))) (elsV 0 200 2 10 .nil)) ty 14 = true := by kernel_rfl
theorem te_d2 (ty : Nat) (τ : Nat → Nat) : teRun τ (.sl 9 0 2 1) (.b true) (.cons (.w (.cons (.i .u8 45) (.cons (.x 12 .u8 111 255) .nil))) (elsV 0 200 1 10 .nil)) ty 13 = true := by kernel_rfl
end
end Go.Proofs.YtkppbibiaiecnaaGreatDoor
