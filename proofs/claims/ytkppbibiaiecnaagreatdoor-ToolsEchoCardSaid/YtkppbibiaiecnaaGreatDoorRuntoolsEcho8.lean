/-
  Runs of toolsEcho, by the kernel (9 of 13). No condition.
-/
import Derived.Test.YtkppbibiaiecnaaGreatDoorRuntoolsEcho0
open Go Go.Mx
namespace Go.Proofs.YtkppbibiaiecnaaGreatDoor
set_option maxRecDepth 1000000
noncomputable section
theorem te_d40 (ty : Nat) (τ : Nat → Nat) : teRun τ (.sl 9 0 40 1) (.b true) (.cons (.w (.cons (.i .u8 45) (.cons (.x 50 .u8 111 255) .nil))) (elsV 0 200 39 10 .nil)) ty 51 = true := by kernel_rfl
theorem te_l39 (ty : Nat) (τ : Nat → Nat) : teRun τ (.sl 9 0 39 1) (.b true) (.cons (elV 48 3 200) (elsV 0 200 38 10 .nil)) ty 49 = true := by kernel_rfl
theorem te_x37 (g : Bool) (ty : Nat) (τ : Nat → Nat) : allN 37 (fun k => teRun τ (.sl 9 0 37 1) (.b g) (elsV 0 200 k 10 (.cons (elV (10 + k) 201 9223372036854775807) .nil)) ty (10 + (k + 1))) = true := by kernel_rfl
theorem te_o36 (ty : Nat) (τ : Nat → Nat) : teRun τ (.sl 9 0 36 1) (.b true) (.cons (elV 45 1 1) (elsV 0 200 35 10 .nil)) ty 46 = true := by kernel_rfl
theorem te_b35 (ty : Nat) (τ : Nat → Nat) : teRun τ (.sl 9 0 35 1) (.b true) (.cons (.w (.cons (.x 44 .u8 46 255) (.cons (.x 45 .u8 0 255) .nil))) (elsV 0 200 34 10 .nil)) ty 46 = true := by kernel_rfl
theorem te_d34 (ty : Nat) (τ : Nat → Nat) : teRun τ (.sl 9 0 34 1) (.b true) (.cons (.w (.cons (.i .u8 45) (.cons (.x 44 .u8 111 255) .nil))) (elsV 0 200 33 10 .nil)) ty 45 = true := by kernel_rfl
theorem te_l33 (ty : Nat) (τ : Nat → Nat) : teRun τ (.sl 9 0 33 1) (.b true) (.cons (elV 42 3 200) (elsV 0 200 32 10 .nil)) ty 43 = true := by kernel_rfl
theorem te_x31 (g : Bool) (ty : Nat) (τ : Nat → Nat) : allN 31 (fun k => teRun τ (.sl 9 0 31 1) (.b g) (elsV 0 200 k 10 (.cons (elV (10 + k) 201 9223372036854775807) .nil)) ty (10 + (k + 1))) = true := by kernel_rfl
theorem te_o30 (ty : Nat) (τ : Nat → Nat) : teRun τ (.sl 9 0 30 1) (.b true) (.cons (elV 39 1 1) (elsV 0 200 29 10 .nil)) ty 40 = true := by kernel_rfl
theorem te_b29 (ty : Nat) (τ : Nat → Nat) : teRun τ (.sl 9 0 29 1) (.b true) (.cons (.w (.cons (.x 38 .u8 46 255) (.cons (.x 39 .u8 0 255) .nil))) (elsV 0 200 28 10 .nil)) ty 40 = true := by kernel_rfl
theorem te_d28 (ty : Nat) (τ : Nat → Nat) : teRun τ (.sl 9 0 28 1) (.b true) (.cons (.w (.cons (.i .u8 45) (.cons (.x 38 .u8 111 255) .nil))) (elsV 0 200 27 10 .nil)) ty 39 = true := by kernel_rfl
theorem te_l27 (ty : Nat) (τ : Nat → Nat) : teRun τ (.sl 9 0 27 1) (.b true) (.cons (elV 36 3 200) (elsV 0 200 26 10 .nil)) ty 37 = true := by kernel_rfl
theorem te_x25 (g : Bool) (ty : Nat) (τ : Nat → Nat) : allN 25 (fun k => teRun τ (.sl 9 0 25 1) (.b g) (elsV 0 200 k 10 (.cons (elV (10 + k) 201 9223372036854775807) .nil)) ty (10 + (k + 1))) = true := by kernel_rfl
theorem te_o24 (ty : Nat) (τ : Nat → Nat) : teRun τ (.sl 9 0 24 1) (.b true) (.cons (elV 33 1 1) (elsV 0 200 23 10 .nil)) ty 34 = true := by kernel_rfl
theorem te_b23 (ty : Nat) (τ : Nat → Nat) : teRun τ (.sl 9 0 23 1) (.b true) (.cons (.w (.cons (.x 32 .u8 46 255) (.cons (.x 33 .u8 0 255) .nil))) (elsV 0 200 22 10 .nil)) ty 34 = true := by kernel_rfl
theorem te_d22 (ty : Nat) (τ : Nat → Nat) : teRun τ (.sl 9 0 22 1) (.b true) (.cons (.w (.cons (.i .u8 45) (.cons (.x 32 .u8 111 255) .nil))) (elsV 0 200 21 10 .nil)) ty 33 = true := by kernel_rfl
theorem te_l21 (ty : Nat) (τ : Nat → Nat) : teRun τ (.sl 9 0 21 1) (.b true) (.cons (elV 30 3 200) (elsV 0 200 20 10 .nil)) ty 31 = true := by kernel_rfl
theorem te_x19 (g : Bool) (ty : Nat) (τ : Nat → Nat) : allN 19 (fun k => teRun τ (.sl 9 0 19 1) (.b g) (elsV 0 200 k 10 (.cons (elV (10 + k) 201 9223372036854775807) .nil)) ty (10 + (k + 1))) = true := by kernel_rfl
theorem te_o18 (ty : Nat) (τ : Nat → Nat) : teRun τ (.sl 9 0 18 1) (.b true) (.cons (elV 27 1 1) (elsV 0 200 17 10 .nil)) ty 28 = true := by kernel_rfl
theorem te_b17 (ty : Nat) (τ : Nat → Nat) : teRun τ (.sl 9 0 17 1) (.b true) (.cons (.w (.cons (.x 26 .u8 46 255) (.cons (.x 27 .u8 0 255) .nil))) (elsV 0 200 16 10 .nil)) ty 28 = true := by kernel_rfl
theorem te_d16 (ty : Nat) (τ : Nat → Nat) : teRun τ (.sl 9 0 16 1) (.b true) (.cons (.w (.cons (.i .u8 45) (.cons (.x 26 .u8 111 255) .nil))) (elsV 0 200 15 10 .nil)) ty 27 = true := by kernel_rfl
theorem te_l15 (ty : Nat) (τ : Nat → Nat) : teRun τ (.sl 9 0 15 1) (.b true) (.cons (elV 24 3 200) (elsV 0 200 14 10 .nil)) ty 25 = true := by kernel_rfl
theorem te_x13 (g : Bool) (ty : Nat) (τ : Nat → Nat) : allN 13 (fun k => teRun τ (.sl 9 0 13 1) (.b g) (elsV 0 200 k 10 (.cons (elV (10 + k) 201 9223372036854775807) .nil)) ty (10 + (k + 1))) = true := by kernel_rfl
theorem te_o12 (ty : Nat) (τ : Nat → Nat) : teRun τ (.sl 9 0 12 1) (.b true) (.cons (elV 21 1 1) (elsV 0 200 11 10 .nil)) ty 22 = true := by kernel_rfl
theorem te_b11 (ty : Nat) (τ : Nat → Nat) : teRun τ (.sl 9 0 11 1) (.b true) (.cons (.w (.cons (.x 20 .u8 46 255) (.cons (.x 21 .u8 0 255) .nil))) (elsV 0 200 10 10 .nil)) ty 22 = true := by kernel_rfl
theorem te_d10 (ty : Nat) (τ : Nat → Nat) : teRun τ (.sl 9 0 10 1) (.b true) (.cons (.w (.cons (.i .u8 45) (.cons (.x 20 .u8 111 255) .nil))) (elsV 0 200 9 10 .nil)) ty 21 = true := by kernel_rfl
theorem te_l9 (ty : Nat) (τ : Nat → Nat) : teRun τ (.sl 9 0 9 1) (.b true) (.cons (elV 18 3 200) (elsV 0 200 8 10 .nil)) ty 19 = true := by kernel_rfl
theorem te_x7 (g : Bool) (ty : Nat) (τ : Nat → Nat) : allN 7 (fun k => teRun τ (.sl 9 0 7 1) (.b g) (elsV 0 200 k 10 (.cons (elV (10 + k) 201 9223372036854775807) .nil)) ty (10 + (k + 1))) = true := by kernel_rfl
theorem te_o6 (ty : Nat) (τ : Nat → Nat) : teRun τ (.sl 9 0 6 1) (.b true) (.cons (elV 15 1 1) (elsV 0 200 5 10 .nil)) ty 16 = true := by kernel_rfl
theorem te_b5 (ty : Nat) (τ : Nat → Nat) : teRun τ (.sl 9 0 5 1) (.b true) (.cons (.w (.cons (.x 14 .u8 46 255) (.cons (.x 15 .u8 0 255) .nil))) (elsV 0 200 4 10 .nil)) ty 16 = true := by kernel_rfl
theorem te_d4 (ty : Nat) (τ : Nat → Nat) : teRun τ (.sl 9 0 4 1) (.b true) (.cons (.w (.cons (.i .u8 45) (.cons (.x 14 .u8 111 255) .nil))) (elsV 0 200 3 10 .nil)) ty 15 = true := by kernel_rfl
theorem te_l3 (ty : Nat) (τ : Nat → Nat) : teRun τ (.sl 9 0 3 1) (.b true) (.cons (elV 12 3 200) (elsV 0 200 2 10 .nil)) ty 13 = true := by kernel_rfl
theorem te_z1 (ty : Nat) (τ : Nat → Nat) : teRun τ (.sl 9 0 1 1) (.b true) (.cons (.s []) (elsV 0 200 0 10 .nil)) ty 10 = true := by kernel_rfl
end
end Go.Proofs.YtkppbibiaiecnaaGreatDoor
