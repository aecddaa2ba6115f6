/-
  Runs of toolsEcho, by the kernel (3 of 13). No condition.
-/
import Derived.Test.YtkppbibiaiecnaaGreatDoorRuntoolsEcho0
open Go Go.Mx
namespace Go.Proofs.YtkppbibiaiecnaaGreatDoor
set_option maxRecDepth 1000000
noncomputable section
theorem te_x40 (g : Bool) (ty : Nat) (τ : Nat → Nat) : allN 40 (fun k => teRun τ (.sl 9 0 40 1) (.b g) (elsV 0 200 k 10 (.cons (elV (10 + k) 201 9223372036854775807) .nil)) ty (10 + (k + 1))) = true := by kernel_rfl
theorem te_o39 (ty : Nat) (τ : Nat → Nat) : teRun τ (.sl 9 0 39 1) (.b true) (.cons (elV 48 1 1) (elsV 0 200 38 10 .nil)) ty 49 = true := by kernel_rfl
theorem te_b38 (ty : Nat) (τ : Nat → Nat) : teRun τ (.sl 9 0 38 1) (.b true) (.cons (.w (.cons (.x 47 .u8 46 255) (.cons (.x 48 .u8 0 255) .nil))) (elsV 0 200 37 10 .nil)) ty 49 = true := by kernel_rfl
theorem te_d37 (ty : Nat) (τ : Nat → Nat) : teRun τ (.sl 9 0 37 1) (.b true) (.cons (.w (.cons (.i .u8 45) (.cons (.x 47 .u8 111 255) .nil))) (elsV 0 200 36 10 .nil)) ty 48 = true := by kernel_rfl
theorem te_l36 (ty : Nat) (τ : Nat → Nat) : teRun τ (.sl 9 0 36 1) (.b true) (.cons (elV 45 3 200) (elsV 0 200 35 10 .nil)) ty 46 = true := by kernel_rfl
theorem te_x34 (g : Bool) (ty : Nat) (τ : Nat → Nat) : allN 34 (fun k => teRun τ (.sl 9 0 34 1) (.b g) (elsV 0 200 k 10 (.cons (elV (10 + k) 201 9223372036854775807) .nil)) ty (10 + (k + 1))) = true := by kernel_rfl
theorem te_o33 (ty : Nat) (τ : Nat → Nat) : teRun τ (.sl 9 0 33 1) (.b true) (.cons (elV 42 1 1) (elsV 0 200 32 10 .nil)) ty 43 = true := by kernel_rfl
theorem te_b32 (ty : Nat) (τ : Nat → Nat) : teRun τ (.sl 9 0 32 1) (.b true) (.cons (.w (.cons (.x 41 .u8 46 255) (.cons (.x 42 .u8 0 255) .nil))) (elsV 0 200 31 10 .nil)) ty 43 = true := by kernel_rfl
theorem te_d31 (ty : Nat) (τ : Nat → Nat) : teRun τ (.sl 9 0 31 1) (.b true) (.cons (.w (.cons (.i .u8 45) (.cons (.x 41 .u8 111 255) .nil))) (elsV 0 200 30 10 .nil)) ty 42 = true := by kernel_rfl
theorem te_l30 (ty : Nat) (τ : Nat → Nat) : teRun τ (.sl 9 0 30 1) (.b true) (.cons (elV 39 3 200) (elsV 0 200 29 10 .nil)) ty 40 = true := by kernel_rfl
theorem te_x28 (g : Bool) (ty : Nat) (τ : Nat → Nat) : allN 28 (fun k => teRun τ (.sl 9 0 28 1) (.b g) (elsV 0 200 k 10 (.cons (elV (10 + k) 201 9223372036854775807) .nil)) ty (10 + (k + 1))) = true := by kernel_rfl
theorem te_o27 (ty : Nat) (τ : Nat → Nat) : teRun τ (.sl 9 0 27 1) (.b true) (.cons (elV 36 1 1) (elsV 0 200 26 10 .nil)) ty 37 = true := by kernel_rfl
theorem te_b26 (ty : Nat) (τ : Nat → Nat) : teRun τ (.sl 9 0 26 1) (.b true) (.cons (.w (.cons (.x 35 .u8 46 255) (.cons (.x 36 .u8 0 255) .nil))) (elsV 0 200 25 10 .nil)) ty 37 = true := by kernel_rfl
theorem te_d25 (ty : Nat) (τ : Nat → Nat) : teRun τ (.sl 9 0 25 1) (.b true) (.cons (.w (.cons (.i .u8 45) (.cons (.x 35 .u8 111 255) .nil))) (elsV 0 200 24 10 .nil)) ty 36 = true := by kernel_rfl
theorem te_l24 (ty : Nat) (τ : Nat → Nat) : teRun τ (.sl 9 0 24 1) (.b true) (.cons (elV 33 3 200) (elsV 0 200 23 10 .nil)) ty 34 = true := by kernel_rfl
theorem te_x22 (g : Bool) (ty : Nat) (τ : Nat → Nat) : allN 22 (fun k => teRun τ (.sl 9 0 22 1) (.b g) (elsV 0 200 k 10 (.cons (elV (10 + k) 201 9223372036854775807) .nil)) ty (10 + (k + 1))) = true := by kernel_rfl
theorem te_o21 (ty : Nat) (τ : Nat → Nat) : teRun τ (.sl 9 0 21 1) (.b true) (.cons (elV 30 1 1) (elsV 0 200 20 10 .nil)) ty 31 = true := by kernel_rfl
theorem te_b20 (ty : Nat) (τ : Nat → Nat) : teRun τ (.sl 9 0 20 1) (.b true) (.cons (.w (.cons (.x 29 .u8 46 255) (.cons (.x 30 .u8 0 255) .nil))) (elsV 0 200 19 10 .nil)) ty 31 = true := by kernel_rfl
theorem te_d19 (ty : Nat) (τ : Nat → Nat) : teRun τ (.sl 9 0 19 1) (.b true) (.cons (.w (.cons (.i .u8 45) (.cons (.x 29 .u8 111 255) .nil))) (elsV 0 200 18 10 .nil)) ty 30 = true := by kernel_rfl
theorem te_l18 (ty : Nat) (τ : Nat → Nat) : teRun τ (.sl 9 0 18 1) (.b true) (.cons (elV 27 3 200) (elsV 0 200 17 10 .nil)) ty 28 = true := by kernel_rfl
theorem te_x16 (g : Bool) (ty : Nat) (τ : Nat → Nat) : allN 16 (fun k => teRun τ (.sl 9 0 16 1) (.b g) (elsV 0 200 k 10 (.cons (elV (10 + k) 201 9223372036854775807) .nil)) ty (10 + (k + 1))) = true := by kernel_rfl
theorem te_o15 (ty : Nat) (τ : Nat → Nat) : teRun τ (.sl 9 0 15 1) (.b true) (.cons (elV 24 1 1) (elsV 0 200 14 10 .nil)) ty 25 = true := by kernel_rfl
theorem te_b14 (ty : Nat) (τ : Nat → Nat) : teRun τ (.sl 9 0 14 1) (.b true) (.cons (.w (.cons (.x 23 .u8 46 255) (.cons (.x 24 .u8 0 255) .nil))) (elsV 0 200 13 10 .nil)) ty 25 = true := by kernel_rfl
theorem te_d13 (ty : Nat) (τ : Nat → Nat) : teRun τ (.sl 9 0 13 1) (.b true) (.cons (.w (.cons (.i .u8 45) (.cons (.x 23 .u8 111 255) .nil))) (elsV 0 200 12 10 .nil)) ty 24 = true := by kernel_rfl
theorem te_l12 (ty : Nat) (τ : Nat → Nat) : teRun τ (.sl 9 0 12 1) (.b true) (.cons (elV 21 3 200) (elsV 0 200 11 10 .nil)) ty 22 = true := by kernel_rfl
theorem te_x10 (g : Bool) (ty : Nat) (τ : Nat → Nat) : allN 10 (fun k => teRun τ (.sl 9 0 10 1) (.b g) (elsV 0 200 k 10 (.cons (elV (10 + k) 201 9223372036854775807) .nil)) ty (10 + (k + 1))) = true := by kernel_rfl
theorem te_o9 (ty : Nat) (τ : Nat → Nat) : teRun τ (.sl 9 0 9 1) (.b true) (.cons (elV 18 1 1) (elsV 0 200 8 10 .nil)) ty 19 = true := by kernel_rfl
theorem te_b8 (ty : Nat) (τ : Nat → Nat) : teRun τ (.sl 9 0 8 1) (.b true) (.cons (.w (.cons (.x 17 .u8 46 255) (.cons (.x 18 .u8 0 255) .nil))) (elsV 0 200 7 10 .nil)) ty 19 = true := by kernel_rfl
theorem te_d7 (ty : Nat) (τ : Nat → Nat) : teRun τ (.sl 9 0 7 1) (.b true) (.cons (.w (.cons (.i .u8 45) (.cons (.x 17 .u8 111 255) .nil))) (elsV 0 200 6 10 .nil)) ty 18 = true := by kernel_rfl
theorem te_l6 (ty : Nat) (τ : Nat → Nat) : teRun τ (.sl 9 0 6 1) (.b true) (.cons (elV 15 3 200) (elsV 0 200 5 10 .nil)) ty 16 = true := by kernel_rfl
theorem te_x4 (g : Bool) (ty : Nat) (τ : Nat → Nat) : allN 4 (fun k => teRun τ (.sl 9 0 4 1) (.b g) (elsV 0 200 k 10 (.cons (elV (10 + k) 201 9223372036854775807) .nil)) ty (10 + (k + 1))) = true := by kernel_rfl
theorem te_o3 (ty : Nat) (τ : Nat → Nat) : teRun τ (.sl 9 0 3 1) (.b true) (.cons (elV 12 1 1) (elsV 0 200 2 10 .nil)) ty 13 = true := by kernel_rfl
theorem te_b2 (ty : Nat) (τ : Nat → Nat) : teRun τ (.sl 9 0 2 1) (.b true) (.cons (.w (.cons (.x 11 .u8 46 255) (.cons (.x 12 .u8 0 255) .nil))) (elsV 0 200 1 10 .nil)) ty 13 = true := by kernel_rfl
theorem te_n1 (ty : Nat) (τ : Nat → Nat) : teRun τ (.sl 9 0 1 1) (.b true) (.cons (.s [45, 110]) (elsV 0 200 0 10 .nil)) ty 10 = true := by kernel_rfl
end
end Go.Proofs.YtkppbibiaiecnaaGreatDoor
