/-
  Runs of toolsEcho, by the kernel (7 of 13). No condition.
-/
import Derived.Test.YtkppbibiaiecnaaGreatDoorRuntoolsEcho0
open Go Go.Mx
namespace Go.Proofs.YtkppbibiaiecnaaGreatDoor
set_option maxRecDepth 1000000
noncomputable section
theorem te_b40 (ty : Nat) (τ : Nat → Nat) : teRun τ (.sl 9 0 40 1) (.b true) (.cons (.w (.cons (.x 49 .u8 46 255) (.cons (.x 50 .u8 0 255) .nil))) (elsV 0 200 39 10 .nil)) ty 51 = true := by kernel_rfl
theorem te_d39 (ty : Nat) (τ : Nat → Nat) : teRun τ (.sl 9 0 39 1) (.b true) (.cons (.w (.cons (.i .u8 45) (.cons (.x 49 .u8 111 255) .nil))) (elsV 0 200 38 10 .nil)) ty 50 = true := by kernel_rfl
theorem te_l38 (ty : Nat) (τ : Nat → Nat) : teRun τ (.sl 9 0 38 1) (.b true) (.cons (elV 47 3 200) (elsV 0 200 37 10 .nil)) ty 48 = true := by kernel_rfl
theorem te_x36 (g : Bool) (ty : Nat) (τ : Nat → Nat) : allN 36 (fun k => teRun τ (.sl 9 0 36 1) (.b g) (elsV 0 200 k 10 (.cons (elV (10 + k) 201 9223372036854775807) .nil)) ty (10 + (k + 1))) = true := by kernel_rfl
theorem te_o35 (ty : Nat) (τ : Nat → Nat) : teRun τ (.sl 9 0 35 1) (.b true) (.cons (elV 44 1 1) (elsV 0 200 34 10 .nil)) ty 45 = true := by kernel_rfl
theorem te_b34 (ty : Nat) (τ : Nat → Nat) : teRun τ (.sl 9 0 34 1) (.b true) (.cons (.w (.cons (.x 43 .u8 46 255) (.cons (.x 44 .u8 0 255) .nil))) (elsV 0 200 33 10 .nil)) ty 45 = true := by kernel_rfl
theorem te_d33 (ty : Nat) (τ : Nat → Nat) : teRun τ (.sl 9 0 33 1) (.b true) (.cons (.w (.cons (.i .u8 45) (.cons (.x 43 .u8 111 255) .nil))) (elsV 0 200 32 10 .nil)) ty 44 = true := by kernel_rfl
theorem te_l32 (ty : Nat) (τ : Nat → Nat) : teRun τ (.sl 9 0 32 1) (.b true) (.cons (elV 41 3 200) (elsV 0 200 31 10 .nil)) ty 42 = true := by kernel_rfl
theorem te_x30 (g : Bool) (ty : Nat) (τ : Nat → Nat) : allN 30 (fun k => teRun τ (.sl 9 0 30 1) (.b g) (elsV 0 200 k 10 (.cons (elV (10 + k) 201 9223372036854775807) .nil)) ty (10 + (k + 1))) = true := by kernel_rfl
theorem te_o29 (ty : Nat) (τ : Nat → Nat) : teRun τ (.sl 9 0 29 1) (.b true) (.cons (elV 38 1 1) (elsV 0 200 28 10 .nil)) ty 39 = true := by kernel_rfl
theorem te_b28 (ty : Nat) (τ : Nat → Nat) : teRun τ (.sl 9 0 28 1) (.b true) (.cons (.w (.cons (.x 37 .u8 46 255) (.cons (.x 38 .u8 0 255) .nil))) (elsV 0 200 27 10 .nil)) ty 39 = true := by kernel_rfl
theorem te_d27 (ty : Nat) (τ : Nat → Nat) : teRun τ (.sl 9 0 27 1) (.b true) (.cons (.w (.cons (.i .u8 45) (.cons (.x 37 .u8 111 255) .nil))) (elsV 0 200 26 10 .nil)) ty 38 = true := by kernel_rfl
theorem te_l26 (ty : Nat) (τ : Nat → Nat) : teRun τ (.sl 9 0 26 1) (.b true) (.cons (elV 35 3 200) (elsV 0 200 25 10 .nil)) ty 36 = true := by kernel_rfl
theorem te_x24 (g : Bool) (ty : Nat) (τ : Nat → Nat) : allN 24 (fun k => teRun τ (.sl 9 0 24 1) (.b g) (elsV 0 200 k 10 (.cons (elV (10 + k) 201 9223372036854775807) .nil)) ty (10 + (k + 1))) = true := by kernel_rfl
theorem te_o23 (ty : Nat) (τ : Nat → Nat) : teRun τ (.sl 9 0 23 1) (.b true) (.cons (elV 32 1 1) (elsV 0 200 22 10 .nil)) ty 33 = true := by kernel_rfl
theorem te_b22 (ty : Nat) (τ : Nat → Nat) : teRun τ (.sl 9 0 22 1) (.b true) (.cons (.w (.cons (.x 31 .u8 46 255) (.cons (.x 32 .u8 0 255) .nil))) (elsV 0 200 21 10 .nil)) ty 33 = true := by kernel_rfl
theorem te_d21 (ty : Nat) (τ : Nat → Nat) : teRun τ (.sl 9 0 21 1) (.b true) (.cons (.w (.cons (.i .u8 45) (.cons (.x 31 .u8 111 255) .nil))) (elsV 0 200 20 10 .nil)) ty 32 = true := by kernel_rfl
theorem te_l20 (ty : Nat) (τ : Nat → Nat) : teRun τ (.sl 9 0 20 1) (.b true) (.cons (elV 29 3 200) (elsV 0 200 19 10 .nil)) ty 30 = true := by kernel_rfl
theorem te_x18 (g : Bool) (ty : Nat) (τ : Nat → Nat) : allN 18 (fun k => teRun τ (.sl 9 0 18 1) (.b g) (elsV 0 200 k 10 (.cons (elV (10 + k) 201 9223372036854775807) .nil)) ty (10 + (k + 1))) = true := by kernel_rfl
theorem te_o17 (ty : Nat) (τ : Nat → Nat) : teRun τ (.sl 9 0 17 1) (.b true) (.cons (elV 26 1 1) (elsV 0 200 16 10 .nil)) ty 27 = true := by kernel_rfl
theorem te_b16 (ty : Nat) (τ : Nat → Nat) : teRun τ (.sl 9 0 16 1) (.b true) (.cons (.w (.cons (.x 25 .u8 46 255) (.cons (.x 26 .u8 0 255) .nil))) (elsV 0 200 15 10 .nil)) ty 27 = true := by kernel_rfl
theorem te_d15 (ty : Nat) (τ : Nat → Nat) : teRun τ (.sl 9 0 15 1) (.b true) (.cons (.w (.cons (.i .u8 45) (.cons (.x 25 .u8 111 255) .nil))) (elsV 0 200 14 10 .nil)) ty 26 = true := by kernel_rfl
theorem te_l14 (ty : Nat) (τ : Nat → Nat) : teRun τ (.sl 9 0 14 1) (.b true) (.cons (elV 23 3 200) (elsV 0 200 13 10 .nil)) ty 24 = true := by kernel_rfl
theorem te_x12 (g : Bool) (ty : Nat) (τ : Nat → Nat) : allN 12 (fun k => teRun τ (.sl 9 0 12 1) (.b g) (elsV 0 200 k 10 (.cons (elV (10 + k) 201 9223372036854775807) .nil)) ty (10 + (k + 1))) = true := by kernel_rfl
theorem te_o11 (ty : Nat) (τ : Nat → Nat) : teRun τ (.sl 9 0 11 1) (.b true) (.cons (elV 20 1 1) (elsV 0 200 10 10 .nil)) ty 21 = true := by kernel_rfl
theorem te_b10 (ty : Nat) (τ : Nat → Nat) : teRun τ (.sl 9 0 10 1) (.b true) (.cons (.w (.cons (.x 19 .u8 46 255) (.cons (.x 20 .u8 0 255) .nil))) (elsV 0 200 9 10 .nil)) ty 21 = true := by kernel_rfl
theorem te_d9 (ty : Nat) (τ : Nat → Nat) : teRun τ (.sl 9 0 9 1) (.b true) (.cons (.w (.cons (.i .u8 45) (.cons (.x 19 .u8 111 255) .nil))) (elsV 0 200 8 10 .nil)) ty 20 = true := by kernel_rfl
theorem te_l8 (ty : Nat) (τ : Nat → Nat) : teRun τ (.sl 9 0 8 1) (.b true) (.cons (elV 17 3 200) (elsV 0 200 7 10 .nil)) ty 18 = true := by kernel_rfl
theorem te_x6 (g : Bool) (ty : Nat) (τ : Nat → Nat) : allN 6 (fun k => teRun τ (.sl 9 0 6 1) (.b g) (elsV 0 200 k 10 (.cons (elV (10 + k) 201 9223372036854775807) .nil)) ty (10 + (k + 1))) = true := by kernel_rfl
theorem te_o5 (ty : Nat) (τ : Nat → Nat) : teRun τ (.sl 9 0 5 1) (.b true) (.cons (elV 14 1 1) (elsV 0 200 4 10 .nil)) ty 15 = true := by kernel_rfl
theorem te_b4 (ty : Nat) (τ : Nat → Nat) : teRun τ (.sl 9 0 4 1) (.b true) (.cons (.w (.cons (.x 13 .u8 46 255) (.cons (.x 14 .u8 0 255) .nil))) (elsV 0 200 3 10 .nil)) ty 15 = true := by kernel_rfl
theorem te_d3 (ty : Nat) (τ : Nat → Nat) : teRun τ (.sl 9 0 3 1) (.b true) (.cons (.w (.cons (.i .u8 45) (.cons (.x 13 .u8 111 255) .nil))) (elsV 0 200 2 10 .nil)) ty 14 = true := by kernel_rfl
theorem te_l2 (ty : Nat) (τ : Nat → Nat) : teRun τ (.sl 9 0 2 1) (.b true) (.cons (elV 11 3 200) (elsV 0 200 1 10 .nil)) ty 12 = true := by kernel_rfl
end
end Go.Proofs.YtkppbibiaiecnaaGreatDoor
