/-
  Runs of toolsEcho, by the kernel (11 of 13). No condition.
-/
import Derived.Test.YtkppbibiaiecnaaGreatDoorRuntoolsEcho0
open Go Go.Mx
namespace Go.Proofs.YtkppbibiaiecnaaGreatDoor
set_option maxRecDepth 1000000
noncomputable section
theorem te_l40 (ty : Nat) (τ : Nat → Nat) : teRun τ (.sl 9 0 40 1) (.b true) (.cons (elV 49 3 200) (elsV 0 200 39 10 .nil)) ty 50 = true := by kernel_rfl
theorem te_x38 (g : Bool) (ty : Nat) (τ : Nat → Nat) : allN 38 (fun k => teRun τ (.sl 9 0 38 1) (.b g) (elsV 0 200 k 10 (.cons (elV (10 + k) 201 9223372036854775807) .nil)) ty (10 + (k + 1))) = true := by kernel_rfl
theorem te_o37 (ty : Nat) (τ : Nat → Nat) : teRun τ (.sl 9 0 37 1) (.b true) (.cons (elV 46 1 1) (elsV 0 200 36 10 .nil)) ty 47 = true := by kernel_rfl
theorem te_b36 (ty : Nat) (τ : Nat → Nat) : teRun τ (.sl 9 0 36 1) (.b true) (.cons (.w (.cons (.x 45 .u8 46 255) (.cons (.x 46 .u8 0 255) .nil))) (elsV 0 200 35 10 .nil)) ty 47 = true := by kernel_rfl
theorem te_d35 (ty : Nat) (τ : Nat → Nat) : teRun τ (.sl 9 0 35 1) (.b true) (.cons (.w (.cons (.i .u8 45) (.cons (.x 45 .u8 111 255) .nil))) (elsV 0 200 34 10 .nil)) ty 46 = true := by kernel_rfl
theorem te_l34 (ty : Nat) (τ : Nat → Nat) : teRun τ (.sl 9 0 34 1) (.b true) (.cons (elV 43 3 200) (elsV 0 200 33 10 .nil)) ty 44 = true := by kernel_rfl
theorem te_x32 (g : Bool) (ty : Nat) (τ : Nat → Nat) : allN 32 (fun k => teRun τ (.sl 9 0 32 1) (.b g) (elsV 0 200 k 10 (.cons (elV (10 + k) 201 9223372036854775807) .nil)) ty (10 + (k + 1))) = true := by kernel_rfl
theorem te_o31 (ty : Nat) (τ : Nat → Nat) : teRun τ (.sl 9 0 31 1) (.b true) (.cons (elV 40 1 1) (elsV 0 200 30 10 .nil)) ty 41 = true := by kernel_rfl
theorem te_b30 (ty : Nat) (τ : Nat → Nat) : teRun τ (.sl 9 0 30 1) (.b true) (.cons (.w (.cons (.x 39 .u8 46 255) (.cons (.x 40 .u8 0 255) .nil))) (elsV 0 200 29 10 .nil)) ty 41 = true := by kernel_rfl
theorem te_d29 (ty : Nat) (τ : Nat → Nat) : teRun τ (.sl 9 0 29 1) (.b true) (.cons (.w (.cons (.i .u8 45) (.cons (.x 39 .u8 111 255) .nil))) (elsV 0 200 28 10 .nil)) ty 40 = true := by kernel_rfl
theorem te_l28 (ty : Nat) (τ : Nat → Nat) : teRun τ (.sl 9 0 28 1) (.b true) (.cons (elV 37 3 200) (elsV 0 200 27 10 .nil)) ty 38 = true := by kernel_rfl
theorem te_x26 (g : Bool) (ty : Nat) (τ : Nat → Nat) : allN 26 (fun k => teRun τ (.sl 9 0 26 1) (.b g) (elsV 0 200 k 10 (.cons (elV (10 + k) 201 9223372036854775807) .nil)) ty (10 + (k + 1))) = true := by kernel_rfl
theorem te_o25 (ty : Nat) (τ : Nat → Nat) : teRun τ (.sl 9 0 25 1) (.b true) (.cons (elV 34 1 1) (elsV 0 200 24 10 .nil)) ty 35 = true := by kernel_rfl
theorem te_b24 (ty : Nat) (τ : Nat → Nat) : teRun τ (.sl 9 0 24 1) (.b true) (.cons (.w (.cons (.x 33 .u8 46 255) (.cons (.x 34 .u8 0 255) .nil))) (elsV 0 200 23 10 .nil)) ty 35 = true := by kernel_rfl
theorem te_d23 (ty : Nat) (τ : Nat → Nat) : teRun τ (.sl 9 0 23 1) (.b true) (.cons (.w (.cons (.i .u8 45) (.cons (.x 33 .u8 111 255) .nil))) (elsV 0 200 22 10 .nil)) ty 34 = true := by kernel_rfl
theorem te_l22 (ty : Nat) (τ : Nat → Nat) : teRun τ (.sl 9 0 22 1) (.b true) (.cons (elV 31 3 200) (elsV 0 200 21 10 .nil)) ty 32 = true := by kernel_rfl
theorem te_x20 (g : Bool) (ty : Nat) (τ : Nat → Nat) : allN 20 (fun k => teRun τ (.sl 9 0 20 1) (.b g) (elsV 0 200 k 10 (.cons (elV (10 + k) 201 9223372036854775807) .nil)) ty (10 + (k + 1))) = true := by kernel_rfl
theorem te_o19 (ty : Nat) (τ : Nat → Nat) : teRun τ (.sl 9 0 19 1) (.b true) (.cons (elV 28 1 1) (elsV 0 200 18 10 .nil)) ty 29 = true := by kernel_rfl
theorem te_b18 (ty : Nat) (τ : Nat → Nat) : teRun τ (.sl 9 0 18 1) (.b true) (.cons (.w (.cons (.x 27 .u8 46 255) (.cons (.x 28 .u8 0 255) .nil))) (elsV 0 200 17 10 .nil)) ty 29 = true := by kernel_rfl
theorem te_d17 (ty : Nat) (τ : Nat → Nat) : teRun τ (.sl 9 0 17 1) (.b true) (.cons (.w (.cons (.i .u8 45) (.cons (.x 27 .u8 111 255) .nil))) (elsV 0 200 16 10 .nil)) ty 28 = true := by kernel_rfl
theorem te_l16 (ty : Nat) (τ : Nat → Nat) : teRun τ (.sl 9 0 16 1) (.b true) (.cons (elV 25 3 200) (elsV 0 200 15 10 .nil)) ty 26 = true := by kernel_rfl
theorem te_x14 (g : Bool) (ty : Nat) (τ : Nat → Nat) : allN 14 (fun k => teRun τ (.sl 9 0 14 1) (.b g) (elsV 0 200 k 10 (.cons (elV (10 + k) 201 9223372036854775807) .nil)) ty (10 + (k + 1))) = true := by kernel_rfl
theorem te_o13 (ty : Nat) (τ : Nat → Nat) : teRun τ (.sl 9 0 13 1) (.b true) (.cons (elV 22 1 1) (elsV 0 200 12 10 .nil)) ty 23 = true := by kernel_rfl
theorem te_b12 (ty : Nat) (τ : Nat → Nat) : teRun τ (.sl 9 0 12 1) (.b true) (.cons (.w (.cons (.x 21 .u8 46 255) (.cons (.x 22 .u8 0 255) .nil))) (elsV 0 200 11 10 .nil)) ty 23 = true := by kernel_rfl
theorem te_d11 (ty : Nat) (τ : Nat → Nat) : teRun τ (.sl 9 0 11 1) (.b true) (.cons (.w (.cons (.i .u8 45) (.cons (.x 21 .u8 111 255) .nil))) (elsV 0 200 10 10 .nil)) ty 22 = true := by kernel_rfl
theorem te_l10 (ty : Nat) (τ : Nat → Nat) : teRun τ (.sl 9 0 10 1) (.b true) (.cons (elV 19 3 200) (elsV 0 200 9 10 .nil)) ty 20 = true := by kernel_rfl
theorem te_x8 (g : Bool) (ty : Nat) (τ : Nat → Nat) : allN 8 (fun k => teRun τ (.sl 9 0 8 1) (.b g) (elsV 0 200 k 10 (.cons (elV (10 + k) 201 9223372036854775807) .nil)) ty (10 + (k + 1))) = true := by kernel_rfl
theorem te_o7 (ty : Nat) (τ : Nat → Nat) : teRun τ (.sl 9 0 7 1) (.b true) (.cons (elV 16 1 1) (elsV 0 200 6 10 .nil)) ty 17 = true := by kernel_rfl
theorem te_b6 (ty : Nat) (τ : Nat → Nat) : teRun τ (.sl 9 0 6 1) (.b true) (.cons (.w (.cons (.x 15 .u8 46 255) (.cons (.x 16 .u8 0 255) .nil))) (elsV 0 200 5 10 .nil)) ty 17 = true := by kernel_rfl
theorem te_d5 (ty : Nat) (τ : Nat → Nat) : teRun τ (.sl 9 0 5 1) (.b true) (.cons (.w (.cons (.i .u8 45) (.cons (.x 15 .u8 111 255) .nil))) (elsV 0 200 4 10 .nil)) ty 16 = true := by kernel_rfl
theorem te_l4 (ty : Nat) (τ : Nat → Nat) : teRun τ (.sl 9 0 4 1) (.b true) (.cons (elV 13 3 200) (elsV 0 200 3 10 .nil)) ty 14 = true := by kernel_rfl
theorem te_x2 (g : Bool) (ty : Nat) (τ : Nat → Nat) : allN 2 (fun k => teRun τ (.sl 9 0 2 1) (.b g) (elsV 0 200 k 10 (.cons (elV (10 + k) 201 9223372036854775807) .nil)) ty (10 + (k + 1))) = true := by kernel_rfl
theorem te_a1 (ty : Nat) (τ : Nat → Nat) : teRun τ (.sl 9 0 1 1) (.b true) (.cons (.w (.cons (.x 10 .u8 0 44) (.cons (.x 11 .u8 0 255) .nil))) (elsV 0 200 0 10 .nil)) ty 12 = true := by kernel_rfl
end
end Go.Proofs.YtkppbibiaiecnaaGreatDoor
