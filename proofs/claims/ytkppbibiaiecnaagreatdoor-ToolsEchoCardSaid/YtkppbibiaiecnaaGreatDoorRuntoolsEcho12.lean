/-
  Runs of toolsEcho, by the kernel (13 of 13). No condition.
-/
import Derived.Test.YtkppbibiaiecnaaGreatDoorRuntoolsEcho0
open Go Go.Mx
namespace Go.Proofs.YtkppbibiaiecnaaGreatDoor
set_option maxRecDepth 1000000
noncomputable section
theorem te_x39 (g : Bool) (ty : Nat) (τ : Nat → Nat) : allN 39 (fun k => teRun τ (.sl 9 0 39 1) (.b g) (elsV 0 200 k 10 (.cons (elV (10 + k) 201 9223372036854775807) .nil)) ty (10 + (k + 1))) = true := by kernel_rfl
theorem te_o38 (ty : Nat) (τ : Nat → Nat) : teRun τ (.sl 9 0 38 1) (.b true) (.cons (elV 47 1 1) (elsV 0 200 37 10 .nil)) ty 48 = true := by kernel_rfl
theorem te_b37 (ty : Nat) (τ : Nat → Nat) : teRun τ (.sl 9 0 37 1) (.b true) (.cons (.w (.cons (.x 46 .u8 46 255) (.cons (.x 47 .u8 0 255) .nil))) (elsV 0 200 36 10 .nil)) ty 48 = true := by kernel_rfl
theorem te_d36 (ty : Nat) (τ : Nat → Nat) : teRun τ (.sl 9 0 36 1) (.b true) (.cons (.w (.cons (.i .u8 45) (.cons (.x 46 .u8 111 255) .nil))) (elsV 0 200 35 10 .nil)) ty 47 = true := by kernel_rfl
theorem te_l35 (ty : Nat) (τ : Nat → Nat) : teRun τ (.sl 9 0 35 1) (.b true) (.cons (elV 44 3 200) (elsV 0 200 34 10 .nil)) ty 45 = true := by kernel_rfl
theorem te_x33 (g : Bool) (ty : Nat) (τ : Nat → Nat) : allN 33 (fun k => teRun τ (.sl 9 0 33 1) (.b g) (elsV 0 200 k 10 (.cons (elV (10 + k) 201 9223372036854775807) .nil)) ty (10 + (k + 1))) = true := by kernel_rfl
theorem te_o32 (ty : Nat) (τ : Nat → Nat) : teRun τ (.sl 9 0 32 1) (.b true) (.cons (elV 41 1 1) (elsV 0 200 31 10 .nil)) ty 42 = true := by kernel_rfl
theorem te_b31 (ty : Nat) (τ : Nat → Nat) : teRun τ (.sl 9 0 31 1) (.b true) (.cons (.w (.cons (.x 40 .u8 46 255) (.cons (.x 41 .u8 0 255) .nil))) (elsV 0 200 30 10 .nil)) ty 42 = true := by kernel_rfl
theorem te_d30 (ty : Nat) (τ : Nat → Nat) : teRun τ (.sl 9 0 30 1) (.b true) (.cons (.w (.cons (.i .u8 45) (.cons (.x 40 .u8 111 255) .nil))) (elsV 0 200 29 10 .nil)) ty 41 = true := by kernel_rfl
theorem te_l29 (ty : Nat) (τ : Nat → Nat) : teRun τ (.sl 9 0 29 1) (.b true) (.cons (elV 38 3 200) (elsV 0 200 28 10 .nil)) ty 39 = true := by kernel_rfl
theorem te_x27 (g : Bool) (ty : Nat) (τ : Nat → Nat) : allN 27 (fun k => teRun τ (.sl 9 0 27 1) (.b g) (elsV 0 200 k 10 (.cons (elV (10 + k) 201 9223372036854775807) .nil)) ty (10 + (k + 1))) = true := by kernel_rfl
theorem te_o26 (ty : Nat) (τ : Nat → Nat) : teRun τ (.sl 9 0 26 1) (.b true) (.cons (elV 35 1 1) (elsV 0 200 25 10 .nil)) ty 36 = true := by kernel_rfl
theorem te_b25 (ty : Nat) (τ : Nat → Nat) : teRun τ (.sl 9 0 25 1) (.b true) (.cons (.w (.cons (.x 34 .u8 46 255) (.cons (.x 35 .u8 0 255) .nil))) (elsV 0 200 24 10 .nil)) ty 36 = true := by kernel_rfl
theorem te_d24 (ty : Nat) (τ : Nat → Nat) : teRun τ (.sl 9 0 24 1) (.b true) (.cons (.w (.cons (.i .u8 45) (.cons (.x 34 .u8 111 255) .nil))) (elsV 0 200 23 10 .nil)) ty 35 = true := by kernel_rfl
theorem te_l23 (ty : Nat) (τ : Nat → Nat) : teRun τ (.sl 9 0 23 1) (.b true) (.cons (elV 32 3 200) (elsV 0 200 22 10 .nil)) ty 33 = true := by kernel_rfl
theorem te_x21 (g : Bool) (ty : Nat) (τ : Nat → Nat) : allN 21 (fun k => teRun τ (.sl 9 0 21 1) (.b g) (elsV 0 200 k 10 (.cons (elV (10 + k) 201 9223372036854775807) .nil)) ty (10 + (k + 1))) = true := by kernel_rfl
theorem te_o20 (ty : Nat) (τ : Nat → Nat) : teRun τ (.sl 9 0 20 1) (.b true) (.cons (elV 29 1 1) (elsV 0 200 19 10 .nil)) ty 30 = true := by kernel_rfl
theorem te_b19 (ty : Nat) (τ : Nat → Nat) : teRun τ (.sl 9 0 19 1) (.b true) (.cons (.w (.cons (.x 28 .u8 46 255) (.cons (.x 29 .u8 0 255) .nil))) (elsV 0 200 18 10 .nil)) ty 30 = true := by kernel_rfl
theorem te_d18 (ty : Nat) (τ : Nat → Nat) : teRun τ (.sl 9 0 18 1) (.b true) (.cons (.w (.cons (.i .u8 45) (.cons (.x 28 .u8 111 255) .nil))) (elsV 0 200 17 10 .nil)) ty 29 = true := by kernel_rfl
theorem te_l17 (ty : Nat) (τ : Nat → Nat) : teRun τ (.sl 9 0 17 1) (.b true) (.cons (elV 26 3 200) (elsV 0 200 16 10 .nil)) ty 27 = true := by kernel_rfl
theorem te_x15 (g : Bool) (ty : Nat) (τ : Nat → Nat) : allN 15 (fun k => teRun τ (.sl 9 0 15 1) (.b g) (elsV 0 200 k 10 (.cons (elV (10 + k) 201 9223372036854775807) .nil)) ty (10 + (k + 1))) = true := by kernel_rfl
theorem te_o14 (ty : Nat) (τ : Nat → Nat) : teRun τ (.sl 9 0 14 1) (.b true) (.cons (elV 23 1 1) (elsV 0 200 13 10 .nil)) ty 24 = true := by kernel_rfl
theorem te_b13 (ty : Nat) (τ : Nat → Nat) : teRun τ (.sl 9 0 13 1) (.b true) (.cons (.w (.cons (.x 22 .u8 46 255) (.cons (.x 23 .u8 0 255) .nil))) (elsV 0 200 12 10 .nil)) ty 24 = true := by kernel_rfl
theorem te_d12 (ty : Nat) (τ : Nat → Nat) : teRun τ (.sl 9 0 12 1) (.b true) (.cons (.w (.cons (.i .u8 45) (.cons (.x 22 .u8 111 255) .nil))) (elsV 0 200 11 10 .nil)) ty 23 = true := by kernel_rfl
theorem te_l11 (ty : Nat) (τ : Nat → Nat) : teRun τ (.sl 9 0 11 1) (.b true) (.cons (elV 20 3 200) (elsV 0 200 10 10 .nil)) ty 21 = true := by kernel_rfl
theorem te_x9 (g : Bool) (ty : Nat) (τ : Nat → Nat) : allN 9 (fun k => teRun τ (.sl 9 0 9 1) (.b g) (elsV 0 200 k 10 (.cons (elV (10 + k) 201 9223372036854775807) .nil)) ty (10 + (k + 1))) = true := by kernel_rfl
theorem te_o8 (ty : Nat) (τ : Nat → Nat) : teRun τ (.sl 9 0 8 1) (.b true) (.cons (elV 17 1 1) (elsV 0 200 7 10 .nil)) ty 18 = true := by kernel_rfl
theorem te_b7 (ty : Nat) (τ : Nat → Nat) : teRun τ (.sl 9 0 7 1) (.b true) (.cons (.w (.cons (.x 16 .u8 46 255) (.cons (.x 17 .u8 0 255) .nil))) (elsV 0 200 6 10 .nil)) ty 18 = true := by kernel_rfl
theorem te_d6 (ty : Nat) (τ : Nat → Nat) : teRun τ (.sl 9 0 6 1) (.b true) (.cons (.w (.cons (.i .u8 45) (.cons (.x 16 .u8 111 255) .nil))) (elsV 0 200 5 10 .nil)) ty 17 = true := by kernel_rfl
theorem te_l5 (ty : Nat) (τ : Nat → Nat) : teRun τ (.sl 9 0 5 1) (.b true) (.cons (elV 14 3 200) (elsV 0 200 4 10 .nil)) ty 15 = true := by kernel_rfl
theorem te_x3 (g : Bool) (ty : Nat) (τ : Nat → Nat) : allN 3 (fun k => teRun τ (.sl 9 0 3 1) (.b g) (elsV 0 200 k 10 (.cons (elV (10 + k) 201 9223372036854775807) .nil)) ty (10 + (k + 1))) = true := by kernel_rfl
theorem te_o2 (ty : Nat) (τ : Nat → Nat) : teRun τ (.sl 9 0 2 1) (.b true) (.cons (elV 11 1 1) (elsV 0 200 1 10 .nil)) ty 12 = true := by kernel_rfl
theorem te_c1 (ty : Nat) (τ : Nat → Nat) : teRun τ (.sl 9 0 1 1) (.b true) (.cons (.w (.cons (.i .u8 45) (.cons (.x 11 .u8 0 109) .nil))) (elsV 0 200 0 10 .nil)) ty 12 = true := by kernel_rfl
end
end Go.Proofs.YtkppbibiaiecnaaGreatDoor
