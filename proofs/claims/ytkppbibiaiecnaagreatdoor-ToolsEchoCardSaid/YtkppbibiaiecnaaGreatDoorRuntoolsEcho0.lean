/-
  Runs of toolsEcho, by the kernel (1 of 13). No condition.
-/
import Derived.Test.YtkppbibiaiecnaaGreatDoorHk
open Go Go.Mx
namespace Go.Proofs.YtkppbibiaiecnaaGreatDoor
set_option maxRecDepth 1000000
noncomputable section
def teRun (τ : Nat → Nat) (x g l : V) (ty nx : Nat) : Bool := mkTK τ tbl (putO [(9, .c l ty false)] .leaf) (fun h0 => run Tryz.prog 9 (hkL hkB) 100000 3 (.cons x (.cons g .nil)) h0 nx (fun v _ _ => isB true v) (fun _ _ _ => false))
theorem te_st (ty : Nat) (τ : Nat → Nat) : teRun τ .sn (.b true) .nil ty 10 = true := by kernel_rfl
theorem te_sf (ty : Nat) (τ : Nat → Nat) : teRun τ .sn (.b false) .nil ty 10 = true := by kernel_rfl
theorem te_et (ty : Nat) (τ : Nat → Nat) : teRun τ .se (.b true) .nil ty 10 = true := by kernel_rfl
theorem te_ef (ty : Nat) (τ : Nat → Nat) : teRun τ .se (.b false) .nil ty 10 = true := by kernel_rfl
theorem te_many (m : Nat) (g : Bool) (ty : Nat) (τ : Nat → Nat) : teRun τ (.sl 9 0 (m + 41) 1) (.b g) .nil ty 10 = true := by kernel_rfl
theorem te_gz (ty : Nat) (τ : Nat → Nat) : teRun τ (.sl 9 0 1 1) (.b false) (.cons (.s []) .nil) ty 10 = true := by kernel_rfl
theorem te_gp (ty : Nat) (τ : Nat → Nat) : teRun τ (.sl 9 0 1 1) (.b false) (.cons (elV 10 1 200) .nil) ty 11 = true := by kernel_rfl
end
end Go.Proofs.YtkppbibiaiecnaaGreatDoor
