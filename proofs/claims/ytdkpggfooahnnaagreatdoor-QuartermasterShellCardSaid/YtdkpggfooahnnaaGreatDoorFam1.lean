/-
  Words of each length: how a scanner reads them (2 of 4). No condition.
-/
import Derived.Test.YtdkpggfooahnnaaGreatDoorFamD
open Go Go.Mx
namespace Go.Proofs.YtdkpggfooahnnaaGreatDoor
set_option maxRecDepth 1000000
noncomputable section
theorem tkb40 (τ : Nat → Nat) : tokbR 40 τ = true := by kernel_rfl
theorem tka38 (τ : Nat → Nat) : tokaR 38 τ = true := by kernel_rfl
theorem tkb35 (τ : Nat → Nat) : tokbR 35 τ = true := by kernel_rfl
theorem tka33 (τ : Nat → Nat) : tokaR 33 τ = true := by kernel_rfl
theorem tkb32 (τ : Nat → Nat) : tokbR 32 τ = true := by kernel_rfl
theorem tka30 (τ : Nat → Nat) : tokaR 30 τ = true := by kernel_rfl
theorem tkb27 (τ : Nat → Nat) : tokbR 27 τ = true := by kernel_rfl
theorem tka25 (τ : Nat → Nat) : tokaR 25 τ = true := by kernel_rfl
theorem tkb24 (τ : Nat → Nat) : tokbR 24 τ = true := by kernel_rfl
theorem tka22 (τ : Nat → Nat) : tokaR 22 τ = true := by kernel_rfl
theorem tkb19 (τ : Nat → Nat) : tokbR 19 τ = true := by kernel_rfl
theorem tka17 (τ : Nat → Nat) : tokaR 17 τ = true := by kernel_rfl
theorem tkb16 (τ : Nat → Nat) : tokbR 16 τ = true := by kernel_rfl
theorem tka14 (τ : Nat → Nat) : tokaR 14 τ = true := by kernel_rfl
theorem tkb11 (τ : Nat → Nat) : tokbR 11 τ = true := by kernel_rfl
theorem tka9 (τ : Nat → Nat) : tokaR 9 τ = true := by kernel_rfl
theorem tkb8 (τ : Nat → Nat) : tokbR 8 τ = true := by kernel_rfl
theorem tka6 (τ : Nat → Nat) : tokaR 6 τ = true := by kernel_rfl
theorem tkb3 (τ : Nat → Nat) : tokbR 3 τ = true := by kernel_rfl
theorem tka1 (τ : Nat → Nat) : tokaR 1 τ = true := by kernel_rfl
end
end Go.Proofs.YtdkpggfooahnnaaGreatDoor
