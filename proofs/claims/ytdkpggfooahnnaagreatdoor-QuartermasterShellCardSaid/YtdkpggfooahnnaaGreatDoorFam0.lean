/-
  Words of each length: how a scanner reads them (1 of 4). No condition.
-/
import Derived.Test.YtdkpggfooahnnaaGreatDoorFamD
open Go Go.Mx
namespace Go.Proofs.YtdkpggfooahnnaaGreatDoor
set_option maxRecDepth 1000000
noncomputable section
theorem tka40 (τ : Nat → Nat) : tokaR 40 τ = true := by kernel_rfl
theorem tkb37 (τ : Nat → Nat) : tokbR 37 τ = true := by kernel_rfl
theorem tka35 (τ : Nat → Nat) : tokaR 35 τ = true := by kernel_rfl
theorem tkb34 (τ : Nat → Nat) : tokbR 34 τ = true := by kernel_rfl
theorem tka32 (τ : Nat → Nat) : tokaR 32 τ = true := by kernel_rfl
theorem tkb29 (τ : Nat → Nat) : tokbR 29 τ = true := by kernel_rfl
theorem tka27 (τ : Nat → Nat) : tokaR 27 τ = true := by kernel_rfl
theorem tkb26 (τ : Nat → Nat) : tokbR 26 τ = true := by kernel_rfl
theorem tka24 (τ : Nat → Nat) : tokaR 24 τ = true := by kernel_rfl
theorem tkb21 (τ : Nat → Nat) : tokbR 21 τ = true := by kernel_rfl
theorem tka19 (τ : Nat → Nat) : tokaR 19 τ = true := by kernel_rfl
theorem tkb18 (τ : Nat → Nat) : tokbR 18 τ = true := by kernel_rfl
theorem tka16 (τ : Nat → Nat) : tokaR 16 τ = true := by kernel_rfl
theorem tkb13 (τ : Nat → Nat) : tokbR 13 τ = true := by kernel_rfl
theorem tka11 (τ : Nat → Nat) : tokaR 11 τ = true := by kernel_rfl
theorem tkb10 (τ : Nat → Nat) : tokbR 10 τ = true := by kernel_rfl
theorem tka8 (τ : Nat → Nat) : tokaR 8 τ = true := by kernel_rfl
theorem tkb5 (τ : Nat → Nat) : tokbR 5 τ = true := by kernel_rfl
theorem tka3 (τ : Nat → Nat) : tokaR 3 τ = true := by kernel_rfl
theorem tkb2 (τ : Nat → Nat) : tokbR 2 τ = true := by kernel_rfl
theorem tka0 (τ : Nat → Nat) : tokaR 0 τ = true := by kernel_rfl
end
end Go.Proofs.YtdkpggfooahnnaaGreatDoor
