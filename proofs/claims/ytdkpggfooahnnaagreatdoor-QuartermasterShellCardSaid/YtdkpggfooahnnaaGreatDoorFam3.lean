/-
  Words of each length: how a scanner reads them (4 of 4). No condition.
-/
import Derived.Test.YtdkpggfooahnnaaGreatDoorFamD
open Go Go.Mx
namespace Go.Proofs.YtdkpggfooahnnaaGreatDoor
set_option maxRecDepth 1000000
noncomputable section
theorem tkb39 (τ : Nat → Nat) : tokbR 39 τ = true := by kernel_rfl
theorem tka37 (τ : Nat → Nat) : tokaR 37 τ = true := by kernel_rfl
theorem tkb36 (τ : Nat → Nat) : tokbR 36 τ = true := by kernel_rfl
theorem tka34 (τ : Nat → Nat) : tokaR 34 τ = true := by kernel_rfl
theorem tkb31 (τ : Nat → Nat) : tokbR 31 τ = true := by kernel_rfl
theorem tka29 (τ : Nat → Nat) : tokaR 29 τ = true := by kernel_rfl
theorem tkb28 (τ : Nat → Nat) : tokbR 28 τ = true := by kernel_rfl
theorem tka26 (τ : Nat → Nat) : tokaR 26 τ = true := by kernel_rfl
theorem tkb23 (τ : Nat → Nat) : tokbR 23 τ = true := by kernel_rfl
theorem tka21 (τ : Nat → Nat) : tokaR 21 τ = true := by kernel_rfl
theorem tkb20 (τ : Nat → Nat) : tokbR 20 τ = true := by kernel_rfl
theorem tka18 (τ : Nat → Nat) : tokaR 18 τ = true := by kernel_rfl
theorem tkb15 (τ : Nat → Nat) : tokbR 15 τ = true := by kernel_rfl
theorem tka13 (τ : Nat → Nat) : tokaR 13 τ = true := by kernel_rfl
theorem tkb12 (τ : Nat → Nat) : tokbR 12 τ = true := by kernel_rfl
theorem tka10 (τ : Nat → Nat) : tokaR 10 τ = true := by kernel_rfl
theorem tkb7 (τ : Nat → Nat) : tokbR 7 τ = true := by kernel_rfl
theorem tka5 (τ : Nat → Nat) : tokaR 5 τ = true := by kernel_rfl
theorem tkb4 (τ : Nat → Nat) : tokbR 4 τ = true := by kernel_rfl
theorem tka2 (τ : Nat → Nat) : tokaR 2 τ = true := by kernel_rfl
end
end Go.Proofs.YtdkpggfooahnnaaGreatDoor
