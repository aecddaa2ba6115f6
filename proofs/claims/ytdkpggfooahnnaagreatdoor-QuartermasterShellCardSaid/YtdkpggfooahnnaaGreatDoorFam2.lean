/-
  Words of each length: how a scanner reads them (3 of 4). No condition.
-/
import Derived.Test.YtdkpggfooahnnaaGreatDoorFamD
open Go Go.Mx
namespace Go.Proofs.YtdkpggfooahnnaaGreatDoor
set_option maxRecDepth 1000000
noncomputable section
theorem tka39 (τ : Nat → Nat) : tokaR 39 τ = true := by kernel_rfl
theorem tkb38 (τ : Nat → Nat) : tokbR 38 τ = true := by kernel_rfl
theorem tka36 (τ : Nat → Nat) : tokaR 36 τ = true := by kernel_rfl
theorem tkb33 (τ : Nat → Nat) : tokbR 33 τ = true := by kernel_rfl
theorem tka31 (τ : Nat → Nat) : tokaR 31 τ = true := by kernel_rfl
theorem tkb30 (τ : Nat → Nat) : tokbR 30 τ = true := by kernel_rfl
theorem tka28 (τ : Nat → Nat) : tokaR 28 τ = true := by kernel_rfl
theorem tkb25 (τ : Nat → Nat) : tokbR 25 τ = true := by kernel_rfl
theorem tka23 (τ : Nat → Nat) : tokaR 23 τ = true := by kernel_rfl
theorem tkb22 (τ : Nat → Nat) : tokbR 22 τ = true := by kernel_rfl
theorem tka20 (τ : Nat → Nat) : tokaR 20 τ = true := by kernel_rfl
theorem tkb17 (τ : Nat → Nat) : tokbR 17 τ = true := by kernel_rfl
theorem tka15 (τ : Nat → Nat) : tokaR 15 τ = true := by kernel_rfl
theorem tkb14 (τ : Nat → Nat) : tokbR 14 τ = true := by kernel_rfl
theorem tka12 (τ : Nat → Nat) : tokaR 12 τ = true := by kernel_rfl
theorem tkb9 (τ : Nat → Nat) : tokbR 9 τ = true := by kernel_rfl
theorem tka7 (τ : Nat → Nat) : tokaR 7 τ = true := by kernel_rfl
theorem tkb6 (τ : Nat → Nat) : tokbR 6 τ = true := by kernel_rfl
theorem tka4 (τ : Nat → Nat) : tokaR 4 τ = true := by kernel_rfl
theorem tkb1 (τ : Nat → Nat) : tokbR 1 τ = true := by kernel_rfl
end
end Go.Proofs.YtdkpggfooahnnaaGreatDoor
