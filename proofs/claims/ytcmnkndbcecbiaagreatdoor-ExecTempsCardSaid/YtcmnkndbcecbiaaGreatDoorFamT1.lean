/-
  Words of each length behind x=, and in brackets (2 of 4). No condition.
-/
import Derived.Test.YtcmnkndbcecbiaaGreatDoorHkA
open Go Go.Mx
namespace Go.Proofs.YtcmnkndbcecbiaaGreatDoor
set_option maxRecDepth 1000000
noncomputable section
theorem tj59_40 (τ : Nat → Nat) : tjR 59 40 τ = true := by kernel_rfl
theorem tj32_39 (τ : Nat → Nat) : tjR 32 39 τ = true := by kernel_rfl
theorem bn38 (τ : Nat → Nat) : bnR 38 τ = true := by kernel_rfl
theorem bp37 (τ : Nat → Nat) : bpR 37 τ = true := by kernel_rfl
theorem tj59_36 (τ : Nat → Nat) : tjR 59 36 τ = true := by kernel_rfl
theorem tj32_35 (τ : Nat → Nat) : tjR 32 35 τ = true := by kernel_rfl
theorem bn34 (τ : Nat → Nat) : bnR 34 τ = true := by kernel_rfl
theorem bp33 (τ : Nat → Nat) : bpR 33 τ = true := by kernel_rfl
theorem tj59_32 (τ : Nat → Nat) : tjR 59 32 τ = true := by kernel_rfl
theorem tj32_31 (τ : Nat → Nat) : tjR 32 31 τ = true := by kernel_rfl
theorem bn30 (τ : Nat → Nat) : bnR 30 τ = true := by kernel_rfl
theorem bp29 (τ : Nat → Nat) : bpR 29 τ = true := by kernel_rfl
theorem tj59_28 (τ : Nat → Nat) : tjR 59 28 τ = true := by kernel_rfl
theorem tj32_27 (τ : Nat → Nat) : tjR 32 27 τ = true := by kernel_rfl
theorem bn26 (τ : Nat → Nat) : bnR 26 τ = true := by kernel_rfl
theorem bp25 (τ : Nat → Nat) : bpR 25 τ = true := by kernel_rfl
theorem tj59_24 (τ : Nat → Nat) : tjR 59 24 τ = true := by kernel_rfl
theorem tj32_23 (τ : Nat → Nat) : tjR 32 23 τ = true := by kernel_rfl
theorem bn22 (τ : Nat → Nat) : bnR 22 τ = true := by kernel_rfl
theorem bp21 (τ : Nat → Nat) : bpR 21 τ = true := by kernel_rfl
theorem tj59_20 (τ : Nat → Nat) : tjR 59 20 τ = true := by kernel_rfl
theorem tj32_19 (τ : Nat → Nat) : tjR 32 19 τ = true := by kernel_rfl
theorem bn18 (τ : Nat → Nat) : bnR 18 τ = true := by kernel_rfl
theorem bp17 (τ : Nat → Nat) : bpR 17 τ = true := by kernel_rfl
theorem tj59_16 (τ : Nat → Nat) : tjR 59 16 τ = true := by kernel_rfl
theorem tj32_15 (τ : Nat → Nat) : tjR 32 15 τ = true := by kernel_rfl
theorem bn14 (τ : Nat → Nat) : bnR 14 τ = true := by kernel_rfl
theorem bp13 (τ : Nat → Nat) : bpR 13 τ = true := by kernel_rfl
theorem tj59_12 (τ : Nat → Nat) : tjR 59 12 τ = true := by kernel_rfl
theorem tj32_11 (τ : Nat → Nat) : tjR 32 11 τ = true := by kernel_rfl
theorem bn10 (τ : Nat → Nat) : bnR 10 τ = true := by kernel_rfl
theorem bp9 (τ : Nat → Nat) : bpR 9 τ = true := by kernel_rfl
theorem tj59_8 (τ : Nat → Nat) : tjR 59 8 τ = true := by kernel_rfl
theorem tj32_7 (τ : Nat → Nat) : tjR 32 7 τ = true := by kernel_rfl
theorem bn6 (τ : Nat → Nat) : bnR 6 τ = true := by kernel_rfl
theorem bp5 (τ : Nat → Nat) : bpR 5 τ = true := by kernel_rfl
theorem tj59_4 (τ : Nat → Nat) : tjR 59 4 τ = true := by kernel_rfl
theorem tj32_3 (τ : Nat → Nat) : tjR 32 3 τ = true := by kernel_rfl
theorem bn2 (τ : Nat → Nat) : bnR 2 τ = true := by kernel_rfl
theorem bp1 (τ : Nat → Nat) : bpR 1 τ = true := by kernel_rfl
theorem tj59_0 (τ : Nat → Nat) : tjR 59 0 τ = true := by kernel_rfl
end
end Go.Proofs.YtcmnkndbcecbiaaGreatDoor
