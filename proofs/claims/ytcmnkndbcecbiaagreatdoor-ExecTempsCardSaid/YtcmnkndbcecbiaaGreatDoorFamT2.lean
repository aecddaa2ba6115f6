/-
  Words of each length behind x=, and in brackets (3 of 4). No condition.
-/
import Derived.Test.YtcmnkndbcecbiaaGreatDoorHkA
open Go Go.Mx
namespace Go.Proofs.YtcmnkndbcecbiaaGreatDoor
set_option maxRecDepth 1000000
noncomputable section
theorem bp40 (τ : Nat → Nat) : bpR 40 τ = true := by kernel_rfl
theorem tj59_39 (τ : Nat → Nat) : tjR 59 39 τ = true := by kernel_rfl
theorem tj32_38 (τ : Nat → Nat) : tjR 32 38 τ = true := by kernel_rfl
theorem bn37 (τ : Nat → Nat) : bnR 37 τ = true := by kernel_rfl
theorem bp36 (τ : Nat → Nat) : bpR 36 τ = true := by kernel_rfl
theorem tj59_35 (τ : Nat → Nat) : tjR 59 35 τ = true := by kernel_rfl
theorem tj32_34 (τ : Nat → Nat) : tjR 32 34 τ = true := by kernel_rfl
theorem bn33 (τ : Nat → Nat) : bnR 33 τ = true := by kernel_rfl
theorem bp32 (τ : Nat → Nat) : bpR 32 τ = true := by kernel_rfl
theorem tj59_31 (τ : Nat → Nat) : tjR 59 31 τ = true := by kernel_rfl
theorem tj32_30 (τ : Nat → Nat) : tjR 32 30 τ = true := by kernel_rfl
theorem bn29 (τ : Nat → Nat) : bnR 29 τ = true := by kernel_rfl
theorem bp28 (τ : Nat → Nat) : bpR 28 τ = true := by kernel_rfl
theorem tj59_27 (τ : Nat → Nat) : tjR 59 27 τ = true := by kernel_rfl
theorem tj32_26 (τ : Nat → Nat) : tjR 32 26 τ = true := by kernel_rfl
theorem bn25 (τ : Nat → Nat) : bnR 25 τ = true := by kernel_rfl
theorem bp24 (τ : Nat → Nat) : bpR 24 τ = true := by kernel_rfl
theorem tj59_23 (τ : Nat → Nat) : tjR 59 23 τ = true := by kernel_rfl
theorem tj32_22 (τ : Nat → Nat) : tjR 32 22 τ = true := by kernel_rfl
theorem bn21 (τ : Nat → Nat) : bnR 21 τ = true := by kernel_rfl
theorem bp20 (τ : Nat → Nat) : bpR 20 τ = true := by kernel_rfl
theorem tj59_19 (τ : Nat → Nat) : tjR 59 19 τ = true := by kernel_rfl
theorem tj32_18 (τ : Nat → Nat) : tjR 32 18 τ = true := by kernel_rfl
theorem bn17 (τ : Nat → Nat) : bnR 17 τ = true := by kernel_rfl
theorem bp16 (τ : Nat → Nat) : bpR 16 τ = true := by kernel_rfl
theorem tj59_15 (τ : Nat → Nat) : tjR 59 15 τ = true := by kernel_rfl
theorem tj32_14 (τ : Nat → Nat) : tjR 32 14 τ = true := by kernel_rfl
theorem bn13 (τ : Nat → Nat) : bnR 13 τ = true := by kernel_rfl
theorem bp12 (τ : Nat → Nat) : bpR 12 τ = true := by kernel_rfl
theorem tj59_11 (τ : Nat → Nat) : tjR 59 11 τ = true := by kernel_rfl
theorem tj32_10 (τ : Nat → Nat) : tjR 32 10 τ = true := by kernel_rfl
theorem bn9 (τ : Nat → Nat) : bnR 9 τ = true := by kernel_rfl
theorem bp8 (τ : Nat → Nat) : bpR 8 τ = true := by kernel_rfl
theorem tj59_7 (τ : Nat → Nat) : tjR 59 7 τ = true := by kernel_rfl
theorem tj32_6 (τ : Nat → Nat) : tjR 32 6 τ = true := by kernel_rfl
theorem bn5 (τ : Nat → Nat) : bnR 5 τ = true := by kernel_rfl
theorem bp4 (τ : Nat → Nat) : bpR 4 τ = true := by kernel_rfl
theorem tj59_3 (τ : Nat → Nat) : tjR 59 3 τ = true := by kernel_rfl
theorem tj32_2 (τ : Nat → Nat) : tjR 32 2 τ = true := by kernel_rfl
theorem bn1 (τ : Nat → Nat) : bnR 1 τ = true := by kernel_rfl
end
end Go.Proofs.YtcmnkndbcecbiaaGreatDoor
