/-
  Words of each length behind x=, and in brackets (4 of 4). No condition.
-/
import Derived.Test.YtcmnkndbcecbiaaGreatDoorHkA
open Go Go.Mx
namespace Go.Proofs.YtcmnkndbcecbiaaGreatDoor
set_option maxRecDepth 1000000
noncomputable section
theorem bn40 (τ : Nat → Nat) : bnR 40 τ = true := by kernel_rfl
theorem bp39 (τ : Nat → Nat) : bpR 39 τ = true := by kernel_rfl
theorem tj59_38 (τ : Nat → Nat) : tjR 59 38 τ = true := by kernel_rfl
theorem tj32_37 (τ : Nat → Nat) : tjR 32 37 τ = true := by kernel_rfl
theorem bn36 (τ : Nat → Nat) : bnR 36 τ = true := by kernel_rfl
theorem bp35 (τ : Nat → Nat) : bpR 35 τ = true := by kernel_rfl
theorem tj59_34 (τ : Nat → Nat) : tjR 59 34 τ = true := by kernel_rfl
theorem tj32_33 (τ : Nat → Nat) : tjR 32 33 τ = true := by kernel_rfl
theorem bn32 (τ : Nat → Nat) : bnR 32 τ = true := by kernel_rfl
theorem bp31 (τ : Nat → Nat) : bpR 31 τ = true := by kernel_rfl
theorem tj59_30 (τ : Nat → Nat) : tjR 59 30 τ = true := by kernel_rfl
theorem tj32_29 (τ : Nat → Nat) : tjR 32 29 τ = true := by kernel_rfl
theorem bn28 (τ : Nat → Nat) : bnR 28 τ = true := by kernel_rfl
theorem bp27 (τ : Nat → Nat) : bpR 27 τ = true := by kernel_rfl
theorem tj59_26 (τ : Nat → Nat) : tjR 59 26 τ = true := by kernel_rfl
theorem tj32_25 (τ : Nat → Nat) : tjR 32 25 τ = true := by kernel_rfl
theorem bn24 (τ : Nat → Nat) : bnR 24 τ = true := by kernel_rfl
theorem bp23 (τ : Nat → Nat) : bpR 23 τ = true := by kernel_rfl
theorem tj59_22 (τ : Nat → Nat) : tjR 59 22 τ = true := by kernel_rfl
theorem tj32_21 (τ : Nat → Nat) : tjR 32 21 τ = true := by kernel_rfl
theorem bn20 (τ : Nat → Nat) : bnR 20 τ = true := by kernel_rfl
theorem bp19 (τ : Nat → Nat) : bpR 19 τ = true := by kernel_rfl
theorem tj59_18 (τ : Nat → Nat) : tjR 59 18 τ = true := by kernel_rfl
theorem tj32_17 (τ : Nat → Nat) : tjR 32 17 τ = true := by kernel_rfl
theorem bn16 (τ : Nat → Nat) : bnR 16 τ = true := by kernel_rfl
theorem bp15 (τ : Nat → Nat) : bpR 15 τ = true := by kernel_rfl
theorem tj59_14 (τ : Nat → Nat) : tjR 59 14 τ = true := by kernel_rfl
theorem tj32_13 (τ : Nat → Nat) : tjR 32 13 τ = true := by kernel_rfl
theorem bn12 (τ : Nat → Nat) : bnR 12 τ = true := by kernel_rfl
theorem bp11 (τ : Nat → Nat) : bpR 11 τ = true := by kernel_rfl
theorem tj59_10 (τ : Nat → Nat) : tjR 59 10 τ = true := by kernel_rfl
theorem tj32_9 (τ : Nat → Nat) : tjR 32 9 τ = true := by kernel_rfl
theorem bn8 (τ : Nat → Nat) : bnR 8 τ = true := by kernel_rfl
theorem bp7 (τ : Nat → Nat) : bpR 7 τ = true := by kernel_rfl
theorem tj59_6 (τ : Nat → Nat) : tjR 59 6 τ = true := by kernel_rfl
theorem tj32_5 (τ : Nat → Nat) : tjR 32 5 τ = true := by kernel_rfl
theorem bn4 (τ : Nat → Nat) : bnR 4 τ = true := by kernel_rfl
theorem bp3 (τ : Nat → Nat) : bpR 3 τ = true := by kernel_rfl
theorem tj59_2 (τ : Nat → Nat) : tjR 59 2 τ = true := by kernel_rfl
theorem tj32_1 (τ : Nat → Nat) : tjR 32 1 τ = true := by kernel_rfl
end
end Go.Proofs.YtcmnkndbcecbiaaGreatDoor
