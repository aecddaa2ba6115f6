/-
  Words of each length behind x=, and in brackets (1 of 4). No condition.
-/
import Derived.Test.YtcmnkndbcecbiaaGreatDoorHkA
open Go Go.Mx
namespace Go.Proofs.YtcmnkndbcecbiaaGreatDoor
set_option maxRecDepth 1000000
noncomputable section
theorem tj32_40 (τ : Nat → Nat) : tjR 32 40 τ = true := by kernel_rfl
theorem bn39 (τ : Nat → Nat) : bnR 39 τ = true := by kernel_rfl
theorem bp38 (τ : Nat → Nat) : bpR 38 τ = true := by kernel_rfl
theorem tj59_37 (τ : Nat → Nat) : tjR 59 37 τ = true := by kernel_rfl
theorem tj32_36 (τ : Nat → Nat) : tjR 32 36 τ = true := by kernel_rfl
theorem bn35 (τ : Nat → Nat) : bnR 35 τ = true := by kernel_rfl
theorem bp34 (τ : Nat → Nat) : bpR 34 τ = true := by kernel_rfl
theorem tj59_33 (τ : Nat → Nat) : tjR 59 33 τ = true := by kernel_rfl
theorem tj32_32 (τ : Nat → Nat) : tjR 32 32 τ = true := by kernel_rfl
theorem bn31 (τ : Nat → Nat) : bnR 31 τ = true := by kernel_rfl
theorem bp30 (τ : Nat → Nat) : bpR 30 τ = true := by kernel_rfl
theorem tj59_29 (τ : Nat → Nat) : tjR 59 29 τ = true := by kernel_rfl
theorem tj32_28 (τ : Nat → Nat) : tjR 32 28 τ = true := by kernel_rfl
theorem bn27 (τ : Nat → Nat) : bnR 27 τ = true := by kernel_rfl
theorem bp26 (τ : Nat → Nat) : bpR 26 τ = true := by kernel_rfl
theorem tj59_25 (τ : Nat → Nat) : tjR 59 25 τ = true := by kernel_rfl
theorem tj32_24 (τ : Nat → Nat) : tjR 32 24 τ = true := by kernel_rfl
theorem bn23 (τ : Nat → Nat) : bnR 23 τ = true := by kernel_rfl
theorem bp22 (τ : Nat → Nat) : bpR 22 τ = true := by kernel_rfl
theorem tj59_21 (τ : Nat → Nat) : tjR 59 21 τ = true := by kernel_rfl
theorem tj32_20 (τ : Nat → Nat) : tjR 32 20 τ = true := by kernel_rfl
theorem bn19 (τ : Nat → Nat) : bnR 19 τ = true := by kernel_rfl
theorem bp18 (τ : Nat → Nat) : bpR 18 τ = true := by kernel_rfl
theorem tj59_17 (τ : Nat → Nat) : tjR 59 17 τ = true := by kernel_rfl
theorem tj32_16 (τ : Nat → Nat) : tjR 32 16 τ = true := by kernel_rfl
theorem bn15 (τ : Nat → Nat) : bnR 15 τ = true := by kernel_rfl
theorem bp14 (τ : Nat → Nat) : bpR 14 τ = true := by kernel_rfl
theorem tj59_13 (τ : Nat → Nat) : tjR 59 13 τ = true := by kernel_rfl
theorem tj32_12 (τ : Nat → Nat) : tjR 32 12 τ = true := by kernel_rfl
theorem bn11 (τ : Nat → Nat) : bnR 11 τ = true := by kernel_rfl
theorem bp10 (τ : Nat → Nat) : bpR 10 τ = true := by kernel_rfl
theorem tj59_9 (τ : Nat → Nat) : tjR 59 9 τ = true := by kernel_rfl
theorem tj32_8 (τ : Nat → Nat) : tjR 32 8 τ = true := by kernel_rfl
theorem bn7 (τ : Nat → Nat) : bnR 7 τ = true := by kernel_rfl
theorem bp6 (τ : Nat → Nat) : bpR 6 τ = true := by kernel_rfl
theorem tj59_5 (τ : Nat → Nat) : tjR 59 5 τ = true := by kernel_rfl
theorem tj32_4 (τ : Nat → Nat) : tjR 32 4 τ = true := by kernel_rfl
theorem bn3 (τ : Nat → Nat) : bnR 3 τ = true := by kernel_rfl
theorem bp2 (τ : Nat → Nat) : bpR 2 τ = true := by kernel_rfl
theorem tj59_1 (τ : Nat → Nat) : tjR 59 1 τ = true := by kernel_rfl
theorem tj32_0 (τ : Nat → Nat) : tjR 32 0 τ = true := by kernel_rfl
end
end Go.Proofs.YtcmnkndbcecbiaaGreatDoor
