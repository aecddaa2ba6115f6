/-
  Runs of buildFails, by the kernel (8 of 17). No condition.
-/
import Derived.Test.YtbkilngeedbkpaaGreatDoorRunbuildFails0
open Go Go.Mx
namespace Go.Proofs.YtbkilngeedbkpaaGreatDoor
set_option maxRecDepth 1000000
noncomputable section
theorem xb_k12_0 (τ : Nat → Nat) : xbRun τ (.i .i64 (Int.ofNat 12)) (.i .i64 (Int.ofNat 0)) (.b true) (.b false) = true := by kernel_rfl
theorem xb_i12_6 (τ : Nat → Nat) : xbRun τ (.i .i64 (Int.ofNat 12)) (.i .i64 (Int.ofNat 6)) (.o 5 .nil 0 0 0) (.b true) = true := by kernel_rfl
theorem xb_k11_0 (τ : Nat → Nat) : xbRun τ (.i .i64 (Int.ofNat 11)) (.i .i64 (Int.ofNat 0)) (.b true) (.b false) = true := by kernel_rfl
theorem xb_k11_8 (τ : Nat → Nat) : xbRun τ (.i .i64 (Int.ofNat 11)) (.i .i64 (Int.ofNat 8)) (.b true) (.b false) = true := by kernel_rfl
theorem xb_i10_8 (τ : Nat → Nat) : xbRun τ (.i .i64 (Int.ofNat 10)) (.i .i64 (Int.ofNat 8)) (.o 5 .nil 0 0 0) (.b true) = true := by kernel_rfl
theorem xb_k9_4 (τ : Nat → Nat) : xbRun τ (.i .i64 (Int.ofNat 9)) (.i .i64 (Int.ofNat 4)) (.b true) (.b false) = true := by kernel_rfl
theorem xb_k8_0 (τ : Nat → Nat) : xbRun τ (.i .i64 (Int.ofNat 8)) (.i .i64 (Int.ofNat 0)) (.b true) (.b false) = true := by kernel_rfl
theorem xb_k8_3 (τ : Nat → Nat) : xbRun τ (.i .i64 (Int.ofNat 8)) (.i .i64 (Int.ofNat 3)) (.b true) (.b false) = true := by kernel_rfl
theorem xb_i7_1 (τ : Nat → Nat) : xbRun τ (.i .i64 (Int.ofNat 7)) (.i .i64 (Int.ofNat 1)) (.o 5 .nil 0 0 0) (.b true) = true := by kernel_rfl
theorem xb_f6_4 (τ : Nat → Nat) : xbRun τ (.i .i64 (Int.ofNat 6)) (.i .i64 (Int.ofNat 4)) (.b false) (.b false) = true := by kernel_rfl
theorem xb_f11_2 (τ : Nat → Nat) : xbRun τ (.i .i64 (Int.ofNat 11)) (.i .i64 (Int.ofNat 2)) (.b false) (.b false) = true := by kernel_rfl
theorem xb_i5_2 (τ : Nat → Nat) : xbRun τ (.i .i64 (Int.ofNat 5)) (.i .i64 (Int.ofNat 2)) (.o 5 .nil 0 0 0) (.b true) = true := by kernel_rfl
theorem xb_k4_3 (τ : Nat → Nat) : xbRun τ (.i .i64 (Int.ofNat 4)) (.i .i64 (Int.ofNat 3)) (.b true) (.b false) = true := by kernel_rfl
theorem xb_f5_0 (τ : Nat → Nat) : xbRun τ (.i .i64 (Int.ofNat 5)) (.i .i64 (Int.ofNat 0)) (.b false) (.b false) = true := by kernel_rfl
theorem xb_i2_0 (τ : Nat → Nat) : xbRun τ (.i .i64 (Int.ofNat 2)) (.i .i64 (Int.ofNat 0)) (.o 5 .nil 0 0 0) (.b true) = true := by kernel_rfl
end
end Go.Proofs.YtbkilngeedbkpaaGreatDoor
