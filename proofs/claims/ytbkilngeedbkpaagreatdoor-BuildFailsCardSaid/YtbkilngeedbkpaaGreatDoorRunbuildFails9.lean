/-
  Runs of buildFails, by the kernel (10 of 17). No condition.
-/
import Derived.Test.YtbkilngeedbkpaaGreatDoorRunbuildFails0
open Go Go.Mx
namespace Go.Proofs.YtbkilngeedbkpaaGreatDoor
set_option maxRecDepth 1000000
noncomputable section
theorem xb_k12_1 (τ : Nat → Nat) : xbRun τ (.i .i64 (Int.ofNat 12)) (.i .i64 (Int.ofNat 1)) (.b true) (.b false) = true := by kernel_rfl
theorem xb_i12_7 (τ : Nat → Nat) : xbRun τ (.i .i64 (Int.ofNat 12)) (.i .i64 (Int.ofNat 7)) (.o 5 .nil 0 0 0) (.b true) = true := by kernel_rfl
theorem xb_k11_1 (τ : Nat → Nat) : xbRun τ (.i .i64 (Int.ofNat 11)) (.i .i64 (Int.ofNat 1)) (.b true) (.b false) = true := by kernel_rfl
theorem xb_k11_9 (τ : Nat → Nat) : xbRun τ (.i .i64 (Int.ofNat 11)) (.i .i64 (Int.ofNat 9)) (.b true) (.b false) = true := by kernel_rfl
theorem xb_i10_9 (τ : Nat → Nat) : xbRun τ (.i .i64 (Int.ofNat 10)) (.i .i64 (Int.ofNat 9)) (.o 5 .nil 0 0 0) (.b true) = true := by kernel_rfl
theorem xb_k9_5 (τ : Nat → Nat) : xbRun τ (.i .i64 (Int.ofNat 9)) (.i .i64 (Int.ofNat 5)) (.b true) (.b false) = true := by kernel_rfl
theorem xb_k8_1 (τ : Nat → Nat) : xbRun τ (.i .i64 (Int.ofNat 8)) (.i .i64 (Int.ofNat 1)) (.b true) (.b false) = true := by kernel_rfl
theorem xb_k8_4 (τ : Nat → Nat) : xbRun τ (.i .i64 (Int.ofNat 8)) (.i .i64 (Int.ofNat 4)) (.b true) (.b false) = true := by kernel_rfl
theorem xb_i7_2 (τ : Nat → Nat) : xbRun τ (.i .i64 (Int.ofNat 7)) (.i .i64 (Int.ofNat 2)) (.o 5 .nil 0 0 0) (.b true) = true := by kernel_rfl
theorem xb_f5_4 (τ : Nat → Nat) : xbRun τ (.i .i64 (Int.ofNat 5)) (.i .i64 (Int.ofNat 4)) (.b false) (.b false) = true := by kernel_rfl
theorem xb_f9_3 (τ : Nat → Nat) : xbRun τ (.i .i64 (Int.ofNat 9)) (.i .i64 (Int.ofNat 3)) (.b false) (.b false) = true := by kernel_rfl
theorem xb_f7_2 (τ : Nat → Nat) : xbRun τ (.i .i64 (Int.ofNat 7)) (.i .i64 (Int.ofNat 2)) (.b false) (.b false) = true := by kernel_rfl
theorem xb_i4_3 (τ : Nat → Nat) : xbRun τ (.i .i64 (Int.ofNat 4)) (.i .i64 (Int.ofNat 3)) (.o 5 .nil 0 0 0) (.b true) = true := by kernel_rfl
theorem xb_f7_0 (τ : Nat → Nat) : xbRun τ (.i .i64 (Int.ofNat 7)) (.i .i64 (Int.ofNat 0)) (.b false) (.b false) = true := by kernel_rfl
theorem xb_i2_1 (τ : Nat → Nat) : xbRun τ (.i .i64 (Int.ofNat 2)) (.i .i64 (Int.ofNat 1)) (.o 5 .nil 0 0 0) (.b true) = true := by kernel_rfl
end
end Go.Proofs.YtbkilngeedbkpaaGreatDoor
