/-
  Runs of buildFails, by the kernel (7 of 17). No condition.
-/
import Derived.Test.YtbkilngeedbkpaaGreatDoorRunbuildFails0
open Go Go.Mx
namespace Go.Proofs.YtbkilngeedbkpaaGreatDoor
set_option maxRecDepth 1000000
noncomputable section
theorem xb_i12_0 (τ : Nat → Nat) : xbRun τ (.i .i64 (Int.ofNat 12)) (.i .i64 (Int.ofNat 0)) (.o 5 .nil 0 0 0) (.b true) = true := by kernel_rfl
theorem xb_k12_5 (τ : Nat → Nat) : xbRun τ (.i .i64 (Int.ofNat 12)) (.i .i64 (Int.ofNat 5)) (.b true) (.b false) = true := by kernel_rfl
theorem xb_i11_0 (τ : Nat → Nat) : xbRun τ (.i .i64 (Int.ofNat 11)) (.i .i64 (Int.ofNat 0)) (.o 5 .nil 0 0 0) (.b true) = true := by kernel_rfl
theorem xb_i11_8 (τ : Nat → Nat) : xbRun τ (.i .i64 (Int.ofNat 11)) (.i .i64 (Int.ofNat 8)) (.o 5 .nil 0 0 0) (.b true) = true := by kernel_rfl
theorem xb_k10_7 (τ : Nat → Nat) : xbRun τ (.i .i64 (Int.ofNat 10)) (.i .i64 (Int.ofNat 7)) (.b true) (.b false) = true := by kernel_rfl
theorem xb_i9_4 (τ : Nat → Nat) : xbRun τ (.i .i64 (Int.ofNat 9)) (.i .i64 (Int.ofNat 4)) (.o 5 .nil 0 0 0) (.b true) = true := by kernel_rfl
theorem xb_i8_0 (τ : Nat → Nat) : xbRun τ (.i .i64 (Int.ofNat 8)) (.i .i64 (Int.ofNat 0)) (.o 5 .nil 0 0 0) (.b true) = true := by kernel_rfl
theorem xb_i8_3 (τ : Nat → Nat) : xbRun τ (.i .i64 (Int.ofNat 8)) (.i .i64 (Int.ofNat 3)) (.o 5 .nil 0 0 0) (.b true) = true := by kernel_rfl
theorem xb_k7_0 (τ : Nat → Nat) : xbRun τ (.i .i64 (Int.ofNat 7)) (.i .i64 (Int.ofNat 0)) (.b true) (.b false) = true := by kernel_rfl
theorem xb_f7_4 (τ : Nat → Nat) : xbRun τ (.i .i64 (Int.ofNat 7)) (.i .i64 (Int.ofNat 4)) (.b false) (.b false) = true := by kernel_rfl
theorem xb_i5_0 (τ : Nat → Nat) : xbRun τ (.i .i64 (Int.ofNat 5)) (.i .i64 (Int.ofNat 0)) (.o 5 .nil 0 0 0) (.b true) = true := by kernel_rfl
theorem xb_k5_3 (τ : Nat → Nat) : xbRun τ (.i .i64 (Int.ofNat 5)) (.i .i64 (Int.ofNat 3)) (.b true) (.b false) = true := by kernel_rfl
theorem xb_f9_1 (τ : Nat → Nat) : xbRun τ (.i .i64 (Int.ofNat 9)) (.i .i64 (Int.ofNat 1)) (.b false) (.b false) = true := by kernel_rfl
theorem xb_f4_1 (τ : Nat → Nat) : xbRun τ (.i .i64 (Int.ofNat 4)) (.i .i64 (Int.ofNat 1)) (.b false) (.b false) = true := by kernel_rfl
end
end Go.Proofs.YtbkilngeedbkpaaGreatDoor
