/-
  Runs of buildFails, by the kernel (2 of 17). No condition.
-/
import Derived.Test.YtbkilngeedbkpaaGreatDoorRunbuildFails0
open Go Go.Mx
namespace Go.Proofs.YtbkilngeedbkpaaGreatDoor
set_option maxRecDepth 1000000
noncomputable section
theorem xb_f12_11 (τ : Nat → Nat) : xbRun τ (.i .i64 (Int.ofNat 12)) (.i .i64 (Int.ofNat 11)) (.b false) (.b false) = true := by kernel_rfl
theorem xb_f11_8 (τ : Nat → Nat) : xbRun τ (.i .i64 (Int.ofNat 11)) (.i .i64 (Int.ofNat 8)) (.b false) (.b false) = true := by kernel_rfl
theorem xb_k11_7 (τ : Nat → Nat) : xbRun τ (.i .i64 (Int.ofNat 11)) (.i .i64 (Int.ofNat 7)) (.b true) (.b false) = true := by kernel_rfl
theorem xb_k10_2 (τ : Nat → Nat) : xbRun τ (.i .i64 (Int.ofNat 10)) (.i .i64 (Int.ofNat 2)) (.b true) (.b false) = true := by kernel_rfl
theorem xb_f9_7 (τ : Nat → Nat) : xbRun τ (.i .i64 (Int.ofNat 9)) (.i .i64 (Int.ofNat 7)) (.b false) (.b false) = true := by kernel_rfl
theorem xb_k9_3 (τ : Nat → Nat) : xbRun τ (.i .i64 (Int.ofNat 9)) (.i .i64 (Int.ofNat 3)) (.b true) (.b false) = true := by kernel_rfl
theorem xb_f11_5 (τ : Nat → Nat) : xbRun τ (.i .i64 (Int.ofNat 11)) (.i .i64 (Int.ofNat 5)) (.b false) (.b false) = true := by kernel_rfl
theorem xb_k8_2 (τ : Nat → Nat) : xbRun τ (.i .i64 (Int.ofNat 8)) (.i .i64 (Int.ofNat 2)) (.b true) (.b false) = true := by kernel_rfl
theorem xb_i7_0 (τ : Nat → Nat) : xbRun τ (.i .i64 (Int.ofNat 7)) (.i .i64 (Int.ofNat 0)) (.o 5 .nil 0 0 0) (.b true) = true := by kernel_rfl
theorem xb_f8_4 (τ : Nat → Nat) : xbRun τ (.i .i64 (Int.ofNat 8)) (.i .i64 (Int.ofNat 4)) (.b false) (.b false) = true := by kernel_rfl
theorem xb_k5_0 (τ : Nat → Nat) : xbRun τ (.i .i64 (Int.ofNat 5)) (.i .i64 (Int.ofNat 0)) (.b true) (.b false) = true := by kernel_rfl
theorem xb_k5_4 (τ : Nat → Nat) : xbRun τ (.i .i64 (Int.ofNat 5)) (.i .i64 (Int.ofNat 4)) (.b true) (.b false) = true := by kernel_rfl
theorem xb_f12_0 (τ : Nat → Nat) : xbRun τ (.i .i64 (Int.ofNat 12)) (.i .i64 (Int.ofNat 0)) (.b false) (.b false) = true := by kernel_rfl
theorem xb_i3_0 (τ : Nat → Nat) : xbRun τ (.i .i64 (Int.ofNat 3)) (.i .i64 (Int.ofNat 0)) (.o 5 .nil 0 0 0) (.b true) = true := by kernel_rfl
theorem xb_f4_0 (τ : Nat → Nat) : xbRun τ (.i .i64 (Int.ofNat 4)) (.i .i64 (Int.ofNat 0)) (.b false) (.b false) = true := by kernel_rfl
end
end Go.Proofs.YtbkilngeedbkpaaGreatDoor
