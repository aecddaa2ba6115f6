/-
  Runs of buildFails, by the kernel (6 of 17). No condition.
-/
import Derived.Test.YtbkilngeedbkpaaGreatDoorRunbuildFails0
open Go Go.Mx
namespace Go.Proofs.YtbkilngeedbkpaaGreatDoor
set_option maxRecDepth 1000000
noncomputable section
theorem xb_f11_9 (τ : Nat → Nat) : xbRun τ (.i .i64 (Int.ofNat 11)) (.i .i64 (Int.ofNat 9)) (.b false) (.b false) = true := by kernel_rfl
theorem xb_i12_11 (τ : Nat → Nat) : xbRun τ (.i .i64 (Int.ofNat 12)) (.i .i64 (Int.ofNat 11)) (.o 5 .nil 0 0 0) (.b true) = true := by kernel_rfl
theorem xb_k11_5 (τ : Nat → Nat) : xbRun τ (.i .i64 (Int.ofNat 11)) (.i .i64 (Int.ofNat 5)) (.b true) (.b false) = true := by kernel_rfl
theorem xb_k10_0 (τ : Nat → Nat) : xbRun τ (.i .i64 (Int.ofNat 10)) (.i .i64 (Int.ofNat 0)) (.b true) (.b false) = true := by kernel_rfl
theorem xb_k10_3 (τ : Nat → Nat) : xbRun τ (.i .i64 (Int.ofNat 10)) (.i .i64 (Int.ofNat 3)) (.b true) (.b false) = true := by kernel_rfl
theorem xb_f12_6 (τ : Nat → Nat) : xbRun τ (.i .i64 (Int.ofNat 12)) (.i .i64 (Int.ofNat 6)) (.b false) (.b false) = true := by kernel_rfl
theorem xb_i9_8 (τ : Nat → Nat) : xbRun τ (.i .i64 (Int.ofNat 9)) (.i .i64 (Int.ofNat 8)) (.o 5 .nil 0 0 0) (.b true) = true := by kernel_rfl
theorem xb_k8_7 (τ : Nat → Nat) : xbRun τ (.i .i64 (Int.ofNat 8)) (.i .i64 (Int.ofNat 7)) (.b true) (.b false) = true := by kernel_rfl
theorem xb_k7_6 (τ : Nat → Nat) : xbRun τ (.i .i64 (Int.ofNat 7)) (.i .i64 (Int.ofNat 6)) (.b true) (.b false) = true := by kernel_rfl
theorem xb_k6_3 (τ : Nat → Nat) : xbRun τ (.i .i64 (Int.ofNat 6)) (.i .i64 (Int.ofNat 3)) (.b true) (.b false) = true := by kernel_rfl
theorem xb_f5_3 (τ : Nat → Nat) : xbRun τ (.i .i64 (Int.ofNat 5)) (.i .i64 (Int.ofNat 3)) (.b false) (.b false) = true := by kernel_rfl
theorem xb_k5_2 (τ : Nat → Nat) : xbRun τ (.i .i64 (Int.ofNat 5)) (.i .i64 (Int.ofNat 2)) (.b true) (.b false) = true := by kernel_rfl
theorem xb_f4_2 (τ : Nat → Nat) : xbRun τ (.i .i64 (Int.ofNat 4)) (.i .i64 (Int.ofNat 2)) (.b false) (.b false) = true := by kernel_rfl
theorem xb_f6_0 (τ : Nat → Nat) : xbRun τ (.i .i64 (Int.ofNat 6)) (.i .i64 (Int.ofNat 0)) (.b false) (.b false) = true := by kernel_rfl
theorem xb_k2_0 (τ : Nat → Nat) : xbRun τ (.i .i64 (Int.ofNat 2)) (.i .i64 (Int.ofNat 0)) (.b true) (.b false) = true := by kernel_rfl
end
end Go.Proofs.YtbkilngeedbkpaaGreatDoor
