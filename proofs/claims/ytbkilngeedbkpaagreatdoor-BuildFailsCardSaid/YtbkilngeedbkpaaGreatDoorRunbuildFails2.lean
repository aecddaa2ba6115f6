/-
  Runs of buildFails, by the kernel (3 of 17). No condition.
-/
import Derived.Test.YtbkilngeedbkpaaGreatDoorRunbuildFails0
open Go Go.Mx
namespace Go.Proofs.YtbkilngeedbkpaaGreatDoor
set_option maxRecDepth 1000000
noncomputable section
theorem xb_f12_10 (τ : Nat → Nat) : xbRun τ (.i .i64 (Int.ofNat 12)) (.i .i64 (Int.ofNat 10)) (.b false) (.b false) = true := by kernel_rfl
theorem xb_f12_8 (τ : Nat → Nat) : xbRun τ (.i .i64 (Int.ofNat 12)) (.i .i64 (Int.ofNat 8)) (.b false) (.b false) = true := by kernel_rfl
theorem xb_k11_6 (τ : Nat → Nat) : xbRun τ (.i .i64 (Int.ofNat 11)) (.i .i64 (Int.ofNat 6)) (.b true) (.b false) = true := by kernel_rfl
theorem xb_k10_1 (τ : Nat → Nat) : xbRun τ (.i .i64 (Int.ofNat 10)) (.i .i64 (Int.ofNat 1)) (.b true) (.b false) = true := by kernel_rfl
theorem xb_k10_5 (τ : Nat → Nat) : xbRun τ (.i .i64 (Int.ofNat 10)) (.i .i64 (Int.ofNat 5)) (.b true) (.b false) = true := by kernel_rfl
theorem xb_i9_1 (τ : Nat → Nat) : xbRun τ (.i .i64 (Int.ofNat 9)) (.i .i64 (Int.ofNat 1)) (.o 5 .nil 0 0 0) (.b true) = true := by kernel_rfl
theorem xb_k9_8 (τ : Nat → Nat) : xbRun τ (.i .i64 (Int.ofNat 9)) (.i .i64 (Int.ofNat 8)) (.b true) (.b false) = true := by kernel_rfl
theorem xb_f9_5 (τ : Nat → Nat) : xbRun τ (.i .i64 (Int.ofNat 9)) (.i .i64 (Int.ofNat 5)) (.b false) (.b false) = true := by kernel_rfl
theorem xb_k7_4 (τ : Nat → Nat) : xbRun τ (.i .i64 (Int.ofNat 7)) (.i .i64 (Int.ofNat 4)) (.b true) (.b false) = true := by kernel_rfl
theorem xb_k6_1 (τ : Nat → Nat) : xbRun τ (.i .i64 (Int.ofNat 6)) (.i .i64 (Int.ofNat 1)) (.b true) (.b false) = true := by kernel_rfl
theorem xb_f10_3 (τ : Nat → Nat) : xbRun τ (.i .i64 (Int.ofNat 10)) (.i .i64 (Int.ofNat 3)) (.b false) (.b false) = true := by kernel_rfl
theorem xb_f6_2 (τ : Nat → Nat) : xbRun τ (.i .i64 (Int.ofNat 6)) (.i .i64 (Int.ofNat 2)) (.b false) (.b false) = true := by kernel_rfl
theorem xb_k4_2 (τ : Nat → Nat) : xbRun τ (.i .i64 (Int.ofNat 4)) (.i .i64 (Int.ofNat 2)) (.b true) (.b false) = true := by kernel_rfl
theorem xb_f8_0 (τ : Nat → Nat) : xbRun τ (.i .i64 (Int.ofNat 8)) (.i .i64 (Int.ofNat 0)) (.b false) (.b false) = true := by kernel_rfl
theorem xb_f2_0 (τ : Nat → Nat) : xbRun τ (.i .i64 (Int.ofNat 2)) (.i .i64 (Int.ofNat 0)) (.b false) (.b false) = true := by kernel_rfl
end
end Go.Proofs.YtbkilngeedbkpaaGreatDoor
