/-
  Runs of buildFails, by the kernel (14 of 17). No condition.
-/
import Derived.Test.YtbkilngeedbkpaaGreatDoorRunbuildFails0
open Go Go.Mx
namespace Go.Proofs.YtbkilngeedbkpaaGreatDoor
set_option maxRecDepth 1000000
noncomputable section
theorem xb_k12_3 (τ : Nat → Nat) : xbRun τ (.i .i64 (Int.ofNat 12)) (.i .i64 (Int.ofNat 3)) (.b true) (.b false) = true := by kernel_rfl
theorem xb_i12_9 (τ : Nat → Nat) : xbRun τ (.i .i64 (Int.ofNat 12)) (.i .i64 (Int.ofNat 9)) (.o 5 .nil 0 0 0) (.b true) = true := by kernel_rfl
theorem xb_k11_3 (τ : Nat → Nat) : xbRun τ (.i .i64 (Int.ofNat 11)) (.i .i64 (Int.ofNat 3)) (.b true) (.b false) = true := by kernel_rfl
theorem xb_f9_8 (τ : Nat → Nat) : xbRun τ (.i .i64 (Int.ofNat 9)) (.i .i64 (Int.ofNat 8)) (.b false) (.b false) = true := by kernel_rfl
theorem xb_i10_6 (τ : Nat → Nat) : xbRun τ (.i .i64 (Int.ofNat 10)) (.i .i64 (Int.ofNat 6)) (.o 5 .nil 0 0 0) (.b true) = true := by kernel_rfl
theorem xb_k9_1 (τ : Nat → Nat) : xbRun τ (.i .i64 (Int.ofNat 9)) (.i .i64 (Int.ofNat 1)) (.b true) (.b false) = true := by kernel_rfl
theorem xb_f9_6 (τ : Nat → Nat) : xbRun τ (.i .i64 (Int.ofNat 9)) (.i .i64 (Int.ofNat 6)) (.b false) (.b false) = true := by kernel_rfl
theorem xb_f7_5 (τ : Nat → Nat) : xbRun τ (.i .i64 (Int.ofNat 7)) (.i .i64 (Int.ofNat 5)) (.b false) (.b false) = true := by kernel_rfl
theorem xb_f11_4 (τ : Nat → Nat) : xbRun τ (.i .i64 (Int.ofNat 11)) (.i .i64 (Int.ofNat 4)) (.b false) (.b false) = true := by kernel_rfl
theorem xb_f10_4 (τ : Nat → Nat) : xbRun τ (.i .i64 (Int.ofNat 10)) (.i .i64 (Int.ofNat 4)) (.b false) (.b false) = true := by kernel_rfl
theorem xb_k5_1 (τ : Nat → Nat) : xbRun τ (.i .i64 (Int.ofNat 5)) (.i .i64 (Int.ofNat 1)) (.b true) (.b false) = true := by kernel_rfl
theorem xb_f8_2 (τ : Nat → Nat) : xbRun τ (.i .i64 (Int.ofNat 8)) (.i .i64 (Int.ofNat 2)) (.b false) (.b false) = true := by kernel_rfl
theorem xb_f10_1 (τ : Nat → Nat) : xbRun τ (.i .i64 (Int.ofNat 10)) (.i .i64 (Int.ofNat 1)) (.b false) (.b false) = true := by kernel_rfl
theorem xb_f2_1 (τ : Nat → Nat) : xbRun τ (.i .i64 (Int.ofNat 2)) (.i .i64 (Int.ofNat 1)) (.b false) (.b false) = true := by kernel_rfl
theorem xb_f1_0 (τ : Nat → Nat) : xbRun τ (.i .i64 (Int.ofNat 1)) (.i .i64 (Int.ofNat 0)) (.b false) (.b false) = true := by kernel_rfl
end
end Go.Proofs.YtbkilngeedbkpaaGreatDoor
