/-
  Runs of buildFails, by the kernel (15 of 17). No condition.
-/
import Derived.Test.YtbkilngeedbkpaaGreatDoorRunbuildFails0
open Go Go.Mx
namespace Go.Proofs.YtbkilngeedbkpaaGreatDoor
set_option maxRecDepth 1000000
noncomputable section
theorem xb_i12_4 (τ : Nat → Nat) : xbRun τ (.i .i64 (Int.ofNat 12)) (.i .i64 (Int.ofNat 4)) (.o 5 .nil 0 0 0) (.b true) = true := by kernel_rfl
theorem xb_k12_9 (τ : Nat → Nat) : xbRun τ (.i .i64 (Int.ofNat 12)) (.i .i64 (Int.ofNat 9)) (.b true) (.b false) = true := by kernel_rfl
theorem xb_i11_4 (τ : Nat → Nat) : xbRun τ (.i .i64 (Int.ofNat 11)) (.i .i64 (Int.ofNat 4)) (.o 5 .nil 0 0 0) (.b true) = true := by kernel_rfl
theorem xb_f12_7 (τ : Nat → Nat) : xbRun τ (.i .i64 (Int.ofNat 12)) (.i .i64 (Int.ofNat 7)) (.b false) (.b false) = true := by kernel_rfl
theorem xb_i10_5 (τ : Nat → Nat) : xbRun τ (.i .i64 (Int.ofNat 10)) (.i .i64 (Int.ofNat 5)) (.o 5 .nil 0 0 0) (.b true) = true := by kernel_rfl
theorem xb_k9_0 (τ : Nat → Nat) : xbRun τ (.i .i64 (Int.ofNat 9)) (.i .i64 (Int.ofNat 0)) (.b true) (.b false) = true := by kernel_rfl
theorem xb_k9_7 (τ : Nat → Nat) : xbRun τ (.i .i64 (Int.ofNat 9)) (.i .i64 (Int.ofNat 7)) (.b true) (.b false) = true := by kernel_rfl
theorem xb_i8_7 (τ : Nat → Nat) : xbRun τ (.i .i64 (Int.ofNat 8)) (.i .i64 (Int.ofNat 7)) (.o 5 .nil 0 0 0) (.b true) = true := by kernel_rfl
theorem xb_i7_6 (τ : Nat → Nat) : xbRun τ (.i .i64 (Int.ofNat 7)) (.i .i64 (Int.ofNat 6)) (.o 5 .nil 0 0 0) (.b true) = true := by kernel_rfl
theorem xb_i6_3 (τ : Nat → Nat) : xbRun τ (.i .i64 (Int.ofNat 6)) (.i .i64 (Int.ofNat 3)) (.o 5 .nil 0 0 0) (.b true) = true := by kernel_rfl
theorem xb_f6_3 (τ : Nat → Nat) : xbRun τ (.i .i64 (Int.ofNat 6)) (.i .i64 (Int.ofNat 3)) (.b false) (.b false) = true := by kernel_rfl
theorem xb_i5_4 (τ : Nat → Nat) : xbRun τ (.i .i64 (Int.ofNat 5)) (.i .i64 (Int.ofNat 4)) (.o 5 .nil 0 0 0) (.b true) = true := by kernel_rfl
theorem xb_f8_1 (τ : Nat → Nat) : xbRun τ (.i .i64 (Int.ofNat 8)) (.i .i64 (Int.ofNat 1)) (.b false) (.b false) = true := by kernel_rfl
theorem xb_k3_1 (τ : Nat → Nat) : xbRun τ (.i .i64 (Int.ofNat 3)) (.i .i64 (Int.ofNat 1)) (.b true) (.b false) = true := by kernel_rfl
end
end Go.Proofs.YtbkilngeedbkpaaGreatDoor
