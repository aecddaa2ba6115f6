/-
  Runs of buildFails, by the kernel (17 of 17). No condition.
-/
import Derived.Test.YtbkilngeedbkpaaGreatDoorRunbuildFails0
open Go Go.Mx
namespace Go.Proofs.YtbkilngeedbkpaaGreatDoor
set_option maxRecDepth 1000000
noncomputable section
theorem xb_i12_5 (τ : Nat → Nat) : xbRun τ (.i .i64 (Int.ofNat 12)) (.i .i64 (Int.ofNat 5)) (.o 5 .nil 0 0 0) (.b true) = true := by kernel_rfl
theorem xb_k12_10 (τ : Nat → Nat) : xbRun τ (.i .i64 (Int.ofNat 12)) (.i .i64 (Int.ofNat 10)) (.b true) (.b false) = true := by kernel_rfl
theorem xb_i11_5 (τ : Nat → Nat) : xbRun τ (.i .i64 (Int.ofNat 11)) (.i .i64 (Int.ofNat 5)) (.o 5 .nil 0 0 0) (.b true) = true := by kernel_rfl
theorem xb_i10_0 (τ : Nat → Nat) : xbRun τ (.i .i64 (Int.ofNat 10)) (.i .i64 (Int.ofNat 0)) (.o 5 .nil 0 0 0) (.b true) = true := by kernel_rfl
theorem xb_i10_3 (τ : Nat → Nat) : xbRun τ (.i .i64 (Int.ofNat 10)) (.i .i64 (Int.ofNat 3)) (.o 5 .nil 0 0 0) (.b true) = true := by kernel_rfl
theorem xb_f8_7 (τ : Nat → Nat) : xbRun τ (.i .i64 (Int.ofNat 8)) (.i .i64 (Int.ofNat 7)) (.b false) (.b false) = true := by kernel_rfl
theorem xb_f10_6 (τ : Nat → Nat) : xbRun τ (.i .i64 (Int.ofNat 10)) (.i .i64 (Int.ofNat 6)) (.b false) (.b false) = true := by kernel_rfl
theorem xb_f6_5 (τ : Nat → Nat) : xbRun τ (.i .i64 (Int.ofNat 6)) (.i .i64 (Int.ofNat 5)) (.b false) (.b false) = true := by kernel_rfl
theorem xb_f12_4 (τ : Nat → Nat) : xbRun τ (.i .i64 (Int.ofNat 12)) (.i .i64 (Int.ofNat 4)) (.b false) (.b false) = true := by kernel_rfl
theorem xb_f9_4 (τ : Nat → Nat) : xbRun τ (.i .i64 (Int.ofNat 9)) (.i .i64 (Int.ofNat 4)) (.b false) (.b false) = true := by kernel_rfl
theorem xb_i5_1 (τ : Nat → Nat) : xbRun τ (.i .i64 (Int.ofNat 5)) (.i .i64 (Int.ofNat 1)) (.o 5 .nil 0 0 0) (.b true) = true := by kernel_rfl
theorem xb_f10_2 (τ : Nat → Nat) : xbRun τ (.i .i64 (Int.ofNat 10)) (.i .i64 (Int.ofNat 2)) (.b false) (.b false) = true := by kernel_rfl
theorem xb_f6_1 (τ : Nat → Nat) : xbRun τ (.i .i64 (Int.ofNat 6)) (.i .i64 (Int.ofNat 1)) (.b false) (.b false) = true := by kernel_rfl
theorem xb_k3_0 (τ : Nat → Nat) : xbRun τ (.i .i64 (Int.ofNat 3)) (.i .i64 (Int.ofNat 0)) (.b true) (.b false) = true := by kernel_rfl
theorem xb_f3_0 (τ : Nat → Nat) : xbRun τ (.i .i64 (Int.ofNat 3)) (.i .i64 (Int.ofNat 0)) (.b false) (.b false) = true := by kernel_rfl
end
end Go.Proofs.YtbkilngeedbkpaaGreatDoor
