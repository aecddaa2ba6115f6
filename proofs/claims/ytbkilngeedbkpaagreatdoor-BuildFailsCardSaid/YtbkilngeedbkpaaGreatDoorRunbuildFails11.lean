/-
  Runs of buildFails, by the kernel (12 of 17). No condition.
-/
import Derived.Test.YtbkilngeedbkpaaGreatDoorRunbuildFails0
open Go Go.Mx
namespace Go.Proofs.YtbkilngeedbkpaaGreatDoor
set_option maxRecDepth 1000000
noncomputable section
theorem xb_k12_2 (τ : Nat → Nat) : xbRun τ (.i .i64 (Int.ofNat 12)) (.i .i64 (Int.ofNat 2)) (.b true) (.b false) = true := by kernel_rfl
theorem xb_i12_8 (τ : Nat → Nat) : xbRun τ (.i .i64 (Int.ofNat 12)) (.i .i64 (Int.ofNat 8)) (.o 5 .nil 0 0 0) (.b true) = true := by kernel_rfl
theorem xb_k11_2 (τ : Nat → Nat) : xbRun τ (.i .i64 (Int.ofNat 11)) (.i .i64 (Int.ofNat 2)) (.b true) (.b false) = true := by kernel_rfl
theorem xb_k11_10 (τ : Nat → Nat) : xbRun τ (.i .i64 (Int.ofNat 11)) (.i .i64 (Int.ofNat 10)) (.b true) (.b false) = true := by kernel_rfl
theorem xb_f10_7 (τ : Nat → Nat) : xbRun τ (.i .i64 (Int.ofNat 10)) (.i .i64 (Int.ofNat 7)) (.b false) (.b false) = true := by kernel_rfl
theorem xb_i9_2 (τ : Nat → Nat) : xbRun τ (.i .i64 (Int.ofNat 9)) (.i .i64 (Int.ofNat 2)) (.o 5 .nil 0 0 0) (.b true) = true := by kernel_rfl
theorem xb_f8_6 (τ : Nat → Nat) : xbRun τ (.i .i64 (Int.ofNat 8)) (.i .i64 (Int.ofNat 6)) (.b false) (.b false) = true := by kernel_rfl
theorem xb_f8_5 (τ : Nat → Nat) : xbRun τ (.i .i64 (Int.ofNat 8)) (.i .i64 (Int.ofNat 5)) (.b false) (.b false) = true := by kernel_rfl
theorem xb_i7_3 (τ : Nat → Nat) : xbRun τ (.i .i64 (Int.ofNat 7)) (.i .i64 (Int.ofNat 3)) (.o 5 .nil 0 0 0) (.b true) = true := by kernel_rfl
theorem xb_i6_0 (τ : Nat → Nat) : xbRun τ (.i .i64 (Int.ofNat 6)) (.i .i64 (Int.ofNat 0)) (.o 5 .nil 0 0 0) (.b true) = true := by kernel_rfl
theorem xb_i6_4 (τ : Nat → Nat) : xbRun τ (.i .i64 (Int.ofNat 6)) (.i .i64 (Int.ofNat 4)) (.o 5 .nil 0 0 0) (.b true) = true := by kernel_rfl
theorem xb_f12_1 (τ : Nat → Nat) : xbRun τ (.i .i64 (Int.ofNat 12)) (.i .i64 (Int.ofNat 1)) (.b false) (.b false) = true := by kernel_rfl
theorem xb_i4_2 (τ : Nat → Nat) : xbRun τ (.i .i64 (Int.ofNat 4)) (.i .i64 (Int.ofNat 2)) (.o 5 .nil 0 0 0) (.b true) = true := by kernel_rfl
theorem xb_f9_0 (τ : Nat → Nat) : xbRun τ (.i .i64 (Int.ofNat 9)) (.i .i64 (Int.ofNat 0)) (.b false) (.b false) = true := by kernel_rfl
theorem xb_k1_0 (τ : Nat → Nat) : xbRun τ (.i .i64 (Int.ofNat 1)) (.i .i64 (Int.ofNat 0)) (.b true) (.b false) = true := by kernel_rfl
end
end Go.Proofs.YtbkilngeedbkpaaGreatDoor
