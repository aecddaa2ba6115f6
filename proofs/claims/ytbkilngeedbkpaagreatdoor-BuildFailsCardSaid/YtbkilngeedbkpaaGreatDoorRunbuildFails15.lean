/-
  Runs of buildFails, by the kernel (16 of 17). No condition.
-/
import Derived.Test.YtbkilngeedbkpaaGreatDoorRunbuildFails0
open Go Go.Mx
namespace Go.Proofs.YtbkilngeedbkpaaGreatDoor
set_option maxRecDepth 1000000
noncomputable section
theorem xb_k12_4 (τ : Nat → Nat) : xbRun τ (.i .i64 (Int.ofNat 12)) (.i .i64 (Int.ofNat 4)) (.b true) (.b false) = true := by kernel_rfl
theorem xb_i12_10 (τ : Nat → Nat) : xbRun τ (.i .i64 (Int.ofNat 12)) (.i .i64 (Int.ofNat 10)) (.o 5 .nil 0 0 0) (.b true) = true := by kernel_rfl
theorem xb_k11_4 (τ : Nat → Nat) : xbRun τ (.i .i64 (Int.ofNat 11)) (.i .i64 (Int.ofNat 4)) (.b true) (.b false) = true := by kernel_rfl
theorem xb_f11_7 (τ : Nat → Nat) : xbRun τ (.i .i64 (Int.ofNat 11)) (.i .i64 (Int.ofNat 7)) (.b false) (.b false) = true := by kernel_rfl
theorem xb_i10_4 (τ : Nat → Nat) : xbRun τ (.i .i64 (Int.ofNat 10)) (.i .i64 (Int.ofNat 4)) (.o 5 .nil 0 0 0) (.b true) = true := by kernel_rfl
theorem xb_f11_6 (τ : Nat → Nat) : xbRun τ (.i .i64 (Int.ofNat 11)) (.i .i64 (Int.ofNat 6)) (.b false) (.b false) = true := by kernel_rfl
theorem xb_k9_6 (τ : Nat → Nat) : xbRun τ (.i .i64 (Int.ofNat 9)) (.i .i64 (Int.ofNat 6)) (.b true) (.b false) = true := by kernel_rfl
theorem xb_k8_5 (τ : Nat → Nat) : xbRun τ (.i .i64 (Int.ofNat 8)) (.i .i64 (Int.ofNat 5)) (.b true) (.b false) = true := by kernel_rfl
theorem xb_k7_3 (τ : Nat → Nat) : xbRun τ (.i .i64 (Int.ofNat 7)) (.i .i64 (Int.ofNat 3)) (.b true) (.b false) = true := by kernel_rfl
theorem xb_k6_0 (τ : Nat → Nat) : xbRun τ (.i .i64 (Int.ofNat 6)) (.i .i64 (Int.ofNat 0)) (.b true) (.b false) = true := by kernel_rfl
theorem xb_i6_5 (τ : Nat → Nat) : xbRun τ (.i .i64 (Int.ofNat 6)) (.i .i64 (Int.ofNat 5)) (.o 5 .nil 0 0 0) (.b true) = true := by kernel_rfl
theorem xb_f11_1 (τ : Nat → Nat) : xbRun τ (.i .i64 (Int.ofNat 11)) (.i .i64 (Int.ofNat 1)) (.b false) (.b false) = true := by kernel_rfl
theorem xb_i4_1 (τ : Nat → Nat) : xbRun τ (.i .i64 (Int.ofNat 4)) (.i .i64 (Int.ofNat 1)) (.o 5 .nil 0 0 0) (.b true) = true := by kernel_rfl
theorem xb_k3_2 (τ : Nat → Nat) : xbRun τ (.i .i64 (Int.ofNat 3)) (.i .i64 (Int.ofNat 2)) (.b true) (.b false) = true := by kernel_rfl
end
end Go.Proofs.YtbkilngeedbkpaaGreatDoor
