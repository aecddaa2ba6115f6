/-
  Runs of shellEndless, by the kernel (3 of 4). No condition.
-/
import Derived.Test.YtbkilngeedbkpaaGreatDoorRunshellEndless0
open Go Go.Mx
namespace Go.Proofs.YtbkilngeedbkpaaGreatDoor
set_option maxRecDepth 1000000
noncomputable section
theorem xe_u1 (τ : Nat → Nat) : xeRun 3 (.o 2 (.cons (.x 12 .i64 1 2000) .nil) 3 0 0) (.i .i64 (Int.ofNat 1)) τ = true := by kernel_rfl
theorem xe_u4 (τ : Nat → Nat) : xeRun 3 (.o 2 (.cons (.x 12 .i64 2 2000) .nil) 3 0 0) (.i .i64 (Int.ofNat 4)) τ = true := by kernel_rfl
theorem xe_u7 (τ : Nat → Nat) : xeRun 4 (.o 2 (.cons (.x 12 .i64 1 2000) .nil) 3 0 0) (.i .i64 (Int.ofNat 7)) τ = true := by kernel_rfl
theorem xe_f2_1 (τ : Nat → Nat) : xeRun 3 (.i .i64 (Int.ofNat 1)) (.i .i64 (Int.ofNat 2)) τ = true := by kernel_rfl
theorem xe_f2_4 (τ : Nat → Nat) : xeRun 3 (.i .i64 (Int.ofNat 4)) (.i .i64 (Int.ofNat 2)) τ = true := by kernel_rfl
theorem xe_f3_2 (τ : Nat → Nat) : xeRun 5 (.i .i64 (Int.ofNat 2)) (.i .i64 (Int.ofNat 3)) τ = true := by kernel_rfl
theorem xe_f3_5 (τ : Nat → Nat) : xeRun 5 (.i .i64 (Int.ofNat 5)) (.i .i64 (Int.ofNat 3)) τ = true := by kernel_rfl
theorem xe_f5_0 (τ : Nat → Nat) : xeRun 3 (.i .i64 (Int.ofNat 0)) (.i .i64 (Int.ofNat 5)) τ = true := by kernel_rfl
theorem xe_f6_1 (τ : Nat → Nat) : xeRun 3 (.i .i64 (Int.ofNat 1)) (.i .i64 (Int.ofNat 6)) τ = true := by kernel_rfl
end
end Go.Proofs.YtbkilngeedbkpaaGreatDoor
