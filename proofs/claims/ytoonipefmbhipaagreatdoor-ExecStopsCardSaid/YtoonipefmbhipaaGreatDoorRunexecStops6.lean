/-
  Runs of execStops, by the kernel (7 of 13). No condition.
-/
import Derived.Test.YtoonipefmbhipaaGreatDoorRunexecStops0
open Go Go.Mx
namespace Go.Proofs.YtoonipefmbhipaaGreatDoor
set_option maxRecDepth 1000000
noncomputable section
theorem xs_r5_9 (τ : Nat → Nat) : xsRun hkC5 τ (.i .i64 (Int.ofNat 9)) (.o 2 (t1V 12 48 53 202 0) 3 0 0) 13 = true := by kernel_rfl
theorem xs_r1_5 (τ : Nat → Nat) : xsRun hkC1 τ (.i .i64 (Int.ofNat 5)) (.o 2 (t1V 12 49 57 0 48) 3 0 0) 13 = true := by kernel_rfl
theorem xs_r4_2 (τ : Nat → Nat) : xsRun hkC4 τ (.i .i64 (Int.ofNat 2)) (.o 2 (t2V 12 48 52 13 48 57 0 328) 3 0 0) 14 = true := by kernel_rfl
theorem xs_r2_7 (τ : Nat → Nat) : xsRun hkC2 τ (.i .i64 (Int.ofNat 7)) (.o 2 (t2V 12 49 57 13 48 57 0 528) 3 0 0) 14 = true := by kernel_rfl
theorem xs_r1_0 (τ : Nat → Nat) : xsRun hkC1 τ (.i .i64 (Int.ofNat 0)) (.o 2 (t1V 12 49 57 0 48) 3 0 0) 13 = true := by kernel_rfl
end
end Go.Proofs.YtoonipefmbhipaaGreatDoor
