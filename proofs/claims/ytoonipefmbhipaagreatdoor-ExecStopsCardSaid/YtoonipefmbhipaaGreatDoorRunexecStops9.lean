/-
  Runs of execStops, by the kernel (10 of 13). No condition.
-/
import Derived.Test.YtoonipefmbhipaaGreatDoorRunexecStops0
open Go Go.Mx
namespace Go.Proofs.YtoonipefmbhipaaGreatDoor
set_option maxRecDepth 1000000
noncomputable section
theorem xs_r2_9 (τ : Nat → Nat) : xsRun hkC2 τ (.i .i64 (Int.ofNat 9)) (.o 2 (t2V 12 49 57 13 48 57 0 528) 3 0 0) 14 = true := by kernel_rfl
theorem xs_r3_4 (τ : Nat → Nat) : xsRun hkC3 τ (.i .i64 (Int.ofNat 4)) (.o 2 (t2V 12 48 57 13 48 57 0 428) 3 0 0) 14 = true := by kernel_rfl
theorem xs_r5_2 (τ : Nat → Nat) : xsRun hkC5 τ (.i .i64 (Int.ofNat 2)) (.o 2 (t1V 12 48 53 202 0) 3 0 0) 13 = true := by kernel_rfl
theorem xs_r3_8 (τ : Nat → Nat) : xsRun hkC3 τ (.i .i64 (Int.ofNat 8)) (.o 2 (t2V 12 48 57 13 48 57 0 428) 3 0 0) 14 = true := by kernel_rfl
theorem xs_r2_10 (τ : Nat → Nat) : xsRun hkC2 τ (.i .i64 (Int.ofNat 10)) (.o 2 (t2V 12 49 57 13 48 57 0 528) 3 0 0) 14 = true := by kernel_rfl
end
end Go.Proofs.YtoonipefmbhipaaGreatDoor
