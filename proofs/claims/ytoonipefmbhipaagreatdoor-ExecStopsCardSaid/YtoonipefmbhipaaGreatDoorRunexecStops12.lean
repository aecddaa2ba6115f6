/-
  Runs of execStops, by the kernel (13 of 13). No condition.
-/
import Derived.Test.YtoonipefmbhipaaGreatDoorRunexecStops0
open Go Go.Mx
namespace Go.Proofs.YtoonipefmbhipaaGreatDoor
set_option maxRecDepth 1000000
noncomputable section
theorem xs_r4_5 (τ : Nat → Nat) : xsRun hkC4 τ (.i .i64 (Int.ofNat 5)) (.o 2 (t2V 12 48 52 13 48 57 0 328) 3 0 0) 14 = true := by kernel_rfl
theorem xs_r2_5 (τ : Nat → Nat) : xsRun hkC2 τ (.i .i64 (Int.ofNat 5)) (.o 2 (t2V 12 49 57 13 48 57 0 528) 3 0 0) 14 = true := by kernel_rfl
theorem xs_r5_8 (τ : Nat → Nat) : xsRun hkC5 τ (.i .i64 (Int.ofNat 8)) (.o 2 (t1V 12 48 53 202 0) 3 0 0) 13 = true := by kernel_rfl
theorem xs_r4_11 (τ : Nat → Nat) : xsRun hkC4 τ (.i .i64 (Int.ofNat 11)) (.o 2 (t2V 12 48 52 13 48 57 0 328) 3 0 0) 14 = true := by kernel_rfl
theorem xs_r2_3 (τ : Nat → Nat) : xsRun hkC2 τ (.i .i64 (Int.ofNat 3)) (.o 2 (t2V 12 49 57 13 48 57 0 528) 3 0 0) 14 = true := by kernel_rfl
end
end Go.Proofs.YtoonipefmbhipaaGreatDoor
