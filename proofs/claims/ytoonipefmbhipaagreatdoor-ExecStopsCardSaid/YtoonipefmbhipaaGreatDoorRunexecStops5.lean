/-
  Runs of execStops, by the kernel (6 of 13). No condition.
-/
import Derived.Test.YtoonipefmbhipaaGreatDoorRunexecStops0
open Go Go.Mx
namespace Go.Proofs.YtoonipefmbhipaaGreatDoor
set_option maxRecDepth 1000000
noncomputable section
theorem xs_r1_6 (τ : Nat → Nat) : xsRun hkC1 τ (.i .i64 (Int.ofNat 6)) (.o 2 (t1V 12 49 57 0 48) 3 0 0) 13 = true := by kernel_rfl
theorem xs_r2_1 (τ : Nat → Nat) : xsRun hkC2 τ (.i .i64 (Int.ofNat 1)) (.o 2 (t2V 12 49 57 13 48 57 0 528) 3 0 0) 14 = true := by kernel_rfl
theorem xs_r4_7 (τ : Nat → Nat) : xsRun hkC4 τ (.i .i64 (Int.ofNat 7)) (.o 2 (t2V 12 48 52 13 48 57 0 328) 3 0 0) 14 = true := by kernel_rfl
theorem xs_r3_10 (τ : Nat → Nat) : xsRun hkC3 τ (.i .i64 (Int.ofNat 10)) (.o 2 (t2V 12 48 57 13 48 57 0 428) 3 0 0) 14 = true := by kernel_rfl
theorem xs_r1_2 (τ : Nat → Nat) : xsRun hkC1 τ (.i .i64 (Int.ofNat 2)) (.o 2 (t1V 12 49 57 0 48) 3 0 0) 13 = true := by kernel_rfl
end
end Go.Proofs.YtoonipefmbhipaaGreatDoor
