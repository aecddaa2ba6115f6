/-
  Runs of buildRings, by the kernel (1 of 1). No condition.
-/
import Derived.Test.YtepcbpcbmkikeaaGreatDoorHk
open Go Go.Mx
namespace Go.Proofs.YtepcbpcbmkikeaaGreatDoor
set_option maxRecDepth 1000000
noncomputable section
abbrev brRun (n : Int) (k : Bool) : Prop := ∀ τ, mkTK τ tbl .leaf (fun h0 => run Tryz.prog 12 (hkL hkB) 100000 6 (.cons (.i .i64 n) (.cons (.b k) .nil)) h0 12 (fun v _ _ => isB true v) (fun _ _ _ => false)) = true
theorem br_neg (m : Nat) (k : Bool) : brRun (.negSucc m) k := fun _ => by kernel_rfl
theorem br_big (m : Nat) (k : Bool) : brRun (.ofNat (m + 11)) k := fun _ => by kernel_rfl
theorem br_0 (k : Bool) : brRun (.ofNat 0) k := fun _ => by kernel_rfl
theorem br_1f : brRun (.ofNat 1) false := fun _ => by kernel_rfl
theorem br_1t : brRun (.ofNat 1) true := fun _ => by kernel_rfl
theorem br_2f : brRun (.ofNat 2) false := fun _ => by kernel_rfl
theorem br_2t : brRun (.ofNat 2) true := fun _ => by kernel_rfl
theorem br_3f : brRun (.ofNat 3) false := fun _ => by kernel_rfl
theorem br_3t : brRun (.ofNat 3) true := fun _ => by kernel_rfl
theorem br_4f : brRun (.ofNat 4) false := fun _ => by kernel_rfl
theorem br_4t : brRun (.ofNat 4) true := fun _ => by kernel_rfl
theorem br_5f : brRun (.ofNat 5) false := fun _ => by kernel_rfl
theorem br_5t : brRun (.ofNat 5) true := fun _ => by kernel_rfl
theorem br_6f : brRun (.ofNat 6) false := fun _ => by kernel_rfl
theorem br_6t : brRun (.ofNat 6) true := fun _ => by kernel_rfl
theorem br_7f : brRun (.ofNat 7) false := fun _ => by kernel_rfl
theorem br_7t : brRun (.ofNat 7) true := fun _ => by kernel_rfl
theorem br_8f : brRun (.ofNat 8) false := fun _ => by kernel_rfl
theorem br_8t : brRun (.ofNat 8) true := fun _ => by kernel_rfl
theorem br_9f : brRun (.ofNat 9) false := fun _ => by kernel_rfl
theorem br_9t : brRun (.ofNat 9) true := fun _ => by kernel_rfl
theorem br_10f : brRun (.ofNat 10) false := fun _ => by kernel_rfl
theorem br_10t : brRun (.ofNat 10) true := fun _ => by kernel_rfl
end
end Go.Proofs.YtepcbpcbmkikeaaGreatDoor
