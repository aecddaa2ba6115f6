/-
  Runs of checkNumbers, by the kernel (1 of 1). No condition.
-/
import Derived.Test.YteoeiinpiihpoaaGreatDoorHkC
open Go Go.Mx
namespace Go.Proofs.YteoeiinpiihpoaaGreatDoor
set_option maxRecDepth 1000000
noncomputable section
def cnRun (τ : Nat → Nat) (a b c : V) (nx : Nat) : Bool := mkTK τ tbl .leaf (fun h0 => run Tryz.prog 8 (hkL hkC) 100000 3 (.cons a (.cons b (.cons c .nil))) h0 nx (fun v _ _ => isB true v) (fun _ _ _ => false))
theorem cn_on (m : Nat) (τ : Nat → Nat) : cnRun τ .nil .nil (.i .i64 (Int.negSucc m)) 8 = true := by kernel_rfl
theorem cn_ob (m : Nat) (τ : Nat → Nat) : cnRun τ .nil .nil (.i .i64 (Int.ofNat (m + 6))) 8 = true := by kernel_rfl
theorem cn_ll0 (τ : Nat → Nat) : cnRun τ (rngV 8 2000000000000000000 18446744073709551614) (rngV 9 2000000000000000000 18446744073709551614) (.i .i64 (Int.ofNat 0)) 10 = true := by kernel_rfl
theorem cn_ll1 (τ : Nat → Nat) : cnRun τ (rngV 8 2000000000000000000 18446744073709551614) (rngV 9 2000000000000000000 18446744073709551614) (.i .i64 (Int.ofNat 1)) 10 = true := by kernel_rfl
theorem cn_ll2 (τ : Nat → Nat) : cnRun τ (rngV 8 2000000000000000000 18446744073709551614) (rngV 9 2000000000000000000 18446744073709551614) (.i .i64 (Int.ofNat 2)) 10 = true := by kernel_rfl
theorem cn_ll3 (τ : Nat → Nat) : cnRun τ (rngV 8 2000000000000000000 18446744073709551614) (rngV 9 2000000000000000000 18446744073709551614) (.i .i64 (Int.ofNat 3)) 10 = true := by kernel_rfl
theorem cn_ll4 (τ : Nat → Nat) : cnRun τ (rngV 8 2000000000000000000 18446744073709551614) (rngV 9 2000000000000000000 18446744073709551614) (.i .i64 (Int.ofNat 4)) 10 = true := by kernel_rfl
theorem cn_ll5 (τ : Nat → Nat) : cnRun τ (rngV 8 2000000000000000000 18446744073709551614) (rngV 9 2000000000000000000 18446744073709551614) (.i .i64 (Int.ofNat 5)) 10 = true := by kernel_rfl
theorem cn_ln0 (τ : Nat → Nat) : cnRun τ (rngV 8 2000000000000000000 18446744073709551614) (rngV 9 18446744073709551615 1999999999999999999) (.i .i64 (Int.ofNat 0)) 10 = true := by kernel_rfl
theorem cn_ln1 (τ : Nat → Nat) : cnRun τ (rngV 8 2000000000000000000 18446744073709551614) (rngV 9 18446744073709551615 1999999999999999999) (.i .i64 (Int.ofNat 1)) 10 = true := by kernel_rfl
theorem cn_ln2 (τ : Nat → Nat) : cnRun τ (rngV 8 2000000000000000000 18446744073709551614) (rngV 9 18446744073709551615 1999999999999999999) (.i .i64 (Int.ofNat 2)) 10 = true := by kernel_rfl
theorem cn_ln3 (τ : Nat → Nat) : cnRun τ (rngV 8 2000000000000000000 18446744073709551614) (rngV 9 18446744073709551615 1999999999999999999) (.i .i64 (Int.ofNat 3)) 10 = true := by kernel_rfl
theorem cn_ln4 (τ : Nat → Nat) : cnRun τ (rngV 8 2000000000000000000 18446744073709551614) (rngV 9 18446744073709551615 1999999999999999999) (.i .i64 (Int.ofNat 4)) 10 = true := by kernel_rfl
theorem cn_ln5 (τ : Nat → Nat) : cnRun τ (rngV 8 2000000000000000000 18446744073709551614) (rngV 9 18446744073709551615 1999999999999999999) (.i .i64 (Int.ofNat 5)) 10 = true := by kernel_rfl
theorem cn_lm0 (τ : Nat → Nat) : cnRun τ (rngV 8 2000000000000000000 18446744073709551614) (rngV 9 1999999999999999997 1999999999999999998) (.i .i64 (Int.ofNat 0)) 10 = true := by kernel_rfl
theorem cn_lm1 (τ : Nat → Nat) : cnRun τ (rngV 8 2000000000000000000 18446744073709551614) (rngV 9 1999999999999999997 1999999999999999998) (.i .i64 (Int.ofNat 1)) 10 = true := by kernel_rfl
theorem cn_lm2 (τ : Nat → Nat) : cnRun τ (rngV 8 2000000000000000000 18446744073709551614) (rngV 9 1999999999999999997 1999999999999999998) (.i .i64 (Int.ofNat 2)) 10 = true := by kernel_rfl
theorem cn_lm3 (τ : Nat → Nat) : cnRun τ (rngV 8 2000000000000000000 18446744073709551614) (rngV 9 1999999999999999997 1999999999999999998) (.i .i64 (Int.ofNat 3)) 10 = true := by kernel_rfl
theorem cn_lm4 (τ : Nat → Nat) : cnRun τ (rngV 8 2000000000000000000 18446744073709551614) (rngV 9 1999999999999999997 1999999999999999998) (.i .i64 (Int.ofNat 4)) 10 = true := by kernel_rfl
theorem cn_lm5 (τ : Nat → Nat) : cnRun τ (rngV 8 2000000000000000000 18446744073709551614) (rngV 9 1999999999999999997 1999999999999999998) (.i .i64 (Int.ofNat 5)) 10 = true := by kernel_rfl
theorem cn_nl0 (τ : Nat → Nat) : cnRun τ (rngV 8 18446744073709551615 1999999999999999999) (rngV 9 2000000000000000000 18446744073709551614) (.i .i64 (Int.ofNat 0)) 10 = true := by kernel_rfl
theorem cn_nl1 (τ : Nat → Nat) : cnRun τ (rngV 8 18446744073709551615 1999999999999999999) (rngV 9 2000000000000000000 18446744073709551614) (.i .i64 (Int.ofNat 1)) 10 = true := by kernel_rfl
theorem cn_nl2 (τ : Nat → Nat) : cnRun τ (rngV 8 18446744073709551615 1999999999999999999) (rngV 9 2000000000000000000 18446744073709551614) (.i .i64 (Int.ofNat 2)) 10 = true := by kernel_rfl
theorem cn_nl3 (τ : Nat → Nat) : cnRun τ (rngV 8 18446744073709551615 1999999999999999999) (rngV 9 2000000000000000000 18446744073709551614) (.i .i64 (Int.ofNat 3)) 10 = true := by kernel_rfl
theorem cn_nl4 (τ : Nat → Nat) : cnRun τ (rngV 8 18446744073709551615 1999999999999999999) (rngV 9 2000000000000000000 18446744073709551614) (.i .i64 (Int.ofNat 4)) 10 = true := by kernel_rfl
theorem cn_nl5 (τ : Nat → Nat) : cnRun τ (rngV 8 18446744073709551615 1999999999999999999) (rngV 9 2000000000000000000 18446744073709551614) (.i .i64 (Int.ofNat 5)) 10 = true := by kernel_rfl
theorem cn_nn0 (τ : Nat → Nat) : cnRun τ (rngV 8 18446744073709551615 1999999999999999999) (rngV 9 18446744073709551615 1999999999999999999) (.i .i64 (Int.ofNat 0)) 10 = true := by kernel_rfl
theorem cn_nn1 (τ : Nat → Nat) : cnRun τ (rngV 8 18446744073709551615 1999999999999999999) (rngV 9 18446744073709551615 1999999999999999999) (.i .i64 (Int.ofNat 1)) 10 = true := by kernel_rfl
theorem cn_nn2 (τ : Nat → Nat) : cnRun τ (rngV 8 18446744073709551615 1999999999999999999) (rngV 9 18446744073709551615 1999999999999999999) (.i .i64 (Int.ofNat 2)) 10 = true := by kernel_rfl
theorem cn_nn3 (τ : Nat → Nat) : cnRun τ (rngV 8 18446744073709551615 1999999999999999999) (rngV 9 18446744073709551615 1999999999999999999) (.i .i64 (Int.ofNat 3)) 10 = true := by kernel_rfl
theorem cn_nn4 (τ : Nat → Nat) : cnRun τ (rngV 8 18446744073709551615 1999999999999999999) (rngV 9 18446744073709551615 1999999999999999999) (.i .i64 (Int.ofNat 4)) 10 = true := by kernel_rfl
theorem cn_nn5 (τ : Nat → Nat) : cnRun τ (rngV 8 18446744073709551615 1999999999999999999) (rngV 9 18446744073709551615 1999999999999999999) (.i .i64 (Int.ofNat 5)) 10 = true := by kernel_rfl
theorem cn_nm0 (τ : Nat → Nat) : cnRun τ (rngV 8 18446744073709551615 1999999999999999999) (rngV 9 1999999999999999997 1999999999999999998) (.i .i64 (Int.ofNat 0)) 10 = true := by kernel_rfl
theorem cn_nm1 (τ : Nat → Nat) : cnRun τ (rngV 8 18446744073709551615 1999999999999999999) (rngV 9 1999999999999999997 1999999999999999998) (.i .i64 (Int.ofNat 1)) 10 = true := by kernel_rfl
theorem cn_nm2 (τ : Nat → Nat) : cnRun τ (rngV 8 18446744073709551615 1999999999999999999) (rngV 9 1999999999999999997 1999999999999999998) (.i .i64 (Int.ofNat 2)) 10 = true := by kernel_rfl
theorem cn_nm3 (τ : Nat → Nat) : cnRun τ (rngV 8 18446744073709551615 1999999999999999999) (rngV 9 1999999999999999997 1999999999999999998) (.i .i64 (Int.ofNat 3)) 10 = true := by kernel_rfl
theorem cn_nm4 (τ : Nat → Nat) : cnRun τ (rngV 8 18446744073709551615 1999999999999999999) (rngV 9 1999999999999999997 1999999999999999998) (.i .i64 (Int.ofNat 4)) 10 = true := by kernel_rfl
theorem cn_nm5 (τ : Nat → Nat) : cnRun τ (rngV 8 18446744073709551615 1999999999999999999) (rngV 9 1999999999999999997 1999999999999999998) (.i .i64 (Int.ofNat 5)) 10 = true := by kernel_rfl
theorem cn_ml0 (τ : Nat → Nat) : cnRun τ (rngV 8 1999999999999999997 1999999999999999998) (rngV 9 2000000000000000000 18446744073709551614) (.i .i64 (Int.ofNat 0)) 10 = true := by kernel_rfl
theorem cn_ml1 (τ : Nat → Nat) : cnRun τ (rngV 8 1999999999999999997 1999999999999999998) (rngV 9 2000000000000000000 18446744073709551614) (.i .i64 (Int.ofNat 1)) 10 = true := by kernel_rfl
theorem cn_ml2 (τ : Nat → Nat) : cnRun τ (rngV 8 1999999999999999997 1999999999999999998) (rngV 9 2000000000000000000 18446744073709551614) (.i .i64 (Int.ofNat 2)) 10 = true := by kernel_rfl
theorem cn_ml3 (τ : Nat → Nat) : cnRun τ (rngV 8 1999999999999999997 1999999999999999998) (rngV 9 2000000000000000000 18446744073709551614) (.i .i64 (Int.ofNat 3)) 10 = true := by kernel_rfl
theorem cn_ml4 (τ : Nat → Nat) : cnRun τ (rngV 8 1999999999999999997 1999999999999999998) (rngV 9 2000000000000000000 18446744073709551614) (.i .i64 (Int.ofNat 4)) 10 = true := by kernel_rfl
theorem cn_ml5 (τ : Nat → Nat) : cnRun τ (rngV 8 1999999999999999997 1999999999999999998) (rngV 9 2000000000000000000 18446744073709551614) (.i .i64 (Int.ofNat 5)) 10 = true := by kernel_rfl
theorem cn_mn0 (τ : Nat → Nat) : cnRun τ (rngV 8 1999999999999999997 1999999999999999998) (rngV 9 18446744073709551615 1999999999999999999) (.i .i64 (Int.ofNat 0)) 10 = true := by kernel_rfl
theorem cn_mn1 (τ : Nat → Nat) : cnRun τ (rngV 8 1999999999999999997 1999999999999999998) (rngV 9 18446744073709551615 1999999999999999999) (.i .i64 (Int.ofNat 1)) 10 = true := by kernel_rfl
theorem cn_mn2 (τ : Nat → Nat) : cnRun τ (rngV 8 1999999999999999997 1999999999999999998) (rngV 9 18446744073709551615 1999999999999999999) (.i .i64 (Int.ofNat 2)) 10 = true := by kernel_rfl
theorem cn_mn3 (τ : Nat → Nat) : cnRun τ (rngV 8 1999999999999999997 1999999999999999998) (rngV 9 18446744073709551615 1999999999999999999) (.i .i64 (Int.ofNat 3)) 10 = true := by kernel_rfl
theorem cn_mn4 (τ : Nat → Nat) : cnRun τ (rngV 8 1999999999999999997 1999999999999999998) (rngV 9 18446744073709551615 1999999999999999999) (.i .i64 (Int.ofNat 4)) 10 = true := by kernel_rfl
theorem cn_mn5 (τ : Nat → Nat) : cnRun τ (rngV 8 1999999999999999997 1999999999999999998) (rngV 9 18446744073709551615 1999999999999999999) (.i .i64 (Int.ofNat 5)) 10 = true := by kernel_rfl
theorem cn_mm0 (τ : Nat → Nat) : cnRun τ (rngV 8 1999999999999999997 1999999999999999998) (rngV 9 1999999999999999997 1999999999999999998) (.i .i64 (Int.ofNat 0)) 10 = true := by kernel_rfl
theorem cn_mm1 (τ : Nat → Nat) : cnRun τ (rngV 8 1999999999999999997 1999999999999999998) (rngV 9 1999999999999999997 1999999999999999998) (.i .i64 (Int.ofNat 1)) 10 = true := by kernel_rfl
theorem cn_mm2 (τ : Nat → Nat) : cnRun τ (rngV 8 1999999999999999997 1999999999999999998) (rngV 9 1999999999999999997 1999999999999999998) (.i .i64 (Int.ofNat 2)) 10 = true := by kernel_rfl
theorem cn_mm3 (τ : Nat → Nat) : cnRun τ (rngV 8 1999999999999999997 1999999999999999998) (rngV 9 1999999999999999997 1999999999999999998) (.i .i64 (Int.ofNat 3)) 10 = true := by kernel_rfl
theorem cn_mm4 (τ : Nat → Nat) : cnRun τ (rngV 8 1999999999999999997 1999999999999999998) (rngV 9 1999999999999999997 1999999999999999998) (.i .i64 (Int.ofNat 4)) 10 = true := by kernel_rfl
theorem cn_mm5 (τ : Nat → Nat) : cnRun τ (rngV 8 1999999999999999997 1999999999999999998) (rngV 9 1999999999999999997 1999999999999999998) (.i .i64 (Int.ofNat 5)) 10 = true := by kernel_rfl
end
end Go.Proofs.YteoeiinpiihpoaaGreatDoor
