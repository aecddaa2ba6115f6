/-
  Runs of makeNames, by the kernel (1 of 1). No condition.
-/
import Derived.Test.YtepcbpcbmkikeaaGreatDoorHk
open Go Go.Mx
namespace Go.Proofs.YtepcbpcbmkikeaaGreatDoor
set_option maxRecDepth 1000000
noncomputable section
abbrev mnRun (x0 x1 x2 x3 : Bool) : Prop := ∀ τ, mkTK τ tbl .leaf (fun h0 => run Tryz.prog 12 (hkL hkB) 100000 7 (.cons (.b x0) (.cons (.b x1) (.cons (.b x2) (.cons (.b x3) .nil)))) h0 12 (fun v _ _ => isB true v) (fun _ _ _ => false)) = true
theorem mn_ffff : mnRun false false false false := fun _ => by kernel_rfl
theorem mn_ffft : mnRun false false false true := fun _ => by kernel_rfl
theorem mn_fftf : mnRun false false true false := fun _ => by kernel_rfl
theorem mn_fftt : mnRun false false true true := fun _ => by kernel_rfl
theorem mn_ftff : mnRun false true false false := fun _ => by kernel_rfl
theorem mn_ftft : mnRun false true false true := fun _ => by kernel_rfl
theorem mn_fttf : mnRun false true true false := fun _ => by kernel_rfl
theorem mn_fttt : mnRun false true true true := fun _ => by kernel_rfl
theorem mn_tfff : mnRun true false false false := fun _ => by kernel_rfl
theorem mn_tfft : mnRun true false false true := fun _ => by kernel_rfl
theorem mn_tftf : mnRun true false true false := fun _ => by kernel_rfl
theorem mn_tftt : mnRun true false true true := fun _ => by kernel_rfl
theorem mn_ttff : mnRun true true false false := fun _ => by kernel_rfl
theorem mn_ttft : mnRun true true false true := fun _ => by kernel_rfl
theorem mn_tttf : mnRun true true true false := fun _ => by kernel_rfl
theorem mn_tttt : mnRun true true true true := fun _ => by kernel_rfl
end
end Go.Proofs.YtepcbpcbmkikeaaGreatDoor
