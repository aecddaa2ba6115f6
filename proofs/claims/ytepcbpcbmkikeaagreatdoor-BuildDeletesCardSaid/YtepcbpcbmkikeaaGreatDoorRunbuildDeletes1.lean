/-
  Runs of buildDeletes, by the kernel (2 of 2). No condition.
-/
import Derived.Test.YtepcbpcbmkikeaaGreatDoorRunbuildDeletes0
open Go Go.Mx
namespace Go.Proofs.YtepcbpcbmkikeaaGreatDoor
set_option maxRecDepth 1000000
noncomputable section
theorem bd_tffff : bdRun true false false false false := fun _ => by kernel_rfl
theorem bd_tffft : bdRun true false false false true := fun _ => by kernel_rfl
theorem bd_tfftf : bdRun true false false true false := fun _ => by kernel_rfl
theorem bd_tfftt : bdRun true false false true true := fun _ => by kernel_rfl
theorem bd_tftff : bdRun true false true false false := fun _ => by kernel_rfl
theorem bd_tftft : bdRun true false true false true := fun _ => by kernel_rfl
theorem bd_tfttf : bdRun true false true true false := fun _ => by kernel_rfl
theorem bd_tfttt : bdRun true false true true true := fun _ => by kernel_rfl
theorem bd_ttfff : bdRun true true false false false := fun _ => by kernel_rfl
theorem bd_ttfft : bdRun true true false false true := fun _ => by kernel_rfl
theorem bd_ttftf : bdRun true true false true false := fun _ => by kernel_rfl
theorem bd_ttftt : bdRun true true false true true := fun _ => by kernel_rfl
theorem bd_tttff : bdRun true true true false false := fun _ => by kernel_rfl
theorem bd_tttft : bdRun true true true false true := fun _ => by kernel_rfl
theorem bd_ttttf : bdRun true true true true false := fun _ => by kernel_rfl
theorem bd_ttttt : bdRun true true true true true := fun _ => by kernel_rfl
end
end Go.Proofs.YtepcbpcbmkikeaaGreatDoor
