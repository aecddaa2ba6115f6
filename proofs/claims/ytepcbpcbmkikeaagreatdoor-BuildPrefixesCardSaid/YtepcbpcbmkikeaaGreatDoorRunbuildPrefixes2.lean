/-
  Runs of buildPrefixes, by the kernel (3 of 4). No condition.
-/
import Derived.Test.YtepcbpcbmkikeaaGreatDoorRunbuildPrefixes0
open Go Go.Mx
namespace Go.Proofs.YtepcbpcbmkikeaaGreatDoor
set_option maxRecDepth 1000000
noncomputable section
theorem bp_tffffff : bpRun true false false false false false false false false false := fun _ => by kernel_rfl
theorem bp_tffffft : bpRun true false false false false false false false false true := fun _ => by kernel_rfl
theorem bp_tfffftf : bpRun true false false false false false true false false false := fun _ => by kernel_rfl
theorem bp_tfffftt : bpRun true false false false false false true false false true := fun _ => by kernel_rfl
theorem bp_tffftff : bpRun true false false false false true false false false false := fun _ => by kernel_rfl
theorem bp_tffftft : bpRun true false false false false true false false false true := fun _ => by kernel_rfl
theorem bp_tfffttf : bpRun true false false false false true true false false false := fun _ => by kernel_rfl
theorem bp_tfffttt : bpRun true false false false false true true false false true := fun _ => by kernel_rfl
theorem bp_tfftfff : bpRun true false false true false false false false false false := fun _ => by kernel_rfl
theorem bp_tfftfft : bpRun true false false true false false false false false true := fun _ => by kernel_rfl
theorem bp_tfftftf : bpRun true false false true false false true false false false := fun _ => by kernel_rfl
theorem bp_tfftftt : bpRun true false false true false false true false false true := fun _ => by kernel_rfl
theorem bp_tffttff : bpRun true false false true false true false false false false := fun _ => by kernel_rfl
theorem bp_tffttft : bpRun true false false true false true false false false true := fun _ => by kernel_rfl
theorem bp_tfftttf : bpRun true false false true false true true false false false := fun _ => by kernel_rfl
theorem bp_tfftttt : bpRun true false false true false true true false false true := fun _ => by kernel_rfl
theorem bp_tftffff : bpRun true false true false false false false false false false := fun _ => by kernel_rfl
theorem bp_tftffft : bpRun true false true false false false false false false true := fun _ => by kernel_rfl
theorem bp_tftfftf : bpRun true false true false false false true false false false := fun _ => by kernel_rfl
theorem bp_tftfftt : bpRun true false true false false false true false false true := fun _ => by kernel_rfl
theorem bp_tftftff : bpRun true false true false false true false false false false := fun _ => by kernel_rfl
theorem bp_tftftft : bpRun true false true false false true false false false true := fun _ => by kernel_rfl
theorem bp_tftfttf : bpRun true false true false false true true false false false := fun _ => by kernel_rfl
theorem bp_tftfttt : bpRun true false true false false true true false false true := fun _ => by kernel_rfl
theorem bp_tfttfff : bpRun true false true true false false false false false false := fun _ => by kernel_rfl
theorem bp_tfttfft : bpRun true false true true false false false false false true := fun _ => by kernel_rfl
theorem bp_tfttftf : bpRun true false true true false false true false false false := fun _ => by kernel_rfl
theorem bp_tfttftt : bpRun true false true true false false true false false true := fun _ => by kernel_rfl
theorem bp_tftttff : bpRun true false true true false true false false false false := fun _ => by kernel_rfl
theorem bp_tftttft : bpRun true false true true false true false false false true := fun _ => by kernel_rfl
theorem bp_tfttttf : bpRun true false true true false true true false false false := fun _ => by kernel_rfl
theorem bp_tfttttt : bpRun true false true true false true true false false true := fun _ => by kernel_rfl
end
end Go.Proofs.YtepcbpcbmkikeaaGreatDoor
