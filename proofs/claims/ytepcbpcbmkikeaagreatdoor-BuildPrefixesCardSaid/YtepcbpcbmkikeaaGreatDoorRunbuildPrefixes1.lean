/-
  Runs of buildPrefixes, by the kernel (2 of 4). No condition.
-/
import Derived.Test.YtepcbpcbmkikeaaGreatDoorRunbuildPrefixes0
open Go Go.Mx
namespace Go.Proofs.YtepcbpcbmkikeaaGreatDoor
set_option maxRecDepth 1000000
noncomputable section
theorem bp_ftfffff : bpRun false true false false false false false false false false := fun _ => by kernel_rfl
theorem bp_ftfffft : bpRun false true false false false false false false false true := fun _ => by kernel_rfl
theorem bp_ftffftf : bpRun false true false false false false true false false false := fun _ => by kernel_rfl
theorem bp_ftffftt : bpRun false true false false false false true false false true := fun _ => by kernel_rfl
theorem bp_ftfftff : bpRun false true false false false true false false false false := fun _ => by kernel_rfl
theorem bp_ftfftft : bpRun false true false false false true false false false true := fun _ => by kernel_rfl
theorem bp_ftffttf : bpRun false true false false false true true false false false := fun _ => by kernel_rfl
theorem bp_ftffttt : bpRun false true false false false true true false false true := fun _ => by kernel_rfl
theorem bp_ftftfff : bpRun false true false true false false false false false false := fun _ => by kernel_rfl
theorem bp_ftftfft : bpRun false true false true false false false false false true := fun _ => by kernel_rfl
theorem bp_ftftftf : bpRun false true false true false false true false false false := fun _ => by kernel_rfl
theorem bp_ftftftt : bpRun false true false true false false true false false true := fun _ => by kernel_rfl
theorem bp_ftfttff : bpRun false true false true false true false false false false := fun _ => by kernel_rfl
theorem bp_ftfttft : bpRun false true false true false true false false false true := fun _ => by kernel_rfl
theorem bp_ftftttf : bpRun false true false true false true true false false false := fun _ => by kernel_rfl
theorem bp_ftftttt : bpRun false true false true false true true false false true := fun _ => by kernel_rfl
theorem bp_fttffff : bpRun false true true false false false false false false false := fun _ => by kernel_rfl
theorem bp_fttffft : bpRun false true true false false false false false false true := fun _ => by kernel_rfl
theorem bp_fttfftf : bpRun false true true false false false true false false false := fun _ => by kernel_rfl
theorem bp_fttfftt : bpRun false true true false false false true false false true := fun _ => by kernel_rfl
theorem bp_fttftff : bpRun false true true false false true false false false false := fun _ => by kernel_rfl
theorem bp_fttftft : bpRun false true true false false true false false false true := fun _ => by kernel_rfl
theorem bp_fttfttf : bpRun false true true false false true true false false false := fun _ => by kernel_rfl
theorem bp_fttfttt : bpRun false true true false false true true false false true := fun _ => by kernel_rfl
theorem bp_ftttfff : bpRun false true true true false false false false false false := fun _ => by kernel_rfl
theorem bp_ftttfft : bpRun false true true true false false false false false true := fun _ => by kernel_rfl
theorem bp_ftttftf : bpRun false true true true false false true false false false := fun _ => by kernel_rfl
theorem bp_ftttftt : bpRun false true true true false false true false false true := fun _ => by kernel_rfl
theorem bp_fttttff : bpRun false true true true false true false false false false := fun _ => by kernel_rfl
theorem bp_fttttft : bpRun false true true true false true false false false true := fun _ => by kernel_rfl
theorem bp_ftttttf : bpRun false true true true false true true false false false := fun _ => by kernel_rfl
theorem bp_ftttttt : bpRun false true true true false true true false false true := fun _ => by kernel_rfl
end
end Go.Proofs.YtepcbpcbmkikeaaGreatDoor
