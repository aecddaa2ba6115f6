/-
  Runs of buildPrefixes, by the kernel (4 of 4). No condition.
-/
import Derived.Test.YtepcbpcbmkikeaaGreatDoorRunbuildPrefixes0
open Go Go.Mx
namespace Go.Proofs.YtepcbpcbmkikeaaGreatDoor
set_option maxRecDepth 1000000
noncomputable section
theorem bp_ttfffff : bpRun true true false false false false false false false false := fun _ => by kernel_rfl
theorem bp_ttfffft : bpRun true true false false false false false false false true := fun _ => by kernel_rfl
theorem bp_ttffftf : bpRun true true false false false false true false false false := fun _ => by kernel_rfl
theorem bp_ttffftt : bpRun true true false false false false true false false true := fun _ => by kernel_rfl
theorem bp_ttfftff : bpRun true true false false false true false false false false := fun _ => by kernel_rfl
theorem bp_ttfftft : bpRun true true false false false true false false false true := fun _ => by kernel_rfl
theorem bp_ttffttf : bpRun true true false false false true true false false false := fun _ => by kernel_rfl
theorem bp_ttffttt : bpRun true true false false false true true false false true := fun _ => by kernel_rfl
theorem bp_ttftfff : bpRun true true false true false false false false false false := fun _ => by kernel_rfl
theorem bp_ttftfft : bpRun true true false true false false false false false true := fun _ => by kernel_rfl
theorem bp_ttftftf : bpRun true true false true false false true false false false := fun _ => by kernel_rfl
theorem bp_ttftftt : bpRun true true false true false false true false false true := fun _ => by kernel_rfl
theorem bp_ttfttff : bpRun true true false true false true false false false false := fun _ => by kernel_rfl
theorem bp_ttfttft : bpRun true true false true false true false false false true := fun _ => by kernel_rfl
theorem bp_ttftttf : bpRun true true false true false true true false false false := fun _ => by kernel_rfl
theorem bp_ttftttt : bpRun true true false true false true true false false true := fun _ => by kernel_rfl
theorem bp_tttffff : bpRun true true true false false false false false false false := fun _ => by kernel_rfl
theorem bp_tttffft : bpRun true true true false false false false false false true := fun _ => by kernel_rfl
theorem bp_tttfftf : bpRun true true true false false false true false false false := fun _ => by kernel_rfl
theorem bp_tttfftt : bpRun true true true false false false true false false true := fun _ => by kernel_rfl
theorem bp_tttftff : bpRun true true true false false true false false false false := fun _ => by kernel_rfl
theorem bp_tttftft : bpRun true true true false false true false false false true := fun _ => by kernel_rfl
theorem bp_tttfttf : bpRun true true true false false true true false false false := fun _ => by kernel_rfl
theorem bp_tttfttt : bpRun true true true false false true true false false true := fun _ => by kernel_rfl
theorem bp_ttttfff : bpRun true true true true false false false false false false := fun _ => by kernel_rfl
theorem bp_ttttfft : bpRun true true true true false false false false false true := fun _ => by kernel_rfl
theorem bp_ttttftf : bpRun true true true true false false true false false false := fun _ => by kernel_rfl
theorem bp_ttttftt : bpRun true true true true false false true false false true := fun _ => by kernel_rfl
theorem bp_tttttff : bpRun true true true true false true false false false false := fun _ => by kernel_rfl
theorem bp_tttttft : bpRun true true true true false true false false false true := fun _ => by kernel_rfl
theorem bp_ttttttf : bpRun true true true true false true true false false false := fun _ => by kernel_rfl
theorem bp_ttttttt : bpRun true true true true false true true false false true := fun _ => by kernel_rfl
end
end Go.Proofs.YtepcbpcbmkikeaaGreatDoor
