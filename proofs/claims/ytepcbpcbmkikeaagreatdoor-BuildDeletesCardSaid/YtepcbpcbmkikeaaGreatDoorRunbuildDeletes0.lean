/-
  Runs of buildDeletes, by the kernel (1 of 2). No condition.
-/
import Derived.Test.YtepcbpcbmkikeaaGreatDoorHk
open Go Go.Mx
namespace Go.Proofs.YtepcbpcbmkikeaaGreatDoor
set_option maxRecDepth 1000000
noncomputable section
abbrev bdRun (x0 x1 x2 x3 x4 : Bool) : Prop := ∀ τ, mkTK τ tbl .leaf (fun h0 => run Tryz.prog 12 (hkL hkB) 100000 4 (.cons (.b x0) (.cons (.b x1) (.cons (.b x2) (.cons (.b x3) (.cons (.b x4) .nil))))) h0 12 (fun v _ _ => isB true v) (fun _ _ _ => false)) = true
theorem bd_fffff : bdRun false false false false false := fun _ => by kernel_rfl
theorem bd_fffft : bdRun false false false false true := fun _ => by kernel_rfl
theorem bd_ffftf : bdRun false false false true false := fun _ => by kernel_rfl
theorem bd_ffftt : bdRun false false false true true := fun _ => by kernel_rfl
theorem bd_fftff : bdRun false false true false false := fun _ => by kernel_rfl
theorem bd_fftft : bdRun false false true false true := fun _ => by kernel_rfl
theorem bd_ffttf : bdRun false false true true false := fun _ => by kernel_rfl
theorem bd_ffttt : bdRun false false true true true := fun _ => by kernel_rfl
theorem bd_ftfff : bdRun false true false false false := fun _ => by kernel_rfl
theorem bd_ftfft : bdRun false true false false true := fun _ => by kernel_rfl
theorem bd_ftftf : bdRun false true false true false := fun _ => by kernel_rfl
theorem bd_ftftt : bdRun false true false true true := fun _ => by kernel_rfl
theorem bd_fttff : bdRun false true true false false := fun _ => by kernel_rfl
theorem bd_fttft : bdRun false true true false true := fun _ => by kernel_rfl
theorem bd_ftttf : bdRun false true true true false := fun _ => by kernel_rfl
theorem bd_ftttt : bdRun false true true true true := fun _ => by kernel_rfl
end
end Go.Proofs.YtepcbpcbmkikeaaGreatDoor
