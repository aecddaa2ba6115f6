/-
  Runs of buildPrefixes, by the kernel (1 of 4). No condition.
-/
import Derived.Test.YtepcbpcbmkikeaaGreatDoorHk
open Go Go.Mx
namespace Go.Proofs.YtepcbpcbmkikeaaGreatDoor
set_option maxRecDepth 1000000
noncomputable section
abbrev bpRun (a m p d k s g t q w : Bool) : Prop := ∀ τ, mkTK τ tbl .leaf (fun h0 => run Tryz.prog 12 (hkL hkB) 100000 3 (.cons (.b a) (.cons (.b m) (.cons (.b p) (.cons (.a (boolsV [d, k, s, g, t, q])) (.cons (.b w) .nil))))) h0 12 (fun v _ _ => isB true v) (fun _ _ _ => false)) = true
theorem bp_q (a m p d k s g t w : Bool) : bpRun a m p d k s g t true w := fun _ => by kernel_rfl
theorem bp_t (a m p d k s g w : Bool) : bpRun a m p d k s g true false w := fun _ => by kernel_rfl
theorem bp_k (a m p d s g w : Bool) : bpRun a m p d true s g false false w := fun _ => by kernel_rfl
theorem bp_fffffff : bpRun false false false false false false false false false false := fun _ => by kernel_rfl
theorem bp_fffffft : bpRun false false false false false false false false false true := fun _ => by kernel_rfl
theorem bp_ffffftf : bpRun false false false false false false true false false false := fun _ => by kernel_rfl
theorem bp_ffffftt : bpRun false false false false false false true false false true := fun _ => by kernel_rfl
theorem bp_fffftff : bpRun false false false false false true false false false false := fun _ => by kernel_rfl
theorem bp_fffftft : bpRun false false false false false true false false false true := fun _ => by kernel_rfl
theorem bp_ffffttf : bpRun false false false false false true true false false false := fun _ => by kernel_rfl
theorem bp_ffffttt : bpRun false false false false false true true false false true := fun _ => by kernel_rfl
theorem bp_ffftfff : bpRun false false false true false false false false false false := fun _ => by kernel_rfl
theorem bp_ffftfft : bpRun false false false true false false false false false true := fun _ => by kernel_rfl
theorem bp_ffftftf : bpRun false false false true false false true false false false := fun _ => by kernel_rfl
theorem bp_ffftftt : bpRun false false false true false false true false false true := fun _ => by kernel_rfl
theorem bp_fffttff : bpRun false false false true false true false false false false := fun _ => by kernel_rfl
theorem bp_fffttft : bpRun false false false true false true false false false true := fun _ => by kernel_rfl
theorem bp_ffftttf : bpRun false false false true false true true false false false := fun _ => by kernel_rfl
theorem bp_ffftttt : bpRun false false false true false true true false false true := fun _ => by kernel_rfl
theorem bp_fftffff : bpRun false false true false false false false false false false := fun _ => by kernel_rfl
theorem bp_fftffft : bpRun false false true false false false false false false true := fun _ => by kernel_rfl
theorem bp_fftfftf : bpRun false false true false false false true false false false := fun _ => by kernel_rfl
theorem bp_fftfftt : bpRun false false true false false false true false false true := fun _ => by kernel_rfl
theorem bp_fftftff : bpRun false false true false false true false false false false := fun _ => by kernel_rfl
theorem bp_fftftft : bpRun false false true false false true false false false true := fun _ => by kernel_rfl
theorem bp_fftfttf : bpRun false false true false false true true false false false := fun _ => by kernel_rfl
theorem bp_fftfttt : bpRun false false true false false true true false false true := fun _ => by kernel_rfl
theorem bp_ffttfff : bpRun false false true true false false false false false false := fun _ => by kernel_rfl
theorem bp_ffttfft : bpRun false false true true false false false false false true := fun _ => by kernel_rfl
theorem bp_ffttftf : bpRun false false true true false false true false false false := fun _ => by kernel_rfl
theorem bp_ffttftt : bpRun false false true true false false true false false true := fun _ => by kernel_rfl
theorem bp_fftttff : bpRun false false true true false true false false false false := fun _ => by kernel_rfl
theorem bp_fftttft : bpRun false false true true false true false false false true := fun _ => by kernel_rfl
theorem bp_ffttttf : bpRun false false true true false true true false false false := fun _ => by kernel_rfl
theorem bp_ffttttt : bpRun false false true true false true true false false true := fun _ => by kernel_rfl
end
end Go.Proofs.YtepcbpcbmkikeaaGreatDoor
