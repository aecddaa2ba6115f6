/-
  Runs of buildAutos, by the kernel (4 of 4). No condition.
-/
import Derived.Test.YtepcbpcbmkikeaaGreatDoorRunbuildAutos0
open Go Go.Mx
namespace Go.Proofs.YtepcbpcbmkikeaaGreatDoor
set_option maxRecDepth 1000000
noncomputable section
theorem ba_tffftf (m : Nat) (r : V) : baA (.ofNat 6) (.sl 12 0 (m + 6) 1) (.cons (.b true) (.cons (.b false) (.cons (.b false) (.cons (.b false) (.cons (.b true) (.cons (.b false) r)))))) := fun _ _ => by kernel_rfl
theorem ba_tffftt (m : Nat) (r : V) : baA (.ofNat 6) (.sl 12 0 (m + 6) 1) (.cons (.b true) (.cons (.b false) (.cons (.b false) (.cons (.b false) (.cons (.b true) (.cons (.b true) r)))))) := fun _ _ => by kernel_rfl
theorem ba_tfftff (m : Nat) (r : V) : baA (.ofNat 6) (.sl 12 0 (m + 6) 1) (.cons (.b true) (.cons (.b false) (.cons (.b false) (.cons (.b true) (.cons (.b false) (.cons (.b false) r)))))) := fun _ _ => by kernel_rfl
theorem ba_tfftft (m : Nat) (r : V) : baA (.ofNat 6) (.sl 12 0 (m + 6) 1) (.cons (.b true) (.cons (.b false) (.cons (.b false) (.cons (.b true) (.cons (.b false) (.cons (.b true) r)))))) := fun _ _ => by kernel_rfl
theorem ba_tffttf (m : Nat) (r : V) : baA (.ofNat 6) (.sl 12 0 (m + 6) 1) (.cons (.b true) (.cons (.b false) (.cons (.b false) (.cons (.b true) (.cons (.b true) (.cons (.b false) r)))))) := fun _ _ => by kernel_rfl
theorem ba_tffttt (m : Nat) (r : V) : baA (.ofNat 6) (.sl 12 0 (m + 6) 1) (.cons (.b true) (.cons (.b false) (.cons (.b false) (.cons (.b true) (.cons (.b true) (.cons (.b true) r)))))) := fun _ _ => by kernel_rfl
theorem ba_tftfff (m : Nat) (r : V) : baA (.ofNat 6) (.sl 12 0 (m + 6) 1) (.cons (.b true) (.cons (.b false) (.cons (.b true) (.cons (.b false) (.cons (.b false) (.cons (.b false) r)))))) := fun _ _ => by kernel_rfl
theorem ba_tftfft (m : Nat) (r : V) : baA (.ofNat 6) (.sl 12 0 (m + 6) 1) (.cons (.b true) (.cons (.b false) (.cons (.b true) (.cons (.b false) (.cons (.b false) (.cons (.b true) r)))))) := fun _ _ => by kernel_rfl
theorem ba_tftftf (m : Nat) (r : V) : baA (.ofNat 6) (.sl 12 0 (m + 6) 1) (.cons (.b true) (.cons (.b false) (.cons (.b true) (.cons (.b false) (.cons (.b true) (.cons (.b false) r)))))) := fun _ _ => by kernel_rfl
theorem ba_tftftt (m : Nat) (r : V) : baA (.ofNat 6) (.sl 12 0 (m + 6) 1) (.cons (.b true) (.cons (.b false) (.cons (.b true) (.cons (.b false) (.cons (.b true) (.cons (.b true) r)))))) := fun _ _ => by kernel_rfl
theorem ba_tfttff (m : Nat) (r : V) : baA (.ofNat 6) (.sl 12 0 (m + 6) 1) (.cons (.b true) (.cons (.b false) (.cons (.b true) (.cons (.b true) (.cons (.b false) (.cons (.b false) r)))))) := fun _ _ => by kernel_rfl
theorem ba_tfttft (m : Nat) (r : V) : baA (.ofNat 6) (.sl 12 0 (m + 6) 1) (.cons (.b true) (.cons (.b false) (.cons (.b true) (.cons (.b true) (.cons (.b false) (.cons (.b true) r)))))) := fun _ _ => by kernel_rfl
theorem ba_tftttf (m : Nat) (r : V) : baA (.ofNat 6) (.sl 12 0 (m + 6) 1) (.cons (.b true) (.cons (.b false) (.cons (.b true) (.cons (.b true) (.cons (.b true) (.cons (.b false) r)))))) := fun _ _ => by kernel_rfl
theorem ba_tftttt (m : Nat) (r : V) : baA (.ofNat 6) (.sl 12 0 (m + 6) 1) (.cons (.b true) (.cons (.b false) (.cons (.b true) (.cons (.b true) (.cons (.b true) (.cons (.b true) r)))))) := fun _ _ => by kernel_rfl
theorem ba_ttffff (m : Nat) (r : V) : baA (.ofNat 6) (.sl 12 0 (m + 6) 1) (.cons (.b true) (.cons (.b true) (.cons (.b false) (.cons (.b false) (.cons (.b false) (.cons (.b false) r)))))) := fun _ _ => by kernel_rfl
theorem ba_ttffft (m : Nat) (r : V) : baA (.ofNat 6) (.sl 12 0 (m + 6) 1) (.cons (.b true) (.cons (.b true) (.cons (.b false) (.cons (.b false) (.cons (.b false) (.cons (.b true) r)))))) := fun _ _ => by kernel_rfl
theorem ba_ttfftf (m : Nat) (r : V) : baA (.ofNat 6) (.sl 12 0 (m + 6) 1) (.cons (.b true) (.cons (.b true) (.cons (.b false) (.cons (.b false) (.cons (.b true) (.cons (.b false) r)))))) := fun _ _ => by kernel_rfl
theorem ba_ttfftt (m : Nat) (r : V) : baA (.ofNat 6) (.sl 12 0 (m + 6) 1) (.cons (.b true) (.cons (.b true) (.cons (.b false) (.cons (.b false) (.cons (.b true) (.cons (.b true) r)))))) := fun _ _ => by kernel_rfl
theorem ba_ttftff (m : Nat) (r : V) : baA (.ofNat 6) (.sl 12 0 (m + 6) 1) (.cons (.b true) (.cons (.b true) (.cons (.b false) (.cons (.b true) (.cons (.b false) (.cons (.b false) r)))))) := fun _ _ => by kernel_rfl
theorem ba_ttftft (m : Nat) (r : V) : baA (.ofNat 6) (.sl 12 0 (m + 6) 1) (.cons (.b true) (.cons (.b true) (.cons (.b false) (.cons (.b true) (.cons (.b false) (.cons (.b true) r)))))) := fun _ _ => by kernel_rfl
theorem ba_ttfttf (m : Nat) (r : V) : baA (.ofNat 6) (.sl 12 0 (m + 6) 1) (.cons (.b true) (.cons (.b true) (.cons (.b false) (.cons (.b true) (.cons (.b true) (.cons (.b false) r)))))) := fun _ _ => by kernel_rfl
theorem ba_ttfttt (m : Nat) (r : V) : baA (.ofNat 6) (.sl 12 0 (m + 6) 1) (.cons (.b true) (.cons (.b true) (.cons (.b false) (.cons (.b true) (.cons (.b true) (.cons (.b true) r)))))) := fun _ _ => by kernel_rfl
theorem ba_tttfff (m : Nat) (r : V) : baA (.ofNat 6) (.sl 12 0 (m + 6) 1) (.cons (.b true) (.cons (.b true) (.cons (.b true) (.cons (.b false) (.cons (.b false) (.cons (.b false) r)))))) := fun _ _ => by kernel_rfl
theorem ba_tttfft (m : Nat) (r : V) : baA (.ofNat 6) (.sl 12 0 (m + 6) 1) (.cons (.b true) (.cons (.b true) (.cons (.b true) (.cons (.b false) (.cons (.b false) (.cons (.b true) r)))))) := fun _ _ => by kernel_rfl
theorem ba_tttftf (m : Nat) (r : V) : baA (.ofNat 6) (.sl 12 0 (m + 6) 1) (.cons (.b true) (.cons (.b true) (.cons (.b true) (.cons (.b false) (.cons (.b true) (.cons (.b false) r)))))) := fun _ _ => by kernel_rfl
theorem ba_tttftt (m : Nat) (r : V) : baA (.ofNat 6) (.sl 12 0 (m + 6) 1) (.cons (.b true) (.cons (.b true) (.cons (.b true) (.cons (.b false) (.cons (.b true) (.cons (.b true) r)))))) := fun _ _ => by kernel_rfl
theorem ba_ttttff (m : Nat) (r : V) : baA (.ofNat 6) (.sl 12 0 (m + 6) 1) (.cons (.b true) (.cons (.b true) (.cons (.b true) (.cons (.b true) (.cons (.b false) (.cons (.b false) r)))))) := fun _ _ => by kernel_rfl
theorem ba_ttttft (m : Nat) (r : V) : baA (.ofNat 6) (.sl 12 0 (m + 6) 1) (.cons (.b true) (.cons (.b true) (.cons (.b true) (.cons (.b true) (.cons (.b false) (.cons (.b true) r)))))) := fun _ _ => by kernel_rfl
theorem ba_tttttf (m : Nat) (r : V) : baA (.ofNat 6) (.sl 12 0 (m + 6) 1) (.cons (.b true) (.cons (.b true) (.cons (.b true) (.cons (.b true) (.cons (.b true) (.cons (.b false) r)))))) := fun _ _ => by kernel_rfl
theorem ba_tttttt (m : Nat) (r : V) : baA (.ofNat 6) (.sl 12 0 (m + 6) 1) (.cons (.b true) (.cons (.b true) (.cons (.b true) (.cons (.b true) (.cons (.b true) (.cons (.b true) r)))))) := fun _ _ => by kernel_rfl
end
end Go.Proofs.YtepcbpcbmkikeaaGreatDoor
