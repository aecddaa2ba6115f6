/-
  Runs of buildAutos, by the kernel (3 of 4). No condition.
-/
import Derived.Test.YtepcbpcbmkikeaaGreatDoorRunbuildAutos0
open Go Go.Mx
namespace Go.Proofs.YtepcbpcbmkikeaaGreatDoor
set_option maxRecDepth 1000000
noncomputable section
theorem ba_fffftf (m : Nat) (r : V) : baA (.ofNat 6) (.sl 12 0 (m + 6) 1) (.cons (.b false) (.cons (.b false) (.cons (.b false) (.cons (.b false) (.cons (.b true) (.cons (.b false) r)))))) := fun _ _ => by kernel_rfl
theorem ba_fffftt (m : Nat) (r : V) : baA (.ofNat 6) (.sl 12 0 (m + 6) 1) (.cons (.b false) (.cons (.b false) (.cons (.b false) (.cons (.b false) (.cons (.b true) (.cons (.b true) r)))))) := fun _ _ => by kernel_rfl
theorem ba_ffftff (m : Nat) (r : V) : baA (.ofNat 6) (.sl 12 0 (m + 6) 1) (.cons (.b false) (.cons (.b false) (.cons (.b false) (.cons (.b true) (.cons (.b false) (.cons (.b false) r)))))) := fun _ _ => by kernel_rfl
theorem ba_ffftft (m : Nat) (r : V) : baA (.ofNat 6) (.sl 12 0 (m + 6) 1) (.cons (.b false) (.cons (.b false) (.cons (.b false) (.cons (.b true) (.cons (.b false) (.cons (.b true) r)))))) := fun _ _ => by kernel_rfl
theorem ba_fffttf (m : Nat) (r : V) : baA (.ofNat 6) (.sl 12 0 (m + 6) 1) (.cons (.b false) (.cons (.b false) (.cons (.b false) (.cons (.b true) (.cons (.b true) (.cons (.b false) r)))))) := fun _ _ => by kernel_rfl
theorem ba_fffttt (m : Nat) (r : V) : baA (.ofNat 6) (.sl 12 0 (m + 6) 1) (.cons (.b false) (.cons (.b false) (.cons (.b false) (.cons (.b true) (.cons (.b true) (.cons (.b true) r)))))) := fun _ _ => by kernel_rfl
theorem ba_fftfff (m : Nat) (r : V) : baA (.ofNat 6) (.sl 12 0 (m + 6) 1) (.cons (.b false) (.cons (.b false) (.cons (.b true) (.cons (.b false) (.cons (.b false) (.cons (.b false) r)))))) := fun _ _ => by kernel_rfl
theorem ba_fftfft (m : Nat) (r : V) : baA (.ofNat 6) (.sl 12 0 (m + 6) 1) (.cons (.b false) (.cons (.b false) (.cons (.b true) (.cons (.b false) (.cons (.b false) (.cons (.b true) r)))))) := fun _ _ => by kernel_rfl
theorem ba_fftftf (m : Nat) (r : V) : baA (.ofNat 6) (.sl 12 0 (m + 6) 1) (.cons (.b false) (.cons (.b false) (.cons (.b true) (.cons (.b false) (.cons (.b true) (.cons (.b false) r)))))) := fun _ _ => by kernel_rfl
theorem ba_fftftt (m : Nat) (r : V) : baA (.ofNat 6) (.sl 12 0 (m + 6) 1) (.cons (.b false) (.cons (.b false) (.cons (.b true) (.cons (.b false) (.cons (.b true) (.cons (.b true) r)))))) := fun _ _ => by kernel_rfl
theorem ba_ffttff (m : Nat) (r : V) : baA (.ofNat 6) (.sl 12 0 (m + 6) 1) (.cons (.b false) (.cons (.b false) (.cons (.b true) (.cons (.b true) (.cons (.b false) (.cons (.b false) r)))))) := fun _ _ => by kernel_rfl
theorem ba_ffttft (m : Nat) (r : V) : baA (.ofNat 6) (.sl 12 0 (m + 6) 1) (.cons (.b false) (.cons (.b false) (.cons (.b true) (.cons (.b true) (.cons (.b false) (.cons (.b true) r)))))) := fun _ _ => by kernel_rfl
theorem ba_fftttf (m : Nat) (r : V) : baA (.ofNat 6) (.sl 12 0 (m + 6) 1) (.cons (.b false) (.cons (.b false) (.cons (.b true) (.cons (.b true) (.cons (.b true) (.cons (.b false) r)))))) := fun _ _ => by kernel_rfl
theorem ba_fftttt (m : Nat) (r : V) : baA (.ofNat 6) (.sl 12 0 (m + 6) 1) (.cons (.b false) (.cons (.b false) (.cons (.b true) (.cons (.b true) (.cons (.b true) (.cons (.b true) r)))))) := fun _ _ => by kernel_rfl
theorem ba_ftffff (m : Nat) (r : V) : baA (.ofNat 6) (.sl 12 0 (m + 6) 1) (.cons (.b false) (.cons (.b true) (.cons (.b false) (.cons (.b false) (.cons (.b false) (.cons (.b false) r)))))) := fun _ _ => by kernel_rfl
theorem ba_ftffft (m : Nat) (r : V) : baA (.ofNat 6) (.sl 12 0 (m + 6) 1) (.cons (.b false) (.cons (.b true) (.cons (.b false) (.cons (.b false) (.cons (.b false) (.cons (.b true) r)))))) := fun _ _ => by kernel_rfl
theorem ba_ftfftf (m : Nat) (r : V) : baA (.ofNat 6) (.sl 12 0 (m + 6) 1) (.cons (.b false) (.cons (.b true) (.cons (.b false) (.cons (.b false) (.cons (.b true) (.cons (.b false) r)))))) := fun _ _ => by kernel_rfl
theorem ba_ftfftt (m : Nat) (r : V) : baA (.ofNat 6) (.sl 12 0 (m + 6) 1) (.cons (.b false) (.cons (.b true) (.cons (.b false) (.cons (.b false) (.cons (.b true) (.cons (.b true) r)))))) := fun _ _ => by kernel_rfl
theorem ba_ftftff (m : Nat) (r : V) : baA (.ofNat 6) (.sl 12 0 (m + 6) 1) (.cons (.b false) (.cons (.b true) (.cons (.b false) (.cons (.b true) (.cons (.b false) (.cons (.b false) r)))))) := fun _ _ => by kernel_rfl
theorem ba_ftftft (m : Nat) (r : V) : baA (.ofNat 6) (.sl 12 0 (m + 6) 1) (.cons (.b false) (.cons (.b true) (.cons (.b false) (.cons (.b true) (.cons (.b false) (.cons (.b true) r)))))) := fun _ _ => by kernel_rfl
theorem ba_ftfttf (m : Nat) (r : V) : baA (.ofNat 6) (.sl 12 0 (m + 6) 1) (.cons (.b false) (.cons (.b true) (.cons (.b false) (.cons (.b true) (.cons (.b true) (.cons (.b false) r)))))) := fun _ _ => by kernel_rfl
theorem ba_ftfttt (m : Nat) (r : V) : baA (.ofNat 6) (.sl 12 0 (m + 6) 1) (.cons (.b false) (.cons (.b true) (.cons (.b false) (.cons (.b true) (.cons (.b true) (.cons (.b true) r)))))) := fun _ _ => by kernel_rfl
theorem ba_fttfff (m : Nat) (r : V) : baA (.ofNat 6) (.sl 12 0 (m + 6) 1) (.cons (.b false) (.cons (.b true) (.cons (.b true) (.cons (.b false) (.cons (.b false) (.cons (.b false) r)))))) := fun _ _ => by kernel_rfl
theorem ba_fttfft (m : Nat) (r : V) : baA (.ofNat 6) (.sl 12 0 (m + 6) 1) (.cons (.b false) (.cons (.b true) (.cons (.b true) (.cons (.b false) (.cons (.b false) (.cons (.b true) r)))))) := fun _ _ => by kernel_rfl
theorem ba_fttftf (m : Nat) (r : V) : baA (.ofNat 6) (.sl 12 0 (m + 6) 1) (.cons (.b false) (.cons (.b true) (.cons (.b true) (.cons (.b false) (.cons (.b true) (.cons (.b false) r)))))) := fun _ _ => by kernel_rfl
theorem ba_fttftt (m : Nat) (r : V) : baA (.ofNat 6) (.sl 12 0 (m + 6) 1) (.cons (.b false) (.cons (.b true) (.cons (.b true) (.cons (.b false) (.cons (.b true) (.cons (.b true) r)))))) := fun _ _ => by kernel_rfl
theorem ba_ftttff (m : Nat) (r : V) : baA (.ofNat 6) (.sl 12 0 (m + 6) 1) (.cons (.b false) (.cons (.b true) (.cons (.b true) (.cons (.b true) (.cons (.b false) (.cons (.b false) r)))))) := fun _ _ => by kernel_rfl
theorem ba_ftttft (m : Nat) (r : V) : baA (.ofNat 6) (.sl 12 0 (m + 6) 1) (.cons (.b false) (.cons (.b true) (.cons (.b true) (.cons (.b true) (.cons (.b false) (.cons (.b true) r)))))) := fun _ _ => by kernel_rfl
theorem ba_fttttf (m : Nat) (r : V) : baA (.ofNat 6) (.sl 12 0 (m + 6) 1) (.cons (.b false) (.cons (.b true) (.cons (.b true) (.cons (.b true) (.cons (.b true) (.cons (.b false) r)))))) := fun _ _ => by kernel_rfl
theorem ba_fttttt (m : Nat) (r : V) : baA (.ofNat 6) (.sl 12 0 (m + 6) 1) (.cons (.b false) (.cons (.b true) (.cons (.b true) (.cons (.b true) (.cons (.b true) (.cons (.b true) r)))))) := fun _ _ => by kernel_rfl
theorem ba_tfffff (m : Nat) (r : V) : baA (.ofNat 6) (.sl 12 0 (m + 6) 1) (.cons (.b true) (.cons (.b false) (.cons (.b false) (.cons (.b false) (.cons (.b false) (.cons (.b false) r)))))) := fun _ _ => by kernel_rfl
theorem ba_tfffft (m : Nat) (r : V) : baA (.ofNat 6) (.sl 12 0 (m + 6) 1) (.cons (.b true) (.cons (.b false) (.cons (.b false) (.cons (.b false) (.cons (.b false) (.cons (.b true) r)))))) := fun _ _ => by kernel_rfl
end
end Go.Proofs.YtepcbpcbmkikeaaGreatDoor
