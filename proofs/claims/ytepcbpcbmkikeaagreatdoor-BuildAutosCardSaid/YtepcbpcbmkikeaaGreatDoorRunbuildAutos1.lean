/-
  Runs of buildAutos, by the kernel (2 of 4). No condition.
-/
import Derived.Test.YtepcbpcbmkikeaaGreatDoorRunbuildAutos0
open Go Go.Mx
namespace Go.Proofs.YtepcbpcbmkikeaaGreatDoor
set_option maxRecDepth 1000000
noncomputable section
theorem ba_ffftf (m : Nat) (r : V) : baA (.ofNat 5) (.sl 12 0 (m + 5) 1) (.cons (.b false) (.cons (.b false) (.cons (.b false) (.cons (.b true) (.cons (.b false) r))))) := fun _ _ => by kernel_rfl
theorem ba_ffftt (m : Nat) (r : V) : baA (.ofNat 5) (.sl 12 0 (m + 5) 1) (.cons (.b false) (.cons (.b false) (.cons (.b false) (.cons (.b true) (.cons (.b true) r))))) := fun _ _ => by kernel_rfl
theorem ba_fftff (m : Nat) (r : V) : baA (.ofNat 5) (.sl 12 0 (m + 5) 1) (.cons (.b false) (.cons (.b false) (.cons (.b true) (.cons (.b false) (.cons (.b false) r))))) := fun _ _ => by kernel_rfl
theorem ba_fftft (m : Nat) (r : V) : baA (.ofNat 5) (.sl 12 0 (m + 5) 1) (.cons (.b false) (.cons (.b false) (.cons (.b true) (.cons (.b false) (.cons (.b true) r))))) := fun _ _ => by kernel_rfl
theorem ba_ffttf (m : Nat) (r : V) : baA (.ofNat 5) (.sl 12 0 (m + 5) 1) (.cons (.b false) (.cons (.b false) (.cons (.b true) (.cons (.b true) (.cons (.b false) r))))) := fun _ _ => by kernel_rfl
theorem ba_ffttt (m : Nat) (r : V) : baA (.ofNat 5) (.sl 12 0 (m + 5) 1) (.cons (.b false) (.cons (.b false) (.cons (.b true) (.cons (.b true) (.cons (.b true) r))))) := fun _ _ => by kernel_rfl
theorem ba_ftfff (m : Nat) (r : V) : baA (.ofNat 5) (.sl 12 0 (m + 5) 1) (.cons (.b false) (.cons (.b true) (.cons (.b false) (.cons (.b false) (.cons (.b false) r))))) := fun _ _ => by kernel_rfl
theorem ba_ftfft (m : Nat) (r : V) : baA (.ofNat 5) (.sl 12 0 (m + 5) 1) (.cons (.b false) (.cons (.b true) (.cons (.b false) (.cons (.b false) (.cons (.b true) r))))) := fun _ _ => by kernel_rfl
theorem ba_ftftf (m : Nat) (r : V) : baA (.ofNat 5) (.sl 12 0 (m + 5) 1) (.cons (.b false) (.cons (.b true) (.cons (.b false) (.cons (.b true) (.cons (.b false) r))))) := fun _ _ => by kernel_rfl
theorem ba_ftftt (m : Nat) (r : V) : baA (.ofNat 5) (.sl 12 0 (m + 5) 1) (.cons (.b false) (.cons (.b true) (.cons (.b false) (.cons (.b true) (.cons (.b true) r))))) := fun _ _ => by kernel_rfl
theorem ba_fttff (m : Nat) (r : V) : baA (.ofNat 5) (.sl 12 0 (m + 5) 1) (.cons (.b false) (.cons (.b true) (.cons (.b true) (.cons (.b false) (.cons (.b false) r))))) := fun _ _ => by kernel_rfl
theorem ba_fttft (m : Nat) (r : V) : baA (.ofNat 5) (.sl 12 0 (m + 5) 1) (.cons (.b false) (.cons (.b true) (.cons (.b true) (.cons (.b false) (.cons (.b true) r))))) := fun _ _ => by kernel_rfl
theorem ba_ftttf (m : Nat) (r : V) : baA (.ofNat 5) (.sl 12 0 (m + 5) 1) (.cons (.b false) (.cons (.b true) (.cons (.b true) (.cons (.b true) (.cons (.b false) r))))) := fun _ _ => by kernel_rfl
theorem ba_ftttt (m : Nat) (r : V) : baA (.ofNat 5) (.sl 12 0 (m + 5) 1) (.cons (.b false) (.cons (.b true) (.cons (.b true) (.cons (.b true) (.cons (.b true) r))))) := fun _ _ => by kernel_rfl
theorem ba_tffff (m : Nat) (r : V) : baA (.ofNat 5) (.sl 12 0 (m + 5) 1) (.cons (.b true) (.cons (.b false) (.cons (.b false) (.cons (.b false) (.cons (.b false) r))))) := fun _ _ => by kernel_rfl
theorem ba_tffft (m : Nat) (r : V) : baA (.ofNat 5) (.sl 12 0 (m + 5) 1) (.cons (.b true) (.cons (.b false) (.cons (.b false) (.cons (.b false) (.cons (.b true) r))))) := fun _ _ => by kernel_rfl
theorem ba_tfftf (m : Nat) (r : V) : baA (.ofNat 5) (.sl 12 0 (m + 5) 1) (.cons (.b true) (.cons (.b false) (.cons (.b false) (.cons (.b true) (.cons (.b false) r))))) := fun _ _ => by kernel_rfl
theorem ba_tfftt (m : Nat) (r : V) : baA (.ofNat 5) (.sl 12 0 (m + 5) 1) (.cons (.b true) (.cons (.b false) (.cons (.b false) (.cons (.b true) (.cons (.b true) r))))) := fun _ _ => by kernel_rfl
theorem ba_tftff (m : Nat) (r : V) : baA (.ofNat 5) (.sl 12 0 (m + 5) 1) (.cons (.b true) (.cons (.b false) (.cons (.b true) (.cons (.b false) (.cons (.b false) r))))) := fun _ _ => by kernel_rfl
theorem ba_tftft (m : Nat) (r : V) : baA (.ofNat 5) (.sl 12 0 (m + 5) 1) (.cons (.b true) (.cons (.b false) (.cons (.b true) (.cons (.b false) (.cons (.b true) r))))) := fun _ _ => by kernel_rfl
theorem ba_tfttf (m : Nat) (r : V) : baA (.ofNat 5) (.sl 12 0 (m + 5) 1) (.cons (.b true) (.cons (.b false) (.cons (.b true) (.cons (.b true) (.cons (.b false) r))))) := fun _ _ => by kernel_rfl
theorem ba_tfttt (m : Nat) (r : V) : baA (.ofNat 5) (.sl 12 0 (m + 5) 1) (.cons (.b true) (.cons (.b false) (.cons (.b true) (.cons (.b true) (.cons (.b true) r))))) := fun _ _ => by kernel_rfl
theorem ba_ttfff (m : Nat) (r : V) : baA (.ofNat 5) (.sl 12 0 (m + 5) 1) (.cons (.b true) (.cons (.b true) (.cons (.b false) (.cons (.b false) (.cons (.b false) r))))) := fun _ _ => by kernel_rfl
theorem ba_ttfft (m : Nat) (r : V) : baA (.ofNat 5) (.sl 12 0 (m + 5) 1) (.cons (.b true) (.cons (.b true) (.cons (.b false) (.cons (.b false) (.cons (.b true) r))))) := fun _ _ => by kernel_rfl
theorem ba_ttftf (m : Nat) (r : V) : baA (.ofNat 5) (.sl 12 0 (m + 5) 1) (.cons (.b true) (.cons (.b true) (.cons (.b false) (.cons (.b true) (.cons (.b false) r))))) := fun _ _ => by kernel_rfl
theorem ba_ttftt (m : Nat) (r : V) : baA (.ofNat 5) (.sl 12 0 (m + 5) 1) (.cons (.b true) (.cons (.b true) (.cons (.b false) (.cons (.b true) (.cons (.b true) r))))) := fun _ _ => by kernel_rfl
theorem ba_tttff (m : Nat) (r : V) : baA (.ofNat 5) (.sl 12 0 (m + 5) 1) (.cons (.b true) (.cons (.b true) (.cons (.b true) (.cons (.b false) (.cons (.b false) r))))) := fun _ _ => by kernel_rfl
theorem ba_tttft (m : Nat) (r : V) : baA (.ofNat 5) (.sl 12 0 (m + 5) 1) (.cons (.b true) (.cons (.b true) (.cons (.b true) (.cons (.b false) (.cons (.b true) r))))) := fun _ _ => by kernel_rfl
theorem ba_ttttf (m : Nat) (r : V) : baA (.ofNat 5) (.sl 12 0 (m + 5) 1) (.cons (.b true) (.cons (.b true) (.cons (.b true) (.cons (.b true) (.cons (.b false) r))))) := fun _ _ => by kernel_rfl
theorem ba_ttttt (m : Nat) (r : V) : baA (.ofNat 5) (.sl 12 0 (m + 5) 1) (.cons (.b true) (.cons (.b true) (.cons (.b true) (.cons (.b true) (.cons (.b true) r))))) := fun _ _ => by kernel_rfl
theorem ba_ffffff (m : Nat) (r : V) : baA (.ofNat 6) (.sl 12 0 (m + 6) 1) (.cons (.b false) (.cons (.b false) (.cons (.b false) (.cons (.b false) (.cons (.b false) (.cons (.b false) r)))))) := fun _ _ => by kernel_rfl
theorem ba_ffffft (m : Nat) (r : V) : baA (.ofNat 6) (.sl 12 0 (m + 6) 1) (.cons (.b false) (.cons (.b false) (.cons (.b false) (.cons (.b false) (.cons (.b false) (.cons (.b true) r)))))) := fun _ _ => by kernel_rfl
end
end Go.Proofs.YtepcbpcbmkikeaaGreatDoor
