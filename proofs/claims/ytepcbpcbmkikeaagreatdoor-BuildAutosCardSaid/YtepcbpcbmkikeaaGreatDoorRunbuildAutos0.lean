/-
  Runs of buildAutos, by the kernel (1 of 4). No condition.
-/
import Derived.Test.YtepcbpcbmkikeaaGreatDoorHk
open Go Go.Mx
namespace Go.Proofs.YtepcbpcbmkikeaaGreatDoor
set_option maxRecDepth 1000000
noncomputable section
def baA (n : Int) (sl c : V) : Prop := ∀ (τ : Nat → Nat) (tb : Nat), mkTK τ tbl (st O.none (.c c tb false) 12 .leaf) (fun h0 => run Tryz.prog 12 (hkL hkB) 100000 5 (.cons (.i .i64 n) (.cons sl .nil)) h0 13 (fun v _ _ => isB true v) (fun _ _ _ => false)) = true
def baP (n : Int) (sl : V) : Prop := ∀ τ, mkTK τ tbl .leaf (fun h0 => run Tryz.prog 12 (hkL hkB) 100000 5 (.cons (.i .i64 n) (.cons (sl) .nil)) h0 12 (fun v _ _ => isB true v) (fun _ _ _ => false)) = true
theorem ba_neg (m : Nat) (s c : V) : baA (.negSucc m) s c := fun _ _ => by kernel_rfl
theorem ba_big (m : Nat) (s c : V) : baA (.ofNat (m + 7)) s c := fun _ _ => by kernel_rfl
theorem ba_Pneg (m : Nat) (s : V) : baP (.negSucc m) s := fun _ => by kernel_rfl
theorem ba_Pbig (m : Nat) (s : V) : baP (.ofNat (m + 7)) s := fun _ => by kernel_rfl
theorem ba_0sn : baP (.ofNat 0) .sn := fun _ => by kernel_rfl
theorem ba_0se : baP (.ofNat 0) .se := fun _ => by kernel_rfl
theorem ba_0sl (m : Nat) (c : V) : baA (.ofNat 0) (.sl 12 0 (m + 1) 1) c := fun _ _ => by kernel_rfl
theorem ba_1sn : baP (.ofNat 1) .sn := fun _ => by kernel_rfl
theorem ba_1se : baP (.ofNat 1) .se := fun _ => by kernel_rfl
theorem ba_2sn : baP (.ofNat 2) .sn := fun _ => by kernel_rfl
theorem ba_2se : baP (.ofNat 2) .se := fun _ => by kernel_rfl
theorem ba_2s1 (c : V) : baA (.ofNat 2) (.sl 12 0 1 1) c := fun _ _ => by kernel_rfl
theorem ba_3sn : baP (.ofNat 3) .sn := fun _ => by kernel_rfl
theorem ba_3se : baP (.ofNat 3) .se := fun _ => by kernel_rfl
theorem ba_3s1 (c : V) : baA (.ofNat 3) (.sl 12 0 1 1) c := fun _ _ => by kernel_rfl
theorem ba_3s2 (c : V) : baA (.ofNat 3) (.sl 12 0 2 1) c := fun _ _ => by kernel_rfl
theorem ba_4sn : baP (.ofNat 4) .sn := fun _ => by kernel_rfl
theorem ba_4se : baP (.ofNat 4) .se := fun _ => by kernel_rfl
theorem ba_4s1 (c : V) : baA (.ofNat 4) (.sl 12 0 1 1) c := fun _ _ => by kernel_rfl
theorem ba_4s2 (c : V) : baA (.ofNat 4) (.sl 12 0 2 1) c := fun _ _ => by kernel_rfl
theorem ba_4s3 (c : V) : baA (.ofNat 4) (.sl 12 0 3 1) c := fun _ _ => by kernel_rfl
theorem ba_5sn : baP (.ofNat 5) .sn := fun _ => by kernel_rfl
theorem ba_5se : baP (.ofNat 5) .se := fun _ => by kernel_rfl
theorem ba_5s1 (c : V) : baA (.ofNat 5) (.sl 12 0 1 1) c := fun _ _ => by kernel_rfl
theorem ba_5s2 (c : V) : baA (.ofNat 5) (.sl 12 0 2 1) c := fun _ _ => by kernel_rfl
theorem ba_5s3 (c : V) : baA (.ofNat 5) (.sl 12 0 3 1) c := fun _ _ => by kernel_rfl
theorem ba_5s4 (c : V) : baA (.ofNat 5) (.sl 12 0 4 1) c := fun _ _ => by kernel_rfl
theorem ba_6sn : baP (.ofNat 6) .sn := fun _ => by kernel_rfl
theorem ba_6se : baP (.ofNat 6) .se := fun _ => by kernel_rfl
theorem ba_6s1 (c : V) : baA (.ofNat 6) (.sl 12 0 1 1) c := fun _ _ => by kernel_rfl
theorem ba_6s2 (c : V) : baA (.ofNat 6) (.sl 12 0 2 1) c := fun _ _ => by kernel_rfl
theorem ba_6s3 (c : V) : baA (.ofNat 6) (.sl 12 0 3 1) c := fun _ _ => by kernel_rfl
theorem ba_6s4 (c : V) : baA (.ofNat 6) (.sl 12 0 4 1) c := fun _ _ => by kernel_rfl
theorem ba_6s5 (c : V) : baA (.ofNat 6) (.sl 12 0 5 1) c := fun _ _ => by kernel_rfl
theorem ba_f (m : Nat) (r : V) : baA (.ofNat 1) (.sl 12 0 (m + 1) 1) (.cons (.b false) r) := fun _ _ => by kernel_rfl
theorem ba_t (m : Nat) (r : V) : baA (.ofNat 1) (.sl 12 0 (m + 1) 1) (.cons (.b true) r) := fun _ _ => by kernel_rfl
theorem ba_ff (m : Nat) (r : V) : baA (.ofNat 2) (.sl 12 0 (m + 2) 1) (.cons (.b false) (.cons (.b false) r)) := fun _ _ => by kernel_rfl
theorem ba_ft (m : Nat) (r : V) : baA (.ofNat 2) (.sl 12 0 (m + 2) 1) (.cons (.b false) (.cons (.b true) r)) := fun _ _ => by kernel_rfl
theorem ba_tf (m : Nat) (r : V) : baA (.ofNat 2) (.sl 12 0 (m + 2) 1) (.cons (.b true) (.cons (.b false) r)) := fun _ _ => by kernel_rfl
theorem ba_tt (m : Nat) (r : V) : baA (.ofNat 2) (.sl 12 0 (m + 2) 1) (.cons (.b true) (.cons (.b true) r)) := fun _ _ => by kernel_rfl
theorem ba_fff (m : Nat) (r : V) : baA (.ofNat 3) (.sl 12 0 (m + 3) 1) (.cons (.b false) (.cons (.b false) (.cons (.b false) r))) := fun _ _ => by kernel_rfl
theorem ba_fft (m : Nat) (r : V) : baA (.ofNat 3) (.sl 12 0 (m + 3) 1) (.cons (.b false) (.cons (.b false) (.cons (.b true) r))) := fun _ _ => by kernel_rfl
theorem ba_ftf (m : Nat) (r : V) : baA (.ofNat 3) (.sl 12 0 (m + 3) 1) (.cons (.b false) (.cons (.b true) (.cons (.b false) r))) := fun _ _ => by kernel_rfl
theorem ba_ftt (m : Nat) (r : V) : baA (.ofNat 3) (.sl 12 0 (m + 3) 1) (.cons (.b false) (.cons (.b true) (.cons (.b true) r))) := fun _ _ => by kernel_rfl
theorem ba_tff (m : Nat) (r : V) : baA (.ofNat 3) (.sl 12 0 (m + 3) 1) (.cons (.b true) (.cons (.b false) (.cons (.b false) r))) := fun _ _ => by kernel_rfl
theorem ba_tft (m : Nat) (r : V) : baA (.ofNat 3) (.sl 12 0 (m + 3) 1) (.cons (.b true) (.cons (.b false) (.cons (.b true) r))) := fun _ _ => by kernel_rfl
theorem ba_ttf (m : Nat) (r : V) : baA (.ofNat 3) (.sl 12 0 (m + 3) 1) (.cons (.b true) (.cons (.b true) (.cons (.b false) r))) := fun _ _ => by kernel_rfl
theorem ba_ttt (m : Nat) (r : V) : baA (.ofNat 3) (.sl 12 0 (m + 3) 1) (.cons (.b true) (.cons (.b true) (.cons (.b true) r))) := fun _ _ => by kernel_rfl
theorem ba_ffff (m : Nat) (r : V) : baA (.ofNat 4) (.sl 12 0 (m + 4) 1) (.cons (.b false) (.cons (.b false) (.cons (.b false) (.cons (.b false) r)))) := fun _ _ => by kernel_rfl
theorem ba_ffft (m : Nat) (r : V) : baA (.ofNat 4) (.sl 12 0 (m + 4) 1) (.cons (.b false) (.cons (.b false) (.cons (.b false) (.cons (.b true) r)))) := fun _ _ => by kernel_rfl
theorem ba_fftf (m : Nat) (r : V) : baA (.ofNat 4) (.sl 12 0 (m + 4) 1) (.cons (.b false) (.cons (.b false) (.cons (.b true) (.cons (.b false) r)))) := fun _ _ => by kernel_rfl
theorem ba_fftt (m : Nat) (r : V) : baA (.ofNat 4) (.sl 12 0 (m + 4) 1) (.cons (.b false) (.cons (.b false) (.cons (.b true) (.cons (.b true) r)))) := fun _ _ => by kernel_rfl
theorem ba_ftff (m : Nat) (r : V) : baA (.ofNat 4) (.sl 12 0 (m + 4) 1) (.cons (.b false) (.cons (.b true) (.cons (.b false) (.cons (.b false) r)))) := fun _ _ => by kernel_rfl
theorem ba_ftft (m : Nat) (r : V) : baA (.ofNat 4) (.sl 12 0 (m + 4) 1) (.cons (.b false) (.cons (.b true) (.cons (.b false) (.cons (.b true) r)))) := fun _ _ => by kernel_rfl
theorem ba_fttf (m : Nat) (r : V) : baA (.ofNat 4) (.sl 12 0 (m + 4) 1) (.cons (.b false) (.cons (.b true) (.cons (.b true) (.cons (.b false) r)))) := fun _ _ => by kernel_rfl
theorem ba_fttt (m : Nat) (r : V) : baA (.ofNat 4) (.sl 12 0 (m + 4) 1) (.cons (.b false) (.cons (.b true) (.cons (.b true) (.cons (.b true) r)))) := fun _ _ => by kernel_rfl
theorem ba_tfff (m : Nat) (r : V) : baA (.ofNat 4) (.sl 12 0 (m + 4) 1) (.cons (.b true) (.cons (.b false) (.cons (.b false) (.cons (.b false) r)))) := fun _ _ => by kernel_rfl
theorem ba_tfft (m : Nat) (r : V) : baA (.ofNat 4) (.sl 12 0 (m + 4) 1) (.cons (.b true) (.cons (.b false) (.cons (.b false) (.cons (.b true) r)))) := fun _ _ => by kernel_rfl
theorem ba_tftf (m : Nat) (r : V) : baA (.ofNat 4) (.sl 12 0 (m + 4) 1) (.cons (.b true) (.cons (.b false) (.cons (.b true) (.cons (.b false) r)))) := fun _ _ => by kernel_rfl
theorem ba_tftt (m : Nat) (r : V) : baA (.ofNat 4) (.sl 12 0 (m + 4) 1) (.cons (.b true) (.cons (.b false) (.cons (.b true) (.cons (.b true) r)))) := fun _ _ => by kernel_rfl
theorem ba_ttff (m : Nat) (r : V) : baA (.ofNat 4) (.sl 12 0 (m + 4) 1) (.cons (.b true) (.cons (.b true) (.cons (.b false) (.cons (.b false) r)))) := fun _ _ => by kernel_rfl
theorem ba_ttft (m : Nat) (r : V) : baA (.ofNat 4) (.sl 12 0 (m + 4) 1) (.cons (.b true) (.cons (.b true) (.cons (.b false) (.cons (.b true) r)))) := fun _ _ => by kernel_rfl
theorem ba_tttf (m : Nat) (r : V) : baA (.ofNat 4) (.sl 12 0 (m + 4) 1) (.cons (.b true) (.cons (.b true) (.cons (.b true) (.cons (.b false) r)))) := fun _ _ => by kernel_rfl
theorem ba_tttt (m : Nat) (r : V) : baA (.ofNat 4) (.sl 12 0 (m + 4) 1) (.cons (.b true) (.cons (.b true) (.cons (.b true) (.cons (.b true) r)))) := fun _ _ => by kernel_rfl
theorem ba_fffff (m : Nat) (r : V) : baA (.ofNat 5) (.sl 12 0 (m + 5) 1) (.cons (.b false) (.cons (.b false) (.cons (.b false) (.cons (.b false) (.cons (.b false) r))))) := fun _ _ => by kernel_rfl
theorem ba_fffft (m : Nat) (r : V) : baA (.ofNat 5) (.sl 12 0 (m + 5) 1) (.cons (.b false) (.cons (.b false) (.cons (.b false) (.cons (.b false) (.cons (.b true) r))))) := fun _ _ => by kernel_rfl
end
end Go.Proofs.YtepcbpcbmkikeaaGreatDoor
