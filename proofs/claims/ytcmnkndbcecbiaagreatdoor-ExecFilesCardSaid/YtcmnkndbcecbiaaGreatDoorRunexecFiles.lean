/-
  The runs of execFiles: at every input. No condition.
-/
import Derived.Test.YtcmnkndbcecbiaaGreatDoorRunexecFiles0
import Derived.Test.YtcmnkndbcecbiaaGreatDoorRunexecFiles1
import Derived.Test.YtcmnkndbcecbiaaGreatDoorRunexecFiles2
import Derived.Test.YtcmnkndbcecbiaaGreatDoorRunexecFiles3
import Derived.Test.YtcmnkndbcecbiaaGreatDoorRunexecFiles4
open Go Go.Mx
namespace Go.Proofs.YtcmnkndbcecbiaaGreatDoor
set_option maxRecDepth 1000000
noncomputable section
theorem xf_fn : Tryz.prog.funcs[3]? = some Tryz.f3 := by kernel_rfl
theorem xf_body : ∃ c, Tryz.f3.body = some c := ⟨_, rfl⟩
theorem xf_h : ∀ (t1 t2 : Nat) (g : Bool), t1 < 2 → t2 < 2 → ∀ τ, xfRun τ (.cons (formV M 97 122 60 12 t1) (.cons (formV M 97 122 60 (12 + 3) t2) (.cons (.b g) .nil))) (12 + 6) = true
  | 0, 0, true, _, _ => xf_h00t
  | 0, 0, false, _, _ => xf_h00f
  | 0, 1, true, _, _ => xf_h01t
  | 0, 1, false, _, _ => xf_h01f
  | 1, 0, true, _, _ => xf_h10t
  | 1, 0, false, _, _ => xf_h10f
  | 1, 1, true, _, _ => xf_h11t
  | 1, 1, false, _, _ => xf_h11f
  | t1 + 2, _, _, h, _ => absurd h (by omega)
  | _, t2 + 2, _, _, h => absurd h (by omega)
theorem xf_l : ∀ (t1 t2 : Nat), t1 < 2 → t2 < 3 → ∀ τ, xfRun τ (.cons (formV M 97 122 60 12 t1) (.cons (formV M 97 122 60 (12 + 3) (t2 + 2)) (.cons (.nil) .nil))) (12 + 6) = true
  | 0, 0, _, _ => xf_l02
  | 0, 1, _, _ => xf_l03
  | 0, 2, _, _ => xf_l04
  | 1, 0, _, _ => xf_l12
  | 1, 1, _, _ => xf_l13
  | 1, 2, _, _ => xf_l14
  | t1 + 2, _, h, _ => absurd h (by omega)
  | _, t2 + 3, _, h => absurd h (by omega)
theorem xf_s : ∀ (t : Bool) (k : Nat), k < 60 → ∀ τ, xfRun τ (.cons (formS M 97 122 60 12 k t) (.cons (anyS (12 + 3) 0 60) (.cons (.nil) .nil))) (12 + 6) = true
  | true, k, h, τ => allN_spec (xf_st τ) k h
  | false, k, h, τ => allN_spec (xf_sf τ) k h
theorem xf_y : ∀ (t : Bool) (k : Nat), k < 60 → ∀ τ, xfRun τ (.cons (formS M 97 122 60 12 k t) (.cons (.y .nil (12 + 3) 61 9223372036854775807) (.cons (.nil) .nil))) (12 + 6) = true
  | true, k, h, τ => allN_spec (xf_yt τ) k h
  | false, k, h, τ => allN_spec (xf_yf τ) k h
theorem rF : CKok Tryz.prog 12 (runL Tryz.prog 12 (hkL hkF) lk 100000) := runL_sound follows nameOK hkFok 100000
theorem xf_calls (a : ByteArray) (ha : a.size ≤ maxLen) (b : ByteArray) (hb0 : b.size ≤ maxLen) (g : Bool) {W : World} (tab : HasTables tbl W) : Calls Tryz.prog 3 #[.string a, .string b, .bool g] W fun e W' => e = .returned (.bool true) ∧ Stays W W' := by
  obtain ⟨cd, hb⟩ := xf_body
  have hz1 : a.size ≤ 9223372036854775807 := ha
  have hz2 : b.size ≤ 9223372036854775807 := hb0
  have un : ∀ {ρ : Ren} {x : Value}, VR ρ .nil x := fun {ρ x} => by simp only [VR]
  have fin : ∀ (V1 V2 V3 : V) (ρ1 ρ2 : Ren), (∀ i L, ρ1 i = some L → 12 ≤ i ∧ i < 12 + 3) → (∀ i L, ρ2 i = some L → 12 + 3 ≤ i ∧ i < 12 + 3 + 3) → VR ρ1 V1 (.string a) → VR ρ2 V2 (.string b) → (∀ ρ : Ren, VR ρ V3 (.bool g)) → (∀ τ, xfRun τ (.cons V1 (.cons V2 (.cons V3 .nil))) (12 + 6) = true) → Calls Tryz.prog 3 #[.string a, .string b, .bool g] W fun e W' => e = .returned (.bool true) ∧ Stays W W' := fun V1 V2 V3 ρ1 ρ2 hρ1 hρ2 hv1 hv2 hv3 hrun => by
    obtain ⟨j1, j2⟩ := joinT_le (m := 12 + 3) (ρ1 := ρ1) (ρ2 := ρ2) (fun i L h => (hρ1 i L h).2) (fun i L h => (hρ2 i L h).1)
    exact top_run_k nameOK rF xf_fn hb tblIn (ob := []) (ρa := joinT (12 + 3) ρ1 ρ2) (nx := 12 + 6) (by omega)
      (fun i L h => by
        simp only [joinT] at h
        split at h
        · have := hρ1 i L h; omega
        · have := hρ2 i L h; omega)
      (fun i hi => by rw [show putO [] (.leaf : T O) = .leaf from rfl, gt_leaf] at hi; exact hi.elim)
      (args := .cons V1 (.cons V2 (.cons V3 .nil))) (by simp only [VRs]; exact ⟨_, _, rfl, hv1.mono j1, _, _, rfl, hv2.mono j2, _, _, rfl, hv3 _, rfl⟩) hrun tab
  rcases text_caseS (M := M) (lo := 97) (hi := 122) (B := 60) mOut 12 a hz1 with ⟨t1, ht1, ρ1, hρ1, hv1⟩ | ⟨k, t, hk, ρ1, hρ1, hv1⟩
  · by_cases h4 : t1 = 4
    · subst h4
      exact fin _ .nil .nil ρ1 (fun _ => none) hρ1 (fun i L h => by cases h) hv1 un (fun _ => un) xf_long
    have ht : t1 < 2 := by omega
    obtain ⟨t2, ht2, ρ2, hρ2, hv2⟩ := text_case (M := M) (lo := 97) (hi := 122) (B := 60) mOut (12 + 3) b hz2
    by_cases h2 : t2 < 2
    · exact fin _ _ (.b g) ρ1 ρ2 hρ1 hρ2 hv1 hv2 (fun _ => VRb _ _) (xf_h t1 t2 g ht h2)
    · obtain ⟨q, rfl⟩ : ∃ q, t2 = q + 2 := ⟨t2 - 2, by omega⟩
      exact fin _ _ .nil ρ1 ρ2 hρ1 hρ2 hv1 hv2 (fun _ => un) (xf_l t1 q ht (by omega))
  · by_cases h2 : b.size ≤ 60
    · obtain ⟨ρ2, hρ2, hv2⟩ := anyS_VR (a := 12 + 3) (lo := 0) (hi := 60) (s := b) (Nat.zero_le _) h2
      exact fin _ _ .nil ρ1 ρ2 hρ1 hρ2 hv1 hv2 (fun _ => un) (xf_s t k hk)
    · obtain ⟨ρ2, hρ2, hv2⟩ := long_VR (a := 12 + 3) (lo := 61) (hi := 9223372036854775807) (s := b) (by omega) hz2
      exact fin _ _ .nil ρ1 ρ2 hρ1 hρ2 hv1 hv2 (fun _ => un) (xf_y t k hk)
end
end Go.Proofs.YtcmnkndbcecbiaaGreatDoor
