/-
  The runs of execTemps: at every input. No condition.
-/
import Derived.Test.YtcmnkndbcecbiaaGreatDoorRunexecTemps0
import Derived.Test.YtcmnkndbcecbiaaGreatDoorRunexecTemps1
import Derived.Test.YtcmnkndbcecbiaaGreatDoorRunexecTemps2
open Go Go.Mx
namespace Go.Proofs.YtcmnkndbcecbiaaGreatDoor
set_option maxRecDepth 1000000
noncomputable section
theorem xt_fn : Tryz.prog.funcs[6]? = some Tryz.f6 := by kernel_rfl
theorem xt_body : ∃ c, Tryz.f6.body = some c := ⟨_, rfl⟩
theorem xt_h : ∀ (g : Bool) τ, xtRun τ (.cons (formV M 97 122 40 12 1) (.cons (formV M 97 122 40 (12 + 3) 1) (.cons (.b g) .nil))) (12 + 6) = true
  | true => xt_ht
  | false => xt_hf
theorem xt_l1 : ∀ (t2 : Nat), t2 < 5 → t2 ≠ 1 → ∀ τ, xtRun τ (.cons (formV M 97 122 40 12 1) (.cons (formV M 97 122 40 (12 + 3) t2) (.cons (.nil) .nil))) (12 + 6) = true
  | 0, _, _ => xt_l10
  | 1, _, h => absurd rfl h
  | 2, _, _ => xt_l12
  | 3, _, _ => xt_l13
  | 4, _, _ => xt_l14
  | t2 + 5, h, _ => absurd h (by omega)
theorem xt_l4 : ∀ (t2 : Nat), t2 < 5 → ∀ τ, xtRun τ (.cons (formV M 97 122 40 12 4) (.cons (formV M 97 122 40 (12 + 3) t2) (.cons (.nil) .nil))) (12 + 6) = true
  | 0, _ => xt_l40
  | 1, _ => xt_l41
  | 2, _ => xt_l42
  | 3, _ => xt_l43
  | 4, _ => xt_l44
  | t2 + 5, h => absurd h (by omega)
theorem xt_e : ∀ (t : Bool) (k : Nat), k < 40 → ∀ τ, xtRun τ (.cons (formS M 97 122 40 12 k t) (.cons (formV M 97 122 40 (12 + 3) 0) (.cons (.nil) .nil))) (12 + 6) = true
  | true, k, h, τ => allN_spec (xt_et τ) k h
  | false, k, h, τ => allN_spec (xt_ef τ) k h
theorem xt_s : ∀ (t : Bool) (k : Nat), k < 40 → ∀ τ, xtRun τ (.cons (formS M 97 122 40 12 k t) (.cons (anyS (12 + 3) 1 40) (.cons (.nil) .nil))) (12 + 6) = true
  | true, k, h, τ => allN_spec (xt_st τ) k h
  | false, k, h, τ => allN_spec (xt_sf τ) k h
theorem xt_y : ∀ (t : Bool) (k : Nat), k < 40 → ∀ τ, xtRun τ (.cons (formS M 97 122 40 12 k t) (.cons (.y .nil (12 + 3) 41 9223372036854775807) (.cons (.nil) .nil))) (12 + 6) = true
  | true, k, h, τ => allN_spec (xt_yt τ) k h
  | false, k, h, τ => allN_spec (xt_yf τ) k h
theorem rFT : CKok Tryz.prog 12 (runL Tryz.prog 12 (hkL hkU) lk 100000) := runL_sound follows nameOK hkUok 100000
theorem xt_calls (a : ByteArray) (ha : a.size ≤ maxLen) (b : ByteArray) (hb0 : b.size ≤ maxLen) (g : Bool) {W : World} (tab : HasTables tbl W) : Calls Tryz.prog 6 #[.string a, .string b, .bool g] W fun e W' => e = .returned (.bool true) ∧ Stays W W' := by
  obtain ⟨cd, hb⟩ := xt_body
  have hz1 : a.size ≤ 9223372036854775807 := ha
  have hz2 : b.size ≤ 9223372036854775807 := hb0
  have un : ∀ {ρ : Ren} {x : Value}, VR ρ .nil x := fun {ρ x} => by simp only [VR]
  have fin : ∀ (V1 V2 V3 : V) (ρ1 ρ2 : Ren), (∀ i L, ρ1 i = some L → 12 ≤ i ∧ i < 12 + 3) → (∀ i L, ρ2 i = some L → 12 + 3 ≤ i ∧ i < 12 + 3 + 3) → VR ρ1 V1 (.string a) → VR ρ2 V2 (.string b) → (∀ ρ : Ren, VR ρ V3 (.bool g)) → (∀ τ, xtRun τ (.cons V1 (.cons V2 (.cons V3 .nil))) (12 + 6) = true) → Calls Tryz.prog 6 #[.string a, .string b, .bool g] W fun e W' => e = .returned (.bool true) ∧ Stays W W' := fun V1 V2 V3 ρ1 ρ2 hρ1 hρ2 hv1 hv2 hv3 hrun => by
    obtain ⟨j1, j2⟩ := joinT_le (m := 12 + 3) (ρ1 := ρ1) (ρ2 := ρ2) (fun i L h => (hρ1 i L h).2) (fun i L h => (hρ2 i L h).1)
    exact top_run_k nameOK rFT xt_fn hb tblIn (ob := []) (ρa := joinT (12 + 3) ρ1 ρ2) (nx := 12 + 6) (by omega)
      (fun i L h => by
        simp only [joinT] at h
        split at h
        · have := hρ1 i L h; omega
        · have := hρ2 i L h; omega)
      (fun i hi => by rw [show putO [] (.leaf : T O) = .leaf from rfl, gt_leaf] at hi; exact hi.elim)
      (args := .cons V1 (.cons V2 (.cons V3 .nil))) (by simp only [VRs]; exact ⟨_, _, rfl, hv1.mono j1, _, _, rfl, hv2.mono j2, _, _, rfl, hv3 _, rfl⟩) hrun tab
  obtain ⟨t2, ht2, ρ2, hρ2, hv2⟩ := text_case (M := M) (lo := 97) (hi := 122) (B := 40) mOut (12 + 3) b hz2
  rcases text_caseS (M := M) (lo := 97) (hi := 122) (B := 40) mOut 12 a hz1 with ⟨t1, ht1, ρ1, hρ1, hv1⟩ | ⟨k, t, hk, ρ1, hρ1, hv1⟩
  · rcases ht1 with rfl | rfl | rfl
    · exact fin _ .nil .nil ρ1 (fun _ => none) hρ1 (fun i L h => by cases h) hv1 un (fun _ => un) xt_none
    · by_cases h1 : t2 = 1
      · subst h1
        exact fin _ _ (.b g) ρ1 ρ2 hρ1 hρ2 hv1 hv2 (fun _ => VRb _ _) (xt_h g)
      · exact fin _ _ .nil ρ1 ρ2 hρ1 hρ2 hv1 hv2 (fun _ => un) (xt_l1 t2 ht2 h1)
    · exact fin _ _ .nil ρ1 ρ2 hρ1 hρ2 hv1 hv2 (fun _ => un) (xt_l4 t2 ht2)
  · by_cases h0 : b.size = 0
    · have hv0 : VR (fun _ => none) (formV M 97 122 40 (12 + 3) 0) (.string b) := by
        simp only [formV, VR]
        refine ⟨?_, by simp⟩
        congr 1
        apply ByteArray.ext
        apply Array.ext'
        have : b.data.toList = [] := List.eq_nil_of_length_eq_zero h0
        rw [this]
        rfl
      exact fin _ _ .nil ρ1 (fun _ => none) hρ1 (fun i L h => by cases h) hv1 hv0 (fun _ => un) (xt_e t k hk)
    have hpos : 1 ≤ b.size := by omega
    by_cases h2 : b.size ≤ 40
    · obtain ⟨ρ3, hρ3, hv3⟩ := anyS_VR (a := 12 + 3) (lo := 1) (hi := 40) (s := b) hpos h2
      exact fin _ _ .nil ρ1 ρ3 hρ1 hρ3 hv1 hv3 (fun _ => un) (xt_s t k hk)
    · obtain ⟨ρ3, hρ3, hv3⟩ := long_VR (a := 12 + 3) (lo := 41) (hi := 9223372036854775807) (s := b) (by omega) hz2
      exact fin _ _ .nil ρ1 ρ3 hρ1 hρ3 hv1 hv3 (fun _ => un) (xt_y t k hk)
end
end Go.Proofs.YtcmnkndbcecbiaaGreatDoor
