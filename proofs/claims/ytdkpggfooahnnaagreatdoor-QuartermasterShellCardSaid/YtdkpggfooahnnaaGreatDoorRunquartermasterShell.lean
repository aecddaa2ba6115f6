/-
  The runs of quartermasterShell. No condition.
-/
import Derived.Test.YtdkpggfooahnnaaGreatDoorRunquartermasterShell0
import Derived.Test.YtdkpggfooahnnaaGreatDoorRunquartermasterShell1
import Derived.Test.YtdkpggfooahnnaaGreatDoorRunquartermasterShell2
import Derived.Test.YtdkpggfooahnnaaGreatDoorRunquartermasterShell3
import Derived.Test.YtdkpggfooahnnaaGreatDoorRunquartermasterShell4
import Derived.Test.YtdkpggfooahnnaaGreatDoorRunquartermasterShell5
import Derived.Test.YtdkpggfooahnnaaGreatDoorXRowK6
open Go Go.Mx
namespace Go.Proofs.YtdkpggfooahnnaaGreatDoor
set_option maxRecDepth 1000000
noncomputable section
theorem xq_fn : Tryz.prog.funcs[5]? = some Tryz.f5 := by kernel_rfl
theorem xq_body : ∃ c, Tryz.f5.body = some c := ⟨_, rfl⟩
theorem xq_h0 : ∀ t1 t2 : Nat, t1 < 2 → t2 < 2 → ∀ τ, xqRun hkS0 τ (formV M 97 122 40 12 t1) (formV M 97 122 40 (12 + 3) t2) (.i .i64 (Int.ofNat 0)) = true
  | 0, 0, _, _ => xq_h00_0
  | 0, 1, _, _ => xq_h01_0
  | 1, 0, _, _ => xq_h10_0
  | 1, 1, _, _ => xq_h11_0
  | t1 + 2, _, h, _ => absurd h (by omega)
  | _, t2 + 2, _, h => absurd h (by omega)
theorem rQ0 : CKok Tryz.prog 12 (runL Tryz.prog 12 (hkL hkS0) lk 100000) := runL_sound follows nameOK hkS0ok 100000
theorem xq_h1 : ∀ t1 t2 : Nat, t1 < 2 → t2 < 2 → ∀ τ, xqRun hkS1 τ (formV M 97 122 40 12 t1) (formV M 97 122 40 (12 + 3) t2) (.o 2 (t1V 18 49 57 0 48) 3 0 0) = true
  | 0, 0, _, _ => xq_h00_1
  | 0, 1, _, _ => xq_h01_1
  | 1, 0, _, _ => xq_h10_1
  | 1, 1, _, _ => xq_h11_1
  | t1 + 2, _, h, _ => absurd h (by omega)
  | _, t2 + 2, _, h => absurd h (by omega)
theorem rQ1 : CKok Tryz.prog 12 (runL Tryz.prog 12 (hkL hkS1) lk 100000) := runL_sound follows nameOK hkS1ok 100000
theorem xq_h2 : ∀ t1 t2 : Nat, t1 < 2 → t2 < 2 → ∀ τ, xqRun hkS2 τ (formV M 97 122 40 12 t1) (formV M 97 122 40 (12 + 3) t2) (.o 2 (t2V 18 49 57 19 48 57 0 528) 3 0 0) = true
  | 0, 0, _, _ => xq_h00_2
  | 0, 1, _, _ => xq_h01_2
  | 1, 0, _, _ => xq_h10_2
  | 1, 1, _, _ => xq_h11_2
  | t1 + 2, _, h, _ => absurd h (by omega)
  | _, t2 + 2, _, h => absurd h (by omega)
theorem rQ2 : CKok Tryz.prog 12 (runL Tryz.prog 12 (hkL hkS2) lk 100000) := runL_sound follows nameOK hkS2ok 100000
theorem xq_h3 : ∀ t1 t2 : Nat, t1 < 2 → t2 < 2 → ∀ τ, xqRun hkS3 τ (formV M 97 122 40 12 t1) (formV M 97 122 40 (12 + 3) t2) (.o 2 (t2V 18 48 57 19 48 57 0 428) 3 0 0) = true
  | 0, 0, _, _ => xq_h00_3
  | 0, 1, _, _ => xq_h01_3
  | 1, 0, _, _ => xq_h10_3
  | 1, 1, _, _ => xq_h11_3
  | t1 + 2, _, h, _ => absurd h (by omega)
  | _, t2 + 2, _, h => absurd h (by omega)
theorem rQ3 : CKok Tryz.prog 12 (runL Tryz.prog 12 (hkL hkS3) lk 100000) := runL_sound follows nameOK hkS3ok 100000
theorem xq_h4 : ∀ t1 t2 : Nat, t1 < 2 → t2 < 2 → ∀ τ, xqRun hkS4 τ (formV M 97 122 40 12 t1) (formV M 97 122 40 (12 + 3) t2) (.o 2 (t2V 18 48 52 19 48 57 0 328) 3 0 0) = true
  | 0, 0, _, _ => xq_h00_4
  | 0, 1, _, _ => xq_h01_4
  | 1, 0, _, _ => xq_h10_4
  | 1, 1, _, _ => xq_h11_4
  | t1 + 2, _, h, _ => absurd h (by omega)
  | _, t2 + 2, _, h => absurd h (by omega)
theorem rQ4 : CKok Tryz.prog 12 (runL Tryz.prog 12 (hkL hkS4) lk 100000) := runL_sound follows nameOK hkS4ok 100000
theorem xq_h5 : ∀ t1 t2 : Nat, t1 < 2 → t2 < 2 → ∀ τ, xqRun hkS5 τ (formV M 97 122 40 12 t1) (formV M 97 122 40 (12 + 3) t2) (.o 2 (t1V 18 48 53 202 0) 3 0 0) = true
  | 0, 0, _, _ => xq_h00_5
  | 0, 1, _, _ => xq_h01_5
  | 1, 0, _, _ => xq_h10_5
  | 1, 1, _, _ => xq_h11_5
  | t1 + 2, _, h, _ => absurd h (by omega)
  | _, t2 + 2, _, h => absurd h (by omega)
theorem rQ5 : CKok Tryz.prog 12 (runL Tryz.prog 12 (hkL hkS5) lk 100000) := runL_sound follows nameOK hkS5ok 100000
theorem xq_s : ∀ (t : Bool) (k : Nat), k < 40 → ∀ τ, xqRun hkS0 τ (formS M 97 122 40 12 k t) (anyS (12 + 3) 0 40) (.x 18 .i64 0 255) = true
  | true, k, h, τ => allN_spec (xq_st τ) k h
  | false, k, h, τ => allN_spec (xq_sf τ) k h
theorem xq_t : ∀ (t1 : Nat) (t : Bool) (k : Nat), t1 < 2 → k < 40 → ∀ τ, xqRun hkS0 τ (formV M 97 122 40 12 t1) (formS M 97 122 40 (12 + 3) k t) (.x 18 .i64 0 255) = true
  | 0, true, k, _, h, τ => allN_spec (xq_t0t τ) k h
  | 0, false, k, _, h, τ => allN_spec (xq_t0f τ) k h
  | 1, true, k, _, h, τ => allN_spec (xq_t1t τ) k h
  | 1, false, k, _, h, τ => allN_spec (xq_t1f τ) k h
  | t1 + 2, _, _, h, _, _ => absurd h (by omega)
theorem xq_status (s : Int) : (∃ m, s = Int.negSucc m) ∨ (∃ m, s = Int.ofNat (m + 256)) ∨ ∃ (k : Nat) (T : V) (d1 d2 : Nat), ((k = 0 ∧ T = (.i .i64 (Int.ofNat 0))) ∨ (k = 1 ∧ T = (.o 2 (t1V 18 49 57 0 48) 3 0 0)) ∨ (k = 2 ∧ T = (.o 2 (t2V 18 49 57 19 48 57 0 528) 3 0 0)) ∨ (k = 3 ∧ T = (.o 2 (t2V 18 48 57 19 48 57 0 428) 3 0 0)) ∨ (k = 4 ∧ T = (.o 2 (t2V 18 48 52 19 48 57 0 328) 3 0 0)) ∨ (k = 5 ∧ T = (.o 2 (t1V 18 48 53 202 0) 3 0 0))) ∧
    (∀ ρ : Ren, (∃ L, ρ 18 = some L ∧ L.base = d1) → (∃ L, ρ 19 = some L ∧ L.base = d2) → VR ρ T (.int .i64 s)) ∧ ∃ u : Nat, u ≤ 255 ∧ s = (u : Int) := by
  cases s with
  | negSucc m => exact .inl ⟨m, rfl⟩
  | ofNat u =>
    by_cases g : 256 ≤ u
    · exact .inr (.inl ⟨u - 256, by rw [Nat.sub_add_cancel g]⟩)
    have s1 : Int.subNatNat 0 48 = -48 := rfl
    have s2 : Int.subNatNat 0 528 = -528 := rfl
    have s3 : Int.subNatNat 0 428 = -428 := rfl
    have s4 : Int.subNatNat 0 328 = -328 := rfl
    have s5 : Int.subNatNat 202 0 = 202 := rfl
    refine .inr (.inr ?_)
    have hu : u ≤ 255 := by omega
    have hs : Int.ofNat u = (u : Int) := rfl
    by_cases g0 : u = 0
    · subst g0
      exact ⟨0, _, 0, 0, .inl ⟨rfl, rfl⟩, fun ρ _ _ => VRi _ _ _, 0, hu, rfl⟩
    by_cases g1 : u < 10
    · exact ⟨1, _, 48 + u, 0, .inr (.inl ⟨rfl, rfl⟩), fun ρ h1 _ => VR_t1 h1 ⟨by omega, by omega⟩ (by rw [s1]; omega), u, hu, rfl⟩
    by_cases g2 : u < 100
    · exact ⟨2, _, 48 + u / 10, 48 + u % 10, .inr (.inr (.inl ⟨rfl, rfl⟩)), fun ρ h1 h2 => VR_t2 h1 ⟨by omega, by omega⟩ h2 ⟨by omega, by omega⟩ (by rw [s2]; omega), u, hu, rfl⟩
    by_cases g3 : u < 200
    · exact ⟨3, _, 48 + u / 10 % 10, 48 + u % 10, .inr (.inr (.inr (.inl ⟨rfl, rfl⟩))), fun ρ h1 h2 => VR_t2 h1 ⟨by omega, by omega⟩ h2 ⟨by omega, by omega⟩ (by rw [s3]; omega), u, hu, rfl⟩
    by_cases g4 : u < 250
    · exact ⟨4, _, 48 + u / 10 % 10, 48 + u % 10, .inr (.inr (.inr (.inr (.inl ⟨rfl, rfl⟩)))), fun ρ h1 h2 => VR_t2 h1 ⟨by omega, by omega⟩ h2 ⟨by omega, by omega⟩ (by rw [s4]; omega), u, hu, rfl⟩
    · exact ⟨5, _, 48 + u % 10, 0, .inr (.inr (.inr (.inr (.inr ⟨rfl, rfl⟩)))), fun ρ h1 _ => VR_t1 h1 ⟨by omega, by omega⟩ (by rw [s5]; omega), u, hu, rfl⟩
/-- two texts' renamings and two numbers -/
def join3 (ρ1 ρ2 : Ren) (d1 d2 : Nat) : Ren := fun i => if i < 12 + 3 then ρ1 i else if i < 18 then ρ2 i else if i = 18 then some ⟨0, d1, 0⟩ else if i = 19 then some ⟨0, d2, 0⟩ else none
theorem xq_calls (a : ByteArray) (ha : a.size ≤ maxLen) (b : ByteArray) (hb0 : b.size ≤ maxLen) (n : Int) {W : World} (tab : HasTables tbl W) : Calls Tryz.prog 5 #[.string a, .string b, .int .i64 n] W fun e W' => e = .returned (.bool true) ∧ Stays W W' := by
  obtain ⟨cd, hb⟩ := xq_body
  have hz1 : a.size ≤ 9223372036854775807 := ha
  have hz2 : b.size ≤ 9223372036854775807 := hb0
  have un : ∀ {ρ : Ren} {x : Value}, VR ρ .nil x := fun {ρ x} => by simp only [VR]
  have fin : ∀ {hk : List (Nat × HookF)}, CKok Tryz.prog 12 (runL Tryz.prog 12 (hkL hk) lk 100000) → ∀ (V1 V2 V3 : V) (ρ1 ρ2 : Ren) (d1 d2 : Nat), (∀ i L, ρ1 i = some L → 12 ≤ i ∧ i < 12 + 3) → (∀ i L, ρ2 i = some L → 12 + 3 ≤ i ∧ i < 12 + 3 + 3) → VR ρ1 V1 (.string a) → VR ρ2 V2 (.string b) →
      (∀ ρ : Ren, (∃ L, ρ 18 = some L ∧ L.base = d1) → (∃ L, ρ 19 = some L ∧ L.base = d2) → VR ρ V3 (.int .i64 n)) → (∀ τ, xqRun hk τ V1 V2 V3 = true) → Calls Tryz.prog 5 #[.string a, .string b, .int .i64 n] W fun e W' => e = .returned (.bool true) ∧ Stays W W' := fun {hk} hR V1 V2 V3 ρ1 ρ2 d1 d2 hρ1 hρ2 hv1 hv2 hv3 hrun => by
    have j1 : Ren.le ρ1 (join3 ρ1 ρ2 d1 d2) := fun i L h => by
      have := hρ1 i L h
      simp only [join3, this.2, if_true]
      exact h
    have j2 : Ren.le ρ2 (join3 ρ1 ρ2 d1 d2) := fun i L h => by
      have := hρ2 i L h
      simp only [join3]
      rw [if_neg (by omega), if_pos (by omega)]
      exact h
    exact top_run_k nameOK hR xq_fn hb tblIn (ob := []) (ρa := join3 ρ1 ρ2 d1 d2) (nx := 20) (by omega)
      (fun i L h => by
        simp only [join3] at h
        split at h
        · have := hρ1 i L h; omega
        · split at h
          · have := hρ2 i L h; omega
          · split at h
            · omega
            · split at h
              · omega
              · cases h)
      (fun i hi => by rw [show putO [] (.leaf : T O) = .leaf from rfl, gt_leaf] at hi; exact hi.elim)
      (args := .cons V1 (.cons V2 (.cons V3 .nil))) (by simp only [VRs]; exact ⟨_, _, rfl, hv1.mono j1, _, _, rfl, hv2.mono j2, _, _, rfl, hv3 _ ⟨⟨0, d1, 0⟩, by simp [join3], rfl⟩ ⟨⟨0, d2, 0⟩, by simp [join3], rfl⟩, rfl⟩) hrun tab
  have noneR : ∀ i L, ((fun _ => none) : Ren) i = some L → 12 + 3 ≤ i ∧ i < 12 + 3 + 3 := fun i L h => by cases h
  by_cases ca : a.size ≤ 40
  rotate_left
  · obtain ⟨ρ1, hρ1, hv1⟩ := long_VR (a := 12) (lo := 41) (hi := 9223372036854775807) (s := a) (by omega) hz1
    exact fin rQ0 (formV M 97 122 40 12 4) .nil .nil ρ1 (fun _ => none) 0 0 hρ1 noneR hv1 un (fun _ _ _ => un) xq_a4
  obtain ⟨ρA, hρA, hvA⟩ := anyS_VR (a := 12) (lo := 0) (hi := 40) (s := a) (Nat.zero_le _) ca
  by_cases cb : b.size ≤ 40
  rotate_left
  · obtain ⟨ρ2, hρ2, hv2⟩ := long_VR (a := 12 + 3) (lo := 41) (hi := 9223372036854775807) (s := b) (by omega) hz2
    exact fin rQ0 _ _ .nil ρA ρ2 0 0 hρA hρ2 hvA hv2 (fun _ _ _ => un) xq_b4
  obtain ⟨ρB, hρB, hvB⟩ := anyS_VR (a := 12 + 3) (lo := 0) (hi := 40) (s := b) (Nat.zero_le _) cb
  rcases xq_status n with ⟨m, rfl⟩ | ⟨m, rfl⟩ | ⟨k, T, d1, d2, hT, hv, u, hu, rfl⟩
  · exact fin rQ0 _ _ _ ρA ρB 0 0 hρA hρB hvA hvB (fun _ _ _ => VRi _ _ _) (xq_ng m)
  · exact fin rQ0 _ _ _ ρA ρB 0 0 hρA hρB hvA hvB (fun _ _ _ => VRi _ _ _) (xq_bg m)
  have hx : ∀ ρ : Ren, (∃ L, ρ 18 = some L ∧ L.base = u) → (∃ L, ρ 19 = some L ∧ L.base = 0) → VR ρ (.x 18 .i64 0 255) (.int .i64 (u : Int)) := fun ρ h1 _ => VR_xn h1 ⟨Nat.zero_le _, hu⟩
  rcases text_caseS (M := M) (lo := 97) (hi := 122) (B := 40) mOut 12 a hz1 with ⟨t1, ht1, ρ1, hρ1, hv1⟩ | ⟨q, t, hq, ρ1, hρ1, hv1⟩
  rotate_left
  · exact fin rQ0 _ _ _ ρ1 ρB u 0 hρ1 hρB hv1 hvB hx (xq_s t q hq)
  by_cases h4 : t1 = 4
  · subst h4
    exact fin rQ0 _ .nil .nil ρ1 (fun _ => none) 0 0 hρ1 noneR hv1 un (fun _ _ _ => un) xq_a4
  have ht : t1 < 2 := by omega
  rcases text_caseS (M := M) (lo := 97) (hi := 122) (B := 40) mOut (12 + 3) b hz2 with ⟨t2, ht2, ρ2, hρ2, hv2⟩ | ⟨q, t, hq, ρ2, hρ2, hv2⟩
  rotate_left
  · exact fin rQ0 _ _ _ ρ1 ρ2 u 0 hρ1 hρ2 hv1 hv2 hx (xq_t t1 t q ht hq)
  by_cases h5 : t2 = 4
  · subst h5
    exact fin rQ0 _ _ .nil ρA ρ2 0 0 hρA hρ2 hvA hv2 (fun _ _ _ => un) xq_b4
  have ht' : t2 < 2 := by omega
  rcases hT with ⟨_, rfl⟩ | ⟨_, rfl⟩ | ⟨_, rfl⟩ | ⟨_, rfl⟩ | ⟨_, rfl⟩ | ⟨_, rfl⟩
  · exact fin rQ0 _ _ _ ρ1 ρ2 d1 d2 hρ1 hρ2 hv1 hv2 hv (xq_h0 t1 t2 ht ht')
  · exact fin rQ1 _ _ _ ρ1 ρ2 d1 d2 hρ1 hρ2 hv1 hv2 hv (xq_h1 t1 t2 ht ht')
  · exact fin rQ2 _ _ _ ρ1 ρ2 d1 d2 hρ1 hρ2 hv1 hv2 hv (xq_h2 t1 t2 ht ht')
  · exact fin rQ3 _ _ _ ρ1 ρ2 d1 d2 hρ1 hρ2 hv1 hv2 hv (xq_h3 t1 t2 ht ht')
  · exact fin rQ4 _ _ _ ρ1 ρ2 d1 d2 hρ1 hρ2 hv1 hv2 hv (xq_h4 t1 t2 ht ht')
  · exact fin rQ5 _ _ _ ρ1 ρ2 d1 d2 hρ1 hρ2 hv1 hv2 hv (xq_h5 t1 t2 ht ht')
end
end Go.Proofs.YtdkpggfooahnnaaGreatDoor
