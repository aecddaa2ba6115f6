/-
  The runs of checkNumbers: at every input. No condition.
-/
import Derived.Test.YteoeiinpiihpoaaGreatDoorRuncheckNumbers0
open Go Go.Mx
namespace Go.Proofs.YteoeiinpiihpoaaGreatDoor
set_option maxRecDepth 1000000
noncomputable section
theorem cn_fn : Tryz.prog.funcs[3]? = some Tryz.f3 := by kernel_rfl
theorem cn_body : ∃ c, Tryz.f3.body = some c := ⟨_, rfl⟩
theorem cn_ll : ∀ k, k < 6 → ∀ τ : Nat → Nat, cnRun τ (rngV 8 2000000000000000000 18446744073709551614) (rngV 9 2000000000000000000 18446744073709551614) (.i .i64 (Int.ofNat k)) 10 = true
  | 0, _ => cn_ll0
  | 1, _ => cn_ll1
  | 2, _ => cn_ll2
  | 3, _ => cn_ll3
  | 4, _ => cn_ll4
  | 5, _ => cn_ll5
  | _ + 6, h => absurd h (by omega)
theorem cn_ln : ∀ k, k < 6 → ∀ τ : Nat → Nat, cnRun τ (rngV 8 2000000000000000000 18446744073709551614) (rngV 9 18446744073709551615 1999999999999999999) (.i .i64 (Int.ofNat k)) 10 = true
  | 0, _ => cn_ln0
  | 1, _ => cn_ln1
  | 2, _ => cn_ln2
  | 3, _ => cn_ln3
  | 4, _ => cn_ln4
  | 5, _ => cn_ln5
  | _ + 6, h => absurd h (by omega)
theorem cn_lm : ∀ k, k < 6 → ∀ τ : Nat → Nat, cnRun τ (rngV 8 2000000000000000000 18446744073709551614) (rngV 9 1999999999999999997 1999999999999999998) (.i .i64 (Int.ofNat k)) 10 = true
  | 0, _ => cn_lm0
  | 1, _ => cn_lm1
  | 2, _ => cn_lm2
  | 3, _ => cn_lm3
  | 4, _ => cn_lm4
  | 5, _ => cn_lm5
  | _ + 6, h => absurd h (by omega)
theorem cn_nl : ∀ k, k < 6 → ∀ τ : Nat → Nat, cnRun τ (rngV 8 18446744073709551615 1999999999999999999) (rngV 9 2000000000000000000 18446744073709551614) (.i .i64 (Int.ofNat k)) 10 = true
  | 0, _ => cn_nl0
  | 1, _ => cn_nl1
  | 2, _ => cn_nl2
  | 3, _ => cn_nl3
  | 4, _ => cn_nl4
  | 5, _ => cn_nl5
  | _ + 6, h => absurd h (by omega)
theorem cn_nn : ∀ k, k < 6 → ∀ τ : Nat → Nat, cnRun τ (rngV 8 18446744073709551615 1999999999999999999) (rngV 9 18446744073709551615 1999999999999999999) (.i .i64 (Int.ofNat k)) 10 = true
  | 0, _ => cn_nn0
  | 1, _ => cn_nn1
  | 2, _ => cn_nn2
  | 3, _ => cn_nn3
  | 4, _ => cn_nn4
  | 5, _ => cn_nn5
  | _ + 6, h => absurd h (by omega)
theorem cn_nm : ∀ k, k < 6 → ∀ τ : Nat → Nat, cnRun τ (rngV 8 18446744073709551615 1999999999999999999) (rngV 9 1999999999999999997 1999999999999999998) (.i .i64 (Int.ofNat k)) 10 = true
  | 0, _ => cn_nm0
  | 1, _ => cn_nm1
  | 2, _ => cn_nm2
  | 3, _ => cn_nm3
  | 4, _ => cn_nm4
  | 5, _ => cn_nm5
  | _ + 6, h => absurd h (by omega)
theorem cn_ml : ∀ k, k < 6 → ∀ τ : Nat → Nat, cnRun τ (rngV 8 1999999999999999997 1999999999999999998) (rngV 9 2000000000000000000 18446744073709551614) (.i .i64 (Int.ofNat k)) 10 = true
  | 0, _ => cn_ml0
  | 1, _ => cn_ml1
  | 2, _ => cn_ml2
  | 3, _ => cn_ml3
  | 4, _ => cn_ml4
  | 5, _ => cn_ml5
  | _ + 6, h => absurd h (by omega)
theorem cn_mn : ∀ k, k < 6 → ∀ τ : Nat → Nat, cnRun τ (rngV 8 1999999999999999997 1999999999999999998) (rngV 9 18446744073709551615 1999999999999999999) (.i .i64 (Int.ofNat k)) 10 = true
  | 0, _ => cn_mn0
  | 1, _ => cn_mn1
  | 2, _ => cn_mn2
  | 3, _ => cn_mn3
  | 4, _ => cn_mn4
  | 5, _ => cn_mn5
  | _ + 6, h => absurd h (by omega)
theorem cn_mm : ∀ k, k < 6 → ∀ τ : Nat → Nat, cnRun τ (rngV 8 1999999999999999997 1999999999999999998) (rngV 9 1999999999999999997 1999999999999999998) (.i .i64 (Int.ofNat k)) 10 = true
  | 0, _ => cn_mm0
  | 1, _ => cn_mm1
  | 2, _ => cn_mm2
  | 3, _ => cn_mm3
  | 4, _ => cn_mm4
  | 5, _ => cn_mm5
  | _ + 6, h => absurd h (by omega)
theorem cn_calls (a b c : Int) (ha : (Lit.int .i64 a).wf = true) (hb : (Lit.int .i64 b).wf = true) {W : World} (tab : HasTables tbl W) : Calls Tryz.prog 3 #[.int .i64 a, .int .i64 b, .int .i64 c] W fun e W' => e = .returned (.bool true) ∧ Stays W W' := by
  obtain ⟨cd, hbd⟩ := cn_body
  obtain ⟨ha1, ha2⟩ : -9223372036854775808 ≤ a ∧ a ≤ 9223372036854775807 := by
    simp only [Lit.wf, Bool.and_eq_true, decide_eq_true_eq] at ha
    exact ha
  obtain ⟨hb1, hb2⟩ : -9223372036854775808 ≤ b ∧ b ≤ 9223372036854775807 := by
    simp only [Lit.wf, Bool.and_eq_true, decide_eq_true_eq] at hb
    exact hb
  have go : ∀ (vals : List Nat) (A B C : V), VR (atomsR 8 vals) A (.int .i64 a) → VR (atomsR 8 vals) B (.int .i64 b) → VR (atomsR 8 vals) C (.int .i64 c) → (∀ τ, cnRun τ A B C (8 + vals.length) = true) → Calls Tryz.prog 3 #[.int .i64 a, .int .i64 b, .int .i64 c] W fun e W' => e = .returned (.bool true) ∧ Stays W W' := fun vals A B C h1 h2 h3 hrun =>
    top_run_x follows nameOK hkCok cn_fn hbd tblIn (vals := vals) rfl (args := .cons A (.cons B (.cons C .nil))) ⟨_, _, rfl, h1, _, _, rfl, h2, _, _, rfl, h3, rfl⟩ hrun tab
  have un : ∀ {ρ : Ren} {x : Value}, VR ρ .nil x := fun {ρ x} => by simp only [VR]
  cases c with
  | negSucc m => exact go [] _ _ _ un un (VRi _ _ _) (cn_on m)
  | ofNat k =>
    by_cases hk : k < 6
    rotate_left
    · obtain ⟨m, rfl⟩ : ∃ m, k = m + 6 := ⟨k - 6, by omega⟩
      exact go [] _ _ _ un un (VRi _ _ _) (cn_ob m)
    have rv : ∀ {lo hi : Nat} {j : Nat} {n : Int} (l h : Int), unzz lo = l → unzz hi = h → l ≤ n ∧ n ≤ h → [zz a, zz b][j]? = some (zz n) → VR (atomsR 8 [zz a, zz b]) (rngV (8 + j) lo hi) (.int .i64 n) := fun l h e1 e2 hn hj => VR_rng (atomsR_at hj) (by rw [e1]; exact hn.1) (by rw [e2]; exact hn.2)
    rcases (show (999999999999999999 < a) ∨ (a < -999999999999999999) ∨ (-999999999999999999 ≤ a ∧ a ≤ 999999999999999999) by omega) with h | h | h <;> rcases (show (999999999999999999 < b) ∨ (b < -999999999999999999) ∨ (-999999999999999999 ≤ b ∧ b ≤ 999999999999999999) by omega) with g | g | g
    · exact go [zz a, zz b] _ _ _ (rv (j := 0) (1000000000000000000) (9223372036854775807) (by decide) (by decide) (by omega) rfl) (rv (j := 1) (1000000000000000000) (9223372036854775807) (by decide) (by decide) (by omega) rfl) (VRi _ _ _) (cn_ll k hk)
    · exact go [zz a, zz b] _ _ _ (rv (j := 0) (1000000000000000000) (9223372036854775807) (by decide) (by decide) (by omega) rfl) (rv (j := 1) (-9223372036854775808) (-1000000000000000000) (by decide) (by decide) (by omega) rfl) (VRi _ _ _) (cn_ln k hk)
    · exact go [zz a, zz b] _ _ _ (rv (j := 0) (1000000000000000000) (9223372036854775807) (by decide) (by decide) (by omega) rfl) (rv (j := 1) (-999999999999999999) (999999999999999999) (by decide) (by decide) (by omega) rfl) (VRi _ _ _) (cn_lm k hk)
    · exact go [zz a, zz b] _ _ _ (rv (j := 0) (-9223372036854775808) (-1000000000000000000) (by decide) (by decide) (by omega) rfl) (rv (j := 1) (1000000000000000000) (9223372036854775807) (by decide) (by decide) (by omega) rfl) (VRi _ _ _) (cn_nl k hk)
    · exact go [zz a, zz b] _ _ _ (rv (j := 0) (-9223372036854775808) (-1000000000000000000) (by decide) (by decide) (by omega) rfl) (rv (j := 1) (-9223372036854775808) (-1000000000000000000) (by decide) (by decide) (by omega) rfl) (VRi _ _ _) (cn_nn k hk)
    · exact go [zz a, zz b] _ _ _ (rv (j := 0) (-9223372036854775808) (-1000000000000000000) (by decide) (by decide) (by omega) rfl) (rv (j := 1) (-999999999999999999) (999999999999999999) (by decide) (by decide) (by omega) rfl) (VRi _ _ _) (cn_nm k hk)
    · exact go [zz a, zz b] _ _ _ (rv (j := 0) (-999999999999999999) (999999999999999999) (by decide) (by decide) (by omega) rfl) (rv (j := 1) (1000000000000000000) (9223372036854775807) (by decide) (by decide) (by omega) rfl) (VRi _ _ _) (cn_ml k hk)
    · exact go [zz a, zz b] _ _ _ (rv (j := 0) (-999999999999999999) (999999999999999999) (by decide) (by decide) (by omega) rfl) (rv (j := 1) (-9223372036854775808) (-1000000000000000000) (by decide) (by decide) (by omega) rfl) (VRi _ _ _) (cn_mn k hk)
    · exact go [zz a, zz b] _ _ _ (rv (j := 0) (-999999999999999999) (999999999999999999) (by decide) (by decide) (by omega) rfl) (rv (j := 1) (-999999999999999999) (999999999999999999) (by decide) (by decide) (by omega) rfl) (VRi _ _ _) (cn_mm k hk)
end
end Go.Proofs.YteoeiinpiihpoaaGreatDoor
