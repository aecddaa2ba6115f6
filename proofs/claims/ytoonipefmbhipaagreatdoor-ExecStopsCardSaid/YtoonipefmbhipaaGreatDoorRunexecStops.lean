/-
  The runs of execStops: at every input. No condition.
-/
import Derived.Test.YtoonipefmbhipaaGreatDoorRunexecStops0
import Derived.Test.YtoonipefmbhipaaGreatDoorRunexecStops1
import Derived.Test.YtoonipefmbhipaaGreatDoorRunexecStops2
import Derived.Test.YtoonipefmbhipaaGreatDoorRunexecStops3
import Derived.Test.YtoonipefmbhipaaGreatDoorRunexecStops4
import Derived.Test.YtoonipefmbhipaaGreatDoorRunexecStops5
import Derived.Test.YtoonipefmbhipaaGreatDoorRunexecStops6
import Derived.Test.YtoonipefmbhipaaGreatDoorRunexecStops7
import Derived.Test.YtoonipefmbhipaaGreatDoorRunexecStops8
import Derived.Test.YtoonipefmbhipaaGreatDoorRunexecStops9
import Derived.Test.YtoonipefmbhipaaGreatDoorRunexecStops10
import Derived.Test.YtoonipefmbhipaaGreatDoorRunexecStops11
import Derived.Test.YtoonipefmbhipaaGreatDoorRunexecStops12
open Go Go.Mx
namespace Go.Proofs.YtoonipefmbhipaaGreatDoor
set_option maxRecDepth 1000000
noncomputable section
theorem xs_fn : Tryz.prog.funcs[3]? = some Tryz.f3 := by kernel_rfl
theorem xs_body : ∃ c, Tryz.f3.body = some c := ⟨_, rfl⟩
theorem xs_r1 : ∀ n, n < 12 → ∀ τ : Nat → Nat, xsRun hkC1 τ (.i .i64 (Int.ofNat n)) (.o 2 (t1V 12 49 57 0 48) 3 0 0) 13 = true
  | 0, _ => xs_r1_0
  | 1, _ => xs_r1_1
  | 2, _ => xs_r1_2
  | 3, _ => xs_r1_3
  | 4, _ => xs_r1_4
  | 5, _ => xs_r1_5
  | 6, _ => xs_r1_6
  | 7, _ => xs_r1_7
  | 8, _ => xs_r1_8
  | 9, _ => xs_r1_9
  | 10, _ => xs_r1_10
  | 11, _ => xs_r1_11
  | _ + 12, h => absurd h (by omega)
theorem xs_r2 : ∀ n, n < 12 → ∀ τ : Nat → Nat, xsRun hkC2 τ (.i .i64 (Int.ofNat n)) (.o 2 (t2V 12 49 57 13 48 57 0 528) 3 0 0) 14 = true
  | 0, _ => xs_r2_0
  | 1, _ => xs_r2_1
  | 2, _ => xs_r2_2
  | 3, _ => xs_r2_3
  | 4, _ => xs_r2_4
  | 5, _ => xs_r2_5
  | 6, _ => xs_r2_6
  | 7, _ => xs_r2_7
  | 8, _ => xs_r2_8
  | 9, _ => xs_r2_9
  | 10, _ => xs_r2_10
  | 11, _ => xs_r2_11
  | _ + 12, h => absurd h (by omega)
theorem xs_r3 : ∀ n, n < 12 → ∀ τ : Nat → Nat, xsRun hkC3 τ (.i .i64 (Int.ofNat n)) (.o 2 (t2V 12 48 57 13 48 57 0 428) 3 0 0) 14 = true
  | 0, _ => xs_r3_0
  | 1, _ => xs_r3_1
  | 2, _ => xs_r3_2
  | 3, _ => xs_r3_3
  | 4, _ => xs_r3_4
  | 5, _ => xs_r3_5
  | 6, _ => xs_r3_6
  | 7, _ => xs_r3_7
  | 8, _ => xs_r3_8
  | 9, _ => xs_r3_9
  | 10, _ => xs_r3_10
  | 11, _ => xs_r3_11
  | _ + 12, h => absurd h (by omega)
theorem xs_r4 : ∀ n, n < 12 → ∀ τ : Nat → Nat, xsRun hkC4 τ (.i .i64 (Int.ofNat n)) (.o 2 (t2V 12 48 52 13 48 57 0 328) 3 0 0) 14 = true
  | 0, _ => xs_r4_0
  | 1, _ => xs_r4_1
  | 2, _ => xs_r4_2
  | 3, _ => xs_r4_3
  | 4, _ => xs_r4_4
  | 5, _ => xs_r4_5
  | 6, _ => xs_r4_6
  | 7, _ => xs_r4_7
  | 8, _ => xs_r4_8
  | 9, _ => xs_r4_9
  | 10, _ => xs_r4_10
  | 11, _ => xs_r4_11
  | _ + 12, h => absurd h (by omega)
theorem xs_r5 : ∀ n, n < 12 → ∀ τ : Nat → Nat, xsRun hkC5 τ (.i .i64 (Int.ofNat n)) (.o 2 (t1V 12 48 53 202 0) 3 0 0) 13 = true
  | 0, _ => xs_r5_0
  | 1, _ => xs_r5_1
  | 2, _ => xs_r5_2
  | 3, _ => xs_r5_3
  | 4, _ => xs_r5_4
  | 5, _ => xs_r5_5
  | 6, _ => xs_r5_6
  | 7, _ => xs_r5_7
  | 8, _ => xs_r5_8
  | 9, _ => xs_r5_9
  | 10, _ => xs_r5_10
  | 11, _ => xs_r5_11
  | _ + 12, h => absurd h (by omega)
theorem xs_calls (a s : Int) (hs0 : (Lit.int .i64 s).wf = true) {W : World} (tab : HasTables tbl W) : Calls Tryz.prog 3 #[.int .i64 a, .int .i64 s] W fun e W' => e = .returned (.bool true) ∧ Stays W W' := by
  obtain ⟨cd, hb⟩ := xs_body
  obtain ⟨hs1, hs2⟩ : -9223372036854775808 ≤ s ∧ s ≤ 9223372036854775807 := by
    simp only [Lit.wf, Bool.and_eq_true, decide_eq_true_eq] at hs0
    exact hs0
  have go : ∀ {hk : List (Nat × HookF)}, HKok Tryz.prog 12 (hkL hk) → ∀ (vals : List Nat) (A B : V), VR (atomsR 12 vals) A (.int .i64 a) → VR (atomsR 12 vals) B (.int .i64 s) → (∀ τ, xsRun hk τ A B (12 + vals.length) = true) → Calls Tryz.prog 3 #[.int .i64 a, .int .i64 s] W fun e W' => e = .returned (.bool true) ∧ Stays W W' := fun {hk} hok vals A B h1 h2 hrun =>
    top_run_x follows nameOK hok xs_fn hb tblIn (vals := vals) rfl (args := .cons A (.cons B .nil)) ⟨_, _, rfl, h1, _, _, rfl, h2, rfl⟩ hrun tab
  have un : ∀ {ρ : Ren} {x : Value}, VR ρ .nil x := fun {ρ x} => by simp only [VR]
  have rv : ∀ {lo hi : Nat} (l h : Int), unzz lo = l → unzz hi = h → l ≤ s ∧ s ≤ h → VR (atomsR 12 [zz s]) (rngV 12 lo hi) (.int .i64 s) := fun l h e1 e2 hn => VR_rng (atomsR_at (j := 0) rfl) (by rw [e1]; exact hn.1) (by rw [e2]; exact hn.2)
  by_cases h1 : s ≤ 0
  · exact go hkC0ok [zz s] _ _ un (rv (-9223372036854775808) 0 (by decide) (by decide) ⟨hs1, h1⟩) xs_lo
  by_cases h2 : 256 ≤ s
  · exact go hkC0ok [zz s] _ _ un (rv 256 9223372036854775807 (by decide) (by decide) ⟨h2, hs2⟩) xs_hi
  cases a with
  | negSucc m => exact go hkC0ok [zz s] _ _ (VRi _ _ _) (rv 1 255 (by decide) (by decide) ⟨by omega, by omega⟩) (xs_wn m)
  | ofNat k =>
    by_cases hk : k < 12
    rotate_left
    · obtain ⟨m, rfl⟩ : ∃ m, k = m + 12 := ⟨k - 12, by omega⟩
      exact go hkC0ok [zz s] _ _ (VRi _ _ _) (rv 1 255 (by decide) (by decide) ⟨by omega, by omega⟩) (xs_wb m)
    obtain ⟨u, rfl⟩ := Int.eq_ofNat_of_zero_le (show 0 ≤ s by omega)
    have s1 : Int.subNatNat 0 48 = -48 := rfl
    have s2 : Int.subNatNat 0 528 = -528 := rfl
    have s3 : Int.subNatNat 0 428 = -428 := rfl
    have s4 : Int.subNatNat 0 328 = -328 := rfl
    have s5 : Int.subNatNat 202 0 = 202 := rfl
    by_cases g1 : u < 10
    · exact go hkC1ok [48 + u] _ _ (VRi _ _ _) (VR_t1 (atomsR_at (j := 0) rfl) ⟨by omega, by omega⟩ (by rw [s1]; omega)) (xs_r1 k hk)
    by_cases g2 : u < 100
    · exact go hkC2ok [48 + u / 10, 48 + u % 10] _ _ (VRi _ _ _) (VR_t2 (atomsR_at (j := 0) rfl) ⟨by omega, by omega⟩ (atomsR_at (j := 1) rfl) ⟨by omega, by omega⟩ (by rw [s2]; omega)) (xs_r2 k hk)
    by_cases g3 : u < 200
    · exact go hkC3ok [48 + u / 10 % 10, 48 + u % 10] _ _ (VRi _ _ _) (VR_t2 (atomsR_at (j := 0) rfl) ⟨by omega, by omega⟩ (atomsR_at (j := 1) rfl) ⟨by omega, by omega⟩ (by rw [s3]; omega)) (xs_r3 k hk)
    by_cases g4 : u < 250
    · exact go hkC4ok [48 + u / 10 % 10, 48 + u % 10] _ _ (VRi _ _ _) (VR_t2 (atomsR_at (j := 0) rfl) ⟨by omega, by omega⟩ (atomsR_at (j := 1) rfl) ⟨by omega, by omega⟩ (by rw [s4]; omega)) (xs_r4 k hk)
    · exact go hkC5ok [48 + u % 10] _ _ (VRi _ _ _) (VR_t1 (atomsR_at (j := 0) rfl) ⟨by omega, by omega⟩ (by rw [s5]; omega)) (xs_r5 k hk)
end
end Go.Proofs.YtoonipefmbhipaaGreatDoor
