/-
  The runs of execCalls. No condition.
-/
import Derived.Test.YtcmnkndbcecbiaaGreatDoorRunexecCalls0
import Derived.Test.YtcmnkndbcecbiaaGreatDoorRunexecCalls1
import Derived.Test.YtcmnkndbcecbiaaGreatDoorRunexecCalls2
import Derived.Test.YtcmnkndbcecbiaaGreatDoorRunexecCalls3
import Derived.Test.YtcmnkndbcecbiaaGreatDoorRunexecCalls4
import Derived.Test.YtcmnkndbcecbiaaGreatDoorRunexecCalls5
import Derived.Test.YtcmnkndbcecbiaaGreatDoorRunexecCalls6
import Derived.Test.YtcmnkndbcecbiaaGreatDoorRunexecCalls7
import Derived.Test.YtcmnkndbcecbiaaGreatDoorRunexecCalls8
open Go Go.Mx
namespace Go.Proofs.YtcmnkndbcecbiaaGreatDoor
set_option maxRecDepth 1000000
noncomputable section
theorem xl_fn : Tryz.prog.funcs[5]? = some Tryz.f5 := by kernel_rfl
theorem xl_body : ∃ c, Tryz.f5.body = some c := ⟨_, rfl⟩
theorem xl_ng : ∀ n, 0 < n → n ≤ 8 → ∀ (m ty : Nat) (τ : Nat → Nat), xlRun hkS6 τ (.sl 12 0 n 1) .nil (.i .i64 (Int.negSucc m)) ty = true
  | 0, h, _ => absurd h (by omega)
  | 1, _, _ => xl_ng1
  | 2, _, _ => xl_ng2
  | 3, _, _ => xl_ng3
  | 4, _, _ => xl_ng4
  | 5, _, _ => xl_ng5
  | 6, _, _ => xl_ng6
  | 7, _, _ => xl_ng7
  | 8, _, _ => xl_ng8
  | n + 9, _, h => absurd h (by omega)
theorem xl_bg : ∀ n, 0 < n → n ≤ 8 → ∀ (m ty : Nat) (τ : Nat → Nat), xlRun hkS6 τ (.sl 12 0 n 1) .nil (.i .i64 (Int.ofNat (m + 256))) ty = true
  | 0, h, _ => absurd h (by omega)
  | 1, _, _ => xl_bg1
  | 2, _, _ => xl_bg2
  | 3, _, _ => xl_bg3
  | 4, _, _ => xl_bg4
  | 5, _, _ => xl_bg5
  | 6, _, _ => xl_bg6
  | 7, _, _ => xl_bg7
  | 8, _, _ => xl_bg8
  | n + 9, _, h => absurd h (by omega)
theorem xl_l : ∀ n j t, n ≤ 8 → j < n → t < 5 → t ≠ 1 → ∀ (ty : Nat) (τ : Nat → Nat), xlRun hkS6 τ (.sl 12 0 n 1) (lstV M 97 122 40 t n 13 j) (.x 37 .i64 0 255) ty = true
  | 1, 0, 0, _, _, _, _ => xl_l1_0_0
  | 1, 0, 2, _, _, _, _ => xl_l1_0_2
  | 1, 0, 3, _, _, _, _ => xl_l1_0_3
  | 1, 0, 4, _, _, _, _ => xl_l1_0_4
  | 2, 0, 0, _, _, _, _ => xl_l2_0_0
  | 2, 0, 2, _, _, _, _ => xl_l2_0_2
  | 2, 0, 3, _, _, _, _ => xl_l2_0_3
  | 2, 0, 4, _, _, _, _ => xl_l2_0_4
  | 2, 1, 0, _, _, _, _ => xl_l2_1_0
  | 2, 1, 2, _, _, _, _ => xl_l2_1_2
  | 2, 1, 3, _, _, _, _ => xl_l2_1_3
  | 2, 1, 4, _, _, _, _ => xl_l2_1_4
  | 3, 0, 0, _, _, _, _ => xl_l3_0_0
  | 3, 0, 2, _, _, _, _ => xl_l3_0_2
  | 3, 0, 3, _, _, _, _ => xl_l3_0_3
  | 3, 0, 4, _, _, _, _ => xl_l3_0_4
  | 3, 1, 0, _, _, _, _ => xl_l3_1_0
  | 3, 1, 2, _, _, _, _ => xl_l3_1_2
  | 3, 1, 3, _, _, _, _ => xl_l3_1_3
  | 3, 1, 4, _, _, _, _ => xl_l3_1_4
  | 3, 2, 0, _, _, _, _ => xl_l3_2_0
  | 3, 2, 2, _, _, _, _ => xl_l3_2_2
  | 3, 2, 3, _, _, _, _ => xl_l3_2_3
  | 3, 2, 4, _, _, _, _ => xl_l3_2_4
  | 4, 0, 0, _, _, _, _ => xl_l4_0_0
  | 4, 0, 2, _, _, _, _ => xl_l4_0_2
  | 4, 0, 3, _, _, _, _ => xl_l4_0_3
  | 4, 0, 4, _, _, _, _ => xl_l4_0_4
  | 4, 1, 0, _, _, _, _ => xl_l4_1_0
  | 4, 1, 2, _, _, _, _ => xl_l4_1_2
  | 4, 1, 3, _, _, _, _ => xl_l4_1_3
  | 4, 1, 4, _, _, _, _ => xl_l4_1_4
  | 4, 2, 0, _, _, _, _ => xl_l4_2_0
  | 4, 2, 2, _, _, _, _ => xl_l4_2_2
  | 4, 2, 3, _, _, _, _ => xl_l4_2_3
  | 4, 2, 4, _, _, _, _ => xl_l4_2_4
  | 4, 3, 0, _, _, _, _ => xl_l4_3_0
  | 4, 3, 2, _, _, _, _ => xl_l4_3_2
  | 4, 3, 3, _, _, _, _ => xl_l4_3_3
  | 4, 3, 4, _, _, _, _ => xl_l4_3_4
  | 5, 0, 0, _, _, _, _ => xl_l5_0_0
  | 5, 0, 2, _, _, _, _ => xl_l5_0_2
  | 5, 0, 3, _, _, _, _ => xl_l5_0_3
  | 5, 0, 4, _, _, _, _ => xl_l5_0_4
  | 5, 1, 0, _, _, _, _ => xl_l5_1_0
  | 5, 1, 2, _, _, _, _ => xl_l5_1_2
  | 5, 1, 3, _, _, _, _ => xl_l5_1_3
  | 5, 1, 4, _, _, _, _ => xl_l5_1_4
  | 5, 2, 0, _, _, _, _ => xl_l5_2_0
  | 5, 2, 2, _, _, _, _ => xl_l5_2_2
  | 5, 2, 3, _, _, _, _ => xl_l5_2_3
  | 5, 2, 4, _, _, _, _ => xl_l5_2_4
  | 5, 3, 0, _, _, _, _ => xl_l5_3_0
  | 5, 3, 2, _, _, _, _ => xl_l5_3_2
  | 5, 3, 3, _, _, _, _ => xl_l5_3_3
  | 5, 3, 4, _, _, _, _ => xl_l5_3_4
  | 5, 4, 0, _, _, _, _ => xl_l5_4_0
  | 5, 4, 2, _, _, _, _ => xl_l5_4_2
  | 5, 4, 3, _, _, _, _ => xl_l5_4_3
  | 5, 4, 4, _, _, _, _ => xl_l5_4_4
  | 6, 0, 0, _, _, _, _ => xl_l6_0_0
  | 6, 0, 2, _, _, _, _ => xl_l6_0_2
  | 6, 0, 3, _, _, _, _ => xl_l6_0_3
  | 6, 0, 4, _, _, _, _ => xl_l6_0_4
  | 6, 1, 0, _, _, _, _ => xl_l6_1_0
  | 6, 1, 2, _, _, _, _ => xl_l6_1_2
  | 6, 1, 3, _, _, _, _ => xl_l6_1_3
  | 6, 1, 4, _, _, _, _ => xl_l6_1_4
  | 6, 2, 0, _, _, _, _ => xl_l6_2_0
  | 6, 2, 2, _, _, _, _ => xl_l6_2_2
  | 6, 2, 3, _, _, _, _ => xl_l6_2_3
  | 6, 2, 4, _, _, _, _ => xl_l6_2_4
  | 6, 3, 0, _, _, _, _ => xl_l6_3_0
  | 6, 3, 2, _, _, _, _ => xl_l6_3_2
  | 6, 3, 3, _, _, _, _ => xl_l6_3_3
  | 6, 3, 4, _, _, _, _ => xl_l6_3_4
  | 6, 4, 0, _, _, _, _ => xl_l6_4_0
  | 6, 4, 2, _, _, _, _ => xl_l6_4_2
  | 6, 4, 3, _, _, _, _ => xl_l6_4_3
  | 6, 4, 4, _, _, _, _ => xl_l6_4_4
  | 6, 5, 0, _, _, _, _ => xl_l6_5_0
  | 6, 5, 2, _, _, _, _ => xl_l6_5_2
  | 6, 5, 3, _, _, _, _ => xl_l6_5_3
  | 6, 5, 4, _, _, _, _ => xl_l6_5_4
  | 7, 0, 0, _, _, _, _ => xl_l7_0_0
  | 7, 0, 2, _, _, _, _ => xl_l7_0_2
  | 7, 0, 3, _, _, _, _ => xl_l7_0_3
  | 7, 0, 4, _, _, _, _ => xl_l7_0_4
  | 7, 1, 0, _, _, _, _ => xl_l7_1_0
  | 7, 1, 2, _, _, _, _ => xl_l7_1_2
  | 7, 1, 3, _, _, _, _ => xl_l7_1_3
  | 7, 1, 4, _, _, _, _ => xl_l7_1_4
  | 7, 2, 0, _, _, _, _ => xl_l7_2_0
  | 7, 2, 2, _, _, _, _ => xl_l7_2_2
  | 7, 2, 3, _, _, _, _ => xl_l7_2_3
  | 7, 2, 4, _, _, _, _ => xl_l7_2_4
  | 7, 3, 0, _, _, _, _ => xl_l7_3_0
  | 7, 3, 2, _, _, _, _ => xl_l7_3_2
  | 7, 3, 3, _, _, _, _ => xl_l7_3_3
  | 7, 3, 4, _, _, _, _ => xl_l7_3_4
  | 7, 4, 0, _, _, _, _ => xl_l7_4_0
  | 7, 4, 2, _, _, _, _ => xl_l7_4_2
  | 7, 4, 3, _, _, _, _ => xl_l7_4_3
  | 7, 4, 4, _, _, _, _ => xl_l7_4_4
  | 7, 5, 0, _, _, _, _ => xl_l7_5_0
  | 7, 5, 2, _, _, _, _ => xl_l7_5_2
  | 7, 5, 3, _, _, _, _ => xl_l7_5_3
  | 7, 5, 4, _, _, _, _ => xl_l7_5_4
  | 7, 6, 0, _, _, _, _ => xl_l7_6_0
  | 7, 6, 2, _, _, _, _ => xl_l7_6_2
  | 7, 6, 3, _, _, _, _ => xl_l7_6_3
  | 7, 6, 4, _, _, _, _ => xl_l7_6_4
  | 8, 0, 0, _, _, _, _ => xl_l8_0_0
  | 8, 0, 2, _, _, _, _ => xl_l8_0_2
  | 8, 0, 3, _, _, _, _ => xl_l8_0_3
  | 8, 0, 4, _, _, _, _ => xl_l8_0_4
  | 8, 1, 0, _, _, _, _ => xl_l8_1_0
  | 8, 1, 2, _, _, _, _ => xl_l8_1_2
  | 8, 1, 3, _, _, _, _ => xl_l8_1_3
  | 8, 1, 4, _, _, _, _ => xl_l8_1_4
  | 8, 2, 0, _, _, _, _ => xl_l8_2_0
  | 8, 2, 2, _, _, _, _ => xl_l8_2_2
  | 8, 2, 3, _, _, _, _ => xl_l8_2_3
  | 8, 2, 4, _, _, _, _ => xl_l8_2_4
  | 8, 3, 0, _, _, _, _ => xl_l8_3_0
  | 8, 3, 2, _, _, _, _ => xl_l8_3_2
  | 8, 3, 3, _, _, _, _ => xl_l8_3_3
  | 8, 3, 4, _, _, _, _ => xl_l8_3_4
  | 8, 4, 0, _, _, _, _ => xl_l8_4_0
  | 8, 4, 2, _, _, _, _ => xl_l8_4_2
  | 8, 4, 3, _, _, _, _ => xl_l8_4_3
  | 8, 4, 4, _, _, _, _ => xl_l8_4_4
  | 8, 5, 0, _, _, _, _ => xl_l8_5_0
  | 8, 5, 2, _, _, _, _ => xl_l8_5_2
  | 8, 5, 3, _, _, _, _ => xl_l8_5_3
  | 8, 5, 4, _, _, _, _ => xl_l8_5_4
  | 8, 6, 0, _, _, _, _ => xl_l8_6_0
  | 8, 6, 2, _, _, _, _ => xl_l8_6_2
  | 8, 6, 3, _, _, _, _ => xl_l8_6_3
  | 8, 6, 4, _, _, _, _ => xl_l8_6_4
  | 8, 7, 0, _, _, _, _ => xl_l8_7_0
  | 8, 7, 2, _, _, _, _ => xl_l8_7_2
  | 8, 7, 3, _, _, _, _ => xl_l8_7_3
  | 8, 7, 4, _, _, _, _ => xl_l8_7_4
  | n, j, 1, _, _, _, h => absurd rfl h
  | n, j, t + 5, _, _, h, _ => absurd h (by omega)
  | 0, j, t, _, h, _, _ => absurd h (by omega)
  | 1, j + 1, t, _, h, _, _ => absurd h (by omega)
  | 2, j + 2, t, _, h, _, _ => absurd h (by omega)
  | 3, j + 3, t, _, h, _, _ => absurd h (by omega)
  | 4, j + 4, t, _, h, _, _ => absurd h (by omega)
  | 5, j + 5, t, _, h, _, _ => absurd h (by omega)
  | 6, j + 6, t, _, h, _, _ => absurd h (by omega)
  | 7, j + 7, t, _, h, _, _ => absurd h (by omega)
  | 8, j + 8, t, _, h, _, _ => absurd h (by omega)
  | n + 9, j, t, h, _, _, _ => absurd h (by omega)
theorem xl_h0 : ∀ n, 0 < n → n ≤ 8 → ∀ (ty : Nat) (τ : Nat → Nat), xlRun hkS0 τ (.sl 12 0 n 1) (lstV M 97 122 40 1 n 13 n) (.i .i64 (Int.ofNat 0)) ty = true
  | 0, h, _ => absurd h (by omega)
  | 1, _, _ => xl_h1_0
  | 2, _, _ => xl_h2_0
  | 3, _, _ => xl_h3_0
  | 4, _, _ => xl_h4_0
  | 5, _, _ => xl_h5_0
  | 6, _, _ => xl_h6_0
  | 7, _, _ => xl_h7_0
  | 8, _, _ => xl_h8_0
  | n + 9, _, h => absurd h (by omega)
theorem rF0 : CKok Tryz.prog 12 (runL Tryz.prog 12 (hkL hkS0) lk 100000) := runL_sound follows nameOK hkS0ok 100000
theorem xl_h1 : ∀ n, 0 < n → n ≤ 8 → ∀ (ty : Nat) (τ : Nat → Nat), xlRun hkS1 τ (.sl 12 0 n 1) (lstV M 97 122 40 1 n 13 n) (.o 2 (t1V 37 49 57 0 48) 3 0 0) ty = true
  | 0, h, _ => absurd h (by omega)
  | 1, _, _ => xl_h1_1
  | 2, _, _ => xl_h2_1
  | 3, _, _ => xl_h3_1
  | 4, _, _ => xl_h4_1
  | 5, _, _ => xl_h5_1
  | 6, _, _ => xl_h6_1
  | 7, _, _ => xl_h7_1
  | 8, _, _ => xl_h8_1
  | n + 9, _, h => absurd h (by omega)
theorem rF1 : CKok Tryz.prog 12 (runL Tryz.prog 12 (hkL hkS1) lk 100000) := runL_sound follows nameOK hkS1ok 100000
theorem xl_h2 : ∀ n, 0 < n → n ≤ 8 → ∀ (ty : Nat) (τ : Nat → Nat), xlRun hkS2 τ (.sl 12 0 n 1) (lstV M 97 122 40 1 n 13 n) (.o 2 (t2V 37 49 57 38 48 57 0 528) 3 0 0) ty = true
  | 0, h, _ => absurd h (by omega)
  | 1, _, _ => xl_h1_2
  | 2, _, _ => xl_h2_2
  | 3, _, _ => xl_h3_2
  | 4, _, _ => xl_h4_2
  | 5, _, _ => xl_h5_2
  | 6, _, _ => xl_h6_2
  | 7, _, _ => xl_h7_2
  | 8, _, _ => xl_h8_2
  | n + 9, _, h => absurd h (by omega)
theorem rF2 : CKok Tryz.prog 12 (runL Tryz.prog 12 (hkL hkS2) lk 100000) := runL_sound follows nameOK hkS2ok 100000
theorem xl_h3 : ∀ n, 0 < n → n ≤ 8 → ∀ (ty : Nat) (τ : Nat → Nat), xlRun hkS3 τ (.sl 12 0 n 1) (lstV M 97 122 40 1 n 13 n) (.o 2 (t2V 37 48 57 38 48 57 0 428) 3 0 0) ty = true
  | 0, h, _ => absurd h (by omega)
  | 1, _, _ => xl_h1_3
  | 2, _, _ => xl_h2_3
  | 3, _, _ => xl_h3_3
  | 4, _, _ => xl_h4_3
  | 5, _, _ => xl_h5_3
  | 6, _, _ => xl_h6_3
  | 7, _, _ => xl_h7_3
  | 8, _, _ => xl_h8_3
  | n + 9, _, h => absurd h (by omega)
theorem rF3 : CKok Tryz.prog 12 (runL Tryz.prog 12 (hkL hkS3) lk 100000) := runL_sound follows nameOK hkS3ok 100000
theorem xl_h4 : ∀ n, 0 < n → n ≤ 8 → ∀ (ty : Nat) (τ : Nat → Nat), xlRun hkS4 τ (.sl 12 0 n 1) (lstV M 97 122 40 1 n 13 n) (.o 2 (t2V 37 48 52 38 48 57 0 328) 3 0 0) ty = true
  | 0, h, _ => absurd h (by omega)
  | 1, _, _ => xl_h1_4
  | 2, _, _ => xl_h2_4
  | 3, _, _ => xl_h3_4
  | 4, _, _ => xl_h4_4
  | 5, _, _ => xl_h5_4
  | 6, _, _ => xl_h6_4
  | 7, _, _ => xl_h7_4
  | 8, _, _ => xl_h8_4
  | n + 9, _, h => absurd h (by omega)
theorem rF4 : CKok Tryz.prog 12 (runL Tryz.prog 12 (hkL hkS4) lk 100000) := runL_sound follows nameOK hkS4ok 100000
theorem xl_h5 : ∀ n, 0 < n → n ≤ 8 → ∀ (ty : Nat) (τ : Nat → Nat), xlRun hkS5 τ (.sl 12 0 n 1) (lstV M 97 122 40 1 n 13 n) (.o 2 (t1V 37 48 53 202 0) 3 0 0) ty = true
  | 0, h, _ => absurd h (by omega)
  | 1, _, _ => xl_h1_5
  | 2, _, _ => xl_h2_5
  | 3, _, _ => xl_h3_5
  | 4, _, _ => xl_h4_5
  | 5, _, _ => xl_h5_5
  | 6, _, _ => xl_h6_5
  | 7, _, _ => xl_h7_5
  | 8, _, _ => xl_h8_5
  | n + 9, _, h => absurd h (by omega)
theorem rF5 : CKok Tryz.prog 12 (runL Tryz.prog 12 (hkL hkS5) lk 100000) := runL_sound follows nameOK hkS5ok 100000
theorem rF6 : CKok Tryz.prog 12 (runL Tryz.prog 12 (hkL hkS6) lk 100000) := runL_sound follows nameOK hkS6ok 100000
theorem xl_status (s : Int) : (∃ m, s = Int.negSucc m) ∨ (∃ m, s = Int.ofNat (m + 256)) ∨ ∃ (k : Nat) (T : V) (d1 d2 : Nat), ((k = 0 ∧ T = (.i .i64 (Int.ofNat 0))) ∨ (k = 1 ∧ T = (.o 2 (t1V 37 49 57 0 48) 3 0 0)) ∨ (k = 2 ∧ T = (.o 2 (t2V 37 49 57 38 48 57 0 528) 3 0 0)) ∨ (k = 3 ∧ T = (.o 2 (t2V 37 48 57 38 48 57 0 428) 3 0 0)) ∨ (k = 4 ∧ T = (.o 2 (t2V 37 48 52 38 48 57 0 328) 3 0 0)) ∨ (k = 5 ∧ T = (.o 2 (t1V 37 48 53 202 0) 3 0 0))) ∧
    (∀ ρ : Ren, (∃ L, ρ 37 = some L ∧ L.base = d1) → (∃ L, ρ 38 = some L ∧ L.base = d2) → VR ρ T (.int .i64 s)) ∧ ∃ u : Nat, u ≤ 255 ∧ s = (u : Int) := by
  cases s with
  | negSucc m => exact .inl ⟨m, rfl⟩
  | ofNat u =>
    by_cases g : 256 ≤ u
    · exact .inr (.inl ⟨u - 256, by rw [Nat.sub_add_cancel g]⟩)
    have s1 : Int.subNatNat 0 48 = -48 := rfl
    have s2 : Int.subNatNat 0 528 = -528 := rfl
    have s3 : Int.subNatNat 0 428 = -428 := rfl
    have s4 : Int.subNatNat 0 328 = -328 := rfl
    have s5 : Int.subNatNat 202 0 = 202 := rfl
    refine .inr (.inr ?_)
    have hu : u ≤ 255 := by omega
    have hs : Int.ofNat u = (u : Int) := rfl
    by_cases g0 : u = 0
    · subst g0
      exact ⟨0, _, 0, 0, .inl ⟨rfl, rfl⟩, fun ρ _ _ => VRi _ _ _, 0, hu, rfl⟩
    by_cases g1 : u < 10
    · exact ⟨1, _, 48 + u, 0, .inr (.inl ⟨rfl, rfl⟩), fun ρ h1 _ => VR_t1 h1 ⟨by omega, by omega⟩ (by rw [s1]; omega), u, hu, rfl⟩
    by_cases g2 : u < 100
    · exact ⟨2, _, 48 + u / 10, 48 + u % 10, .inr (.inr (.inl ⟨rfl, rfl⟩)), fun ρ h1 h2 => VR_t2 h1 ⟨by omega, by omega⟩ h2 ⟨by omega, by omega⟩ (by rw [s2]; omega), u, hu, rfl⟩
    by_cases g3 : u < 200
    · exact ⟨3, _, 48 + u / 10 % 10, 48 + u % 10, .inr (.inr (.inr (.inl ⟨rfl, rfl⟩))), fun ρ h1 h2 => VR_t2 h1 ⟨by omega, by omega⟩ h2 ⟨by omega, by omega⟩ (by rw [s3]; omega), u, hu, rfl⟩
    by_cases g4 : u < 250
    · exact ⟨4, _, 48 + u / 10 % 10, 48 + u % 10, .inr (.inr (.inr (.inr (.inl ⟨rfl, rfl⟩)))), fun ρ h1 h2 => VR_t2 h1 ⟨by omega, by omega⟩ h2 ⟨by omega, by omega⟩ (by rw [s4]; omega), u, hu, rfl⟩
    · exact ⟨5, _, 48 + u % 10, 0, .inr (.inr (.inr (.inr (.inr ⟨rfl, rfl⟩)))), fun ρ h1 _ => VR_t1 h1 ⟨by omega, by omega⟩ (by rw [s5]; omega), u, hu, rfl⟩
end
end Go.Proofs.YtcmnkndbcecbiaaGreatDoor
