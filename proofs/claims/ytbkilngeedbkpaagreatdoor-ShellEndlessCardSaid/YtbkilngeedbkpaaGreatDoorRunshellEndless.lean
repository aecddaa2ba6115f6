/-
  The runs of shellEndless. No condition.
-/
import Derived.Test.YtbkilngeedbkpaaGreatDoorRunshellEndless0
import Derived.Test.YtbkilngeedbkpaaGreatDoorRunshellEndless1
import Derived.Test.YtbkilngeedbkpaaGreatDoorRunshellEndless2
import Derived.Test.YtbkilngeedbkpaaGreatDoorRunshellEndless3
import Derived.Test.YtbkilngeedbkpaaGreatDoorXMxAG
open Go Go.Mx
namespace Go.Proofs.YtbkilngeedbkpaaGreatDoor
set_option maxRecDepth 1000000
noncomputable section
theorem xe_fn : Tryz.prog.funcs[3]? = some Tryz.f3 := by kernel_rfl
theorem xe_body : ∃ c, Tryz.f3.body = some c := ⟨_, rfl⟩
theorem rG (r : Nat) : CKok Tryz.prog 12 (runI Tryz.prog 12 (hkL hkG) (xeHint r) 100000) := runI_sound follows nameOK hkGok 100000
theorem VR_fuel {ρ : Ren} {g lo hi b : Nat} (hg : ρ g = some ⟨0, b, 0⟩) (h1 : lo ≤ b) (h2 : b ≤ hi) : VR ρ (.o 2 (.cons (.x g .i64 lo hi) .nil) 3 0 0) (.int .i64 (b : Int)) := by
  refine VR_lin (kd := 3) ?_
  simp only [LR]
  refine ⟨(b : Int), 0, ?_, rfl, by omega⟩
  simp only [MR]
  exact ⟨_, hg, h1, h2, rfl⟩
theorem xe_calls (n w : Int) {W : World} (tab : HasTables tbl W) : Calls Tryz.prog 3 #[.int .i64 n, .int .i64 w] W fun e W' => e = .returned (.bool true) ∧ Stays W W' := by
  obtain ⟨cd, hb⟩ := xe_body
  have un : ∀ {ρ : Ren} {x : Value}, VR ρ .nil x := fun {ρ x} => by simp only [VR]
  have iv : ∀ {ρ : Ren} (m : Int), VR ρ (.i .i64 m) (.int .i64 m) := fun m => VRi _ _ _
  have fin : ∀ (b r : Nat) (n1 w1 : V), VR (fun i => if i = 12 then some ⟨0, b, 0⟩ else none) n1 (.int .i64 n) → VR (fun i => if i = 12 then some ⟨0, b, 0⟩ else none) w1 (.int .i64 w) → (∀ τ, xeRun r n1 w1 τ = true) → Calls Tryz.prog 3 #[.int .i64 n, .int .i64 w] W fun e W' => e = .returned (.bool true) ∧ Stays W W' := fun b r n1 w1 h1 h2 hrun =>
    top_run_k nameOK (rG r) xe_fn hb tblIn (ob := []) (ρa := fun i => if i = 12 then some ⟨0, b, 0⟩ else none) (nx := 13) (by omega) (fun i L h => by
      by_cases e : i = 12
      · omega
      · rw [if_neg e] at h; cases h) (fun i hi => by rw [show putO [] (.leaf : T O) = .leaf from rfl, gt_leaf] at hi; exact hi.elim)
      (args := .cons n1 (.cons w1 .nil)) (by simp only [VRs]; exact ⟨_, _, rfl, h1, _, _, rfl, h2, rfl⟩) hrun tab
  have fu : ∀ (b lo hi : Nat), lo ≤ b → b ≤ hi → VR (fun i => if i = 12 then some ⟨0, b, 0⟩ else none) (.o 2 (.cons (.x 12 .i64 lo hi) .nil) 3 0 0) (.int .i64 (b : Int)) := fun b lo hi h1 h2 => VR_fuel (if_pos rfl) h1 h2
  cases n with
  | negSucc m => exact fin 0 3 _ .nil (iv _) un (xe_neg m .nil)
  | ofNat b =>
    by_cases hb1 : 2001 ≤ b
    · obtain ⟨m, rfl⟩ : ∃ m, b = m + 2001 := ⟨b - 2001, by omega⟩
      exact fin 0 3 _ .nil (iv _) un (xe_big m .nil)
    · have hb2 : b ≤ 2000 := by omega
      cases w with
      | negSucc m => exact fin b 3 _ _ (fu b 0 2000 (Nat.zero_le _) hb2) (iv _) (xe_wneg m)
      | ofNat w0 =>
        match w0 with
        | 0 =>
          match b, hb2 with
          | 0, _ => exact fin 0 3 _ _ (iv _) (iv _) xe_f0_0
          | b + 1, hb2 => exact fin (b + 1) 3 _ _ (fu (b + 1) 1 2000 (by omega) hb2) (iv _) xe_u0
        | 1 =>
          match b, hb2 with
          | 0, _ => exact fin 0 3 _ _ (iv _) (iv _) xe_f1_0
          | b + 1, hb2 => exact fin (b + 1) 3 _ _ (fu (b + 1) 1 2000 (by omega) hb2) (iv _) xe_u1
        | 2 =>
          match b, hb2 with
          | 0, _ => exact fin 0 3 _ _ (iv _) (iv _) xe_f2_0
          | 1, _ => exact fin 0 3 _ _ (iv _) (iv _) xe_f2_1
          | 2, _ => exact fin 0 3 _ _ (iv _) (iv _) xe_f2_2
          | 3, _ => exact fin 0 3 _ _ (iv _) (iv _) xe_f2_3
          | 4, _ => exact fin 0 3 _ _ (iv _) (iv _) xe_f2_4
          | b + 5, hb2 => exact fin (b + 5) 3 _ _ (fu (b + 5) 5 2000 (by omega) hb2) (iv _) xe_u2
        | 3 =>
          match b, hb2 with
          | 0, _ => exact fin 0 5 _ _ (iv _) (iv _) xe_f3_0
          | 1, _ => exact fin 0 5 _ _ (iv _) (iv _) xe_f3_1
          | 2, _ => exact fin 0 5 _ _ (iv _) (iv _) xe_f3_2
          | 3, _ => exact fin 0 5 _ _ (iv _) (iv _) xe_f3_3
          | 4, _ => exact fin 0 5 _ _ (iv _) (iv _) xe_f3_4
          | 5, _ => exact fin 0 5 _ _ (iv _) (iv _) xe_f3_5
          | b + 6, hb2 => exact fin (b + 6) 5 _ _ (fu (b + 6) 6 2000 (by omega) hb2) (iv _) xe_u3
        | 4 =>
          match b, hb2 with
          | 0, _ => exact fin 0 3 _ _ (iv _) (iv _) xe_f4_0
          | 1, _ => exact fin 0 3 _ _ (iv _) (iv _) xe_f4_1
          | b + 2, hb2 => exact fin (b + 2) 3 _ _ (fu (b + 2) 2 2000 (by omega) hb2) (iv _) xe_u4
        | 5 =>
          match b, hb2 with
          | 0, _ => exact fin 0 3 _ _ (iv _) (iv _) xe_f5_0
          | 1, _ => exact fin 0 3 _ _ (iv _) (iv _) xe_f5_1
          | b + 2, hb2 => exact fin (b + 2) 3 _ _ (fu (b + 2) 2 2000 (by omega) hb2) (iv _) xe_u5
        | 6 =>
          match b, hb2 with
          | 0, _ => exact fin 0 3 _ _ (iv _) (iv _) xe_f6_0
          | 1, _ => exact fin 0 3 _ _ (iv _) (iv _) xe_f6_1
          | b + 2, hb2 => exact fin (b + 2) 3 _ _ (fu (b + 2) 2 2000 (by omega) hb2) (iv _) xe_u6
        | 7 =>
          match b, hb2 with
          | 0, _ => exact fin 0 4 _ _ (iv _) (iv _) xe_f7_0
          | b + 1, hb2 => exact fin (b + 1) 4 _ _ (fu (b + 1) 1 2000 (by omega) hb2) (iv _) xe_u7
        | m + 8 => exact fin b 3 _ _ (fu b 0 2000 (Nat.zero_le _) hb2) (iv _) (xe_wbig m)
end
end Go.Proofs.YtbkilngeedbkpaaGreatDoor
