/-
  The runs of buildFails. No condition.
-/
import Derived.Test.YtbkilngeedbkpaaGreatDoorRunbuildFails0
import Derived.Test.YtbkilngeedbkpaaGreatDoorRunbuildFails1
import Derived.Test.YtbkilngeedbkpaaGreatDoorRunbuildFails2
import Derived.Test.YtbkilngeedbkpaaGreatDoorRunbuildFails3
import Derived.Test.YtbkilngeedbkpaaGreatDoorRunbuildFails4
import Derived.Test.YtbkilngeedbkpaaGreatDoorRunbuildFails5
import Derived.Test.YtbkilngeedbkpaaGreatDoorRunbuildFails6
import Derived.Test.YtbkilngeedbkpaaGreatDoorRunbuildFails7
import Derived.Test.YtbkilngeedbkpaaGreatDoorRunbuildFails8
import Derived.Test.YtbkilngeedbkpaaGreatDoorRunbuildFails9
import Derived.Test.YtbkilngeedbkpaaGreatDoorRunbuildFails10
import Derived.Test.YtbkilngeedbkpaaGreatDoorRunbuildFails11
import Derived.Test.YtbkilngeedbkpaaGreatDoorRunbuildFails12
import Derived.Test.YtbkilngeedbkpaaGreatDoorRunbuildFails13
import Derived.Test.YtbkilngeedbkpaaGreatDoorRunbuildFails14
import Derived.Test.YtbkilngeedbkpaaGreatDoorRunbuildFails15
import Derived.Test.YtbkilngeedbkpaaGreatDoorRunbuildFails16
import Derived.Test.YtbkilngeedbkpaaGreatDoorXMxAG
open Go Go.Mx
namespace Go.Proofs.YtbkilngeedbkpaaGreatDoor
set_option maxRecDepth 1000000
noncomputable section
theorem xb_fn : Tryz.prog.funcs[5]? = some Tryz.f5 := by kernel_rfl
theorem xb_body : ∃ c, Tryz.f5.body = some c := ⟨_, rfl⟩
theorem rG : CKok Tryz.prog 12 (run Tryz.prog 12 (hkL hkG) 100000) := run_sound follows nameOK hkGok 100000
theorem xb_calls (n b : Int) (k i : Bool) {W : World} (tab : HasTables tbl W) : Calls Tryz.prog 5 #[.int .i64 n, .int .i64 b, .bool k, .bool i] W fun e W' => e = .returned (.bool true) ∧ Stays W W' := by
  obtain ⟨cd, hb⟩ := xb_body
  have un : ∀ {x : Value}, VR (fun _ => none) .nil x := fun {x} => by simp only [VR]
  have fin : ∀ (n1 b1 k1 i1 : V), VR (fun _ => none) n1 (.int .i64 n) → VR (fun _ => none) b1 (.int .i64 b) → VR (fun _ => none) k1 (.bool k) → VR (fun _ => none) i1 (.bool i) → (∀ τ, xbRun τ n1 b1 k1 i1 = true) → Calls Tryz.prog 5 #[.int .i64 n, .int .i64 b, .bool k, .bool i] W fun e W' => e = .returned (.bool true) ∧ Stays W W' := fun n1 b1 k1 i1 h1 h2 h3 h4 hrun =>
    top_run_k nameOK rG xb_fn hb tblIn (ob := []) (ρa := fun _ => none) (nx := 12) (Nat.le_refl _) (fun i L h => by cases h) (fun i hi => by rw [show putO [] (.leaf : T O) = .leaf from rfl, gt_leaf] at hi; exact hi.elim)
      (args := .cons n1 (.cons b1 (.cons k1 (.cons i1 .nil)))) (by simp only [VRs]; exact ⟨_, _, rfl, h1, _, _, rfl, h2, _, _, rfl, h3, _, _, rfl, h4, rfl⟩) hrun tab
  have iv : ∀ m : Int, VR (fun _ => none) (.i .i64 m) (.int .i64 m) := fun m => VRi _ _ _
  have bv : ∀ x : Bool, VR (fun _ => none) (.b x) (.bool x) := fun x => VRb _ _
  have kv : VR (fun _ => none) (.o 5 .nil 0 0 0) (.bool k) := by
    simp only [VR]
    exact .inl (.inr (.inr (.inr ⟨rfl, k, rfl, .inl rfl⟩)))
  have main : ∀ (n0 b0 : Nat), n = Int.ofNat n0 → b = Int.ofNat b0 → (∀ τ, xbRun τ (.i .i64 (Int.ofNat n0)) (.i .i64 (Int.ofNat b0)) (.o 5 .nil 0 0 0) (.b true) = true) → (∀ τ, xbRun τ (.i .i64 (Int.ofNat n0)) (.i .i64 (Int.ofNat b0)) (.b true) (.b false) = true) → (∀ τ, xbRun τ (.i .i64 (Int.ofNat n0)) (.i .i64 (Int.ofNat b0)) (.b false) (.b false) = true) → Calls Tryz.prog 5 #[.int .i64 n, .int .i64 b, .bool k, .bool i] W fun e W' => e = .returned (.bool true) ∧ Stays W W' := by
    rintro n0 b0 rfl rfl r1 r2 r3
    cases i with
    | true => exact fin _ _ _ _ (iv _) (iv _) kv (bv _) r1
    | false =>
      cases k with
      | true => exact fin _ _ _ _ (iv _) (iv _) (bv _) (bv _) r2
      | false => exact fin _ _ _ _ (iv _) (iv _) (bv _) (bv _) r3
  have low : ∀ n0 : Nat, n = Int.ofNat n0 → (∀ m τ, xbRun τ (.i .i64 (Int.ofNat n0)) (.i .i64 (Int.negSucc m)) .nil .nil = true) → ∀ m, b = Int.negSucc m → Calls Tryz.prog 5 #[.int .i64 n, .int .i64 b, .bool k, .bool i] W fun e W' => e = .returned (.bool true) ∧ Stays W W' := by
    rintro n0 rfl r m rfl
    exact fin _ _ .nil .nil (iv _) (iv _) un un (r m)
  cases n with
  | negSucc m => exact fin _ .nil .nil .nil (iv _) un un un (xb_neg m .nil)
  | ofNat n0 =>
    match n0 with
    | 0 => exact fin _ .nil .nil .nil (iv _) un un un (xb_zero .nil)
    | 1 =>
      cases b with
      | negSucc m => exact low 1 rfl xb_n1 m rfl
      | ofNat b0 =>
        match b0 with
        | 0 => exact main 1 0 rfl rfl xb_i1_0 xb_k1_0 xb_f1_0
        | m + 1 => exact fin _ _ .nil .nil (iv _) (iv _) un un (xb_m1 m)
    | 2 =>
      cases b with
      | negSucc m => exact low 2 rfl xb_n2 m rfl
      | ofNat b0 =>
        match b0 with
        | 0 => exact main 2 0 rfl rfl xb_i2_0 xb_k2_0 xb_f2_0
        | 1 => exact main 2 1 rfl rfl xb_i2_1 xb_k2_1 xb_f2_1
        | m + 2 => exact fin _ _ .nil .nil (iv _) (iv _) un un (xb_m2 m)
    | 3 =>
      cases b with
      | negSucc m => exact low 3 rfl xb_n3 m rfl
      | ofNat b0 =>
        match b0 with
        | 0 => exact main 3 0 rfl rfl xb_i3_0 xb_k3_0 xb_f3_0
        | 1 => exact main 3 1 rfl rfl xb_i3_1 xb_k3_1 xb_f3_1
        | 2 => exact main 3 2 rfl rfl xb_i3_2 xb_k3_2 xb_f3_2
        | m + 3 => exact fin _ _ .nil .nil (iv _) (iv _) un un (xb_m3 m)
    | 4 =>
      cases b with
      | negSucc m => exact low 4 rfl xb_n4 m rfl
      | ofNat b0 =>
        match b0 with
        | 0 => exact main 4 0 rfl rfl xb_i4_0 xb_k4_0 xb_f4_0
        | 1 => exact main 4 1 rfl rfl xb_i4_1 xb_k4_1 xb_f4_1
        | 2 => exact main 4 2 rfl rfl xb_i4_2 xb_k4_2 xb_f4_2
        | 3 => exact main 4 3 rfl rfl xb_i4_3 xb_k4_3 xb_f4_3
        | m + 4 => exact fin _ _ .nil .nil (iv _) (iv _) un un (xb_m4 m)
    | 5 =>
      cases b with
      | negSucc m => exact low 5 rfl xb_n5 m rfl
      | ofNat b0 =>
        match b0 with
        | 0 => exact main 5 0 rfl rfl xb_i5_0 xb_k5_0 xb_f5_0
        | 1 => exact main 5 1 rfl rfl xb_i5_1 xb_k5_1 xb_f5_1
        | 2 => exact main 5 2 rfl rfl xb_i5_2 xb_k5_2 xb_f5_2
        | 3 => exact main 5 3 rfl rfl xb_i5_3 xb_k5_3 xb_f5_3
        | 4 => exact main 5 4 rfl rfl xb_i5_4 xb_k5_4 xb_f5_4
        | m + 5 => exact fin _ _ .nil .nil (iv _) (iv _) un un (xb_m5 m)
    | 6 =>
      cases b with
      | negSucc m => exact low 6 rfl xb_n6 m rfl
      | ofNat b0 =>
        match b0 with
        | 0 => exact main 6 0 rfl rfl xb_i6_0 xb_k6_0 xb_f6_0
        | 1 => exact main 6 1 rfl rfl xb_i6_1 xb_k6_1 xb_f6_1
        | 2 => exact main 6 2 rfl rfl xb_i6_2 xb_k6_2 xb_f6_2
        | 3 => exact main 6 3 rfl rfl xb_i6_3 xb_k6_3 xb_f6_3
        | 4 => exact main 6 4 rfl rfl xb_i6_4 xb_k6_4 xb_f6_4
        | 5 => exact main 6 5 rfl rfl xb_i6_5 xb_k6_5 xb_f6_5
        | m + 6 => exact fin _ _ .nil .nil (iv _) (iv _) un un (xb_m6 m)
    | 7 =>
      cases b with
      | negSucc m => exact low 7 rfl xb_n7 m rfl
      | ofNat b0 =>
        match b0 with
        | 0 => exact main 7 0 rfl rfl xb_i7_0 xb_k7_0 xb_f7_0
        | 1 => exact main 7 1 rfl rfl xb_i7_1 xb_k7_1 xb_f7_1
        | 2 => exact main 7 2 rfl rfl xb_i7_2 xb_k7_2 xb_f7_2
        | 3 => exact main 7 3 rfl rfl xb_i7_3 xb_k7_3 xb_f7_3
        | 4 => exact main 7 4 rfl rfl xb_i7_4 xb_k7_4 xb_f7_4
        | 5 => exact main 7 5 rfl rfl xb_i7_5 xb_k7_5 xb_f7_5
        | 6 => exact main 7 6 rfl rfl xb_i7_6 xb_k7_6 xb_f7_6
        | m + 7 => exact fin _ _ .nil .nil (iv _) (iv _) un un (xb_m7 m)
    | 8 =>
      cases b with
      | negSucc m => exact low 8 rfl xb_n8 m rfl
      | ofNat b0 =>
        match b0 with
        | 0 => exact main 8 0 rfl rfl xb_i8_0 xb_k8_0 xb_f8_0
        | 1 => exact main 8 1 rfl rfl xb_i8_1 xb_k8_1 xb_f8_1
        | 2 => exact main 8 2 rfl rfl xb_i8_2 xb_k8_2 xb_f8_2
        | 3 => exact main 8 3 rfl rfl xb_i8_3 xb_k8_3 xb_f8_3
        | 4 => exact main 8 4 rfl rfl xb_i8_4 xb_k8_4 xb_f8_4
        | 5 => exact main 8 5 rfl rfl xb_i8_5 xb_k8_5 xb_f8_5
        | 6 => exact main 8 6 rfl rfl xb_i8_6 xb_k8_6 xb_f8_6
        | 7 => exact main 8 7 rfl rfl xb_i8_7 xb_k8_7 xb_f8_7
        | m + 8 => exact fin _ _ .nil .nil (iv _) (iv _) un un (xb_m8 m)
    | 9 =>
      cases b with
      | negSucc m => exact low 9 rfl xb_n9 m rfl
      | ofNat b0 =>
        match b0 with
        | 0 => exact main 9 0 rfl rfl xb_i9_0 xb_k9_0 xb_f9_0
        | 1 => exact main 9 1 rfl rfl xb_i9_1 xb_k9_1 xb_f9_1
        | 2 => exact main 9 2 rfl rfl xb_i9_2 xb_k9_2 xb_f9_2
        | 3 => exact main 9 3 rfl rfl xb_i9_3 xb_k9_3 xb_f9_3
        | 4 => exact main 9 4 rfl rfl xb_i9_4 xb_k9_4 xb_f9_4
        | 5 => exact main 9 5 rfl rfl xb_i9_5 xb_k9_5 xb_f9_5
        | 6 => exact main 9 6 rfl rfl xb_i9_6 xb_k9_6 xb_f9_6
        | 7 => exact main 9 7 rfl rfl xb_i9_7 xb_k9_7 xb_f9_7
        | 8 => exact main 9 8 rfl rfl xb_i9_8 xb_k9_8 xb_f9_8
        | m + 9 => exact fin _ _ .nil .nil (iv _) (iv _) un un (xb_m9 m)
    | 10 =>
      cases b with
      | negSucc m => exact low 10 rfl xb_n10 m rfl
      | ofNat b0 =>
        match b0 with
        | 0 => exact main 10 0 rfl rfl xb_i10_0 xb_k10_0 xb_f10_0
        | 1 => exact main 10 1 rfl rfl xb_i10_1 xb_k10_1 xb_f10_1
        | 2 => exact main 10 2 rfl rfl xb_i10_2 xb_k10_2 xb_f10_2
        | 3 => exact main 10 3 rfl rfl xb_i10_3 xb_k10_3 xb_f10_3
        | 4 => exact main 10 4 rfl rfl xb_i10_4 xb_k10_4 xb_f10_4
        | 5 => exact main 10 5 rfl rfl xb_i10_5 xb_k10_5 xb_f10_5
        | 6 => exact main 10 6 rfl rfl xb_i10_6 xb_k10_6 xb_f10_6
        | 7 => exact main 10 7 rfl rfl xb_i10_7 xb_k10_7 xb_f10_7
        | 8 => exact main 10 8 rfl rfl xb_i10_8 xb_k10_8 xb_f10_8
        | 9 => exact main 10 9 rfl rfl xb_i10_9 xb_k10_9 xb_f10_9
        | m + 10 => exact fin _ _ .nil .nil (iv _) (iv _) un un (xb_m10 m)
    | 11 =>
      cases b with
      | negSucc m => exact low 11 rfl xb_n11 m rfl
      | ofNat b0 =>
        match b0 with
        | 0 => exact main 11 0 rfl rfl xb_i11_0 xb_k11_0 xb_f11_0
        | 1 => exact main 11 1 rfl rfl xb_i11_1 xb_k11_1 xb_f11_1
        | 2 => exact main 11 2 rfl rfl xb_i11_2 xb_k11_2 xb_f11_2
        | 3 => exact main 11 3 rfl rfl xb_i11_3 xb_k11_3 xb_f11_3
        | 4 => exact main 11 4 rfl rfl xb_i11_4 xb_k11_4 xb_f11_4
        | 5 => exact main 11 5 rfl rfl xb_i11_5 xb_k11_5 xb_f11_5
        | 6 => exact main 11 6 rfl rfl xb_i11_6 xb_k11_6 xb_f11_6
        | 7 => exact main 11 7 rfl rfl xb_i11_7 xb_k11_7 xb_f11_7
        | 8 => exact main 11 8 rfl rfl xb_i11_8 xb_k11_8 xb_f11_8
        | 9 => exact main 11 9 rfl rfl xb_i11_9 xb_k11_9 xb_f11_9
        | 10 => exact main 11 10 rfl rfl xb_i11_10 xb_k11_10 xb_f11_10
        | m + 11 => exact fin _ _ .nil .nil (iv _) (iv _) un un (xb_m11 m)
    | 12 =>
      cases b with
      | negSucc m => exact low 12 rfl xb_n12 m rfl
      | ofNat b0 =>
        match b0 with
        | 0 => exact main 12 0 rfl rfl xb_i12_0 xb_k12_0 xb_f12_0
        | 1 => exact main 12 1 rfl rfl xb_i12_1 xb_k12_1 xb_f12_1
        | 2 => exact main 12 2 rfl rfl xb_i12_2 xb_k12_2 xb_f12_2
        | 3 => exact main 12 3 rfl rfl xb_i12_3 xb_k12_3 xb_f12_3
        | 4 => exact main 12 4 rfl rfl xb_i12_4 xb_k12_4 xb_f12_4
        | 5 => exact main 12 5 rfl rfl xb_i12_5 xb_k12_5 xb_f12_5
        | 6 => exact main 12 6 rfl rfl xb_i12_6 xb_k12_6 xb_f12_6
        | 7 => exact main 12 7 rfl rfl xb_i12_7 xb_k12_7 xb_f12_7
        | 8 => exact main 12 8 rfl rfl xb_i12_8 xb_k12_8 xb_f12_8
        | 9 => exact main 12 9 rfl rfl xb_i12_9 xb_k12_9 xb_f12_9
        | 10 => exact main 12 10 rfl rfl xb_i12_10 xb_k12_10 xb_f12_10
        | 11 => exact main 12 11 rfl rfl xb_i12_11 xb_k12_11 xb_f12_11
        | m + 12 => exact fin _ _ .nil .nil (iv _) (iv _) un un (xb_m12 m)
    | m + 13 => exact fin _ .nil .nil .nil (iv _) un un un (xb_big m .nil)
end
end Go.Proofs.YtbkilngeedbkpaaGreatDoor
