/-
  What stands behind the first loop, by the kernel. No condition.
-/
import Derived.Test.YtpodnhoafbbkkaaGreatDoorXlW
import Derived.Test.YtpodnhoafbbkkaaGreatDoorHk
open Go Go.Mx Go.RowKit
namespace Go.Proofs.YtpodnhoafbbkkaaGreatDoor
set_option maxRecDepth 1000000
noncomputable section
def MX : Nat := 115792089237316195423570985008687907853268655437644779123584680200852849295359
theorem mx120 : tbN MX 120 = false := by kernel_rfl
def tmX (a b c : V) : T V := st V.nil a 0 (st V.nil b 1 (st V.nil c 6 .leaf))
def xlRun (τ : Nat → Nat) (ob : List (Nat × O)) (a b c : V) : Bool := mkTK τ tbl (putO ob .leaf) (fun h0 => exec Tryz.prog 8 (hkL hkB) 100000 xlRest 93 (tmX a b c) .nil (.b false) h0 (8 + 2) (retK 4))
def xlP (lo hi t : Nat) (τ : Nat → Nat) : Bool := xlRun τ [(8, .r (pcM MX 8 lo hi) 5 false)] (.o 2 (pcM MX 8 lo hi) 3 0 0) (.i .i64 (Int.ofNat t)) (.o 3 (pcM MX 8 lo hi) 8 0 0)
def xlZ (t : Nat) (τ : Nat → Nat) : Bool := xlRun τ [] (.i .i64 (Int.ofNat 0)) (.i .i64 (Int.ofNat t)) .se
theorem xl_z1 (τ : Nat → Nat) : xlZ 1 τ = true := by kernel_rfl
theorem xl_r1_0 (τ : Nat → Nat) : xlP 1 819 1 τ = true := by kernel_rfl
theorem xl_r1_1 (τ : Nat → Nat) : xlP 820 1024 1 τ = true := by kernel_rfl
theorem xl_r1_2 (τ : Nat → Nat) : xlP 1025 1100 1 τ = true := by kernel_rfl
theorem xl_z2 (τ : Nat → Nat) : xlZ 2 τ = true := by kernel_rfl
theorem xl_r2_0 (τ : Nat → Nat) : xlP 1 819 2 τ = true := by kernel_rfl
theorem xl_r2_1 (τ : Nat → Nat) : xlP 820 1024 2 τ = true := by kernel_rfl
theorem xl_r2_2 (τ : Nat → Nat) : xlP 1025 1100 2 τ = true := by kernel_rfl
theorem xl_z3 (τ : Nat → Nat) : xlZ 3 τ = true := by kernel_rfl
theorem xl_r3_0 (τ : Nat → Nat) : xlP 1 819 3 τ = true := by kernel_rfl
theorem xl_r3_1 (τ : Nat → Nat) : xlP 820 1024 3 τ = true := by kernel_rfl
theorem xl_r3_2 (τ : Nat → Nat) : xlP 1025 1100 3 τ = true := by kernel_rfl
theorem xl_z4 (τ : Nat → Nat) : xlZ 4 τ = true := by kernel_rfl
theorem xl_r4_0 (τ : Nat → Nat) : xlP 1 819 4 τ = true := by kernel_rfl
theorem xl_r4_1 (τ : Nat → Nat) : xlP 820 1024 4 τ = true := by kernel_rfl
theorem xl_r4_2 (τ : Nat → Nat) : xlP 1025 1100 4 τ = true := by kernel_rfl
theorem xl_z5 (τ : Nat → Nat) : xlZ 5 τ = true := by kernel_rfl
theorem xl_r5_0 (τ : Nat → Nat) : xlP 1 819 5 τ = true := by kernel_rfl
theorem xl_r5_1 (τ : Nat → Nat) : xlP 820 1024 5 τ = true := by kernel_rfl
theorem xl_r5_2 (τ : Nat → Nat) : xlP 1025 1100 5 τ = true := by kernel_rfl
theorem hexX : EXok Tryz.prog 8 (exec Tryz.prog 8 (hkL hkB) 100000) := exec_sound follows nameOK hkBok 100000
theorem tmX_at (a b c : V) (i : Nat) : gt V.nil i (tmX a b c) = if i = 0 then a else if i = 1 then b else if i = 6 then c else .nil := by
  unfold tmX
  by_cases h0 : i = 0
  · subst h0; rw [gt_st_same, if_pos rfl]
  · rw [gt_st_ne _ _ (Ne.symm h0), if_neg h0]
    by_cases h1 : i = 1
    · subst h1; rw [gt_st_same, if_pos rfl]
    · rw [gt_st_ne _ _ (Ne.symm h1), if_neg h1]
      by_cases h6 : i = 6
      · subst h6; rw [gt_st_same, if_pos rfl]
      · rw [gt_st_ne _ _ (Ne.symm h6), if_neg h6, gt_leaf]
theorem tmX_TR {ρ : Ren} {a b c : V} {x : Act} {va vb vc : Value} (h0 : x.tmps.getD 0 undef = va) (h1 : x.tmps.getD 1 undef = vb) (h6 : x.tmps.getD 6 undef = vc) (ra : VR ρ a va) (rb : VR ρ b vb) (rc : VR ρ c vc) : TR ρ (tmX a b c) x := by
  intro i
  rw [tmX_at]
  by_cases e0 : i = 0
  · subst e0; rw [if_pos rfl, h0]; exact ra
  · rw [if_neg e0]
    by_cases e1 : i = 1
    · subst e1; rw [if_pos rfl, h1]; exact rb
    · rw [if_neg e1]
      by_cases e6 : i = 6
      · subst e6; rw [if_pos rfl, h6]; exact rc
      · rw [if_neg e6]; simp only [VR]
theorem rest_p {n t lo hi : Nat} (h1 : lo ≤ n) (h2 : n ≤ hi) (hrun : ∀ τ, xlP lo hi t τ = true) : RestOk n t := by
  refine ⟨fun o b hc a w B g Q h0 h1' h6 hsz hd hown hQ => ?_⟩
  rw [hc]
  obtain ⟨cur, hg, hcs, htk⟩ := xl_block hown
  have hl : (xs n).length = n := xs_len n
  have hlh : lo ≤ (xs n).length ∧ (xs n).length ≤ hi := by omega
  have hm : ∀ c ∈ xs n, tbN MX c.toNat = false := fun c hc => by
    rw [xs, List.mem_replicate] at hc
    rw [hc.2]
    exact mx120
  have hob := pcM_ob (M := MX) (ng := 8) (b := g) (off := 0) (lo := lo) (hi := hi) (cap := n) (ty := 5) hlh hm hg (by omega) (by omega) htk
  refine mid_run hexX tblIn (ob := [(8, .r (pcM MX 8 lo hi) 5 false)]) (ρa := bytesR 8 g 0 cur.size (xs n)) (nx := 8 + 2) (by omega) bytesR_in hob (c := xlRest) (nt := 93) (slot := 4) (tmX_TR h0 h1' h6 ?_ ?_ ?_) hsz hd hrun (tabs w) hQ
  · have := pcM_N (M := MX) (ng := 8) (b := g) (off := 0) (sz := cur.size) hlh
    rwa [hl] at this
  · exact VRi _ _ _
  · have := pcM_V (M := MX) (ng := 8) (b := g) (off := 0) (sz := cur.size) (cap := n) hlh (by omega) (by omega)
    rwa [hl] at this
theorem rest_z {t : Nat} (hrun : ∀ τ, xlZ t τ = true) : RestOk 0 t := by
  refine ⟨fun o b hc a w B g Q h0 h1' h6 hsz hd hown hQ => ?_⟩
  rw [hc]
  refine mid_run hexX tblIn (ob := []) (ρa := fun _ => none) (nx := 8 + 2) (by omega) (fun i L h => by cases h) (fun i hi => by rw [show putO [] (.leaf : T O) = .leaf from rfl, gt_leaf] at hi; exact hi.elim) (c := xlRest) (nt := 93) (slot := 4) (tm := tmX (.i .i64 (Int.ofNat 0)) (.i .i64 (Int.ofNat t)) .se) (tmX_TR h0 h1' h6 (VRi _ _ _) (VRi _ _ _) ?_) hsz hd (by intro τ; have h := hrun τ; unfold xlZ xlRun at h; exact h) (tabs w) hQ
  simp only [VR]
  exact ⟨_, _, rfl⟩
theorem rest_all : ∀ n t : Nat, n ≤ 1100 → 1 ≤ t → t ≤ 5 → RestOk n t := by
  intro n t hn h1 h5
  by_cases hz : n = 0
  · subst hz
    match t, h1, h5 with
    | 1, _, _ => exact rest_z xl_z1
    | 2, _, _ => exact rest_z xl_z2
    | 3, _, _ => exact rest_z xl_z3
    | 4, _, _ => exact rest_z xl_z4
    | 5, _, _ => exact rest_z xl_z5
    | 0, h, _ => exact absurd h (by omega)
    | t + 6, _, h => exact absurd h (by omega)
  by_cases hr0 : n ≤ 819
  · match t, h1, h5 with
    | 1, _, _ => exact rest_p (lo := 1) (hi := 819) (by omega) (by omega) xl_r1_0
    | 2, _, _ => exact rest_p (lo := 1) (hi := 819) (by omega) (by omega) xl_r2_0
    | 3, _, _ => exact rest_p (lo := 1) (hi := 819) (by omega) (by omega) xl_r3_0
    | 4, _, _ => exact rest_p (lo := 1) (hi := 819) (by omega) (by omega) xl_r4_0
    | 5, _, _ => exact rest_p (lo := 1) (hi := 819) (by omega) (by omega) xl_r5_0
    | 0, h, _ => exact absurd h (by omega)
    | t + 6, _, h => exact absurd h (by omega)
  by_cases hr1 : n ≤ 1024
  · match t, h1, h5 with
    | 1, _, _ => exact rest_p (lo := 820) (hi := 1024) (by omega) (by omega) xl_r1_1
    | 2, _, _ => exact rest_p (lo := 820) (hi := 1024) (by omega) (by omega) xl_r2_1
    | 3, _, _ => exact rest_p (lo := 820) (hi := 1024) (by omega) (by omega) xl_r3_1
    | 4, _, _ => exact rest_p (lo := 820) (hi := 1024) (by omega) (by omega) xl_r4_1
    | 5, _, _ => exact rest_p (lo := 820) (hi := 1024) (by omega) (by omega) xl_r5_1
    | 0, h, _ => exact absurd h (by omega)
    | t + 6, _, h => exact absurd h (by omega)
  · match t, h1, h5 with
    | 1, _, _ => exact rest_p (lo := 1025) (hi := 1100) (by omega) (by omega) xl_r1_2
    | 2, _, _ => exact rest_p (lo := 1025) (hi := 1100) (by omega) (by omega) xl_r2_2
    | 3, _, _ => exact rest_p (lo := 1025) (hi := 1100) (by omega) (by omega) xl_r3_2
    | 4, _, _ => exact rest_p (lo := 1025) (hi := 1100) (by omega) (by omega) xl_r4_2
    | 5, _, _ => exact rest_p (lo := 1025) (hi := 1100) (by omega) (by omega) xl_r5_2
    | 0, h, _ => exact absurd h (by omega)
    | t + 6, _, h => exact absurd h (by omega)
theorem al_fn : Tryz.prog.funcs[4]? = some Tryz.f4 := by kernel_rfl
theorem al_body : ∃ c, Tryz.f4.body = some c := ⟨_, rfl⟩
theorem xl_calls (n0 n1 : Int) {W : World} (tab : HasTables tbl W) : Calls Tryz.prog 3 #[.int .i64 n0, .int .i64 n1] W fun e W' => e = .returned (.bool true) ∧ Stays W W' := by
  obtain ⟨c, hb⟩ := al_body
  exact xl_any n0 n1 ((top_run follows nameOK hk0ok al_fn hb tblIn (args := .nil) (vs := []) (by simp only [VRs]) alive4 tab).mono fun e W' h => ⟨h.1, below_stays h.2⟩) rest_all
end
end Go.Proofs.YtpodnhoafbbkkaaGreatDoor
