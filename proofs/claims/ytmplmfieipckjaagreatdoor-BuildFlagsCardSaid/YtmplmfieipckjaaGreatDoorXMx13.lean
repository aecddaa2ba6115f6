/-
  A part of a small executor of the model, proved sound (Mx13 of 46). No condition.
-/
import Derived.Test.YtmplmfieipckjaaGreatDoorXMx12
namespace Go.Mx
open Instr
noncomputable section
variable {P : Program} {ρ : Ren} {h : T O} {nx : Nat} {w : World}
theorem range_mod (a : Array Value) (_hs : 0 < a.size) : ∀ k : Nat, ((List.range (k * a.size)).map fun i => a[i % a.size]!) = (List.replicate k a.toList).flatten := by
  intro k
  induction k with
  | zero => simp
  | succ k ih =>
    have e : (k + 1) * a.size = a.size + k * a.size := by rw [Nat.succ_mul]; omega
    rw [e, List.range_add, List.map_append, List.map_map, List.replicate_succ, List.flatten_cons]
    congr 1
    · apply List.ext_getElem?
      intro j
      by_cases hj : j < a.size
      · simp [hj, Nat.mod_eq_of_lt hj]
      · simp [hj]
    · rw [← ih]
      apply List.map_congr_left
      intro i _
      simp
theorem repK_spec {z : V} : ∀ {n : Nat} {k : V → Bool}, repK z n k = true → isC z → ∃ c, k c = true ∧ ∀ ρ vs, VRs ρ z vs → VRs ρ c (List.replicate n vs).flatten := by
  intro n
  induction n with
  | zero => intro k hk _; exact ⟨.nil, hk, fun ρ vs _ => by simp [VRs]⟩
  | succ n ih =>
    intro k hk hc
    obtain ⟨c, hc1, hc2⟩ := ih (k := fun c => catK z c k) hk hc
    obtain ⟨c', h1, _, h2, _⟩ := catK_spec hc1 hc
    exact ⟨c', h1, fun ρ vs hv => by rw [List.replicate_succ, List.flatten_cons]; exact h2 ρ _ _ hv (hc2 ρ vs hv)⟩
theorem opBuildSlice_sound {t : TypeId} {len : Nat} {ps : List (Nat × V)} {vs : Array (Nat × Value)} {K : KV} (hk : opBuildSlice P t len ps h nx K = true) (hr : PsR ρ ps vs.toList) (s : St ρ h nx w) :
    ∃ ρ' x h' nx' v w', K x h' nx' = true ∧ VR ρ' x v ∧ St ρ' h' nx' w' ∧ Ext ρ h w ρ' h' w' ∧ (Instr.buildSlice t len vs).run P w = .ok v w' := by
  cases hE : slE P t with
  | zero => unfold opBuildSlice at hk; rw [hE] at hk; exact Bool.noConfusion hk
  | succ sz =>
    unfold opBuildSlice at hk
    rw [hE] at hk
    obtain ⟨e1, hk⟩ := ite1_spec hk
    obtain ⟨e2, hk⟩ := ite1_spec hk
    have e1 := Nat.blt_eq.mp e1
    have e2 := Nat.le_of_ble_eq_true e2
    obtain ⟨ie, hu, hie, hsz⟩ := slE_spec hE
    cases hz : zeroC P (slT P t) with
    | none => rw [hz] at hk; exact Bool.noConfusion hk
    | some z =>
      rw [hz] at hk
      obtain ⟨zv, hzv, hzr⟩ := zeroC_spec hz
      obtain ⟨zn, hk, hzn, _⟩ := lenK_spec (show lenK z 0 (fun zn => ite1 (Nat.beq zn sz) <| repK z len fun c => fillK (placeS P t) ps c fun c' => newK c' (slT P t) h nx fun id h' nx' => K (.sl id 0 len sz) h' nx') = true from hk) (VRs_isC (hzr ρ))
      rw [Nat.zero_add] at hk
      obtain ⟨e3, hk⟩ := ite1_spec hk
      have e3 := beq_spec e3
      have hzs : zv.cells.size = sz := by have := hzn ρ _ (hzr ρ); simp at this; omega
      obtain ⟨c, hk, hrep⟩ := repK_spec hk (VRs_isC (hzr ρ))
      have hc := hrep ρ _ (hzr ρ)
      have hcells : ((Array.range (len * sz)).map ((if len * sz = 0 then #[] else zv.cells)[· % (if len * sz = 0 then (#[] : Array Value) else zv.cells).size]!)).toList = (List.replicate len zv.cells.toList).flatten := by
        by_cases h0 : len * sz = 0
        · have hl : len = 0 := by
            rcases Nat.mul_eq_zero.1 h0 with h | h
            · exact h
            · omega
          subst hl
          simp
        · rw [if_neg h0]
          have := range_mod zv.cells (by omega) len
          rw [← this, hzs]
          simp
      obtain ⟨c', cells', hk, h2, h3, h4⟩ := fillK_sound (place := placeS P t) (place' := fun i => some (i * sz, sz)) (fun i o s hp => by
        unfold placeS at hp
        rw [hE] at hp
        simp at hp
        obtain ⟨rfl, rfl⟩ := hp
        rfl) (cells := (Array.range (len * sz)).map ((if len * sz = 0 then #[] else zv.cells)[· % (if len * sz = 0 then (#[] : Array Value) else zv.cells).size]!)) hk hr (by rw [hcells]; exact hc)
      obtain ⟨h', w', g1, rfl, g3, g4⟩ := newK_sound (K := fun id h' nx' => K (.sl id 0 len sz) h' nx') hk s h2.CR'
      refine ⟨_, _, _, _, .slice (some ⟨w.heap.size, 0, none⟩) len len, _, g1, ?_, g3, g4, ?_⟩
      · refine VR_sl (upd_same _ _ _) (Nat.le_refl _) ?_ rfl
        simp at h4
        simp [h4]
      · have hle : ¬ (len * sz > 2 ^ 24) := by simp; omega
        unfold Instr.buildSlice
        by_cases h0 : len * sz = 0
        · simp only [h0, if_true] at h3
          have hle0 : ¬ (0 > 2 ^ 24) := by decide
          simp only [Sem.run_bind, run_und hu, Result.andThen_ok, run_size hie, hsz, hle0, if_false, h0, if_true, Sem.run_pure, h3, newRow, run_newObj]
          rfl
        · simp only [h0, if_false] at h3
          simp only [Sem.run_bind, run_und hu, Result.andThen_ok, run_size hie, hsz, hle, if_false, h0, Sem.run_pure, hzv, h3, newRow, run_newObj]
          rfl
end
end Go.Mx
