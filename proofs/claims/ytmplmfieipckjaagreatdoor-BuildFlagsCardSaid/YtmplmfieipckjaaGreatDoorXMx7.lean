/-
  A part of a small executor of the model, proved sound (Mx7 of 46). No condition.
-/
import Derived.Test.YtmplmfieipckjaaGreatDoorXMx6
namespace Go.Mx
open Instr
noncomputable section
variable {P : Program} {ρ : Ren} {h : T O} {nx : Nat} {w : World}
theorem St.at (s : St ρ h nx w) {id off : Nat} {l : V} {ty : Nat} {wr : Bool} (ho : asC (gt O.none id h) = .c l ty wr) {v : Value} (hv : VR ρ (.p id off) v) :
    ∃ L arr fz, ρ id = some L ∧ v = .pointer (some ⟨L.blk, L.base + off, none⟩) ∧ w.heap[L.blk]? = some (.cells arr ty fz) ∧ arr.size = L.size ∧ free L.size fz ∧ L.base ≤ L.size ∧ CR ρ l (arr.toList.drop L.base) := by
  simp only [VR] at hv
  obtain ⟨L, hL, rfl⟩ := hv
  obtain ⟨o, h2, h3⟩ := s.relC ho hL
  obtain ⟨arr, fz, rfl, h4, h5, h6, h7⟩ := h3
  exact ⟨L, arr, fz, hL, rfl, h2, h4, h5, h6, h7⟩
theorem opLoad_sound {t : TypeId} {x : V} {K : V → Bool} {v : Value} (hk : opLoad P t x h K = true) (s : St ρ h nx w) (hv : VR ρ x v) :
    ∃ y r, K y = true ∧ VR ρ y r ∧ (loadAt t v).run P w = .ok r w := by
  obtain ⟨id, off, rfl, hk⟩ := vP_spec hk
  obtain ⟨l, ty, wr, ho, hk⟩ := oC_spec hk
  obtain ⟨L, arr, fz, hL, rfl, hh, hs, hfz, hb, hc⟩ := s.at ho hv
  obtain ⟨y, hy, hp⟩ := partK_spec hk (CR_isC hc)
  rcases hp with ⟨h1, hp⟩ | ⟨n, h1, hp⟩
  · obtain ⟨r, hr, hvr⟩ := hp ρ _ hc
    refine ⟨y, r, hy, hvr, ?_⟩
    rw [List.getElem?_drop] at hr
    simp only [loadAt, sureAddr, loadVar, Sem.run_bind, Sem.run_pure, Result.andThen_ok, ldk_one h1, Sem.run_ite, Bool.false_eq_true, if_false]
    exact run_load_of P w _ _ _ _ _ _ hh hr
  · obtain ⟨h2, c, rfl, hvc⟩ := hp ρ _ hc
    simp only [List.length_drop, Array.length_toList] at h2
    refine ⟨.a c, .agg ⟨((arr.toList.drop L.base).drop off).take n⟩, hy, ⟨_, hvc, rfl⟩, ?_⟩
    obtain ⟨ha, hn⟩ := ldk_agg h1
    simp only [loadAt, sureAddr, loadVar, Sem.run_bind, Sem.run_pure, Result.andThen_ok, ha, Sem.run_ite, if_true, hn]
    rw [run_loadCells_of P w _ _ n _ _ _ hh (by omega)]
    simp only [Result.andThen_ok]
    rw [List.drop_drop]
theorem storeAtK_sound {t : TypeId} {id off : Nat} {l x : V} {ty : Nat} {mk : V → O} {K : T O → Bool} {va vx : Value} (hk2 : storeAtK P t x h id off l mk K = true) (s : St ρ h nx w) (ho : asC (gt O.none id h) = .c l ty true) (hva : VR ρ (.p id off) va) (hvx : VR ρ x vx)
    (hmk : ∀ l' L arr fz ns, ρ id = some L → w.heap[L.blk]? = some (.cells arr ty fz) → L.base + off + ns.length ≤ arr.size → (∀ vs, VRs ρ l vs → VRs ρ l' (lput vs off ns)) → OR ρ L (.c l' ty true) (.cells (lput arr.toList (L.base + off) ns).toArray ty fz) → OR ρ L (mk l') (.cells (lput arr.toList (L.base + off) ns).toArray ty fz)) :
    ∃ h' w', K h' = true ∧ St ρ h' nx w' ∧ Ext ρ h w ρ h' w' ∧ (storeAt t va vx).run P w = .ok () w' := by
  obtain ⟨c, hk, hc⟩ := cellsK_spec hk2
  have hcv := hc ρ vx hvx
  obtain ⟨n, hk, hn, _⟩ := lenK_spec hk (VRs_isC hcv)
  obtain ⟨hz, hk⟩ := ite1_spec hk
  have hz := Nat.eq_of_beq_eq_true hz
  simp only [Nat.zero_add] at hz hk
  obtain ⟨i, hi, hin⟩ := szk_spec (P := P) hz
  obtain ⟨L, arr, fz, hL, rfl, hh, hs, hfz, hb, hcr⟩ := s.at ho hva
  obtain ⟨l', hk, _, hput, hput2⟩ := putK_spec hk (CR_isC hcr) (VRs_isC hcv)
  rw [stK_eq] at hk
  obtain ⟨hcr', hle, hone⟩ := hput ρ _ _ hcr hcv
  simp only [List.length_drop, Array.length_toList] at hle
  have hlen := hn ρ _ hcv
  have hsz : vx.cells.toList.length = vx.cells.size := by simp
  have hsa : arr.toList.length = arr.size := by simp
  have hrun := run_storeCells_free P L.blk (L.base + off) ty fz vx.cells.toList 0 arr w hh (by rw [hs]; exact hfz) (by omega) hone
  have hor : OR ρ L (.c l' ty true) (.cells (lput arr.toList (L.base + off) vx.cells.toList).toArray ty fz) := by
    refine ⟨_, fz, rfl, ?_, hfz, hb, ?_⟩
    · rw [List.size_toArray, lput_length _ _ _ (by omega)]; simpa using hs
    · have e := lput_drop arr.toList L.base off vx.cells.toList (by omega)
      simpa [e] using hcr'
  have hor2 := hmk l' L arr fz vx.cells.toList hL hh (by omega) (fun vs hv => hput2 ρ vs _ hv hcv) hor
  have hhe : (w.setRow L.blk (lput arr.toList (L.base + off) vx.cells.toList).toArray).heap = w.heap.setIfInBounds L.blk (.cells (lput arr.toList (L.base + off) vx.cells.toList).toArray ty fz) := setRow_heap_eq w _ _ _ _ _ hh
  have hst := s.write (id := id) (L := L) (asC_wr ho) hL hor2 hhe rfl rfl rfl
  refine ⟨_, _, hk, hst.1, hst.2, ?_⟩
  simp only [storeAt, sureAddr, storeVar, Sem.run_bind, Sem.run_pure, Result.andThen_ok, run_size hi]
  have : ¬ (vx.cells.size ≠ i.size) := by
    rw [hin, ← hlen]; simp
  simp only [this, if_false]
  simpa using hrun
theorem opStore_sound {t : TypeId} {a x : V} {K : T O → Bool} {va vx : Value} (hk : opStore P t a x h K = true) (s : St ρ h nx w) (hva : VR ρ a va) (hvx : VR ρ x vx) :
    ∃ h' w', K h' = true ∧ St ρ h' nx w' ∧ Ext ρ h w ρ h' w' ∧ (storeAt t va vx).run P w = .ok () w' := by
  obtain ⟨id, off, rfl, hk⟩ := vP_spec hk
  rcases oW_spec hk with ⟨l, ty, wr, ho, hk1⟩ | ⟨l, ty, ho, hk1⟩
  · obtain ⟨hwr, hk2⟩ := ite1_spec hk1
    subst hwr
    exact storeAtK_sound hk2 s (by rw [ho]; rfl) hva hvx fun l' L arr fz ns _ _ _ _ h => h
  · refine storeAtK_sound hk1 s (by rw [ho]; rfl) hva hvx fun l' L arr fz ns hL hh hle hput h => ?_
    obtain ⟨o, h2, h3⟩ := s.rel id L (by rw [ho]; trivial) hL
    rw [ho] at h3
    obtain ⟨vs, rfl, h4, h5, h6⟩ := h3
    rw [hh] at h2
    simp only [Option.some.injEq, Obj.cells.injEq] at h2
    obtain ⟨rfl, _, rfl⟩ := h2
    rw [h5, Nat.zero_add] at hle ⊢
    refine ⟨lput vs off ns, rfl, ?_, h5, hput vs h6⟩
    rw [lput_length _ _ _ (by simpa using hle)]
    exact h4
end
end Go.Mx
