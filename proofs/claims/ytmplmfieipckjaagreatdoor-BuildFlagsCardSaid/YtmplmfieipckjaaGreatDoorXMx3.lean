/-
  A part of a small executor of the model, proved sound (Mx3 of 46). No condition.
-/
import Derived.Test.YtmplmfieipckjaaGreatDoorXMx2
import Derived.Laws.CopyRow
namespace Go.Mx
noncomputable section
theorem lput_length (vs : List Value) (j : Nat) (ns : List Value) (h : j + ns.length ≤ vs.length) : (lput vs j ns).length = vs.length := by
  simp [lput]; omega
theorem lput_drop (vs : List Value) (b off : Nat) (ns : List Value) (h : b + off + ns.length ≤ vs.length) : (lput vs (b + off) ns).drop b = lput (vs.drop b) off ns := by
  unfold lput
  have hl : (vs.take (b + off)).length = b + off := by simp; omega
  rw [List.append_assoc, List.drop_append_of_le_length (by omega), List.append_assoc]
  congr 1
  · rw [List.drop_take]; congr 1; omega
  · rw [List.drop_drop]; congr 2; omega
def free (n : Nat) (fz : Nat × Nat) : Prop := ∀ q, q < n → ¬ (fz.1 ≤ q ∧ (q < fz.2 ∨ fz.2 < fz.1))
theorem run_storeCells_free (P : Program) (g o : Nat) (t : TypeId) (fz : Nat × Nat) : ∀ (vs : List Value) (i : Nat) (cur : Array Value) (w : World), w.heap[g]? = some (.cells cur t fz) → free cur.size fz → o + i + vs.length ≤ cur.size → (∀ v ∈ vs, v.oneCell' = true) →
    (storeCells ⟨g, o, none⟩ vs i).run P w = .ok () (w.setRow g (lput cur.toList (o + i) vs).toArray)
  | [], i, cur, w, hg, _, _, _ => by
    simp only [storeCells, lput, List.append_nil, List.length_nil, Nat.add_zero, List.take_append_drop, Array.toArray_toList]
    rw [setRow_self w g cur t fz hg]
    rfl
  | v :: rest, i, cur, w, hg, hfz, hl, h1 => by
    have hi : o + i < cur.size := by simp at hl; omega
    have hadd : (⟨g, o, none⟩ : Addr).add i = ⟨g, o + i, none⟩ := by unfold Addr.add; split <;> simp_all
    have hcell : w.cell? ⟨g, o + i, none⟩ = some cur[o + i] := by simp [World.cell?, hg, hi]
    have hfro : w.frozen? ⟨g, o + i, none⟩ = false := by
      have := hfz (o + i) hi
      simp only [World.frozen?, hg]
      obtain ⟨lo, hi'⟩ := fz
      simp only at this ⊢
      by_cases h : lo ≤ o + i
      · have h2 : ¬ o + i < hi' := fun h3 => this ⟨h, .inl h3⟩
        simp [h2]
      · simp [h]
    have hst : (store ((⟨g, o, none⟩ : Addr).add i) v).run P w = .ok () (w.setRow g (cur.setIfInBounds (o + i) v)) := by
      rw [hadd, run_store P w _ v _ (h1 v (by simp)), hcell]
      simp [hfro, setCell_eq_setRow w g (o + i) cur t fz v hg]
    have ih := run_storeCells_free P g o t fz rest (i + 1) (cur.setIfInBounds (o + i) v) (w.setRow g (cur.setIfInBounds (o + i) v)) (setRow_heap w g cur _ t _ hg) (by simpa using hfz) (by simp at hl ⊢; omega) (fun x hx => h1 x (by simp [hx]))
    simp only [storeCells, Sem.run_bind, hst, Result.andThen_ok, ih, setRow_setRow]
    congr 3
    have e := list_seg_step cur.toList (o + i) v rest (by simp at hl ⊢; omega)
    simpa [lput, Array.toList_setIfInBounds, Nat.add_assoc] using e
theorem run_loadCells_of (P : Program) (w : World) (g o n : Nat) (t : TypeId) (fz : Nat × Nat) (cur : Array Value) (hg : w.heap[g]? = some (.cells cur t fz)) (hn : o + n ≤ cur.size) :
    (loadCells ⟨g, o, none⟩ n).run P w = .ok ((cur.toList.drop o).take n).toArray w := by
  have hl : ((cur.toList.drop o).take n).length = n := by simp; omega
  have := run_loadCells_list (P := P) w ⟨g, o, none⟩ ((cur.toList.drop o).take n) (fun j v hj => by
    have hlt : j < n := by
      rcases Nat.lt_or_ge j n with h | h
      · exact h
      · rw [List.getElem?_eq_none (by omega)] at hj; cases hj
    have hadd : (⟨g, o, none⟩ : Addr).add j = ⟨g, o + j, none⟩ := by unfold Addr.add; split <;> simp_all
    rw [hadd]
    simp only [World.cell?, hg]
    simp only [List.getElem?_take, hlt, if_true, List.getElem?_drop] at hj
    simpa using hj)
  rwa [hl] at this
theorem run_load_of (P : Program) (w : World) (g o : Nat) (t : TypeId) (fz : Nat × Nat) (cur : Array Value) (v : Value) (hg : w.heap[g]? = some (.cells cur t fz)) (hv : cur.toList[o]? = some v) :
    (load ⟨g, o, none⟩).run P w = .ok v w := by
  have : w.cell? ⟨g, o, none⟩ = some v := by simp only [World.cell?, hg]; simpa using hv
  simp [run_load, this]
theorem setRow_heap_eq (w : World) (g : Nat) (cs arr : Array Value) (ty : TypeId) (fz : Nat × Nat) (hh : w.heap[g]? = some (.cells arr ty fz)) :
    (w.setRow g cs).heap = w.heap.setIfInBounds g (.cells cs ty fz) := by
  have hlt := (Array.getElem?_eq_some_iff.1 hh).1
  have hv := (Array.getElem?_eq_some_iff.1 hh).2
  apply Array.ext_getElem?
  intro q
  simp only [World.setRow, Array.getElem?_modify, Array.getElem?_setIfInBounds]
  by_cases e : g = q
  · subst e
    simp [hlt, hv]
  · simp [e]
theorem St.heap {ρ : Ren} {h : T O} {nx : Nat} {w w' : World} (s : St ρ h nx w) (e : w'.heap = w.heap) : St ρ h nx w' :=
  ⟨fun id L hl hr => by rw [e]; exact s.rel id L hl hr, s.inj, s.fresh, s.dead⟩
theorem St.lt {ρ : Ren} {h : T O} {nx : Nat} {w : World} (s : St ρ h nx w) {id : Nat} {L : Loc} (hl : (gt O.none id h).live) (hr : ρ id = some L) : L.blk < w.heap.size := by
  obtain ⟨o, h2, _⟩ := s.rel id L hl hr
  exact (Array.getElem?_eq_some_iff.1 h2).1
def upd (ρ : Ren) (i : Nat) (L : Loc) : Ren := fun j => if j = i then some L else ρ j
theorem upd_same (ρ : Ren) (i : Nat) (L : Loc) : upd ρ i L i = some L := by simp [upd]
theorem upd_ne (ρ : Ren) {i j : Nat} (L : Loc) (h : j ≠ i) : upd ρ i L j = ρ j := by simp [upd, h]
theorem upd_le {ρ : Ren} {i : Nat} {L : Loc} (h : ρ i = none) : Ren.le ρ (upd ρ i L) := by
  intro j M hj
  by_cases e : j = i
  · subst e; rw [h] at hj; cases hj
  · rw [upd_ne _ _ e]; exact hj
theorem St.alloc {ρ : Ren} {h : T O} {nx : Nat} {w : World} (s : St ρ h nx w) {o : O} {ob : Obj} {n : Nat}
    (ho : OR (upd ρ nx ⟨w.heap.size, 0, n⟩) ⟨w.heap.size, 0, n⟩ o ob) :
    St (upd ρ nx ⟨w.heap.size, 0, n⟩) (st O.none o nx h) (nx + 1) (w.alloc ob) ∧ Ext ρ h w (upd ρ nx ⟨w.heap.size, 0, n⟩) (st O.none o nx h) (w.alloc ob) := by
  have hf : ρ nx = none := s.fresh nx (Nat.le_refl _)
  have hle := upd_le (L := ⟨w.heap.size, 0, n⟩) hf
  have hdead : ¬ (gt O.none nx h).live := s.dead nx (Nat.le_refl _)
  refine ⟨⟨?_, ?_, ?_, ?_⟩, hle, by simp, rfl, rfl, rfl, ?_, ?_⟩
  · intro id L hl hL
    by_cases e : nx = id
    · subst e
      rw [gt_st_same] at hl ⊢
      rw [upd_same] at hL; cases hL
      exact ⟨ob, by show (w.heap.push ob)[w.heap.size]? = some ob; simp, ho⟩
    · rw [gt_st_ne _ _ e] at hl ⊢
      rw [upd_ne _ _ (Ne.symm e)] at hL
      obtain ⟨o', h2, h3⟩ := s.rel id L hl hL
      refine ⟨o', ?_, h3.mono hle⟩
      have hlt := (Array.getElem?_eq_some_iff.1 h2).1
      show (w.heap.push ob)[L.blk]? = some o'
      rw [Array.getElem?_push, if_neg (by omega)]
      exact h2
  · intro i j L M hi hj hL hM hb
    by_cases ei : nx = i
    · by_cases ej : nx = j
      · rw [← ei, ← ej]
      · subst ei
        rw [upd_same] at hL; cases hL
        rw [gt_st_ne _ _ ej] at hj
        rw [upd_ne _ _ (Ne.symm ej)] at hM
        have := s.lt hj hM
        simp at hb; omega
    · by_cases ej : nx = j
      · subst ej
        rw [upd_same] at hM; cases hM
        rw [gt_st_ne _ _ ei] at hi
        rw [upd_ne _ _ (Ne.symm ei)] at hL
        have := s.lt hi hL
        simp at hb; omega
      · rw [gt_st_ne _ _ ei] at hi
        rw [gt_st_ne _ _ ej] at hj
        rw [upd_ne _ _ (Ne.symm ei)] at hL
        rw [upd_ne _ _ (Ne.symm ej)] at hM
        exact s.inj i j L M hi hj hL hM hb
  · intro i hi
    rw [upd_ne _ _ (by omega)]
    exact s.fresh i (by omega)
  · intro i hi
    rw [gt_st_ne _ _ (by omega)]
    exact s.dead i (by omega)
  · intro b hb hk
    refine ⟨by show (w.heap.push ob)[b]? = w.heap[b]?; rw [Array.getElem?_push, if_neg (by omega)], fun id L hw hL => ?_⟩
    by_cases e : nx = id
    · subst e
      rw [upd_same] at hL; cases hL
      simp; omega
    · rw [gt_st_ne _ _ e] at hw
      rw [upd_ne _ _ (Ne.symm e)] at hL
      exact hk id L hw hL
  · intro id hl hn
    have e : nx ≠ id := fun e => hdead (e ▸ hl)
    exact ⟨by rw [upd_ne _ _ (Ne.symm e)]; exact hn, gt_st_ne _ _ e _⟩
theorem St.write {ρ : Ren} {h : T O} {nx : Nat} {w : World} (s : St ρ h nx w) {id : Nat} {L : Loc} (hw : (gt O.none id h).wr) (hL : ρ id = some L) {o : O} {ob : Obj}
    (ho : OR ρ L o ob) {w' : World} (e : w'.heap = w.heap.setIfInBounds L.blk ob) (e1 : w'.os = w.os) (e2 : w'.tape = w.tape) (e3 : w'.output = w.output) :
    St ρ (st O.none o id h) nx w' ∧ Ext ρ h w ρ (st O.none o id h) w' := by
  have hlt := s.lt (O.live_of_wr hw) hL
  have hid : id < nx := Nat.lt_of_not_le fun hc => by rw [s.fresh id hc] at hL; cases hL
  refine ⟨⟨?_, ?_, s.fresh, fun i hi => by rw [gt_st_ne _ _ (by omega)]; exact s.dead i hi⟩, Ren.le.refl _, by rw [e]; simp, e1, e2, e3, ?_, fun q hq hn => ⟨hn, gt_st_ne _ _ (fun eq => by subst eq; rw [hn] at hL; cases hL) _⟩⟩
  · intro j M hl h1
    by_cases ej : id = j
    · subst ej
      rw [gt_st_same] at hl ⊢
      rw [hL] at h1; cases h1
      exact ⟨ob, by rw [e]; simp [hlt], ho⟩
    · rw [gt_st_ne _ _ ej] at hl ⊢
      obtain ⟨o', h2, h3⟩ := s.rel j M hl h1
      refine ⟨o', ?_, h3⟩
      rw [e, Array.getElem?_setIfInBounds_ne]
      · exact h2
      · intro hb
        exact ej (s.inj id j L M (O.live_of_wr hw) hl hL h1 hb)
  · intro i j A B hi hj hA hB hb
    have key : ∀ q, (gt O.none q (st O.none o id h)).live → (gt O.none q h).live := by
      intro q hq
      by_cases eq : id = q
      · subst eq; exact O.live_of_wr hw
      · rwa [gt_st_ne _ _ eq] at hq
    exact s.inj i j A B (key i hi) (key j hj) hA hB hb
  · intro b hb hk
    refine ⟨?_, fun q M hq hM => ?_⟩
    · rw [e, Array.getElem?_setIfInBounds_ne]
      exact hk id L hw hL
    · by_cases eq : id = q
      · subst eq; exact hk _ _ hw hM
      · rw [gt_st_ne _ _ eq] at hq
        exact hk q M hq hM
theorem Ext.same {ρ : Ren} {h : T O} {w w' : World} (e : w'.heap = w.heap) (e1 : w'.os = w.os) (e2 : w'.tape = w.tape) (e3 : w'.output = w.output) : Ext ρ h w ρ h w' :=
  ⟨Ren.le.refl _, by rw [e]; exact Nat.le_refl _, e1, e2, e3, fun b _ hk => ⟨by rw [e], hk⟩, fun _ _ k => ⟨k, rfl⟩⟩
end
end Go.Mx
