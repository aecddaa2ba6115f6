/-
  A part of a small executor of the model, proved sound (Mx27 of 46). No condition.
-/
import Derived.Test.YtmplmfieipckjaaGreatDoorXMx26
namespace Go.Mx
noncomputable section
variable {P : Program} {ng nt : Nat} {ck : CK} {ops : Array Oper} {df : List Deferred} {ρ0 : Ren} {h0 : T O} {w0 : World}
variable {d : DS} {tm : T V} {h : T O} {nx : Nat} {ls : Array Bool} {a : Act} {w : World} {ρ : Ren} {tmS : T V} {pid : Nat → Nat}
def putS (dst : Option Nat) (x : V) (tm : T V) : T V := match dst with
  | some t => st V.nil x t tm
  | none => tm
theorem putS_same {t : Nat} {x : V} : gt V.nil t (putS (some t) x tm) = x := gt_st_same _ _ _ _
theorem putS_ne {dst : Option Nat} {t : Nat} {x : V} (hn : dst ≠ some t) : gt V.nil t (putS dst x tm) = gt V.nil t tm := by
  cases dst with
  | none => rfl
  | some u => exact gt_st_ne _ _ (fun e => hn (by rw [e])) _
theorem TR.putS (ht : TR ρ tm a) {dst : Option Nat} {x : V} {v : Value} (hv : ∀ t, dst = some t → VR ρ x v ∧ t < a.tmps.size) : TR ρ (putS dst x tm) (a.put dst v) := by
  cases dst with
  | none => exact ht
  | some t => exact ht.put (hv t rfl).1 (hv t rfl).2
theorem put_size (a : Act) (dst : Option Nat) (v : Value) : (a.put dst v).tmps.size = a.tmps.size ∧ (a.put dst v).defers = a.defers := by
  cases dst <;> simp [Act.put]
theorem ls_set {i k : Nat} (hi : i < ls.size) : (ls.setIfInBounds i true).getD k false = if k = i then true else ls.getD k false := by
  by_cases e : k = i
  · subst e; simp [hi]
  · rw [if_neg e]
    simp only [Array.getD_eq_getD_getElem?]
    rw [Array.getElem?_setIfInBounds_ne (Ne.symm e)]
def Rdy (ls : Array Bool) (i : Nat) (o : Oper) : Prop := ls.getD i false = false ∧ ∀ e ∈ o.after.toList, bindB e = true → ls.getD e.on false = true
theorem J.sees (j : J P ng nt ck ops df ρ0 h0 w0 d tm h nx ls a w ρ tmS pid) {i : Nat} {o : Oper} (hd : d.dn.testBit i = true) (hi : ops[i]? = some o) (hr : Rdy ls i o) :
    opK P ng ck tmS o.op = opK P ng ck tm o.op ∧ wantK ops tmS o.guard = wantK ops tm o.guard := by
  refine op_agree fun t ht => j.agree t fun k o' hk hl hko hdst => ?_
  obtain ⟨e, h1, h2, h3⟩ := j.dep i o hd hr.1 hi t ht k o' hk hko hdst
  have := hr.2 e h1 h2
  rw [h3, hl] at this
  cases this
theorem J.list (j : J P ng nt ck ops df ρ0 h0 w0 d tm h nx ls a w ρ tmS pid) {i : Nat} {o : Oper} (hd : d.dn.testBit i = true) (hi : ops[i]? = some o) (hr : Rdy ls i o)
    {ρ' : Ren} {w' : World} {v : Value} (hs : St ρ' h nx w') (hx : Ext ρ0 h0 w0 ρ' h w') (hle : Ren.le ρ ρ') (hv : ∀ t, o.dst = some t → VR ρ' (gt V.nil t tm) v ∧ t < nt)
    (hph : ∀ k o', d.dn.testBit k = true → ls.getD k false = false → ops[k]? = some o' → k ≠ i → clsOp P o'.op = 1 → (∀ run skip, wantK ops tm o'.guard run skip = run) → ρ' (pid k) = none) :
    ∃ tmS', J P ng nt ck ops df ρ0 h0 w0 d tm h nx (ls.setIfInBounds i true) (a.put o.dst v) w' ρ' tmS' pid := by
  have hlt : i < ls.size := by rw [j.sz]; exact (Array.getElem?_eq_some_iff.1 hi).1
  have L := fun k => ls_set (k := k) hlt
  have un : ∀ k, (ls.setIfInBounds i true).getD k false = false → k ≠ i ∧ ls.getD k false = false := fun k hk => by
    rw [L] at hk
    by_cases e : k = i
    · rw [if_pos e] at hk; cases hk
    · rw [if_neg e] at hk; exact ⟨e, hk⟩
  have mono : ∀ k, ls.getD k false = true → (ls.setIfInBounds i true).getD k false = true := fun k hk => by
    rw [L]
    by_cases e : k = i
    · rw [if_pos e]
    · rw [if_neg e]; exact hk
  obtain ⟨p1, p2⟩ := put_size a o.dst v
  have val : ∀ {x : V}, ∀ t, o.dst = some t → gt V.nil t tm = x → True := fun _ _ _ => trivial
  refine ⟨match o.dst with
    | some t => putS (some t) (gt V.nil t tm) tmS
    | none => tmS, hs, hx, j.g.mono hle, ?_, by rw [p1]; exact j.ntok, by rw [p2]; exact j.dfok, by rw [Array.size_setIfInBounds]; exact j.sz, fun k hk => ?_, j.dl, j.dd, j.dt, fun k m hk hl => ?_, j.mt1, j.mt0, j.pr, j.uniq, fun k o' hk hl => j.dep k o' hk (un k hl).2, fun t ht => ?_, fun k o' hk hl hko => ?_, fun k m o1 o2 hk hl hko hc hm hlm => j.pinj k m o1 o2 hk (un k hl).2 hko hc hm (un m hlm).2⟩
  · cases hdst : o.dst with
    | none => exact j.t.mono hle
    | some t =>
      have := hv t hdst
      exact (j.t.mono hle).putS fun u hu => by cases hu; exact ⟨this.1, Nat.lt_of_lt_of_le this.2 j.ntok⟩
  · rw [L] at hk
    by_cases e : k = i
    · subst e; exact hd
    · rw [if_neg e] at hk; exact j.sub k hk
  · rw [L] at hl
    by_cases e : k = i
    · subst e
      obtain ⟨e, h1, h2, h3⟩ := j.mt1 k o m hd hi hk
      have h4 := hr.2 e h1 h2
      rcases h3 with rfl | h3
      · exact mono _ h4
      · exact mono _ (j.mt _ _ h3 h4)
    · rw [if_neg e] at hl; exact mono _ (j.mt k m hk hl)
  · have other : o.dst ≠ some t → gt V.nil t tmS = gt V.nil t tm := fun hne => j.agree t fun k o' hk hl hko => by
      by_cases e : k = i
      · subst e; rw [hi] at hko; cases hko; exact hne
      · exact ht k o' hk (by rw [L, if_neg e]; exact hl) hko
    cases hdst : o.dst with
    | none => exact other (by rw [hdst]; simp)
    | some u =>
      by_cases e : u = t
      · subst e; exact putS_same
      · have : (some u : Option Nat) ≠ some t := fun h => e (by cases h; rfl)
        exact (putS_ne this).trans (other (by rw [hdst]; exact this))
  · obtain ⟨e, hl'⟩ := un k hl
    rcases j.pend k o' hk hl' hko with hp | ⟨q1, q2, mk, ob, q3, q4, q5, q6, q7, q8⟩ | hp
    · exact .inl hp
    · exact .inr (.inl ⟨q1, q2, mk, ob, q3, q4, hph k o' hk hl' hko e q2 q1, q6, q7, q8⟩)
    · exact .inr (.inr hp)
theorem Ext.late (x : Ext ρ0 h0 w0 ρ h w) {id : Nat} {n : Nat} {obj : Obj} (hn : ρ id = none) (h0n : ¬ (gt O.none id h0).live) :
    Ext ρ0 h0 w0 (upd ρ id ⟨w.heap.size, 0, n⟩) h (w.alloc obj) := by
  have hle := upd_le (L := ⟨w.heap.size, 0, n⟩) hn
  refine ⟨x.le.trans hle, Nat.le_trans x.size (by simp), x.os, x.tape, x.output, fun b hb hk => ?_, fun q hl hr => ?_⟩
  · obtain ⟨e1, e2⟩ := x.kept b hb hk
    have hlt : b < w.heap.size := Nat.lt_of_lt_of_le hb x.size
    refine ⟨?_, fun q L hw hL => ?_⟩
    · rw [← e1]; show (w.heap.push obj)[b]? = w.heap[b]?; rw [Array.getElem?_push, if_neg (by omega)]
    · by_cases e : q = id
      · subst e; rw [upd_same] at hL; cases hL; simp; omega
      · rw [upd_ne _ _ e] at hL; exact e2 q L hw hL
  · obtain ⟨e1, e2⟩ := x.phant q hl hr
    have : q ≠ id := fun e => h0n (by rw [← e]; exact hl)
    exact ⟨by rw [upd_ne _ _ this]; exact e1, e2⟩
open Classical in
theorem J.step (j : J P ng nt ck ops df ρ0 h0 w0 d tm h nx ls a w ρ tmS pid) {i : Nat} {o : Oper} (hd : d.dn.testBit i = true) (hi : ops[i]? = some o) (hr : Rdy ls i o) {Q : Exit → Act → World → Prop} {K : Act → World → Prop}
    (hK : ∀ a' w' ρ' tmS', J P ng nt ck ops df ρ0 h0 w0 d tm h nx (ls.setIfInBounds i true) a' w' ρ' tmS' pid → K a' w') : wpOp P ops Q i K a w := by
  obtain ⟨e1, e2⟩ := j.sees hd hi hr
  unfold wpOp
  simp only [hi]
  have keep : ∀ k o', d.dn.testBit k = true → ls.getD k false = false → ops[k]? = some o' → k ≠ i → clsOp P o'.op = 1 → (∀ run skip, wantK ops tm o'.guard run skip = run) → ρ (pid k) = none := fun k o' hk hl hko _ hc hw => by
    rcases j.pend k o' hk hl hko with ⟨_, q2, _⟩ | ⟨_, _, _, _, _, _, q5, _⟩ | ⟨q1, _⟩
    · rw [q2] at hc; cases hc
    · exact q5
    · exact (run_ne_skip hw q1).elim
  rcases j.pend i o hd hr.1 hi with ⟨q1, q2, y, h1, q3, q4, q5⟩ | ⟨q1, q2, mk, ob, q3, q4, q5, q6, q7, q8⟩ | ⟨q1, q2⟩
  · have hw := wantK_run (ops := ops) (o := o) j.t (fun r s => by rw [e2]; exact q1 r s)
    rw [if_pos hw]
    refine .inl ?_
    obtain ⟨z, v, p1, p2, p3⟩ := opK_pure (ng := ng) (ck := ck) (tm := tmS) (a := a) (o := o) (nx := nx) rfl q2 (K := fun z _ _ => decide (z = y)) (Kp := fun _ _ _ => false) (by rw [e1, q3]; simp) (q4.st j.s) j.g j.t
    have p1 := of_decide_eq_true p1
    subst p1
    unfold Oper.wp
    rw [p3]
    simp only [Oper.upon]
    obtain ⟨tmS', j'⟩ := j.list hd hi hr j.s j.x (Ren.le.refl _) (v := v) (fun t ht => ⟨by rw [(q5 t ht).1]; exact p2, (q5 t ht).2⟩) keep
    exact hK _ _ _ _ j'
  · have hw := wantK_run (ops := ops) (o := o) j.t (fun r s => by rw [e2]; exact q1 r s)
    rw [if_pos hw]
    refine .inl ?_
    obtain ⟨mk', ob', m1, m2⟩ := opK_makes (P := P) (ng := ng) (ck := ck) (tm := tmS) (h := h) (nx := nx) q2 (K := fun _ _ _ => true) (Kp := fun _ _ _ => false) (by rw [e1, q3.1])
    have eq : ∀ id, mk' id = mk id ∧ ob' = ob := fun id => by
      have := (m1.1 h id (fun x h' _ => decide (x = mk id ∧ h' = st O.none ob id h)) (fun _ _ _ => false)).symm.trans (by rw [e1, q3.1])
      have := of_decide_eq_true (this.trans (by simp))
      refine ⟨this.1, ?_⟩
      have e := congrArg (gt O.none id) this.2
      rwa [gt_st_same, gt_st_same] at e
    have hob : ob' = ob := (eq 0).2
    subst hob
    obtain ⟨obj, v, n, r1, r2, r3⟩ := m2 ρ a j.g j.t w
    unfold Oper.wp
    rw [r1]
    simp only [Oper.upon]
    obtain ⟨tmS', j'⟩ := j.list hd hi hr (j.s.late q4 q5 (by rw [q6]; exact r2)) (j.x.late q5 q7) (upd_le q5) (v := v) (fun t ht => ⟨by rw [(q8 t ht).1, ← (eq _).1]; exact r3 _ _ (upd_same _ _ _), (q8 t ht).2⟩) (fun k o' hk hl hko hne hc hwk => by
      rw [upd_ne]
      · exact keep k o' hk hl hko hne hc hwk
      · exact fun e => hne (j.pinj k i o' o hk hl hko hc hd hr.1 hi q2 hwk q1 e))
    exact hK _ _ _ _ j'
  · have hw := wantK_skip (ops := ops) (o := o) j.t (fun r s => by rw [e2]; exact q1 r s)
    rw [hw, if_neg (by simp)]
    obtain ⟨tmS', j'⟩ := j.list hd hi hr j.s j.x (Ren.le.refl _) (v := undef) (fun t ht => ⟨by rw [(q2 t ht).1]; simp [undefV, VR, VRs, undef], (q2 t ht).2⟩) keep
    exact hK _ _ _ _ j'
end
end Go.Mx
