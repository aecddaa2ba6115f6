/-
  A part of a small executor of the model, proved sound (13 of 28). No condition.
-/
import Derived.Test.YthocoonhoilmdaaGreatDoorXMx26
namespace Go.Mx
noncomputable section
variable {P : Program} {ng nt : Nat} {ck : CK} {ops : Array Oper} {df : List Deferred} {ρ0 : Ren} {h0 : T O} {w0 : World}
variable {d : DS} {tm : T V} {h : T O} {nx : Nat} {ls : Array Bool} {a : Act} {w : World} {ρ : Ren} {tmS : T V} {pid : Nat → Nat}
def putS (dst : Option Nat) (x : V) (tm : T V) : T V := match dst with
  | some t => st V.nil x t tm
  | none => tm
theorem putS_same {t : Nat} {x : V} : gt V.nil t (putS (some t) x tm) = x := gt_st_same _ _ _ _
theorem putS_ne {dst : Option Nat} {t : Nat} {x : V} (hn : dst ≠ some t) : gt V.nil t (putS dst x tm) = gt V.nil t tm := by
  cases dst with
  | none => rfl
  | some u => exact gt_st_ne _ _ (fun e => hn (by rw [e])) _
theorem TR.putS (ht : TR ρ tm a) {dst : Option Nat} {x : V} {v : Value} (hv : ∀ t, dst = some t → VR ρ x v ∧ t < a.tmps.size) : TR ρ (putS dst x tm) (a.put dst v) := by
  cases dst with
  | none => exact ht
  | some t => exact ht.put (hv t rfl).1 (hv t rfl).2
theorem put_size (a : Act) (dst : Option Nat) (v : Value) : (a.put dst v).tmps.size = a.tmps.size ∧ (a.put dst v).defers = a.defers := by
  cases dst <;> simp [Act.put]
theorem ls_set {i k : Nat} (hi : i < ls.size) : (ls.setIfInBounds i true).getD k false = if k = i then true else ls.getD k false := by
  by_cases e : k = i
  · subst e; simp [hi]
  · rw [if_neg e]
    simp only [Array.getD_eq_getD_getElem?]
    rw [Array.getElem?_setIfInBounds_ne (Ne.symm e)]
def Rdy (ls : Array Bool) (i : Nat) (o : Oper) : Prop := ls.getD i false = false ∧ ∀ e ∈ o.after.toList, bindB e = true → ls.getD e.on false = true
theorem J.sees (j : J P ng nt ck ops df ρ0 h0 w0 d tm h nx ls a w ρ tmS pid) {i : Nat} {o : Oper} (hd : d.dn.testBit i = true) (hi : ops[i]? = some o) (hr : Rdy ls i o) :
    opK P ng ck tmS o.op = opK P ng ck tm o.op ∧ wantK ops tmS o.guard = wantK ops tm o.guard := by
  refine op_agree fun t ht => j.agree t fun k o' hk hl hko hdst => ?_
  obtain ⟨e, h1, h2, h3⟩ := j.dep i o hd hr.1 hi t ht k o' hk hko hdst
  have := hr.2 e h1 h2
  rw [h3, hl] at this
  cases this
theorem J.list (j : J P ng nt ck ops df ρ0 h0 w0 d tm h nx ls a w ρ tmS pid) {i : Nat} {o : Oper} (hd : d.dn.testBit i = true) (hi : ops[i]? = some o) (hr : Rdy ls i o)
    {ρ' : Ren} {w' : World} {v : Value} (hs : St ρ' h nx w') (hx : Ext ρ0 h0 w0 ρ' h w') (hle : Ren.le ρ ρ') (hv : ∀ t, o.dst = some t → VR ρ' (gt V.nil t tm) v ∧ t < nt)
    (hph : ∀ k o', d.dn.testBit k = true → ls.getD k false = false → ops[k]? = some o' → k ≠ i → clsOp P o'.op = 1 → (∀ run skip, wantK ops tm o'.guard run skip = run) → ρ' (pid k) = none) :
    ∃ tmS', J P ng nt ck ops df ρ0 h0 w0 d tm h nx (ls.setIfInBounds i true) (a.put o.dst v) w' ρ' tmS' pid := by
  have hlt : i < ls.size := by rw [j.sz]; exact (Array.getElem?_eq_some_iff.1 hi).1
  have L := fun k => ls_set (k := k) hlt
  have un : ∀ k, (ls.setIfInBounds i true).getD k false = false → k ≠ i ∧ ls.getD k false = false := fun k hk => by
    rw [L] at hk
    by_cases e : k = i
    · rw [if_pos e] at hk; cases hk
    · rw [if_neg e] at hk; exact ⟨e, hk⟩
  have mono : ∀ k, ls.getD k false = true → (ls.setIfInBounds i true).getD k false = true := fun k hk => by
    rw [L]
    by_cases e : k = i
    · rw [if_pos e]
    · rw [if_neg e]; exact hk
  obtain ⟨p1, p2⟩ := put_size a o.dst v
  have val : ∀ {x : V}, ∀ t, o.dst = some t → gt V.nil t tm = x → True := fun _ _ _ => trivial
  refine ⟨match o.dst with
    | some t => putS (some t) (gt V.nil t tm) tmS
    | none => tmS, hs, hx, j.g.mono hle, ?_, by rw [p1]; exact j.ntok, by rw [p2]; exact j.dfok, by rw [Array.size_setIfInBounds]; exact j.sz, fun k hk => ?_, j.dl, j.dd, j.dt, fun k m hk hl => ?_, j.mt1, j.mt0, j.pr, j.uniq, fun k o' hk hl => j.dep k o' hk (un k hl).2, fun t ht => ?_, fun k o' hk hl hko => ?_, fun k m o1 o2 hk hl hko hc hm hlm => j.pinj k m o1 o2 hk (un k hl).2 hko hc hm (un m hlm).2⟩
  · cases hdst : o.dst with
    | none => exact j.t.mono hle
    | some t =>
      have := hv t hdst
      exact (j.t.mono hle).putS fun u hu => by cases hu; exact ⟨this.1, Nat.lt_of_lt_of_le this.2 j.ntok⟩
  · rw [L] at hk
    by_cases e : k = i
    · subst e; exact hd
    · rw [if_neg e] at hk; exact j.sub k hk
  · rw [L] at hl
    by_cases e : k = i
    · subst e
      obtain ⟨e, h1, h2, h3⟩ := j.mt1 k o m hd hi hk
      have h4 := hr.2 e h1 h2
      rcases h3 with rfl | h3
      · exact mono _ h4
      · exact mono _ (j.mt _ _ h3 h4)
    · rw [if_neg e] at hl; exact mono _ (j.mt k m hk hl)
  · have other : o.dst ≠ some t → gt V.nil t tmS = gt V.nil t tm := fun hne => j.agree t fun k o' hk hl hko => by
      by_cases e : k = i
      · subst e; rw [hi] at hko; cases hko; exact hne
      · exact ht k o' hk (by rw [L, if_neg e]; exact hl) hko
    cases hdst : o.dst with
    | none => exact other (by rw [hdst]; simp)
    | some u =>
      by_cases e : u = t
      · subst e; exact putS_same
      · have : (some u : Option Nat) ≠ some t := fun h => e (by cases h; rfl)
        exact (putS_ne this).trans (other (by rw [hdst]; exact this))
  · obtain ⟨e, hl'⟩ := un k hl
    rcases j.pend k o' hk hl' hko with hp | ⟨q1, q2, mk, ob, q3, q4, q5, q6, q7, q8⟩ | hp
    · exact .inl hp
    · exact .inr (.inl ⟨q1, q2, mk, ob, q3, q4, hph k o' hk hl' hko e q2 q1, q6, q7, q8⟩)
    · exact .inr (.inr hp)
theorem Ext.late (x : Ext ρ0 h0 w0 ρ h w) {id : Nat} {n : Nat} {obj : Obj} (hn : ρ id = none) (h0n : ¬ (gt O.none id h0).live) :
    Ext ρ0 h0 w0 (upd ρ id ⟨w.heap.size, 0, n⟩) h (w.alloc obj) := by
  have hle := upd_le (L := ⟨w.heap.size, 0, n⟩) hn
  refine ⟨x.le.trans hle, Nat.le_trans x.size (by simp), x.os, x.tape, x.output, fun b hb hk => ?_, fun q hl hr => ?_⟩
  · obtain ⟨e1, e2⟩ := x.kept b hb hk
    have hlt : b < w.heap.size := Nat.lt_of_lt_of_le hb x.size
    refine ⟨?_, fun q L hw hL => ?_⟩
    · rw [← e1]; show (w.heap.push obj)[b]? = w.heap[b]?; rw [Array.getElem?_push, if_neg (by omega)]
    · by_cases e : q = id
      · subst e; rw [upd_same] at hL; cases hL; simp; omega
      · rw [upd_ne _ _ e] at hL; exact e2 q L hw hL
  · obtain ⟨e1, e2⟩ := x.phant q hl hr
    have : q ≠ id := fun e => h0n (by rw [← e]; exact hl)
    exact ⟨by rw [upd_ne _ _ this]; exact e1, e2⟩
open Classical in
theorem J.step (j : J P ng nt ck ops df ρ0 h0 w0 d tm h nx ls a w ρ tmS pid) {i : Nat} {o : Oper} (hd : d.dn.testBit i = true) (hi : ops[i]? = some o) (hr : Rdy ls i o) {Q : Exit → Act → World → Prop} {K : Act → World → Prop}
    (hK : ∀ a' w' ρ' tmS', J P ng nt ck ops df ρ0 h0 w0 d tm h nx (ls.setIfInBounds i true) a' w' ρ' tmS' pid → K a' w') : wpOp P ops Q i K a w := by
  obtain ⟨e1, e2⟩ := j.sees hd hi hr
  unfold wpOp
  simp only [hi]
  have keep : ∀ k o', d.dn.testBit k = true → ls.getD k false = false → ops[k]? = some o' → k ≠ i → clsOp P o'.op = 1 → (∀ run skip, wantK ops tm o'.guard run skip = run) → ρ (pid k) = none := fun k o' hk hl hko _ hc hw => by
    rcases j.pend k o' hk hl hko with ⟨_, q2, _⟩ | ⟨_, _, _, _, _, _, q5, _⟩ | ⟨q1, _⟩
    · rw [q2] at hc; cases hc
    · exact q5
    · exact (run_ne_skip hw q1).elim
  rcases j.pend i o hd hr.1 hi with ⟨q1, q2, y, h1, q3, q4, q5⟩ | ⟨q1, q2, mk, ob, q3, q4, q5, q6, q7, q8⟩ | ⟨q1, q2⟩
  · have hw := wantK_run (ops := ops) (o := o) j.t (fun r s => by rw [e2]; exact q1 r s)
    rw [if_pos hw]
    refine .inl ?_
    obtain ⟨z, v, p1, p2, p3⟩ := opK_pure (ng := ng) (ck := ck) (tm := tmS) (a := a) (o := o) (nx := nx) rfl q2 (K := fun z _ _ => decide (z = y)) (Kp := fun _ _ _ => false) (by rw [e1, q3]; simp) (q4.st j.s) j.g j.t
    have p1 := of_decide_eq_true p1
    subst p1
    unfold Oper.wp
    rw [p3]
    simp only [Oper.upon]
    obtain ⟨tmS', j'⟩ := j.list hd hi hr j.s j.x (Ren.le.refl _) (v := v) (fun t ht => ⟨by rw [(q5 t ht).1]; exact p2, (q5 t ht).2⟩) keep
    exact hK _ _ _ _ j'
  · have hw := wantK_run (ops := ops) (o := o) j.t (fun r s => by rw [e2]; exact q1 r s)
    rw [if_pos hw]
    refine .inl ?_
    obtain ⟨mk', ob', m1, m2⟩ := opK_makes (P := P) (ng := ng) (ck := ck) (tm := tmS) (h := h) (nx := nx) q2 (K := fun _ _ _ => true) (Kp := fun _ _ _ => false) (by rw [e1, q3.1])
    have eq : ∀ id, mk' id = mk id ∧ ob' = ob := fun id => by
      have := (m1.1 h id (fun x h' _ => decide (x = mk id ∧ h' = st O.none ob id h)) (fun _ _ _ => false)).symm.trans (by rw [e1, q3.1])
      have := of_decide_eq_true (this.trans (by simp))
      refine ⟨this.1, ?_⟩
      have e := congrArg (gt O.none id) this.2
      rwa [gt_st_same, gt_st_same] at e
    have hob : ob' = ob := (eq 0).2
    subst hob
    obtain ⟨obj, v, n, r1, r2, r3⟩ := m2 ρ a j.g j.t w
    unfold Oper.wp
    rw [r1]
    simp only [Oper.upon]
    obtain ⟨tmS', j'⟩ := j.list hd hi hr (j.s.late q4 q5 (by rw [q6]; exact r2)) (j.x.late q5 q7) (upd_le q5) (v := v) (fun t ht => ⟨by rw [(q8 t ht).1, ← (eq _).1]; exact r3 _ _ (upd_same _ _ _), (q8 t ht).2⟩) (fun k o' hk hl hko hne hc hwk => by
      rw [upd_ne]
      · exact keep k o' hk hl hko hne hc hwk
      · exact fun e => hne (j.pinj k i o' o hk hl hko hc hd hr.1 hi q2 hwk q1 e))
    exact hK _ _ _ _ j'
  · have hw := wantK_skip (ops := ops) (o := o) j.t (fun r s => by rw [e2]; exact q1 r s)
    rw [hw, if_neg (by simp)]
    obtain ⟨tmS', j'⟩ := j.list hd hi hr j.s j.x (Ren.le.refl _) (v := undef) (fun t ht => ⟨by rw [(q2 t ht).1]; simp [undefV, VR, VRs, undef], (q2 t ht).2⟩) keep
    exact hK _ _ _ _ j'
end
end Go.Mx
namespace Go.Mx
noncomputable section
variable {P : Program} {ng nt : Nat} {ck : CK} {ops : Array Oper} {df : List Deferred} {ρ0 : Ren} {h0 : T O} {w0 : World}
variable {d : DS} {tm : T V} {h : T O} {nx : Nat} {ls : Array Bool} {a : Act} {w : World} {ρ : Ren} {tmS : T V} {pid : Nat → Nat}
theorem againK_spec {dn M : Nat} {same : V → V → Bool} : ∀ {l : List Oper} {i : Nat} {k : Bool}, againK P ng ck ops same dn M tm h nx l i k = true → k = true ∧ ∀ q o, l[q]? = some o → dn.testBit (i + q) = true → M.testBit (i + q) = false →
    (∀ run skip, wantK ops tm o.guard run skip = run) → clsOp P o.op = 0 → opK P ng ck tm o.op h nx (fun y _ _ => Option.rec (motive := fun _ => Bool) true (fun t => same y (gt V.nil t tm)) o.dst) (fun _ _ _ => false) = true := by
  intro l
  induction l with
  | nil => intro i k hk; exact ⟨hk, by simp⟩
  | cons o l ih =>
    intro i k hk
    have hk : (Bool.rec (againK P ng ck ops same dn M tm h nx l (Nat.succ i) k)
      (wantK ops tm o.guard (ite1 (Nat.rec (motive := fun _ => Bool) (opK P ng ck tm o.op h nx (fun y _ _ => Option.rec (motive := fun _ => Bool) true (fun t => same y (gt V.nil t tm)) o.dst) (fun _ _ _ => false)) (fun _ _ => true) (clsOp P o.op)) <| againK P ng ck ops same dn M tm h nx l (Nat.succ i) k) (againK P ng ck ops same dn M tm h nx l (Nat.succ i) k))
      (ite1 (tb dn i) <| inot (tb M i)) : Bool) = true := hk
    have fin : againK P ng ck ops same dn M tm h nx l (Nat.succ i) k = true → (dn.testBit i = true → M.testBit i = false → (∀ run skip, wantK ops tm o.guard run skip = run) → clsOp P o.op = 0 → opK P ng ck tm o.op h nx (fun y _ _ => Option.rec (motive := fun _ => Bool) true (fun t => same y (gt V.nil t tm)) o.dst) (fun _ _ _ => false) = true) →
        k = true ∧ ∀ q o', (o :: l)[q]? = some o' → dn.testBit (i + q) = true → M.testBit (i + q) = false → (∀ run skip, wantK ops tm o'.guard run skip = run) → clsOp P o'.op = 0 → opK P ng ck tm o'.op h nx (fun y _ _ => Option.rec (motive := fun _ => Bool) true (fun t => same y (gt V.nil t tm)) o'.dst) (fun _ _ _ => false) = true := fun h1 h2 => by
      obtain ⟨r1, r2⟩ := ih h1
      refine ⟨r1, fun q o' hq => ?_⟩
      cases q with
      | zero => simp at hq; subst hq; simpa using h2
      | succ q =>
        have := r2 q o' (by simpa using hq)
        rw [show Nat.succ i + q = i + (q + 1) by omega] at this
        exact this
    cases hc : (ite1 (tb dn i) <| inot (tb M i)) with
    | false =>
      rw [hc] at hk
      refine fin hk fun h1 h2 => ?_
      rw [tb_eq, tb_eq, h1, h2] at hc
      cases hc
    | true =>
      rw [hc] at hk
      rcases wantK_cases ops tm o.guard with hw | hw | hw
      · rw [hw] at hk
        obtain ⟨h1, h2⟩ := ite1_spec hk
        refine fin h2 fun _ _ _ hcl => ?_
        rw [hcl] at h1
        exact h1
      · rw [hw] at hk
        exact fin hk fun _ _ hr => (run_ne_skip hr hw).elim
      · rw [hw] at hk; cases hk
theorem J.eff (j : J P ng nt ck ops df ρ0 h0 w0 d tm h nx ls a w ρ tmS pid) {d' : DS} {i : Nat} {o : Oper} (ad : Added ops true i o d d') (hi : ops[i]? = some o) (hr : Rdy ls i o)
    {ρ' : Ren} {h' : T O} {nx' : Nat} {w' : World} {x : V} {v : Value} {tm' : T V} (hv : VR ρ' x v) (hs : St ρ' h' nx' w') (hx : Ext ρ h w ρ' h' w')
    (p1 : ∀ t, o.dst = some t → gt V.nil t tm' = x ∧ t < nt) (p2 : ∀ t, o.dst ≠ some t → gt V.nil t tm' = gt V.nil t tm)
    (ag : ∀ k o', ops[k]? = some o' → d.dn.testBit k = true → (gt 0 i d'.mt).testBit k = false → (∀ run skip, wantK ops tm' o'.guard run skip = run) → clsOp P o'.op = 0 → opK P ng ck tm' o'.op h' nx' (fun y _ _ => Option.rec (motive := fun _ => Bool) true (fun t => sameV y (gt V.nil t tm')) o'.dst) (fun _ _ _ => false) = true) :
    J P ng nt ck ops df ρ0 h0 w0 d' tm' h' nx' (ls.setIfInBounds i true) (a.put o.dst v) w' ρ' (putS o.dst x tmS) pid := by
  have hlt : i < ls.size := by rw [j.sz]; exact (Array.getElem?_eq_some_iff.1 hi).1
  have L := fun k => ls_set (k := k) hlt
  have un : ∀ k, (ls.setIfInBounds i true).getD k false = false → k ≠ i ∧ ls.getD k false = false := fun k hk => by
    rw [L] at hk
    by_cases e : k = i
    · rw [if_pos e] at hk; cases hk
    · rw [if_neg e] at hk; exact ⟨e, hk⟩
  have mono : ∀ k, ls.getD k false = true → (ls.setIfInBounds i true).getD k false = true := fun k hk => by
    rw [L]
    by_cases e : k = i
    · rw [if_pos e]
    · rw [if_neg e]; exact hk
  obtain ⟨z1, z2⟩ := put_size a o.dst v
  have ne : ∀ k, d.dn.testBit k = true → k ≠ i := fun k hk e => by rw [e, ad.new] at hk; cases hk
  have inv : ∀ k, d'.dn.testBit k = true → k = i ∨ (d.dn.testBit k = true ∧ k ≠ i) := fun k hk => by
    rcases (ad.dn k).1 hk with h | h
    · exact .inr ⟨h, ne k h⟩
    · exact .inl h
  have Ml : ∀ k, (gt 0 i d'.mt).testBit k = true → ls.getD k false = true := fun k hk => by
    obtain ⟨e, h1, h2, h3⟩ := ad.mt k hk
    have h4 := hr.2 e h1 h2
    rcases h3 with rfl | h3
    · exact h4
    · exact j.mt _ _ h3 h4
  have Mn : ∀ k, ls.getD k false = false → (gt 0 i d'.mt).testBit k = false := fun k hk => by
    cases e : (gt 0 i d'.mt).testBit k with
    | false => rfl
    | true => rw [Ml k e] at hk; cases hk
  have same : ∀ k o', d.dn.testBit k = true → ls.getD k false = false → ops[k]? = some o' → ∀ t, looksT ops o' t ∨ o'.dst = some t → gt V.nil t tm = gt V.nil t tm' := fun k o' hk hl hko t ht => by
    refine (p2 t fun hd => ?_).symm
    rcases ad.war with h1 | ⟨_, h1⟩
    · rcases ht with ht | ht
      · have := j.dl k o' hk hko t ht; rw [h1 t hd] at this; cases this
      · have := j.dd k o' t hk hko ht; rw [(ad.own t hd).2] at this; cases this
    · have := Ml k (h1 k hk); rw [hl] at this; cases this
  have wsame : ∀ k o', d.dn.testBit k = true → ls.getD k false = false → ops[k]? = some o' → wantK ops tm o'.guard = wantK ops tm' o'.guard := fun k o' hk hl hko => wantK_congr fun t ht => same k o' hk hl hko t (.inl (.inr ht))
  refine ⟨hs, j.x.trans hx, j.g.mono hx.le, ?_, by rw [z1]; exact j.ntok, by rw [z2]; exact j.dfok, by rw [Array.size_setIfInBounds]; exact j.sz, fun k hk => ?_, ?_, ?_, ?_, ?_, ?_, ?_, ?_, ?_, ?_, ?_, ?_, ?_⟩
  · exact (j.t.mono hx.le).putS fun t ht => ⟨hv, Nat.lt_of_lt_of_le (p1 t ht).2 j.ntok⟩
  · rw [L] at hk
    by_cases e : k = i
    · exact (ad.dn k).2 (.inr e)
    · rw [if_neg e] at hk; exact (ad.dn k).2 (.inl (j.sub k hk))
  · intro k o' hk hko t ht
    rcases inv k hk with rfl | ⟨hk, _⟩
    · rw [hi] at hko; cases hko; exact ad.dl t (.inr ht)
    · exact ad.dl t (.inl (j.dl k o' hk hko t ht))
  · intro k o' t hk hko ht
    rcases inv k hk with rfl | ⟨hk, _⟩
    · rw [hi] at hko; cases hko; exact ad.dd t (.inr ht)
    · exact ad.dd t (.inl (j.dd k o' t hk hko ht))
  · intro k t hk
    by_cases e : k = i
    · subst e; exact ⟨(ad.dn k).2 (.inr rfl), o, hi, ad.dt t hk⟩
    · rw [ad.dt' k e] at hk
      obtain ⟨h1, h2⟩ := j.dt k t hk
      exact ⟨(ad.dn k).2 (.inl h1), h2⟩
  · intro k m hk hl
    by_cases e : k = i
    · subst e; exact mono _ (Ml m hk)
    · rw [L, if_neg e] at hl
      rw [ad.mt' k e] at hk
      exact mono _ (j.mt k m hk hl)
  · intro k o' m hk hko hm
    rcases inv k hk with rfl | ⟨hk, e⟩
    · rw [hi] at hko; cases hko
      obtain ⟨e, h1, h2, h3⟩ := ad.mt m hm
      have := ne e.on (ad.pr e h1 h2).1
      exact ⟨e, h1, h2, by rw [ad.mt' _ this]; exact h3⟩
    · rw [ad.mt' k e] at hm
      obtain ⟨e, h1, h2, h3⟩ := j.mt1 k o' m hk hko hm
      have := ne e.on (j.pr k o' hk hko e h1 h2).1
      exact ⟨e, h1, h2, by rw [ad.mt' _ this]; exact h3⟩
  · intro k hk
    have h1 : d.dn.testBit k = false := by
      cases e : d.dn.testBit k with
      | false => rfl
      | true => rw [(ad.dn k).2 (.inl e)] at hk; cases hk
    have h2 : k ≠ i := fun e => by rw [(ad.dn k).2 (.inr e)] at hk; cases hk
    rw [ad.mt' k h2]; exact j.mt0 k h1
  · intro k o' hk hko e he hb
    rcases inv k hk with rfl | ⟨hk, _⟩
    · rw [hi] at hko; cases hko
      obtain ⟨h1, h2⟩ := ad.pr e he hb
      exact ⟨(ad.dn _).2 (.inl h1), h2⟩
    · obtain ⟨h1, h2⟩ := j.pr k o' hk hko e he hb
      exact ⟨(ad.dn _).2 (.inl h1), h2⟩
  · intro k m o1 o2 t hk hm hko hmo h1 h2
    rcases inv k hk with rfl | ⟨hk, _⟩
    · rw [hi] at hko; cases hko
      rcases inv m hm with rfl | ⟨hm, _⟩
      · rfl
      · have := j.dd m o2 t hm hmo h2; rw [(ad.own t h1).2] at this; cases this
    · rcases inv m hm with rfl | ⟨hm, _⟩
      · rw [hi] at hmo; cases hmo
        have := j.dd k o1 t hk hko h1; rw [(ad.own t h2).2] at this; cases this
      · exact j.uniq k m o1 o2 t hk hm hko hmo h1 h2
  · intro k o' hk hl hko t ht m o2 hm hmo hd
    obtain ⟨hne, hl2⟩ := un k hl
    clear hl
    rcases inv k hk with rfl | ⟨hk, _⟩
    · exact absurd rfl hne
    · rcases inv m hm with rfl | ⟨hm, _⟩
      · rw [hi] at hmo; cases hmo
        rcases ad.war with h1 | ⟨_, h1⟩
        · have := j.dl k o' hk hko t ht; rw [h1 t hd] at this; cases this
        · have := Ml k (h1 k hk); rw [hl2] at this; cases this
      · exact j.dep k o' hk hl2 hko t ht m o2 hm hmo hd
  · intro t ht
    cases hdst : o.dst with
    | none =>
      show gt V.nil t tmS = _
      rw [p2 t (by rw [hdst]; simp)]
      exact j.agree t fun k o' hk hl hko => ht k o' ((ad.dn k).2 (.inl hk)) (by rw [L, if_neg (ne k hk)]; exact hl) hko
    | some u =>
      by_cases e : u = t
      · subst e; rw [putS_same, (p1 u hdst).1]
      · have hn : (some u : Option Nat) ≠ some t := fun h => e (by cases h; rfl)
        rw [putS_ne hn, p2 t (by rw [hdst]; exact hn)]
        exact j.agree t fun k o' hk hl hko => ht k o' ((ad.dn k).2 (.inl hk)) (by rw [L, if_neg (ne k hk)]; exact hl) hko
  · intro k o' hk hl hko
    obtain ⟨hne, hl⟩ := un k hl
    rcases inv k hk with rfl | ⟨hk, _⟩
    · exact absurd rfl hne
    · have hp := (j.pend k o' hk hl hko).agree (same k o' hk hl hko)
      rcases hp with ⟨q1, q2, _, _, _, _, q5⟩ | ⟨q1, q2, mk, ob, q3, q4, q5, q6, q7, q8⟩ | hp
      · have := ag k o' hko hk (Mn k hl) q1 q2
        rcases opK_lin (P := P) (ng := ng) (ck := ck) (tm := tm') (h := h') q2 with hy | ⟨y, hy⟩
        · exact Bool.noConfusion ((hy _ _).symm.trans this)
        · replace this := (hy _ _).symm.trans this
          refine .inl ⟨q1, q2, y, h', hy, Sub.refl _, fun t ht => ⟨?_, (q5 t ht).2⟩⟩
          rw [ht] at this
          exact (sameV_eq this).symm
      · obtain ⟨r1, r2⟩ := hx.phant (pid k) (by rw [q6]; exact q3.2) q5
        refine .inr (.inl ⟨q1, q2, mk, ob, q3, ?_, r1, r2.trans q6, q7, q8⟩)
        exact Nat.lt_of_not_le fun hc => hs.dead _ hc (by rw [r2, q6]; exact q3.2)
      · exact .inr (.inr hp)
  · intro k m o1 o2 hk hl hko hc hm hlm hmo hcm hw1 hw2 hp
    obtain ⟨hnk, hl⟩ := un k hl
    obtain ⟨hnm, hlm⟩ := un m hlm
    rcases inv k hk with rfl | ⟨hk, _⟩
    · exact absurd rfl hnk
    · rcases inv m hm with rfl | ⟨hm, _⟩
      · exact absurd rfl hnm
      · exact j.pinj k m o1 o2 hk hl hko hc hm hlm hmo hcm (by rw [wsame k o1 hk hl hko]; exact hw1) (by rw [wsame m o2 hm hlm hmo]; exact hw2) hp
end
end Go.Mx
namespace Go.Mx
noncomputable section
variable {P : Program} {ng nt : Nat} {ck : CK} {ops : Array Oper} {df : List Deferred} {ρ0 : Ren} {h0 : T O} {w0 : World}
theorem T.set_comm {α : Type} (d x y : α) : ∀ (p q : Pth) (t : T α), p ≠ q → T.set d x p (T.set d y q t) = T.set d y q (T.set d x p t) := by
  intro p
  induction p with
  | here =>
    intro q t h
    cases q with
    | here => exact absurd rfl h
    | l q => cases t <;> rfl
    | r q => cases t <;> rfl
  | l p ih =>
    intro q t h
    cases q with
    | here => cases t <;> rfl
    | l q =>
      have hne : p ≠ q := fun e => h (by rw [e])
      cases t with
      | leaf => simp only [T.set, ih q .leaf hne]
      | node v l r => simp only [T.set, ih q l hne]
    | r q => cases t <;> rfl
  | r p ih =>
    intro q t h
    cases q with
    | here => cases t <;> rfl
    | l q => cases t <;> rfl
    | r q =>
      have hne : p ≠ q := fun e => h (by rw [e])
      cases t with
      | leaf => simp only [T.set, ih q .leaf hne]
      | node v l r => simp only [T.set, ih q r hne]
theorem st_comm {α : Type} (d x y : α) {i j : Nat} (h : i ≠ j) (t : T α) : st d x i (st d y j t) = st d y j (st d x i t) := T.set_comm _ _ _ _ _ _ fun e => h (pth_inj e)
theorem T.set_twice {α : Type} (d x y : α) : ∀ (p : Pth) (t : T α), T.set d x p (T.set d y p t) = T.set d x p t := by
  intro p
  induction p with
  | here => intro t; cases t <;> rfl
  | l p ih =>
    intro t
    cases t with
    | leaf => simp only [T.set, ih .leaf]
    | node v l r => simp only [T.set, ih l]
  | r p ih =>
    intro t
    cases t with
    | leaf => simp only [T.set, ih .leaf]
    | node v l r => simp only [T.set, ih r]
theorem st_twice {α : Type} (d x y : α) (i : Nat) (t : T α) : st d x i (st d y i t) = st d x i t := T.set_twice _ _ _ _ _
theorem sameO_eq {a b : O} (h : sameO a b = true) : a = b := by
  cases a <;> first | exact Bool.noConfusion h | skip
  case c l ty wr =>
    cases b <;> first | exact Bool.noConfusion h | skip
    case c l' ty' wr' =>
      obtain ⟨h1, h⟩ := ite1_spec (show ite1 (sameV l l') (ite1 (Nat.beq ty ty') (bs_eq wr wr')) = true from h)
      obtain ⟨h2, h⟩ := ite1_spec h
      rw [bs_eq_spec] at h
      rw [sameV_eq h1, beq_spec h2, eq_of_beq h]
  case v l ty =>
    cases b <;> first | exact Bool.noConfusion h | skip
    case v l' ty' =>
      obtain ⟨h1, h⟩ := ite1_spec (show ite1 (sameV l l') (Nat.beq ty ty') = true from h)
      rw [sameV_eq h1, beq_spec h]
theorem store_form {o : Oper} (hs : isSt o = true) {tm : T V} {h : T O} {nx : Nat} {K Kp : KV} (hk : opK P ng ck tm o.op h nx K Kp = true) :
    o.dst = none ∧ o.guard = none ∧ ∃ id off ob, ev ng tm (stAddr o.op) = .p id off ∧ ∀ (h' : T O), gt O.none id h' = gt O.none id h → ∀ (nx : Nat) (K Kp : KV), opK P ng ck tm o.op h' nx K Kp = K .nil (st O.none ob id h') nx := by
  obtain ⟨dst, op, ty, pos, after, guard⟩ := o
  cases op <;> first | (cases dst <;> cases guard <;> simp [isSt] at hs; done) | skip
  case store t a x =>
    cases dst with
    | some d => simp [isSt] at hs
    | none =>
      cases guard with
      | some g => simp [isSt] at hs
      | none =>
        refine ⟨rfl, rfl, ?_⟩
        have hk1 : opStore P t (ev ng tm a) (ev ng tm x) h (fun h' => K .nil h' nx) = true := hk
        obtain ⟨id, off, hv, hk2⟩ := vP_spec hk1
        let S : V → (V → O) → (O → Bool) → Bool := fun l mk c => cellsK (ev ng tm x) fun new => lenK new 0 fun n => ite1 (Nat.beq (szk P t) (Nat.succ n)) <| putK l off new fun l' => c (mk l')
        have hS : ∀ l mk, LinK (S l mk) := fun l mk => lin_bind (lin_cellsK _) fun new => lin_bind (lin_lenK _ _) fun n => lin_ite1 _ (lin_bind (lin_putK _ _ _) fun l' => lin_k _)
        let G : O → (O → Bool) → Bool := fun ob c => oW ob (fun l ty wr => ite1 wr (S l (fun l' => O.c l' ty true) c)) (fun l ty => S l (fun l' => O.v l' ty) c)
        have hG : ∀ ob, LinK (G ob) := fun ob => lin_oW ob (fun l ty wr => lin_ite1 _ (hS _ _)) (fun l ty => hS _ _)
        have eq : ∀ (h' : T O) (nx : Nat) (K Kp : KV), opK P ng ck tm (.store t a x) h' nx K Kp = G (gt O.none id h') (fun ob => stK O.none ob id h' fun h' => K .nil h' nx) := fun h' nx K Kp => by
          show opStore P t (ev ng tm a) (ev ng tm x) h' (fun h' => K .nil h' nx) = _
          unfold opStore
          rw [hv]
          rfl
        clear_value G
        rcases hG (gt O.none id h) with hn | ⟨ob, hy⟩
        · have hk : opK P ng ck tm (.store t a x) h nx K Kp = true := hk
          rw [eq, hn] at hk
          exact Bool.noConfusion hk
        · refine ⟨id, off, ob, hv, fun h' hh nx K Kp => ?_⟩
          show opK P ng ck tm (.store t a x) h' nx K Kp = _
          rw [eq, hh, hy, stK_eq]
structure StepOK (P : Program) (ng : Nat) (ck : CK) (ops : Array Oper) (tm : T V) (nx : Nat) (d : DS) (h : T O) (q : Nat) (o : Oper) (d' : DS) (h' : T O) : Prop where
  ad : Added ops true q o d d'
  dst : o.dst = none
  guard : o.guard = none
  op : ∀ (nx : Nat) (K Kp : KV), opK P ng ck tm o.op h nx K Kp = K .nil h' nx
  ag : ∀ k o', ops[k]? = some o' → d.dn.testBit k = true → (gt 0 q d'.mt).testBit k = false → (∀ run skip, wantK ops tm o'.guard run skip = run) → clsOp P o'.op = 0 → opK P ng ck tm o'.op h' nx (fun y _ _ => Option.rec (motive := fun _ => Bool) true (fun t => sameV y (gt V.nil t tm)) o'.dst) (fun _ _ _ => false) = true
theorem pairK_spec {i j : Nat} {o o2 : Oper} {d : DS} {tm : T V} {h : T O} {nx : Nat} {k : T O → Bool} (s1 : isSt o = true) (s2 : isSt o2 = true)
    (hk : pairK P ng ck ops i o j o2 d tm h nx k = true) : ∃ d1 h1 d2 h2, StepOK P ng ck ops tm nx d h i o d1 h1 ∧ StepOK P ng ck ops tm nx d1 h1 j o2 d2 h2 ∧ k h2 = true ∧
      ∃ id1 off1 ob1 id2 off2 ob2, ev ng tm (stAddr o.op) = .p id1 off1 ∧ ev ng tm (stAddr o2.op) = .p id2 off2 ∧ h1 = st O.none ob1 id1 h ∧ h2 = st O.none ob2 id2 h1 ∧
        (∀ (h' : T O), gt O.none id1 h' = gt O.none id1 h → ∀ (nx : Nat) (K Kp : KV), opK P ng ck tm o.op h' nx K Kp = K .nil (st O.none ob1 id1 h') nx) ∧
        (∀ (h' : T O), gt O.none id2 h' = gt O.none id2 h1 → ∀ (nx : Nat) (K Kp : KV), opK P ng ck tm o2.op h' nx K Kp = K .nil (st O.none ob2 id2 h') nx) := by
  unfold pairK at hk
  obtain ⟨d1, hk1, ad1⟩ := addK_spec hk
  obtain ⟨e1, e2, id1, off1, ob1, hv1, f1⟩ := store_form s1 hk1
  rw [f1 h rfl] at hk1
  obtain ⟨hk2, ag1⟩ := againK_spec hk1
  obtain ⟨d2, hk3, ad2⟩ := addK_spec hk2
  obtain ⟨e3, e4, id2, off2, ob2, hv2, f2⟩ := store_form s2 hk3
  rw [f2 _ rfl] at hk3
  obtain ⟨hk4, ag2⟩ := againK_spec hk3
  refine ⟨d1, _, d2, _, ⟨ad1, e1, e2, f1 h rfl, fun k o' hko hdk hmk hwk hck => ag1 k o' (by simpa using hko) (by simpa using hdk) (by simpa using hmk) hwk hck⟩,
    ⟨ad2, e3, e4, f2 _ rfl, fun k o' hko hdk hmk hwk hck => ag2 k o' (by simpa using hko) (by simpa using hdk) (by simpa using hmk) hwk hck⟩, hk4, id1, off1, ob1, id2, off2, ob2, hv1, hv2, rfl, rfl, f1, f2⟩
open Classical in
theorem twoK_spec {i j : Nat} {o o2 : Oper} {d : DS} {tm : T V} {h : T O} {nx : Nat} {kfin : T V → T O → Nat → Bool} (hk : twoK P ng ck ops i o j o2 d tm h nx kfin = true) :
    Nat.lor (Nat.lor d.dn (bit i)) (bit j) = Nat.sub (bit ops.size) 1 ∧ ∃ d1 h1 d2 hf d1' h1' d2', StepOK P ng ck ops tm nx d h i o d1 h1 ∧ StepOK P ng ck ops tm nx d1 h1 j o2 d2 hf ∧
      StepOK P ng ck ops tm nx d h j o2 d1' h1' ∧ StepOK P ng ck ops tm nx d1' h1' i o d2' hf ∧ kfin tm hf nx = true := by
  unfold twoK at hk
  obtain ⟨s1, hk⟩ := ite1_spec hk
  obtain ⟨s2, hk⟩ := ite1_spec hk
  obtain ⟨hd, hk⟩ := ite1_spec hk
  cases hsame : (vP (ev ng tm (stAddr o.op)) fun id1 _ => vP (ev ng tm (stAddr o2.op)) fun id2 _ => inot (Nat.beq id1 id2)) with
  | false =>
    rw [hsame] at hk
    have hk : pairK P ng ck ops j o2 i o d tm h nx (fun hb => pairK P ng ck ops i o j o2 d tm h nx fun h2 => ite1 (vP (ev ng tm (stAddr o.op)) fun id _ => sameO (gt O.none id hb) (gt O.none id h2)) (kfin tm h2 nx)) = true := hk
    obtain ⟨d1', h1', d2', h2', b1, b2, hk2, j2, g2, ob2', j1, g1, ob1', v2, v1, rfl, rfl, G2, G1⟩ := pairK_spec s2 s1 hk
    obtain ⟨d1, h1, d2, h2, a1, a2, hkf, i1, f1, ob1, i2, f2, ob2, w1, w2, rfl, rfl, F1, F2⟩ := pairK_spec s1 s2 hk2
    rw [w1] at v1
    rw [w2] at v2
    simp only [V.p.injEq] at v1 v2
    obtain ⟨e1, _⟩ := v1
    obtain ⟨e2, _⟩ := v2
    subst e1
    subst e2
    rw [w1, w2] at hsame
    have hid : i1 = i2 := by
      have hs : inot (Nat.beq i1 i2) = false := hsame
      rw [inot_eq] at hs
      exact beq_spec (by simpa using hs)
    subst hid
    obtain ⟨he, hkf⟩ := ite1_spec hkf
    rw [w1] at he
    have he := sameO_eq (show sameO (gt O.none i1 (st O.none ob1' i1 (st O.none ob2' i1 h))) (gt O.none i1 (st O.none ob2 i1 (st O.none ob1 i1 h))) = true from he)
    rw [gt_st_same, gt_st_same] at he
    have fin : st O.none ob1' i1 (st O.none ob2' i1 h) = st O.none ob2 i1 (st O.none ob1 i1 h) := by
      rw [st_twice, st_twice, he]
    refine ⟨beq_spec hd, d1, _, d2, _, d1', _, d2', a1, a2, b1, ?_, hkf⟩
    rw [← fin]
    exact b2
  | true =>
  rw [hsame] at hk
  have hne := hsame
  obtain ⟨hp, hk⟩ := ite1_spec (show ite1 (pairK P ng ck ops j o2 i o d tm h nx fun _ => true) (pairK P ng ck ops i o j o2 d tm h nx fun h2 => kfin tm h2 nx) = true from hk)
  obtain ⟨id1, off1, hv1, hne⟩ := vP_spec hne
  obtain ⟨id2, off2, hv2, hne⟩ := vP_spec hne
  have hne : id1 ≠ id2 := fun e => by subst e; rw [Nat.beq_refl] at hne; exact Bool.noConfusion hne
  obtain ⟨d1, h1, d2, h2, a1, a2, hkf, i1, f1, ob1, i2, f2, ob2, w1, w2, rfl, rfl, F1, F2⟩ := pairK_spec s1 s2 hk
  obtain ⟨d1', h1', d2', h2', b1, b2, _, j2, g2, ob2', j1, g1, ob1', v2, v1, rfl, rfl, G2, G1⟩ := pairK_spec s2 s1 hp
  rw [hv1] at w1 v1
  rw [hv2] at w2 v2
  cases w1; cases w2; cases v1; cases v2
  have q2 : st O.none ob2' id2 h = st O.none ob2 id2 h := by
    have e1 := G2 h rfl 0 (fun _ h' _ => decide (h' = st O.none ob2' id2 h)) (fun _ _ _ => false)
    have e2 := F2 h (gt_st_ne _ _ hne _).symm 0 (fun _ h' _ => decide (h' = st O.none ob2' id2 h)) (fun _ _ _ => false)
    rw [e1] at e2
    exact (of_decide_eq_true (e2.symm.trans (decide_eq_true rfl))).symm
  have q1 : ∀ h', gt O.none id1 h' = gt O.none id1 h → st O.none ob1' id1 h' = st O.none ob1 id1 h' := fun h' hh => by
    have e1 := G1 h' (by rw [hh]; exact (gt_st_ne _ _ (Ne.symm hne) _).symm) 0 (fun _ x _ => decide (x = st O.none ob1' id1 h')) (fun _ _ _ => false)
    have e2 := F1 h' hh 0 (fun _ x _ => decide (x = st O.none ob1' id1 h')) (fun _ _ _ => false)
    rw [e1] at e2
    exact (of_decide_eq_true (e2.symm.trans (decide_eq_true rfl))).symm
  have fin : st O.none ob1' id1 (st O.none ob2' id2 h) = st O.none ob2 id2 (st O.none ob1 id1 h) := by
    rw [q1 _ (gt_st_ne _ _ (Ne.symm hne) _), q2, st_comm _ _ _ hne]
  refine ⟨beq_spec hd, d1, _, d2, _, d1', _, d2', a1, a2, b1, ?_, hkf⟩
  rw [← fin]
  exact b2
variable {d : DS} {tm : T V} {h : T O} {nx : Nat} {ls : Array Bool} {a : Act} {w : World} {ρ : Ren} {tmS : T V} {pid : Nat → Nat}
theorem cnt_set {i : Nat} (hi : i < ls.size) (hf : ls.getD i false = false) : (ls.setIfInBounds i true).toList.count false + 1 = ls.toList.count false := by
  have e : (ls.setIfInBounds i true).toList = ls.toList.set i true := by simp
  have hg : ls.toList[i]'(by simpa using hi) = false := by simpa [hi] using hf
  have hpos : 0 < ls.toList.count false := List.count_pos_iff.2 (hg ▸ List.getElem_mem _)
  rw [e, List.count_set (by simpa using hi), hg]
  simp only [beq_self_eq_true, if_true]
  have : ((true == false) = true) = False := by simp
  simp only [this, if_false]
  omega
theorem cnt_zero (h : ls.toList.count false = 0) {i : Nat} (hi : i < ls.size) : ls.getD i false = true := by
  have : ¬ false ∈ ls.toList := fun hm => by have := List.count_pos_iff.2 hm; omega
  cases e : ls.getD i false with
  | true => rfl
  | false =>
    have hg : ls[i] = false := by simpa [hi] using e
    exact absurd (by rw [← hg]; exact Array.mem_toList_iff.2 (Array.getElem_mem hi)) this
theorem rdy_of {i : Nat} (hsz : ls.size = ops.size) : i ∈ Region.ready .any ops ls ↔ ∃ o, ops[i]? = some o ∧ Rdy ls i o := by
  rw [mem_ready]
  constructor
  · rintro ⟨h1, o, h2, h3⟩
    have hi : i < ls.size := by rw [hsz]; exact (Array.getElem?_eq_some_iff.1 h2).1
    refine ⟨o, h2, by simpa [hi] using h1, fun e he hb => h3 e (by simpa using he) (by rw [← bindB_eq]; exact hb)⟩
  · rintro ⟨o, h2, h1, h3⟩
    have hi : i < ls.size := by rw [hsz]; exact (Array.getElem?_eq_some_iff.1 h2).1
    exact ⟨by simpa [hi] using h1, o, h2, fun e he hb => h3 e (by simpa using he) (by rw [bindB_eq]; exact hb)⟩
theorem J.skel {Q : Exit → Act → World → Prop} (fuel : Nat) (j : J P ng nt ck ops df ρ0 h0 w0 d tm h nx ls a w ρ tmS pid) (hc : ls.toList.count false = fuel)
    (hU : (∀ i o, ops[i]? = some o → d.dn.testBit i = true) ∨ ∃ q o, ops[q]? = some o ∧ d.dn.testBit q = false ∧ ∀ e ∈ o.after.toList, bindB e = true → d.dn.testBit e.on = true ∧ e.on < q)
    (hQ : (∀ i o, ops[i]? = some o → d.dn.testBit i = true) → TR ρ tm a → Q .normal a w)
    (hS : ∀ f, fuel = f + 1 → ∀ i o, ops[i]? = some o → Rdy ls i o → (ls.setIfInBounds i true).toList.count false = f → wpOp P ops Q i (wpAny P .any ops Q f (ls.setIfInBounds i true)) a w) :
    wpAny P .any ops Q fuel ls a w := by
  have trm : (∀ i o, ops[i]? = some o → ls.getD i false = true) → TR ρ tm a := fun all t => by
    rw [← j.agree t fun i o hd hl ho => by rw [all i o ho] at hl; cases hl]; exact j.t t
  cases fuel with
  | zero =>
    have all : ∀ i, i < ls.size → ls.getD i false = true := fun i hi => cnt_zero hc hi
    have all' : ∀ i o, ops[i]? = some o → ls.getD i false = true := fun i o ho => all i (by rw [j.sz]; exact (Array.getElem?_eq_some_iff.1 ho).1)
    refine ⟨List.eq_nil_iff_forall_not_mem.2 fun i hi => ?_, hQ (fun i o ho => j.sub i (all' i o ho)) (trm all')⟩
    obtain ⟨o, h1, h2, _⟩ := (rdy_of j.sz).1 hi
    rw [all' i o h1] at h2
    cases h2
  | succ f =>
    constructor
    · intro hrd
      have nord : ∀ i o, ops[i]? = some o → ¬ Rdy ls i o := fun i o h1 h2 => by
        have := (rdy_of j.sz).2 ⟨o, h1, h2⟩
        rw [hrd] at this; cases this
      have dnl : ∀ i, d.dn.testBit i = true → i < ops.size → ls.getD i false = true := by
        intro i
        induction i using Nat.strongRecOn with
        | _ i ihi =>
          intro hd hlt
          cases e : ls.getD i false with
          | true => rfl
          | false =>
            have ho := Array.getElem?_eq_getElem hlt
            exact absurd ⟨e, fun ed he hb => by
              obtain ⟨g1, g2⟩ := j.pr i _ hd ho ed he hb
              exact ihi _ g2 g1 (by omega)⟩ (nord i _ ho)
      rcases hU with hU | ⟨q, o, hq, h2, hp⟩
      · exact hQ hU (trm fun i o ho => dnl i (hU i o ho) (Array.getElem?_eq_some_iff.1 ho).1)
      · refine absurd ⟨?_, fun ed he hb => ?_⟩ (nord q o hq)
        · cases e : ls.getD q false with
          | false => rfl
          | true => rw [j.sub q e] at h2; cases h2
        · obtain ⟨g1, g2⟩ := hp ed he hb
          exact dnl _ g1 (Nat.lt_trans g2 (Array.getElem?_eq_some_iff.1 hq).1)
    · intro i hi
      obtain ⟨o, ho, hr⟩ := (rdy_of j.sz).1 hi
      have hlt : i < ls.size := by rw [j.sz]; exact (Array.getElem?_eq_some_iff.1 ho).1
      exact hS f rfl i o ho hr (by have := cnt_set hlt hr.1; omega)
section
variable {Q : Exit → Act → World → Prop} {kfin : T V → T O → Nat → Bool}
    (hfin : ∀ ρ tm h nx a w, kfin tm h nx = true → St ρ h nx w → Ext ρ0 h0 w0 ρ h w → RG ng ρ → TR ρ tm a → nt ≤ a.tmps.size → a.defers = df → Q .normal a w)
include hfin
theorem J.all : ∀ (fuel : Nat) {d : DS} {tm : T V} {h : T O} {nx : Nat} {ls : Array Bool} {a : Act} {w : World} {ρ : Ren} {tmS : T V} {pid : Nat → Nat}, J P ng nt ck ops df ρ0 h0 w0 d tm h nx ls a w ρ tmS pid → ls.toList.count false = fuel →
    (∀ i o, ops[i]? = some o → d.dn.testBit i = true) → kfin tm h nx = true → wpAny P .any ops Q fuel ls a w := by
  intro fuel
  induction fuel with
  | zero => intro d tm h nx ls a w ρ tmS pid j hc hd hk; exact j.skel 0 hc (.inl hd) (fun _ t => hfin _ _ _ _ _ _ hk j.s j.x j.g t j.ntok j.dfok) fun f hf => by cases hf
  | succ fuel ih =>
    intro d tm h nx ls a w ρ tmS pid j hc hd hk
    refine j.skel _ hc (.inl hd) (fun _ t => hfin _ _ _ _ _ _ hk j.s j.x j.g t j.ntok j.dfok) fun f hf i o ho hr hcnt => ?_
    cases hf
    exact j.step (hd i o ho) ho hr fun a' w' ρ' tmS' j' => ih j' hcnt hd hk
omit hfin in
theorem J.store (hck : CKok P ng ck) {d d' : DS} {h h' : T O} {i : Nat} {o : Oper} (j : J P ng nt ck ops df ρ0 h0 w0 d tm h nx ls a w ρ tmS pid) (so : StepOK P ng ck ops tm nx d h i o d' h') (ho : ops[i]? = some o) (hr : Rdy ls i o)
    {K : Act → World → Prop} (hK : ∀ a' w' ρ' tmS', J P ng nt ck ops df ρ0 h0 w0 d' tm h' nx (ls.setIfInBounds i true) a' w' ρ' tmS' pid → K a' w') : wpOp P ops Q i K a w := by
  obtain ⟨ad, hdst, hg, hop, ag⟩ := so
  have sees : opK P ng ck tmS o.op = opK P ng ck tm o.op ∧ wantK ops tmS o.guard = wantK ops tm o.guard := op_agree fun t ht => j.agree t fun k o2 hk hl hko hdst => by
    obtain ⟨e, g1, g2, g3⟩ := ad.dep t ht (j.dd k o2 t hk hko hdst)
    obtain ⟨g4, o3, g5, g6⟩ := j.dt _ t g3
    have := j.uniq _ _ _ _ t g4 hk g5 hko g6 hdst
    have h6 := hr.2 e g1 g2
    rw [this, hl] at h6; cases h6
  have hwa := wantK_run (ops := ops) (o := o) j.t (fun r s => by rw [sees.2, hg]; rfl)
  unfold wpOp
  simp only [ho]
  rw [if_pos hwa]
  refine .inl ?_
  refine opK_sound hck (op := o.op) (tm := tmS) rfl (K := fun _ x y => @decide (x = h' ∧ y = nx) (Classical.propDecidable _)) (Kp := fun _ _ _ => false) (by rw [sees.1, hop]; exact @decide_eq_true _ (Classical.propDecidable _) ⟨rfl, rfl⟩) j.s j.g j.t o a _ Q (fun ρ' x h2 nx' v w' hv hs hx hk => ?_) (fun ρ' x h2 nx' v w' hv hs hx hk => Bool.noConfusion hk)
  obtain ⟨rfl, rfl⟩ := @of_decide_eq_true _ (Classical.propDecidable _) hk
  have j2 := j.eff (tm' := tm) ad ho hr hv hs hx (fun t ht => by rw [hdst] at ht; cases ht) (fun _ _ => rfl) ag
  exact hK _ _ _ _ j2
theorem J.one (hck : CKok P ng ck) : ∀ (fuel : Nat) {d d' : DS} {tm : T V} {h h' : T O} {nx : Nat} {ls : Array Bool} {a : Act} {w : World} {ρ : Ren} {tmS : T V} {pid : Nat → Nat} {q : Nat} {o : Oper}, J P ng nt ck ops df ρ0 h0 w0 d tm h nx ls a w ρ tmS pid → ls.toList.count false = fuel →
    ops[q]? = some o → StepOK P ng ck ops tm nx d h q o d' h' → (∀ i o, ops[i]? = some o → i ≠ q → d.dn.testBit i = true) → kfin tm h' nx = true → wpAny P .any ops Q fuel ls a w := by
  intro fuel
  induction fuel with
  | zero =>
    intro d d' tm h h' nx ls a w ρ tmS pid q o j hc hq so hd hk
    exact j.skel 0 hc (.inr ⟨q, o, hq, so.ad.new, so.ad.pr⟩) (fun hall _ => by have := hall q o hq; rw [so.ad.new] at this; cases this) fun f hf => by cases hf
  | succ fuel ih =>
    intro d d' tm h h' nx ls a w ρ tmS pid q o j hc hq so hd hk
    refine j.skel _ hc (.inr ⟨q, o, hq, so.ad.new, so.ad.pr⟩) (fun hall _ => by have := hall q o hq; rw [so.ad.new] at this; cases this) fun f hf i o2 ho hr hcnt => ?_
    cases hf
    by_cases e : i = q
    · subst e
      rw [hq] at ho; cases ho
      exact j.store hck so hq hr fun a' w' ρ' tmS' j' => J.all hfin fuel j' hcnt (fun k ok hko => by
        by_cases ek : k = i
        · exact (so.ad.dn k).2 (.inr ek)
        · exact (so.ad.dn k).2 (.inl (hd k ok hko ek))) hk
    · exact j.step (hd i o2 ho e) ho hr fun a' w' ρ' tmS' j' => ih j' hcnt hq so hd hk
theorem J.two (hck : CKok P ng ck) : ∀ (fuel : Nat) {d d1 d2 d1' d2' : DS} {tm : T V} {h h1 h1' hf : T O} {nx : Nat} {ls : Array Bool} {a : Act} {w : World} {ρ : Ren} {tmS : T V} {pid : Nat → Nat} {p q : Nat} {o o2 : Oper}, J P ng nt ck ops df ρ0 h0 w0 d tm h nx ls a w ρ tmS pid → ls.toList.count false = fuel →
    ops[p]? = some o → ops[q]? = some o2 → StepOK P ng ck ops tm nx d h p o d1 h1 → StepOK P ng ck ops tm nx d1 h1 q o2 d2 hf → StepOK P ng ck ops tm nx d h q o2 d1' h1' → StepOK P ng ck ops tm nx d1' h1' p o d2' hf →
    (∀ i o, ops[i]? = some o → i ≠ p → i ≠ q → d.dn.testBit i = true) → kfin tm hf nx = true → wpAny P .any ops Q fuel ls a w := by
  intro fuel
  induction fuel with
  | zero =>
    intro d d1 d2 d1' d2' tm h h1 h1' hf nx ls a w ρ tmS pid p q o o2 j hc hp hq s1 s2 t1 t2 hd hk
    exact j.skel 0 hc (.inr ⟨q, o2, hq, t1.ad.new, t1.ad.pr⟩) (fun hall _ => by have := hall q o2 hq; rw [t1.ad.new] at this; cases this) fun f hf => by cases hf
  | succ fuel ih =>
    intro d d1 d2 d1' d2' tm h h1 h1' hf nx ls a w ρ tmS pid p q o o2 j hc hp hq s1 s2 t1 t2 hd hk
    refine j.skel _ hc (.inr ⟨q, o2, hq, t1.ad.new, t1.ad.pr⟩) (fun hall _ => by have := hall q o2 hq; rw [t1.ad.new] at this; cases this) fun f hf' i o3 ho hr hcnt => ?_
    cases hf'
    by_cases e : i = p
    · subst e
      rw [hp] at ho; cases ho
      exact j.store hck s1 hp hr fun a' w' ρ' tmS' j' => J.one hfin hck fuel j' hcnt hq s2 (fun k ok hko hne => by
        by_cases ek : k = i
        · exact (s1.ad.dn k).2 (.inr ek)
        · exact (s1.ad.dn k).2 (.inl (hd k ok hko ek hne))) hk
    · by_cases e2 : i = q
      · subst e2
        rw [hq] at ho; cases ho
        exact j.store hck t1 hq hr fun a' w' ρ' tmS' j' => J.one hfin hck fuel j' hcnt hp t2 (fun k ok hko hne => by
          by_cases ek : k = i
          · exact (t1.ad.dn k).2 (.inr ek)
          · exact (t1.ad.dn k).2 (.inl (hd k ok hko hne ek))) hk
      · exact j.step (hd i o3 ho e e2) ho hr fun a' w' ρ' tmS' j' => ih j' hcnt hp hq s1 s2 t1 t2 hd hk
end
end
end Go.Mx
