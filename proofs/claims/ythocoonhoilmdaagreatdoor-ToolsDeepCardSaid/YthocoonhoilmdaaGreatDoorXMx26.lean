/-
  A part of a small executor of the model, proved sound (12 of 28). No condition.
-/
import Derived.Test.YthocoonhoilmdaaGreatDoorXMx23
import Derived.Orders
namespace Go.Mx
noncomputable section
variable {P : Program} {ng nt : Nat} {ck : CK} {ops : Array Oper} {df : List Deferred} {ρ0 : Ren} {h0 : T O} {w0 : World}
def Sub (h1 h : T O) : Prop := ∀ id, (gt O.none id h1).live → gt O.none id h = gt O.none id h1
def PF (P : Program) (ng nt : Nat) (ck : CK) (ops : Array Oper) (h0 : T O) (ρ : Ren) (tm : T V) (h : T O) (nx : Nat) (pid : Nat → Nat) (i : Nat) (o : Oper) : Prop :=
  ((∀ run skip, wantK ops tm o.guard run skip = run) ∧ clsOp P o.op = 0 ∧ ∃ y h1, (∀ (nx : Nat) (K : KV), opK P ng ck tm o.op h1 nx K (fun _ _ _ => false) = K y h1 nx) ∧ Sub h1 h ∧ ∀ t, o.dst = some t → gt V.nil t tm = y ∧ t < nt) ∨
  ((∀ run skip, wantK ops tm o.guard run skip = run) ∧ clsOp P o.op = 1 ∧ ∃ mk ob, MakesX P ng ck tm o.op mk ob ∧ pid i < nx ∧ ρ (pid i) = none ∧ gt O.none (pid i) h = ob ∧ ¬ (gt O.none (pid i) h0).live ∧ ∀ t, o.dst = some t → gt V.nil t tm = mk (pid i) ∧ t < nt) ∨
  ((∀ run skip, wantK ops tm o.guard run skip = skip) ∧ ∀ t, o.dst = some t → gt V.nil t tm = undefV ∧ t < nt)
structure J (P : Program) (ng nt : Nat) (ck : CK) (ops : Array Oper) (df : List Deferred) (ρ0 : Ren) (h0 : T O) (w0 : World) (d : DS) (tm : T V) (h : T O) (nx : Nat) (ls : Array Bool) (a : Act) (w : World) (ρ : Ren) (tmS : T V) (pid : Nat → Nat) : Prop where
  s : St ρ h nx w
  x : Ext ρ0 h0 w0 ρ h w
  g : RG ng ρ
  t : TR ρ tmS a
  ntok : nt ≤ a.tmps.size
  dfok : a.defers = df
  sz : ls.size = ops.size
  sub : ∀ i, ls.getD i false = true → d.dn.testBit i = true
  dl : ∀ i o, d.dn.testBit i = true → ops[i]? = some o → ∀ t, looksT ops o t → d.dl.testBit t = true
  dd : ∀ i o t, d.dn.testBit i = true → ops[i]? = some o → o.dst = some t → d.dd.testBit t = true
  dt : ∀ i t, (gt 0 i d.dt).testBit t = true → d.dn.testBit i = true ∧ ∃ o, ops[i]? = some o ∧ o.dst = some t
  mt : ∀ i j, (gt 0 i d.mt).testBit j = true → ls.getD i false = true → ls.getD j false = true
  mt1 : ∀ i o j, d.dn.testBit i = true → ops[i]? = some o → (gt 0 i d.mt).testBit j = true → ∃ e ∈ o.after.toList, bindB e = true ∧ (j = e.on ∨ (gt 0 e.on d.mt).testBit j = true)
  mt0 : ∀ i, d.dn.testBit i = false → gt 0 i d.mt = 0
  pr : ∀ i o, d.dn.testBit i = true → ops[i]? = some o → ∀ e ∈ o.after.toList, bindB e = true → d.dn.testBit e.on = true ∧ e.on < i
  uniq : ∀ i j o o' t, d.dn.testBit i = true → d.dn.testBit j = true → ops[i]? = some o → ops[j]? = some o' → o.dst = some t → o'.dst = some t → i = j
  dep : ∀ i o, d.dn.testBit i = true → ls.getD i false = false → ops[i]? = some o → ∀ t, looksT ops o t → ∀ j o', d.dn.testBit j = true → ops[j]? = some o' → o'.dst = some t → ∃ e ∈ o.after.toList, bindB e = true ∧ e.on = j
  agree : ∀ t, (∀ i o, d.dn.testBit i = true → ls.getD i false = false → ops[i]? = some o → o.dst ≠ some t) → gt V.nil t tmS = gt V.nil t tm
  pend : ∀ i o, d.dn.testBit i = true → ls.getD i false = false → ops[i]? = some o → PF P ng nt ck ops h0 ρ tm h nx pid i o
  pinj : ∀ i j o o', d.dn.testBit i = true → ls.getD i false = false → ops[i]? = some o → clsOp P o.op = 1 → d.dn.testBit j = true → ls.getD j false = false → ops[j]? = some o' → clsOp P o'.op = 1 → (∀ run skip, wantK ops tm o.guard run skip = run) → (∀ run skip, wantK ops tm o'.guard run skip = run) → pid i = pid j → i = j
theorem ev_agree {tm tm' : T V} {o : Oper} (hx : ∀ t, looksT ops o t → gt V.nil t tm = gt V.nil t tm') : ∀ x ∈ opnds o.op, ev ng tm x = ev ng tm' x := by
  intro x hm
  cases x with
  | tmp t => exact hx t (.inl hm)
  | _ => rfl
theorem op_agree {tm tm' : T V} {o : Oper} (hx : ∀ t, looksT ops o t → gt V.nil t tm = gt V.nil t tm') : opK P ng ck tm o.op = opK P ng ck tm' o.op ∧ wantK ops tm o.guard = wantK ops tm' o.guard :=
  ⟨opK_congr (ev_agree hx), wantK_congr fun d hd => hx d (.inr hd)⟩
theorem PF.agree {ρ : Ren} {tm tm' : T V} {h : T O} {nx : Nat} {pid : Nat → Nat} {i : Nat} {o : Oper} (hp : PF P ng nt ck ops h0 ρ tm h nx pid i o) (hx : ∀ t, looksT ops o t ∨ o.dst = some t → gt V.nil t tm = gt V.nil t tm') : PF P ng nt ck ops h0 ρ tm' h nx pid i o := by
  obtain ⟨e1, e2⟩ := op_agree (P := P) (ng := ng) (ck := ck) (fun t ht => hx t (.inl ht))
  have e3 : ∀ t, o.dst = some t → gt V.nil t tm = gt V.nil t tm' := fun t ht => hx t (.inr ht)
  rcases hp with ⟨p1, p2, y, h1, p3, p5, p4⟩ | ⟨p1, p2, mk, ob, p3, p4, p5, p6, p7, p8⟩ | ⟨p1, p2⟩
  · exact .inl ⟨by rw [← e2]; exact p1, p2, y, h1, by rw [← e1]; exact p3, p5, fun t ht => by rw [← e3 t ht]; exact p4 t ht⟩
  · exact .inr (.inl ⟨by rw [← e2]; exact p1, p2, mk, ob, ⟨by rw [← e1]; exact p3.1, p3.2⟩, p4, p5, p6, p7, fun t ht => by rw [← e3 t ht]; exact p8 t ht⟩)
  · exact .inr (.inr ⟨by rw [← e2]; exact p1, fun t ht => by rw [← e3 t ht]; exact p2 t ht⟩)
theorem putTK_spec {nt : Nat} {dst : Option Nat} {x : V} {tm : T V} {k : T V → Bool} (h : putTK nt dst x tm k = true) :
    ∃ tm', k tm' = true ∧ (∀ t, dst = some t → gt V.nil t tm' = x ∧ t < nt) ∧ ∀ t, dst ≠ some t → gt V.nil t tm' = gt V.nil t tm := by
  cases dst with
  | none => exact ⟨tm, h, by simp, fun _ _ => rfl⟩
  | some d =>
    obtain ⟨h1, h2⟩ := ite1_spec (show ite1 (Nat.blt d nt) (stK V.nil x d tm k) = true from h)
    rw [stK_eq] at h2
    refine ⟨_, h2, fun t ht => ?_, fun t ht => ?_⟩
    · cases ht
      exact ⟨gt_st_same _ _ _ _, Nat.blt_eq.mp h1⟩
    · exact gt_st_ne _ _ (fun e => ht (by rw [e])) _
theorem J.more {d d' : DS} {tm tm' : T V} {h h' : T O} {nx nx' : Nat} {ls : Array Bool} {a : Act} {w : World} {ρ : Ren} {tmS : T V} {pid pid' : Nat → Nat} {i : Nat} {o : Oper}
    (j : J P ng nt ck ops df ρ0 h0 w0 d tm h nx ls a w ρ tmS pid) (ad : Added ops false i o d d') (hi : ops[i]? = some o)
    (hs : St ρ h' nx' w) (hx : Ext ρ0 h0 w0 ρ h' w)
    (ht1 : ∀ t, o.dst ≠ some t → gt V.nil t tm' = gt V.nil t tm)
    (hold : ∀ k o', d.dn.testBit k = true → ls.getD k false = false → ops[k]? = some o' → PF P ng nt ck ops h0 ρ tm h nx pid k o' → PF P ng nt ck ops h0 ρ tm h' nx' pid' k o')
    (hnew : PF P ng nt ck ops h0 ρ tm' h' nx' pid' i o)
    (hpid : ∀ k, k ≠ i → pid' k = pid k)
    (hpn : clsOp P o.op = 1 → (∀ run skip, wantK ops tm' o.guard run skip = run) → ∀ k o', d.dn.testBit k = true → ls.getD k false = false → ops[k]? = some o' → clsOp P o'.op = 1 → (∀ run skip, wantK ops tm' o'.guard run skip = run) → pid' i ≠ pid k) :
    J P ng nt ck ops df ρ0 h0 w0 d' tm' h' nx' ls a w ρ tmS pid' := by
  have hli : ls.getD i false = false := by
    cases e : ls.getD i false with
    | false => rfl
    | true => have := j.sub i e; rw [ad.new] at this; cases this
  have ne : ∀ k, d.dn.testBit k = true → k ≠ i := fun k hk e => by rw [e, ad.new] at hk; cases hk
  have war : ∀ t, o.dst = some t → d.dl.testBit t = false := by
    rcases ad.war with h | ⟨h, _⟩
    · exact h
    · cases h
  have inv : ∀ k, d'.dn.testBit k = true → k = i ∨ (d.dn.testBit k = true ∧ k ≠ i) := fun k hk => by
    rcases (ad.dn k).1 hk with h | h
    · exact .inr ⟨h, ne k h⟩
    · exact .inl h
  have same : ∀ k o', d.dn.testBit k = true → ops[k]? = some o' → ∀ t, looksT ops o' t ∨ o'.dst = some t → gt V.nil t tm = gt V.nil t tm' := fun k o' hk hko t ht => by
    refine (ht1 t fun hd => ?_).symm
    rcases ht with ht | ht
    · have := j.dl k o' hk hko t ht; rw [war t hd] at this; cases this
    · have := j.dd k o' t hk hko ht; rw [(ad.own t hd).2] at this; cases this
  have wsame : ∀ k o', d.dn.testBit k = true → ops[k]? = some o' → wantK ops tm o'.guard = wantK ops tm' o'.guard := fun k o' hk hko => wantK_congr fun t ht => same k o' hk hko t (.inl (.inr ht))
  refine ⟨hs, hx, j.g, j.t, j.ntok, j.dfok, j.sz, fun k hk => (ad.dn k).2 (.inl (j.sub k hk)), ?_, ?_, ?_, ?_, ?_, ?_, ?_, ?_, ?_, ?_, ?_, ?_⟩
  · intro k o' hk hko t ht
    rcases inv k hk with rfl | ⟨hk, _⟩
    · rw [hi] at hko; cases hko; exact ad.dl t (.inr ht)
    · exact ad.dl t (.inl (j.dl k o' hk hko t ht))
  · intro k o' t hk hko ht
    rcases inv k hk with rfl | ⟨hk, _⟩
    · rw [hi] at hko; cases hko; exact ad.dd t (.inr ht)
    · exact ad.dd t (.inl (j.dd k o' t hk hko ht))
  · intro k t hk
    by_cases e : k = i
    · subst e; exact ⟨(ad.dn k).2 (.inr rfl), o, hi, ad.dt t hk⟩
    · rw [ad.dt' k e] at hk
      obtain ⟨h1, h2⟩ := j.dt k t hk
      exact ⟨(ad.dn k).2 (.inl h1), h2⟩
  · intro k m hk hl
    have e : k ≠ i := fun e => by rw [e, hli] at hl; cases hl
    rw [ad.mt' k e] at hk
    exact j.mt k m hk hl
  · intro k o' m hk hko hm
    rcases inv k hk with rfl | ⟨hk, e⟩
    · rw [hi] at hko; cases hko
      obtain ⟨e, h1, h2, h3⟩ := ad.mt m hm
      have := ne e.on (ad.pr e h1 h2).1
      exact ⟨e, h1, h2, by rw [ad.mt' _ this]; exact h3⟩
    · rw [ad.mt' k e] at hm
      obtain ⟨e, h1, h2, h3⟩ := j.mt1 k o' m hk hko hm
      have := ne e.on (j.pr k o' hk hko e h1 h2).1
      exact ⟨e, h1, h2, by rw [ad.mt' _ this]; exact h3⟩
  · intro k hk
    have h1 : d.dn.testBit k = false := by
      cases e : d.dn.testBit k with
      | false => rfl
      | true => rw [(ad.dn k).2 (.inl e)] at hk; cases hk
    have h2 : k ≠ i := fun e => by rw [(ad.dn k).2 (.inr e)] at hk; cases hk
    rw [ad.mt' k h2]; exact j.mt0 k h1
  · intro k o' hk hko e he hb
    rcases inv k hk with rfl | ⟨hk, _⟩
    · rw [hi] at hko; cases hko
      obtain ⟨h1, h2⟩ := ad.pr e he hb
      exact ⟨(ad.dn _).2 (.inl h1), h2⟩
    · obtain ⟨h1, h2⟩ := j.pr k o' hk hko e he hb
      exact ⟨(ad.dn _).2 (.inl h1), h2⟩
  · intro k m o1 o2 t hk hm hko hmo h1 h2
    rcases inv k hk with rfl | ⟨hk, _⟩
    · rw [hi] at hko; cases hko
      rcases inv m hm with rfl | ⟨hm, _⟩
      · rfl
      · have := j.dd m o2 t hm hmo h2; rw [(ad.own t h1).2] at this; cases this
    · rcases inv m hm with rfl | ⟨hm, _⟩
      · rw [hi] at hmo; cases hmo
        have := j.dd k o1 t hk hko h1; rw [(ad.own t h2).2] at this; cases this
      · exact j.uniq k m o1 o2 t hk hm hko hmo h1 h2
  · intro k o' hk hl hko t ht m o2 hm hmo hd
    rcases inv k hk with rfl | ⟨hk, _⟩
    · rw [hi] at hko; cases hko
      rcases inv m hm with rfl | ⟨hm, _⟩
      · rw [hi] at hmo; cases hmo; exact absurd ht (ad.own t hd).1
      · obtain ⟨e, h1, h2, h3⟩ := ad.dep t ht (j.dd m o2 t hm hmo hd)
        obtain ⟨h4, o3, h5, h6⟩ := j.dt e.on t h3
        exact ⟨e, h1, h2, j.uniq _ _ _ _ t h4 hm h5 hmo h6 hd⟩
    · rcases inv m hm with rfl | ⟨hm, _⟩
      · rw [hi] at hmo; cases hmo
        have := j.dl k o' hk hko t ht; rw [war t hd] at this; cases this
      · exact j.dep k o' hk hl hko t ht m o2 hm hmo hd
  · intro t ht
    have h1 : o.dst ≠ some t := ht i o ((ad.dn i).2 (.inr rfl)) hli hi
    rw [ht1 t h1]
    exact j.agree t fun k o' hk hl hko => ht k o' ((ad.dn k).2 (.inl hk)) hl hko
  · intro k o' hk hl hko
    rcases inv k hk with rfl | ⟨hk, e⟩
    · rw [hi] at hko; cases hko; exact hnew
    · exact (hold k o' hk hl hko (j.pend k o' hk hl hko)).agree (same k o' hk hko)
  · intro k m o1 o2 hk hlk hko hck hm hlm hmo hcm hw1 hw2 hp
    rcases inv k hk with rfl | ⟨hk, ek⟩
    · rw [hi] at hko; cases hko
      rcases inv m hm with rfl | ⟨hm, em⟩
      · rfl
      · rw [hpid m em] at hp
        exact absurd hp (hpn hck hw1 m o2 hm hlm hmo hcm hw2)
    · rcases inv m hm with rfl | ⟨hm, em⟩
      · rw [hi] at hmo; cases hmo
        rw [hpid k ek] at hp
        exact absurd hp.symm (hpn hcm hw2 k o1 hk hlk hko hck hw1)
      · rw [hpid k ek, hpid m em] at hp
        exact j.pinj k m o1 o2 hk hlk hko hck hm hlm hmo hcm (by rw [wsame k o1 hk hko]; exact hw1) (by rw [wsame m o2 hm hmo]; exact hw2) hp
end
end Go.Mx
namespace Go.Mx
noncomputable section
variable {P : Program} {ng nt : Nat} {ck : CK} {ops : Array Oper} {df : List Deferred} {ρ0 : Ren} {h0 : T O} {w0 : World}
variable {d : DS} {tm : T V} {h : T O} {nx : Nat} {ls : Array Bool} {a : Act} {w : World} {ρ : Ren} {tmS : T V} {pid : Nat → Nat}
theorem Sub.refl (h : T O) : Sub h h := fun _ _ => rfl
theorem Sub.fresh {h1 : T O} (hb : Sub h1 h) (s : St ρ h nx w) (ob : O) : Sub h1 (st O.none ob nx h) := by
  intro id hl
  have e := hb id hl
  have : nx ≠ id := fun en => s.dead nx (Nat.le_refl _) (by rw [en, e]; exact hl)
  rw [gt_st_ne _ _ this, e]
theorem Sub.st {h1 : T O} (hb : Sub h1 h) (s : St ρ h nx w) : St ρ h1 nx w := by
  refine ⟨fun id L hl hL => ?_, fun i j L M hi hj => s.inj i j L M (by rw [hb i (O.live_of_wr hi)]; exact hi) (by rw [hb j hj]; exact hj), s.fresh, fun i hi hl => s.dead i hi (by rw [hb i hl]; exact hl)⟩
  have := s.rel id L (by rw [hb id hl]; exact hl) hL
  rw [hb id hl] at this
  exact this
theorem Ext.phantom (x : Ext ρ0 h0 w0 ρ h w) (s : St ρ h nx w) (ob : O) : Ext ρ0 h0 w0 ρ (st O.none ob nx h) w ∧ ¬ (gt O.none nx h0).live := by
  have hf : ρ nx = none := s.fresh nx (Nat.le_refl _)
  have hf0 : ρ0 nx = none := by
    cases e : ρ0 nx with
    | none => rfl
    | some L => rw [x.le _ _ e] at hf; cases hf
  have hn : ¬ (gt O.none nx h0).live := fun hl => by
    obtain ⟨_, e⟩ := x.phant nx hl hf0
    exact s.dead nx (Nat.le_refl _) (by rw [e]; exact hl)
  refine ⟨⟨x.le, x.size, x.os, x.tape, x.output, fun b hb hk => ?_, fun id hl hr => ?_⟩, hn⟩
  · obtain ⟨e1, e2⟩ := x.kept b hb hk
    refine ⟨e1, fun id L hw hL => ?_⟩
    have : nx ≠ id := fun e => by rw [← e, hf] at hL; cases hL
    rw [gt_st_ne _ _ this] at hw
    exact e2 id L hw hL
  · obtain ⟨e1, e2⟩ := x.phant id hl hr
    have : nx ≠ id := fun e => hn (by rw [e]; exact hl)
    exact ⟨e1, by rw [gt_st_ne _ _ this]; exact e2⟩
theorem run_ne_skip {g : Bool → Bool → Bool} (h1 : ∀ run skip, g run skip = run) (h2 : ∀ run skip, g run skip = skip) : False := by
  have := (h1 true false).symm.trans (h2 true false)
  cases this
theorem J.proc {i : Nat} {o : Oper} {k : DS → T V → T O → Nat → Bool} (j : J P ng nt ck ops df ρ0 h0 w0 d tm h nx ls a w ρ tmS pid) (hi : ops[i]? = some o)
    (hk : procK P ng ck nt ops i o d tm h nx k = true) : ∃ d' tm' h' nx' pid', k d' tm' h' nx' = true ∧ J P ng nt ck ops df ρ0 h0 w0 d' tm' h' nx' ls a w ρ tmS pid' := by
  unfold procK at hk
  generalize (ior (tb d.dn i) (ior (inot (predsIn d.dn i o.after.toList)) (inot (Nat.beq (Nat.land (dstM o.dst) d.dl) 0)))) = c at hk
  cases c with
  | true => exact ⟨_, _, _, _, _, hk, j⟩
  | false =>
    have hk : wantK ops tm o.guard
      (Nat.rec (motive := fun _ => Bool) (k d tm h nx) (fun _ _ => opK P ng ck tm o.op h nx (fun x h nx => addK ops false i o d fun d => putTK nt o.dst x tm fun tm => k d tm h nx) (fun _ _ _ => false)) (Nat.sub 2 (clsOp P o.op)))
      (addK ops false i o d fun d => putTK nt o.dst undefV tm fun tm => k d tm h nx) = true := hk
    have own : ∀ {d' : DS}, Added ops false i o d d' → ∀ {tm' : T V}, (∀ t, o.dst ≠ some t → gt V.nil t tm' = gt V.nil t tm) → ∀ t, looksT ops o t → gt V.nil t tm = gt V.nil t tm' := fun ad tm' h1 t ht => (h1 t fun e => (ad.own t e).1 ht).symm
    rcases wantK_cases ops tm o.guard with hw | hw | hw
    · rw [hw] at hk
      cases hc : clsOp P o.op with
      | zero =>
        rw [hc] at hk
        have hk : opK P ng ck tm o.op h nx (fun x h nx => addK ops false i o d fun d => putTK nt o.dst x tm fun tm => k d tm h nx) (fun _ _ _ => false) = true := hk
        rcases opK_lin (P := P) (ng := ng) (ck := ck) (tm := tm) (h := h) hc with hy | ⟨y, hy⟩
        · exact Bool.noConfusion ((hy _ _).symm.trans hk)
        · replace hk := (hy _ _).symm.trans hk
          obtain ⟨d', hk, ad⟩ := addK_spec hk
          obtain ⟨tm', hk, p1, p2⟩ := putTK_spec hk
          obtain ⟨e1, e2⟩ := op_agree (P := P) (ng := ng) (ck := ck) (own ad p2)
          refine ⟨d', tm', h, nx, pid, hk, j.more ad hi j.s j.x p2 (fun _ _ _ _ _ hp => hp) (.inl ⟨by rw [← e2]; exact hw, hc, y, h, by rw [← e1]; exact hy, Sub.refl _, p1⟩) (fun _ _ => rfl) (fun h1 => by rw [hc] at h1; cases h1)⟩
      | succ c =>
        cases c with
        | zero =>
          rw [hc] at hk
          have hk : opK P ng ck tm o.op h nx (fun x h nx => addK ops false i o d fun d => putTK nt o.dst x tm fun tm => k d tm h nx) (fun _ _ _ => false) = true := hk
          obtain ⟨mk, ob, mx, _⟩ := opK_makes hc hk
          rw [mx.1] at hk
          obtain ⟨d', hk, ad⟩ := addK_spec hk
          obtain ⟨tm', hk, p1, p2⟩ := putTK_spec hk
          obtain ⟨e1, e2⟩ := op_agree (P := P) (ng := ng) (ck := ck) (own ad p2)
          obtain ⟨x', hn⟩ := j.x.phantom j.s ob
          have ne : ∀ k, d.dn.testBit k = true → k ≠ i := fun k hk e => by rw [e, ad.new] at hk; cases hk
          refine ⟨d', tm', _, _, fun k => if k = i then nx else pid k, hk, j.more ad hi (j.s.phantom ob) x' p2 (fun k o' hdn hl hko hp => ?_) (.inr (.inl ⟨by rw [← e2]; exact hw, hc, mk, ob, ⟨by rw [← e1]; exact mx.1, mx.2⟩, by simp, by simpa using j.s.fresh nx (Nat.le_refl _), by simp [gt_st_same], by simpa using hn, by simpa using p1⟩)) (fun k e => by simp [e]) (fun _ _ k o' hdn hl hko hc' hw' => ?_)⟩
          · rcases hp with ⟨q1, q2, y, h1, q3, q4, q5⟩ | ⟨q1, q2, mk', ob', q3, q4, q5, q6, q7, q8⟩ | hp
            · exact .inl ⟨q1, q2, y, h1, q3, q4.fresh j.s ob, q5⟩
            · refine .inr (.inl ⟨q1, q2, mk', ob', q3, ?_⟩)
              simp only [if_neg (ne k hdn)]
              exact ⟨by omega, q5, by rw [gt_st_ne _ _ (by omega)]; exact q6, q7, q8⟩
            · exact .inr (.inr hp)
          · simp only [if_true]
            have hw2 : ∀ run skip, wantK ops tm o'.guard run skip = run := by
              have : wantK ops tm o'.guard = wantK ops tm' o'.guard := wantK_congr fun t ht => (p2 t fun e => by
                rcases ad.war with h1 | ⟨h1, _⟩
                · have := j.dl k o' hdn hko t (.inr ht); rw [h1 t e] at this; cases this
                · cases h1).symm
              rw [this]; exact hw'
            rcases j.pend k o' hdn hl hko with ⟨_, q2, _⟩ | ⟨_, _, _, _, _, q4, _⟩ | ⟨q1, _⟩
            · rw [q2] at hc'; cases hc'
            · omega
            · exact (run_ne_skip hw2 q1).elim
        | succ c =>
          rw [hc] at hk
          have e : Nat.sub 2 (c + 1 + 1) = 0 := by show 2 - (c + 1 + 1) = 0; omega
          rw [e] at hk
          exact ⟨_, _, _, _, _, hk, j⟩
    · rw [hw] at hk
      obtain ⟨d', hk, ad⟩ := addK_spec hk
      obtain ⟨tm', hk, p1, p2⟩ := putTK_spec hk
      obtain ⟨e1, e2⟩ := op_agree (P := P) (ng := ng) (ck := ck) (own ad p2)
      exact ⟨d', tm', h, nx, pid, hk, j.more ad hi j.s j.x p2 (fun _ _ _ _ _ hp => hp) (.inr (.inr ⟨by rw [← e2]; exact hw, p1⟩)) (fun _ _ => rfl) (fun _ h1 => (run_ne_skip h1 (by rw [← e2]; exact hw)).elim)⟩
    · rw [hw] at hk; cases hk
theorem J.pass {k : DS → T V → T O → Nat → Bool} : ∀ (l : List Oper) (i : Nat) (d : DS) (tm : T V) (h : T O) (nx : Nat) (pid : Nat → Nat), J P ng nt ck ops df ρ0 h0 w0 d tm h nx ls a w ρ tmS pid → (∀ q, l[q]? = ops[i + q]?) →
    passK P ng ck nt ops l i d tm h nx k = true → ∃ d' tm' h' nx' pid', k d' tm' h' nx' = true ∧ J P ng nt ck ops df ρ0 h0 w0 d' tm' h' nx' ls a w ρ tmS pid'
  | [], _, _, _, _, _, _, j, _, hk => ⟨_, _, _, _, _, hk, j⟩
  | o :: l, i, d, tm, h, nx, pid, j, hl, hk => by
    have hi : ops[i]? = some o := by simpa using (hl 0).symm
    obtain ⟨d', tm', h', nx', pid', hk', j'⟩ := j.proc (k := fun d tm h nx => passK P ng ck nt ops l (Nat.succ i) d tm h nx k) hi hk
    exact J.pass l (i + 1) d' tm' h' nx' pid' j' (fun q => by have := hl (q + 1); simpa [Nat.add_assoc, Nat.add_comm 1 q] using this) hk'
end
end Go.Mx
namespace Go.Mx
open Instr Builtin
noncomputable section
variable {P : Program} {ρ : Ren} {h : T O} {nx : Nat} {w : World} {ng : Nat}
theorem opConvert_pure {a d : TypeId} (hnd : Nat.beq (tyk P d) 20 = false) {x : V} {vx : Value} {K : KV} (hk : opConvert P a d x h nx K = true) (s : St ρ h nx w) (hx : VR ρ x vx) :
    ∃ y v, K y h nx = true ∧ VR ρ y v ∧ (convert a d vx).run P w = .ok v w := by
  have bytes : ∀ {l : List Nat}, Nat.beq (tyk P a) 20 = true → Nat.beq (tyk P d) 1 = true → (Conv.bytesToString vx).run P w = .ok (.string (bs l)) w → (∃ A n c, vx = .slice A n c) → (convert a d vx).run P w = .ok (.string (bs l)) w := by
    intro l h1 h2 h3 h4
    obtain ⟨e, hu, hue⟩ := (tyk_cases (P := P) a).2.2.2.2.2.2.1 (beq_spec h1)
    have hd := (tyk_cases (P := P) d).1 (beq_spec h2)
    obtain ⟨A, n, c, rfl⟩ := h4
    rw [run_convert_bytes_string w a d e A n c hu hue hd]
    exact h3
  cases x <;> first | exact Bool.noConfusion hk | skip
  case i k n =>
    obtain ⟨e1, hk2⟩ := ite1_spec (show ite1 (Nat.blt 0 (tyk P a)) (Option.rec (motive := fun _ => Bool) (ite1 (Nat.beq (tyk P d) 1) <| Int.rec (motive := fun _ => Bool) (fun m => ite1 (Nat.blt m 128) <| K (.s [m]) h nx) (fun _ => false) n) (fun kd => wrK kd n fun m => K (.i kd m) h nx) (dstK P d)) = true from hk)
    have e1 := Nat.blt_eq.mp e1
    obtain ⟨ds, hs⟩ := (tyk_cases (P := P) a).2.2.2.2.2.2.2.1 (Nat.pos_iff_ne_zero.1 e1)
    simp only [VR] at hx
    subst hx
    cases hd : dstK P d with
    | some kd =>
      rw [hd] at hk2
      have hk3 : wrK kd n (fun m => K (.i kd m) h nx) = true := hk2
      rw [wrK_eq] at hk3
      refine ⟨_, _, hk3, VRi _ _ _, ?_⟩
      unfold convert
      simp only [Sem.run_bind, run_und hs, run_und (dstK_spec hd), Result.andThen_ok]
      rfl
    | none =>
      rw [hd] at hk2
      obtain ⟨e2, hk3⟩ := ite1_spec (show ite1 (Nat.beq (tyk P d) 1) (Int.rec (motive := fun _ => Bool) (fun m => ite1 (Nat.blt m 128) <| K (.s [m]) h nx) (fun _ => false) n) = true from hk2)
      have hu := (tyk_cases (P := P) d).1 (beq_spec e2)
      cases n with
      | negSucc n => exact Bool.noConfusion hk3
      | ofNat m =>
        obtain ⟨e3, hk4⟩ := ite1_spec hk3
        have e3 := Nat.blt_eq.mp e3
        refine ⟨_, _, hk4, VRst ρ (by simp; omega), ?_⟩
        unfold convert
        simp only [Sem.run_bind, run_und hs, run_und hu, Result.andThen_ok]
        show (Conv.intToString (Int.ofNat m)).run P w = _
        rw [show Conv.intToString (Int.ofNat m) = pure (.string (Utf8.encode (m : Int))) from rfl, encode_ascii e3]
        rfl
  case s l =>
    obtain ⟨e1, hk2⟩ := ite1_spec (show ite1 (Nat.blt 0 (tyk P a)) (Bool.rec (ite1 (Nat.beq (tyk P d) 20) <| chbK l fun c => slenK l 0 fun n => newK c (slT P d) h nx fun id h' nx' => K (.sl id 0 n 1) h' nx') (K (.s l) h nx) (Nat.beq (tyk P d) 1)) = true from hk)
    have e1 := Nat.blt_eq.mp e1
    obtain ⟨ds, hs⟩ := (tyk_cases (P := P) a).2.2.2.2.2.2.2.1 (Nat.pos_iff_ne_zero.1 e1)
    simp only [VR] at hx
    obtain ⟨rfl, hl⟩ := hx
    cases e2 : Nat.beq (tyk P d) 1 with
    | true =>
      rw [e2] at hk2
      have hu := (tyk_cases (P := P) d).1 (beq_spec e2)
      refine ⟨_, _, hk2, VRst ρ hl, ?_⟩
      unfold convert
      simp only [Sem.run_bind, run_und hs, run_und hu, Result.andThen_ok]
      rfl
    | false =>
      rw [e2] at hk2
      obtain ⟨e3, hk3⟩ := ite1_spec (show ite1 (Nat.beq (tyk P d) 20) (chbK l fun c => slenK l 0 fun n => newK c (slT P d) h nx fun id h' nx' => K (.sl id 0 n 1) h' nx') = true from hk2)
      rw [hnd] at e3; cases e3
  case w l =>
    obtain ⟨e1, hk2⟩ := ite1_spec (show ite1 (Nat.blt 0 (tyk P a)) (Bool.rec (ite1 (Nat.beq (tyk P d) 20) <| lenK l 0 fun n => newK l (slT P d) h nx fun id h' nx' => K (.sl id 0 n 1) h' nx') (K (.w l) h nx) (Nat.beq (tyk P d) 1)) = true from hk)
    have e1 := Nat.blt_eq.mp e1
    obtain ⟨ds, hs⟩ := (tyk_cases (P := P) a).2.2.2.2.2.2.2.1 (Nat.pos_iff_ne_zero.1 e1)
    have hx0 := hx
    simp only [VR] at hx
    obtain ⟨x, rfl, hx⟩ := hx
    cases e2 : Nat.beq (tyk P d) 1 with
    | true =>
      rw [e2] at hk2
      have hu := (tyk_cases (P := P) d).1 (beq_spec e2)
      refine ⟨_, _, hk2, hx0, ?_⟩
      unfold convert
      simp only [Sem.run_bind, run_und hs, run_und hu, Result.andThen_ok]
      rfl
    | false =>
      rw [e2] at hk2
      obtain ⟨e3, hk3⟩ := ite1_spec (show ite1 (Nat.beq (tyk P d) 20) (lenK l 0 fun n => newK l (slT P d) h nx fun id h' nx' => K (.sl id 0 n 1) h' nx') = true from hk2)
      rw [hnd] at e3; cases e3
  case x ax kx lo hi =>
    obtain ⟨e1, hk2⟩ := ite1_spec (show ite1 (Nat.blt 0 (tyk P a)) (Option.rec (motive := fun _ => Bool) (ite1 (Nat.beq (tyk P d) 1) <| ite1 (Nat.blt hi 128) <| K (.w (.cons (.x ax .u8 lo hi) .nil)) h nx) (fun kd => ite1 (Nat.ble hi (mxK kd)) <| K (.x ax kd lo hi) h nx) (dstK P d)) = true from hk)
    have e1 := Nat.blt_eq.mp e1
    obtain ⟨ds, hs⟩ := (tyk_cases (P := P) a).2.2.2.2.2.2.2.1 (Nat.pos_iff_ne_zero.1 e1)
    obtain ⟨y, v, g1, g2, g3⟩ := convX (w := w) (G := fun v => K v h nx) hs hk2 hx
    exact ⟨y, v, g1, g2, g3⟩
  case p id off =>
    obtain ⟨y, r, q1, q2, q3⟩ := cvP_sound (show cvP P a d id off h (fun v => K v h nx) = true from hk) s hx
    exact ⟨y, r, q1, q2, q3⟩
  case o t l id x' y' => exact cvO_pure hnd (show cvO P a d t l id h nx K = true from hk) s hx
  case sl id off len sz =>
    simp only [opConvert, hnd] at hk
    obtain ⟨e1, hk2⟩ := ite1_spec (show ite1 (Nat.beq (tyk P a) 20) (ite1 (Nat.beq (tyk P d) 1) <| ite1 (Nat.beq sz 1) <| oC (gt O.none id h) fun l _ _ => dropK l off fun r => takeK r len fun c => strK c fun v => K v h nx) = true from hk)
    obtain ⟨e2, hk3⟩ := ite1_spec hk2
    obtain ⟨e3, hk4⟩ := ite1_spec hk3
    have e3 := beq_spec e3
    subst e3
    obtain ⟨l, bty, wr, ho, hk5⟩ := oC_spec hk4
    simp only [VR] at hx
    obtain ⟨L, cap, hL, hc1, hc2, rfl⟩ := hx
    obtain ⟨o, h2, h3⟩ := s.relC ho hL
    obtain ⟨arr, fz, rfl, h4, h5, h6, h7⟩ := h3
    obtain ⟨r, hk6, hrc, hr⟩ := dropK_spec hk5 (CR_isC h7)
    obtain ⟨c, hk7, hc⟩ := takeK_spec hk6 hrc
    obtain ⟨g1, g2⟩ := hr ρ _ h7
    obtain ⟨g3, g4⟩ := hc ρ _ g1
    obtain ⟨yt, hk8, hts⟩ := strK_nat hk7 (VRs_isC g3)
    obtain ⟨t, hcells, ht, hyt⟩ := hts ρ _ g3
    simp only [Nat.mul_one] at hc2
    have hload := run_loadCells_of P w L.blk (L.base + off) len bty fz arr h2 (by omega)
    rw [← List.drop_drop, hcells] at hload
    refine ⟨_, _, hk8, hyt, ?_⟩
    exact bytes e1 e2 (bytesToString_run hload) ⟨_, _, _, rfl⟩
  all_goals
    obtain ⟨e1, hk2⟩ := ite1_spec (show ite1 (Nat.beq (tyk P a) 20) (ite1 (Nat.beq (tyk P d) 1) <| K (.s []) h nx) = true from hk)
    obtain ⟨e2, hk3⟩ := ite1_spec hk2
    simp only [VR] at hx
    first
      | subst hx
      | obtain ⟨A, c, rfl⟩ := hx
      | obtain ⟨A, rfl⟩ := hx
    refine ⟨_, _, hk3, VRst ρ (by simp), ?_⟩
    refine bytes e1 e2 ?_ ⟨_, _, _, rfl⟩
    first
      | rfl
      | exact bytesToString_run (l := []) (by simp [loadCells, loadCellsFrom])
def PureOK (_P : Program) (r : Result Next) (ρ : Ren) (h : T O) (nx : Nat) (w : World) (K : KV) : Prop := ∃ y v, K y h nx = true ∧ VR ρ y v ∧ r = .ok (.value v) w
theorem PureOK.val {K : KV} {x : V} {v : Value} {r : Result Next} (hr : r = .ok (.value v) w) (hv : VR ρ x v) (_ : St ρ h nx w) (_ : Ext ρ h w ρ h w) (hk : K x h nx = true) : PureOK P r ρ h nx w K := ⟨_, _, hk, hv, hr⟩
theorem opBuiltin_pure {b : Builtin} {ts : Array TypeId} {ty : TypeId} {cs : Array Bool} {args : V} {vs : List Value} {K : KV} (hb : b = .len ∨ b = .min ∨ b = .max) (hk : opBuiltin P b ts args h nx K = true) (s : St ρ h nx w) (ha : VRs ρ args vs) :
    PureOK P ((builtin b ts ty cs ⟨vs⟩).run P w) ρ h nx w K := by
  cases b <;> first | (simp at hb; done) | skip
  case len =>
    obtain ⟨x, r, rfl, hk2⟩ := arg0_spec (show arg0 args (fun x _ => ite1 (Nat.ble 1 ts.size) <| opLen P (ts.getD 0 0) x h fun v => K v h nx) = true from hk)
    obtain ⟨e, hk4⟩ := ite1_spec hk2
    have e := Nat.le_of_ble_eq_true e
    simp only [VRs] at ha
    obtain ⟨v1, l1, rfl, h1, _⟩ := ha
    have t0 : ts[0]? = some (ts.getD 0 0) := by rw [Array.getD_eq_getD_getElem?, Array.getElem?_eq_getElem (by omega)]; rfl
    obtain ⟨z, v, q1, q2, q3⟩ := opLen_sound (P := P) (ty := ty) (args := ⟨v1 :: l1⟩) (K := fun v => K v h nx) hk4 s h1 t0 rfl
    exact PureOK.val (vrun q3) q2 s (Ext.refl _ _ _) q1
  case min =>
    obtain ⟨x, r, rfl, hk2⟩ := arg0_spec (show arg0 args (fun x r => arg0 r fun y r' => chain (Mx.min2 true x y fun v => K v h nx) (fun _ _ _ => false) r') = true from hk)
    obtain ⟨y, r2, rfl, hk3⟩ := arg0_spec hk2
    simp only [VRs] at ha
    obtain ⟨v1, l1, rfl, h1, v2, l2, rfl, h2, h3⟩ := ha
    cases r2 <;> first | (simp only [VRs] at h3; done) | exact Bool.noConfusion hk3 | skip
    simp only [VRs] at h3
    subst h3
    obtain ⟨z, v, q1, q2, q3, _⟩ := min2_sound (P := P) (w := w) (K := fun v => K v h nx) (show Mx.min2 true x y (fun v => K v h nx) = true from hk3) h1 h2
    refine PureOK.val (vrun (v := v) ?_) q2 s (Ext.refl _ _ _) q1
    simp [min_, q3 rfl]
  case max =>
    obtain ⟨x, r, rfl, hk2⟩ := arg0_spec (show arg0 args (fun x r => arg0 r fun y r' => chain (Mx.min2 false x y fun v => K v h nx) (fun _ _ _ => false) r') = true from hk)
    obtain ⟨y, r2, rfl, hk3⟩ := arg0_spec hk2
    simp only [VRs] at ha
    obtain ⟨v1, l1, rfl, h1, v2, l2, rfl, h2, h3⟩ := ha
    cases r2 <;> first | (simp only [VRs] at h3; done) | exact Bool.noConfusion hk3 | skip
    simp only [VRs] at h3
    subst h3
    obtain ⟨z, v, q1, q2, _, q3⟩ := min2_sound (P := P) (w := w) (K := fun v => K v h nx) (show Mx.min2 false x y (fun v => K v h nx) = true from hk3) h1 h2
    refine PureOK.val (vrun (v := v) ?_) q2 s (Ext.refl _ _ _) q1
    simp [max_, q3 rfl]
theorem opK_pure {ck : CK} {tm : T V} {a : Act} {o : Oper} {op : Op} (hop : o.op = op) (hc : clsOp P op = 0) {K Kp : KV} (hk : opK P ng ck tm op h nx K Kp = true) (s : St ρ h nx w) (hg : RG ng ρ) (ht : TR ρ tm a) :
    PureOK P ((execOp a.eval o).run P w) ρ h nx w K := by
  obtain ⟨dst, op', ty, pos, after, guard⟩ := o
  simp only at hop
  subst hop
  cases op' <;> first | exact Bool.noConfusion hk | (exact absurd hc (by simp only [clsOp]; decide)) | skip
  case move x => exact PureOK.val rfl (ev_rel hg ht x) s (Ext.refl _ _ _) hk
  case assign x => exact PureOK.val rfl (ev_rel hg ht x) s (Ext.refl _ _ _) hk
  case pick c x y =>
    obtain ⟨q, hq, hk2⟩ := vB_spec (show vB (ev ng tm c) (fun q => Bool.rec (K (ev ng tm y) h nx) (K (ev ng tm x) h nx) q) = true from hk)
    have hcc := ev_rel hg ht c
    rw [hq] at hcc
    simp only [VR] at hcc
    cases q with
    | true => exact PureOK.val (by simp [execOp, hcc, asBool]) (ev_rel hg ht x) s (Ext.refl _ _ _) hk2
    | false => exact PureOK.val (by simp [execOp, hcc, asBool]) (ev_rel hg ht y) s (Ext.refl _ _ _) hk2
  case build t ps =>
    obtain ⟨y, r, q1, q2, q3⟩ := opBuild_sound (w := w) (vs := ps.map fun (i, x) => (i, a.eval x)) (show opBuild P t (evp ng tm ps.toList) (fun v => K v h nx) = true from hk) (by simpa using evp_rel hg ht ps.toList)
    exact PureOK.val (vrun q3) q2 s (Ext.refl _ _ _) q1
  case load t x =>
    obtain ⟨y, r, q1, q2, q3⟩ := opLoad_sound (show opLoad P t (ev ng tm x) h (fun v => K v h nx) = true from hk) s (ev_rel hg ht x)
    exact PureOK.val (vrun q3) q2 s (Ext.refl _ _ _) q1
  case nilCheck x =>
    have hx := ev_rel hg ht x
    generalize hv : ev ng tm x = v at hx
    have hk2 : opK P ng ck tm (.nilCheck x) h nx K Kp = true := hk
    unfold opK at hk2
    simp only [hv] at hk2
    clear hk
    cases v <;> first | exact Bool.noConfusion hk2 | skip
    case p id off =>
      have hx2 := hx
      simp only [VR] at hx2
      obtain ⟨L, _, he⟩ := hx2
      exact PureOK.val (v := a.eval x) (by simp only [execOp, he]; rfl) hx s (Ext.refl _ _ _) hk2
    case f g c =>
      have hx2 := hx
      simp only [VR] at hx2
      obtain ⟨cs, _, he⟩ := hx2
      exact PureOK.val (v := a.eval x) (by simp only [execOp, he]; rfl) hx s (Ext.refl _ _ _) hk2
  case binOp op t x y t2 =>
    obtain ⟨c, r, q1, q2, q3⟩ := binV_sound (w := w) (show binV P op t x y (ev ng tm x) (ev ng tm y) (fun v => K v h nx) = true from hk) (ev_rel hg ht x) (ev_rel hg ht y)
    exact PureOK.val (vrun q3) q2 s (Ext.refl _ _ _) q1
  case unOp op t x =>
    obtain ⟨c, r, q1, q2, q3⟩ := unV_sound (P := P) (w := w) (show unV op (ev ng tm x) (fun v => K v h nx) = true from hk) (ev_rel hg ht x)
    exact PureOK.val (vrun q3) q2 s (Ext.refl _ _ _) q1
  case convert s1 d x =>
    have hnd : Nat.beq (tyk P d) 20 = false := by
      cases e : Nat.beq (tyk P d) 20 with
      | false => rfl
      | true => exact absurd hc (by simp only [clsOp, e]; decide)
    obtain ⟨y, v, q1, q2, q5⟩ := opConvert_pure hnd (show opConvert P s1 d (ev ng tm x) h nx K = true from hk) s (ev_rel hg ht x)
    exact PureOK.val (vrun q5) q2 s (Ext.refl _ _ _) q1
  case makeInterface t x =>
    obtain ⟨e, hk2⟩ := ite1_spec (show ite1 (conc P t) (K (.e t (ev ng tm x)) h nx) = true from hk)
    have hd : ∃ d, P.underlying t = some d ∧ ∀ m, d ≠ .interface m := by
      unfold conc at e
      cases e2 : Nat.beq (tyk P t) 23 with
      | true => rw [e2] at e; exact Bool.noConfusion e
      | false =>
        rw [e2] at e
        have e := Nat.blt_eq.mp (show Nat.blt 0 (tyk P t) = true from e)
        obtain ⟨d, hu⟩ := (tyk_cases (P := P) t).2.2.2.2.2.2.2.1 (Nat.pos_iff_ne_zero.1 e)
        refine ⟨d, hu, fun m hm => ?_⟩
        subst hm
        simp [tyk, hu] at e2
    obtain ⟨d, hu, hni⟩ := hd
    refine PureOK.val (v := .iface t (a.eval x)) (vrun ?_) (by simp only [VR]; exact ⟨_, ev_rel hg ht x, rfl⟩) s (Ext.refl _ _ _) hk2
    unfold Instr.makeInterface
    simp only [Sem.run_bind, run_und hu, Result.andThen_ok]
    cases d <;> first | exact (hni _ rfl).elim | rfl
  case makeFunc fn first cap =>
    have hk0 : (Bool.rec (ite1 (Nat.beq cap.size 0) <| fnK fn fun g => K (.o 8 (evs ng tm first.toList) g 0 0) h nx) (fnK fn fun g => K (.f g (evs ng tm cap.toList)) h nx) (Nat.beq first.size 0) : Bool) = true := hk
    cases e : Nat.beq first.size 0 with
    | true =>
      rw [e] at hk0
      have hk2 : fnK fn (fun g => K (.f g (evs ng tm cap.toList)) h nx) = true := hk0
      have e := beq_spec e
      have hf : first = #[] := Array.eq_empty_of_size_eq_zero e
      subst hf
      cases fn <;> first | exact Bool.noConfusion hk2 | skip
      case func g =>
        refine PureOK.val (v := .func (.func g) #[] (cap.map a.eval)) (vrun ?_) ?_ s (Ext.refl _ _ _) hk2
        · simp [Instr.makeFunc]
        · simp only [VR]
          exact ⟨_, evs_rel hg ht cap.toList, by congr 1; apply Array.ext'; simp⟩
    | false =>
      rw [e] at hk0
      obtain ⟨e2, hk2⟩ := ite1_spec (show ite1 (Nat.beq cap.size 0) (fnK fn fun g => K (.o 8 (evs ng tm first.toList) g 0 0) h nx) = true from hk0)
      have e2 := beq_spec e2
      have hf : cap = #[] := Array.eq_empty_of_size_eq_zero e2
      subst hf
      cases fn <;> first | exact Bool.noConfusion hk2 | skip
      case func g =>
        refine PureOK.val (v := .func (.func g) (first.map a.eval) #[]) (vrun ?_) ?_ s (Ext.refl _ _ _) hk2
        · simp [Instr.makeFunc]
        · simp only [VR]
          exact .inr ⟨trivial, _, evs_rel hg ht first.toList, by congr 1; apply Array.ext'; simp⟩
  case slice t x lo hi mx =>
    obtain ⟨y, r, q1, q2, q3⟩ := opSlice_sound (w := w) (show opSlice P t (ev ng tm x) (Option.rec (motive := fun _ => Option V) none (fun x => some (ev ng tm x)) lo) (Option.rec (motive := fun _ => Option V) none (fun x => some (ev ng tm x)) hi) (Option.rec (motive := fun _ => Option V) none (fun x => some (ev ng tm x)) mx) h (fun v => K v h nx) = true from hk) s
      (ev_rel hg ht x) (OpR_map hg ht lo) (OpR_map hg ht hi) (OpR_map hg ht mx)
    exact PureOK.val (vrun q3) q2 s (Ext.refl _ _ _) q1
  case fieldAddr t x f =>
    obtain ⟨y, r, q1, q2, q3⟩ := opFieldAddr_sound (w := w) (show opFieldAddr P t (ev ng tm x) f (fun v => K v h nx) = true from hk) (ev_rel hg ht x)
    exact PureOK.val (vrun q3) q2 s (Ext.refl _ _ _) q1
  case field t x f =>
    obtain ⟨y, r, q1, q2, q3⟩ := opField_sound (w := w) (show opField P t (ev ng tm x) f (fun v => K v h nx) = true from hk) (ev_rel hg ht x)
    exact PureOK.val (vrun q3) q2 s (Ext.refl _ _ _) q1
  case indexAddr t x ix =>
    obtain ⟨y, r, q1, q2, q3⟩ := opIndexAddr_sound (w := w) (show opIndexAddr P t (ev ng tm x) (ev ng tm ix) (fun v => K v h nx) = true from hk) (ev_rel hg ht x) (ev_rel hg ht ix)
    exact PureOK.val (vrun q3) q2 s (Ext.refl _ _ _) q1
  case index t x ix =>
    obtain ⟨y, r, q1, q2, q3⟩ := opIndex_sound (w := w) (show opIndex P t (ev ng tm x) (ev ng tm ix) (fun v => K v h nx) = true from hk) (ev_rel hg ht x) (ev_rel hg ht ix)
    exact PureOK.val (vrun q3) q2 s (Ext.refl _ _ _) q1
  case lookup t x ix ok =>
    obtain ⟨y, r, q1, q2, q3⟩ := opLookup_sound (show opLookup P t (ev ng tm x) (ev ng tm ix) ok h (fun v => K v h nx) = true from hk) s (ev_rel hg ht x) (ev_rel hg ht ix)
    exact PureOK.val (vrun q3) q2 s (Ext.refl _ _ _) q1
  case typeAssert x xT t ok =>
    obtain ⟨y, r, q1, q2, q3⟩ := opAssert_sound (w := w) (xT := xT) (show opAssert P (ev ng tm x) t ok (fun v => K v h nx) = true from hk) (ev_rel hg ht x)
    exact PureOK.val (vrun q3) q2 s (Ext.refl _ _ _) q1
  case extract x ix =>
    obtain ⟨l, hl, hk2⟩ := vT_spec (show vT (ev ng tm x) (fun l => nthK l ix fun v => K v h nx) = true from hk)
    have hx := ev_rel hg ht x
    rw [hl] at hx
    simp only [VR] at hx
    obtain ⟨vs, hvs, he⟩ := hx
    obtain ⟨y, hy, hr⟩ := nthK_spec hk2
    obtain ⟨r, hr1, hr2⟩ := hr ρ _ hvs.CR'
    refine PureOK.val (v := r) (vrun ?_) hr2 s (Ext.refl _ _ _) hy
    have : (⟨vs⟩ : Array Value)[ix]? = some r := by simpa using hr1
    simp only [he, Instr.extract, this, Sem.run_pure]
  case call c =>
    obtain ⟨callee, args, ts⟩ := c
    cases callee with
    | value f => exact absurd hc (by simp only [clsOp]; decide)
    | invoke a b => exact absurd hc (by simp only [clsOp]; decide)
    | builtin b =>
      have harr : (⟨args.toList.map a.eval⟩ : Array Value) = args.map a.eval := by apply Array.ext'; simp
      have hb : b = .len ∨ b = .min ∨ b = .max := by
        cases b <;> first | (exact absurd hc (by simp only [clsOp]; decide)) | simp
      have := opBuiltin_pure (P := P) (ty := ty) (cs := args.map fun | .const _ => true | _ => false) hb (show opBuiltin P b ts (evs ng tm args.toList) h nx K = true from hk) s (evs_rel hg ht args.toList)
      have e : (do let d ← resolve a.eval ⟨.builtin b, args, ts⟩ ty; invoke d.target d.args : Sem Next).run P w = (builtin b ts ty (args.map fun | .const _ => true | _ => false) ⟨args.toList.map a.eval⟩).run P w := by
        simp only [resolve, Sem.run_bind, Sem.run_pure, Result.andThen_ok, invoke, harr]
        rfl
      show PureOK P ((do let d ← resolve a.eval ⟨.builtin b, args, ts⟩ ty; invoke d.target d.args : Sem Next).run P w) ρ h nx w K
      rw [e]
      exact this
end
end Go.Mx
