/-
  A part of a small executor of the model, proved sound (Mx24 of 46). No condition.
-/
import Derived.Test.YtmplmfieipckjaaGreatDoorXMx23
import Derived.Orders
namespace Go.Mx
noncomputable section
variable {P : Program} {ng nt : Nat} {ck : CK} {ops : Array Oper} {df : List Deferred} {ρ0 : Ren} {h0 : T O} {w0 : World}
def Sub (h1 h : T O) : Prop := ∀ id, (gt O.none id h1).live → gt O.none id h = gt O.none id h1
def PF (P : Program) (ng nt : Nat) (ck : CK) (ops : Array Oper) (h0 : T O) (ρ : Ren) (tm : T V) (h : T O) (nx : Nat) (pid : Nat → Nat) (i : Nat) (o : Oper) : Prop :=
  ((∀ run skip, wantK ops tm o.guard run skip = run) ∧ clsOp P o.op = 0 ∧ ∃ y h1, (∀ (nx : Nat) (K : KV), opK P ng ck tm o.op h1 nx K (fun _ _ _ => false) = K y h1 nx) ∧ Sub h1 h ∧ ∀ t, o.dst = some t → gt V.nil t tm = y ∧ t < nt) ∨
  ((∀ run skip, wantK ops tm o.guard run skip = run) ∧ clsOp P o.op = 1 ∧ ∃ mk ob, MakesX P ng ck tm o.op mk ob ∧ pid i < nx ∧ ρ (pid i) = none ∧ gt O.none (pid i) h = ob ∧ ¬ (gt O.none (pid i) h0).live ∧ ∀ t, o.dst = some t → gt V.nil t tm = mk (pid i) ∧ t < nt) ∨
  ((∀ run skip, wantK ops tm o.guard run skip = skip) ∧ ∀ t, o.dst = some t → gt V.nil t tm = undefV ∧ t < nt)
structure J (P : Program) (ng nt : Nat) (ck : CK) (ops : Array Oper) (df : List Deferred) (ρ0 : Ren) (h0 : T O) (w0 : World) (d : DS) (tm : T V) (h : T O) (nx : Nat) (ls : Array Bool) (a : Act) (w : World) (ρ : Ren) (tmS : T V) (pid : Nat → Nat) : Prop where
  s : St ρ h nx w
  x : Ext ρ0 h0 w0 ρ h w
  g : RG ng ρ
  t : TR ρ tmS a
  ntok : nt ≤ a.tmps.size
  dfok : a.defers = df
  sz : ls.size = ops.size
  sub : ∀ i, ls.getD i false = true → d.dn.testBit i = true
  dl : ∀ i o, d.dn.testBit i = true → ops[i]? = some o → ∀ t, looksT ops o t → d.dl.testBit t = true
  dd : ∀ i o t, d.dn.testBit i = true → ops[i]? = some o → o.dst = some t → d.dd.testBit t = true
  dt : ∀ i t, (gt 0 i d.dt).testBit t = true → d.dn.testBit i = true ∧ ∃ o, ops[i]? = some o ∧ o.dst = some t
  mt : ∀ i j, (gt 0 i d.mt).testBit j = true → ls.getD i false = true → ls.getD j false = true
  mt1 : ∀ i o j, d.dn.testBit i = true → ops[i]? = some o → (gt 0 i d.mt).testBit j = true → ∃ e ∈ o.after.toList, bindB e = true ∧ (j = e.on ∨ (gt 0 e.on d.mt).testBit j = true)
  mt0 : ∀ i, d.dn.testBit i = false → gt 0 i d.mt = 0
  pr : ∀ i o, d.dn.testBit i = true → ops[i]? = some o → ∀ e ∈ o.after.toList, bindB e = true → d.dn.testBit e.on = true ∧ e.on < i
  uniq : ∀ i j o o' t, d.dn.testBit i = true → d.dn.testBit j = true → ops[i]? = some o → ops[j]? = some o' → o.dst = some t → o'.dst = some t → i = j
  dep : ∀ i o, d.dn.testBit i = true → ls.getD i false = false → ops[i]? = some o → ∀ t, looksT ops o t → ∀ j o', d.dn.testBit j = true → ops[j]? = some o' → o'.dst = some t → ∃ e ∈ o.after.toList, bindB e = true ∧ e.on = j
  agree : ∀ t, (∀ i o, d.dn.testBit i = true → ls.getD i false = false → ops[i]? = some o → o.dst ≠ some t) → gt V.nil t tmS = gt V.nil t tm
  pend : ∀ i o, d.dn.testBit i = true → ls.getD i false = false → ops[i]? = some o → PF P ng nt ck ops h0 ρ tm h nx pid i o
  pinj : ∀ i j o o', d.dn.testBit i = true → ls.getD i false = false → ops[i]? = some o → clsOp P o.op = 1 → d.dn.testBit j = true → ls.getD j false = false → ops[j]? = some o' → clsOp P o'.op = 1 → (∀ run skip, wantK ops tm o.guard run skip = run) → (∀ run skip, wantK ops tm o'.guard run skip = run) → pid i = pid j → i = j
theorem ev_agree {tm tm' : T V} {o : Oper} (hx : ∀ t, looksT ops o t → gt V.nil t tm = gt V.nil t tm') : ∀ x ∈ opnds o.op, ev ng tm x = ev ng tm' x := by
  intro x hm
  cases x with
  | tmp t => exact hx t (.inl hm)
  | _ => rfl
theorem op_agree {tm tm' : T V} {o : Oper} (hx : ∀ t, looksT ops o t → gt V.nil t tm = gt V.nil t tm') : opK P ng ck tm o.op = opK P ng ck tm' o.op ∧ wantK ops tm o.guard = wantK ops tm' o.guard :=
  ⟨opK_congr (ev_agree hx), wantK_congr fun d hd => hx d (.inr hd)⟩
theorem PF.agree {ρ : Ren} {tm tm' : T V} {h : T O} {nx : Nat} {pid : Nat → Nat} {i : Nat} {o : Oper} (hp : PF P ng nt ck ops h0 ρ tm h nx pid i o) (hx : ∀ t, looksT ops o t ∨ o.dst = some t → gt V.nil t tm = gt V.nil t tm') : PF P ng nt ck ops h0 ρ tm' h nx pid i o := by
  obtain ⟨e1, e2⟩ := op_agree (P := P) (ng := ng) (ck := ck) (fun t ht => hx t (.inl ht))
  have e3 : ∀ t, o.dst = some t → gt V.nil t tm = gt V.nil t tm' := fun t ht => hx t (.inr ht)
  rcases hp with ⟨p1, p2, y, h1, p3, p5, p4⟩ | ⟨p1, p2, mk, ob, p3, p4, p5, p6, p7, p8⟩ | ⟨p1, p2⟩
  · exact .inl ⟨by rw [← e2]; exact p1, p2, y, h1, by rw [← e1]; exact p3, p5, fun t ht => by rw [← e3 t ht]; exact p4 t ht⟩
  · exact .inr (.inl ⟨by rw [← e2]; exact p1, p2, mk, ob, ⟨by rw [← e1]; exact p3.1, p3.2⟩, p4, p5, p6, p7, fun t ht => by rw [← e3 t ht]; exact p8 t ht⟩)
  · exact .inr (.inr ⟨by rw [← e2]; exact p1, fun t ht => by rw [← e3 t ht]; exact p2 t ht⟩)
theorem putTK_spec {nt : Nat} {dst : Option Nat} {x : V} {tm : T V} {k : T V → Bool} (h : putTK nt dst x tm k = true) :
    ∃ tm', k tm' = true ∧ (∀ t, dst = some t → gt V.nil t tm' = x ∧ t < nt) ∧ ∀ t, dst ≠ some t → gt V.nil t tm' = gt V.nil t tm := by
  cases dst with
  | none => exact ⟨tm, h, by simp, fun _ _ => rfl⟩
  | some d =>
    obtain ⟨h1, h2⟩ := ite1_spec (show ite1 (Nat.blt d nt) (stK V.nil x d tm k) = true from h)
    rw [stK_eq] at h2
    refine ⟨_, h2, fun t ht => ?_, fun t ht => ?_⟩
    · cases ht
      exact ⟨gt_st_same _ _ _ _, Nat.blt_eq.mp h1⟩
    · exact gt_st_ne _ _ (fun e => ht (by rw [e])) _
theorem J.more {d d' : DS} {tm tm' : T V} {h h' : T O} {nx nx' : Nat} {ls : Array Bool} {a : Act} {w : World} {ρ : Ren} {tmS : T V} {pid pid' : Nat → Nat} {i : Nat} {o : Oper}
    (j : J P ng nt ck ops df ρ0 h0 w0 d tm h nx ls a w ρ tmS pid) (ad : Added ops false i o d d') (hi : ops[i]? = some o)
    (hs : St ρ h' nx' w) (hx : Ext ρ0 h0 w0 ρ h' w)
    (ht1 : ∀ t, o.dst ≠ some t → gt V.nil t tm' = gt V.nil t tm)
    (hold : ∀ k o', d.dn.testBit k = true → ls.getD k false = false → ops[k]? = some o' → PF P ng nt ck ops h0 ρ tm h nx pid k o' → PF P ng nt ck ops h0 ρ tm h' nx' pid' k o')
    (hnew : PF P ng nt ck ops h0 ρ tm' h' nx' pid' i o)
    (hpid : ∀ k, k ≠ i → pid' k = pid k)
    (hpn : clsOp P o.op = 1 → (∀ run skip, wantK ops tm' o.guard run skip = run) → ∀ k o', d.dn.testBit k = true → ls.getD k false = false → ops[k]? = some o' → clsOp P o'.op = 1 → (∀ run skip, wantK ops tm' o'.guard run skip = run) → pid' i ≠ pid k) :
    J P ng nt ck ops df ρ0 h0 w0 d' tm' h' nx' ls a w ρ tmS pid' := by
  have hli : ls.getD i false = false := by
    cases e : ls.getD i false with
    | false => rfl
    | true => have := j.sub i e; rw [ad.new] at this; cases this
  have ne : ∀ k, d.dn.testBit k = true → k ≠ i := fun k hk e => by rw [e, ad.new] at hk; cases hk
  have war : ∀ t, o.dst = some t → d.dl.testBit t = false := by
    rcases ad.war with h | ⟨h, _⟩
    · exact h
    · cases h
  have inv : ∀ k, d'.dn.testBit k = true → k = i ∨ (d.dn.testBit k = true ∧ k ≠ i) := fun k hk => by
    rcases (ad.dn k).1 hk with h | h
    · exact .inr ⟨h, ne k h⟩
    · exact .inl h
  have same : ∀ k o', d.dn.testBit k = true → ops[k]? = some o' → ∀ t, looksT ops o' t ∨ o'.dst = some t → gt V.nil t tm = gt V.nil t tm' := fun k o' hk hko t ht => by
    refine (ht1 t fun hd => ?_).symm
    rcases ht with ht | ht
    · have := j.dl k o' hk hko t ht; rw [war t hd] at this; cases this
    · have := j.dd k o' t hk hko ht; rw [(ad.own t hd).2] at this; cases this
  have wsame : ∀ k o', d.dn.testBit k = true → ops[k]? = some o' → wantK ops tm o'.guard = wantK ops tm' o'.guard := fun k o' hk hko => wantK_congr fun t ht => same k o' hk hko t (.inl (.inr ht))
  refine ⟨hs, hx, j.g, j.t, j.ntok, j.dfok, j.sz, fun k hk => (ad.dn k).2 (.inl (j.sub k hk)), ?_, ?_, ?_, ?_, ?_, ?_, ?_, ?_, ?_, ?_, ?_, ?_⟩
  · intro k o' hk hko t ht
    rcases inv k hk with rfl | ⟨hk, _⟩
    · rw [hi] at hko; cases hko; exact ad.dl t (.inr ht)
    · exact ad.dl t (.inl (j.dl k o' hk hko t ht))
  · intro k o' t hk hko ht
    rcases inv k hk with rfl | ⟨hk, _⟩
    · rw [hi] at hko; cases hko; exact ad.dd t (.inr ht)
    · exact ad.dd t (.inl (j.dd k o' t hk hko ht))
  · intro k t hk
    by_cases e : k = i
    · subst e; exact ⟨(ad.dn k).2 (.inr rfl), o, hi, ad.dt t hk⟩
    · rw [ad.dt' k e] at hk
      obtain ⟨h1, h2⟩ := j.dt k t hk
      exact ⟨(ad.dn k).2 (.inl h1), h2⟩
  · intro k m hk hl
    have e : k ≠ i := fun e => by rw [e, hli] at hl; cases hl
    rw [ad.mt' k e] at hk
    exact j.mt k m hk hl
  · intro k o' m hk hko hm
    rcases inv k hk with rfl | ⟨hk, e⟩
    · rw [hi] at hko; cases hko
      obtain ⟨e, h1, h2, h3⟩ := ad.mt m hm
      have := ne e.on (ad.pr e h1 h2).1
      exact ⟨e, h1, h2, by rw [ad.mt' _ this]; exact h3⟩
    · rw [ad.mt' k e] at hm
      obtain ⟨e, h1, h2, h3⟩ := j.mt1 k o' m hk hko hm
      have := ne e.on (j.pr k o' hk hko e h1 h2).1
      exact ⟨e, h1, h2, by rw [ad.mt' _ this]; exact h3⟩
  · intro k hk
    have h1 : d.dn.testBit k = false := by
      cases e : d.dn.testBit k with
      | false => rfl
      | true => rw [(ad.dn k).2 (.inl e)] at hk; cases hk
    have h2 : k ≠ i := fun e => by rw [(ad.dn k).2 (.inr e)] at hk; cases hk
    rw [ad.mt' k h2]; exact j.mt0 k h1
  · intro k o' hk hko e he hb
    rcases inv k hk with rfl | ⟨hk, _⟩
    · rw [hi] at hko; cases hko
      obtain ⟨h1, h2⟩ := ad.pr e he hb
      exact ⟨(ad.dn _).2 (.inl h1), h2⟩
    · obtain ⟨h1, h2⟩ := j.pr k o' hk hko e he hb
      exact ⟨(ad.dn _).2 (.inl h1), h2⟩
  · intro k m o1 o2 t hk hm hko hmo h1 h2
    rcases inv k hk with rfl | ⟨hk, _⟩
    · rw [hi] at hko; cases hko
      rcases inv m hm with rfl | ⟨hm, _⟩
      · rfl
      · have := j.dd m o2 t hm hmo h2; rw [(ad.own t h1).2] at this; cases this
    · rcases inv m hm with rfl | ⟨hm, _⟩
      · rw [hi] at hmo; cases hmo
        have := j.dd k o1 t hk hko h1; rw [(ad.own t h2).2] at this; cases this
      · exact j.uniq k m o1 o2 t hk hm hko hmo h1 h2
  · intro k o' hk hl hko t ht m o2 hm hmo hd
    rcases inv k hk with rfl | ⟨hk, _⟩
    · rw [hi] at hko; cases hko
      rcases inv m hm with rfl | ⟨hm, _⟩
      · rw [hi] at hmo; cases hmo; exact absurd ht (ad.own t hd).1
      · obtain ⟨e, h1, h2, h3⟩ := ad.dep t ht (j.dd m o2 t hm hmo hd)
        obtain ⟨h4, o3, h5, h6⟩ := j.dt e.on t h3
        exact ⟨e, h1, h2, j.uniq _ _ _ _ t h4 hm h5 hmo h6 hd⟩
    · rcases inv m hm with rfl | ⟨hm, _⟩
      · rw [hi] at hmo; cases hmo
        have := j.dl k o' hk hko t ht; rw [war t hd] at this; cases this
      · exact j.dep k o' hk hl hko t ht m o2 hm hmo hd
  · intro t ht
    have h1 : o.dst ≠ some t := ht i o ((ad.dn i).2 (.inr rfl)) hli hi
    rw [ht1 t h1]
    exact j.agree t fun k o' hk hl hko => ht k o' ((ad.dn k).2 (.inl hk)) hl hko
  · intro k o' hk hl hko
    rcases inv k hk with rfl | ⟨hk, e⟩
    · rw [hi] at hko; cases hko; exact hnew
    · exact (hold k o' hk hl hko (j.pend k o' hk hl hko)).agree (same k o' hk hko)
  · intro k m o1 o2 hk hlk hko hck hm hlm hmo hcm hw1 hw2 hp
    rcases inv k hk with rfl | ⟨hk, ek⟩
    · rw [hi] at hko; cases hko
      rcases inv m hm with rfl | ⟨hm, em⟩
      · rfl
      · rw [hpid m em] at hp
        exact absurd hp (hpn hck hw1 m o2 hm hlm hmo hcm hw2)
    · rcases inv m hm with rfl | ⟨hm, em⟩
      · rw [hi] at hmo; cases hmo
        rw [hpid k ek] at hp
        exact absurd hp.symm (hpn hcm hw2 k o1 hk hlk hko hck hw1)
      · rw [hpid k ek, hpid m em] at hp
        exact j.pinj k m o1 o2 hk hlk hko hck hm hlm hmo hcm (by rw [wsame k o1 hk hko]; exact hw1) (by rw [wsame m o2 hm hmo]; exact hw2) hp
end
end Go.Mx
