/-
  A part of a small executor of the model, proved sound (Mx28 of 46). No condition.
-/
import Derived.Test.YtmplmfieipckjaaGreatDoorXMx27
namespace Go.Mx
noncomputable section
variable {P : Program} {ng nt : Nat} {ck : CK} {ops : Array Oper} {df : List Deferred} {ρ0 : Ren} {h0 : T O} {w0 : World}
variable {d : DS} {tm : T V} {h : T O} {nx : Nat} {ls : Array Bool} {a : Act} {w : World} {ρ : Ren} {tmS : T V} {pid : Nat → Nat}
theorem againK_spec {dn M : Nat} {same : V → V → Bool} : ∀ {l : List Oper} {i : Nat} {k : Bool}, againK P ng ck ops same dn M tm h nx l i k = true → k = true ∧ ∀ q o, l[q]? = some o → dn.testBit (i + q) = true → M.testBit (i + q) = false →
    (∀ run skip, wantK ops tm o.guard run skip = run) → clsOp P o.op = 0 → opK P ng ck tm o.op h nx (fun y _ _ => Option.rec (motive := fun _ => Bool) true (fun t => same y (gt V.nil t tm)) o.dst) (fun _ _ _ => false) = true := by
  intro l
  induction l with
  | nil => intro i k hk; exact ⟨hk, by simp⟩
  | cons o l ih =>
    intro i k hk
    have hk : (Bool.rec (againK P ng ck ops same dn M tm h nx l (Nat.succ i) k)
      (wantK ops tm o.guard (ite1 (Nat.rec (motive := fun _ => Bool) (opK P ng ck tm o.op h nx (fun y _ _ => Option.rec (motive := fun _ => Bool) true (fun t => same y (gt V.nil t tm)) o.dst) (fun _ _ _ => false)) (fun _ _ => true) (clsOp P o.op)) <| againK P ng ck ops same dn M tm h nx l (Nat.succ i) k) (againK P ng ck ops same dn M tm h nx l (Nat.succ i) k))
      (ite1 (tb dn i) <| inot (tb M i)) : Bool) = true := hk
    have fin : againK P ng ck ops same dn M tm h nx l (Nat.succ i) k = true → (dn.testBit i = true → M.testBit i = false → (∀ run skip, wantK ops tm o.guard run skip = run) → clsOp P o.op = 0 → opK P ng ck tm o.op h nx (fun y _ _ => Option.rec (motive := fun _ => Bool) true (fun t => same y (gt V.nil t tm)) o.dst) (fun _ _ _ => false) = true) →
        k = true ∧ ∀ q o', (o :: l)[q]? = some o' → dn.testBit (i + q) = true → M.testBit (i + q) = false → (∀ run skip, wantK ops tm o'.guard run skip = run) → clsOp P o'.op = 0 → opK P ng ck tm o'.op h nx (fun y _ _ => Option.rec (motive := fun _ => Bool) true (fun t => same y (gt V.nil t tm)) o'.dst) (fun _ _ _ => false) = true := fun h1 h2 => by
      obtain ⟨r1, r2⟩ := ih h1
      refine ⟨r1, fun q o' hq => ?_⟩
      cases q with
      | zero => simp at hq; subst hq; simpa using h2
      | succ q =>
        have := r2 q o' (by simpa using hq)
        rw [show Nat.succ i + q = i + (q + 1) by omega] at this
        exact this
    cases hc : (ite1 (tb dn i) <| inot (tb M i)) with
    | false =>
      rw [hc] at hk
      refine fin hk fun h1 h2 => ?_
      rw [tb_eq, tb_eq, h1, h2] at hc
      cases hc
    | true =>
      rw [hc] at hk
      rcases wantK_cases ops tm o.guard with hw | hw | hw
      · rw [hw] at hk
        obtain ⟨h1, h2⟩ := ite1_spec hk
        refine fin h2 fun _ _ _ hcl => ?_
        rw [hcl] at h1
        exact h1
      · rw [hw] at hk
        exact fin hk fun _ _ hr => (run_ne_skip hr hw).elim
      · rw [hw] at hk; cases hk
theorem J.eff (j : J P ng nt ck ops df ρ0 h0 w0 d tm h nx ls a w ρ tmS pid) {d' : DS} {i : Nat} {o : Oper} (ad : Added ops true i o d d') (hi : ops[i]? = some o) (hr : Rdy ls i o)
    {ρ' : Ren} {h' : T O} {nx' : Nat} {w' : World} {x : V} {v : Value} {tm' : T V} (hv : VR ρ' x v) (hs : St ρ' h' nx' w') (hx : Ext ρ h w ρ' h' w')
    (p1 : ∀ t, o.dst = some t → gt V.nil t tm' = x ∧ t < nt) (p2 : ∀ t, o.dst ≠ some t → gt V.nil t tm' = gt V.nil t tm)
    (ag : ∀ k o', ops[k]? = some o' → d.dn.testBit k = true → (gt 0 i d'.mt).testBit k = false → (∀ run skip, wantK ops tm' o'.guard run skip = run) → clsOp P o'.op = 0 → opK P ng ck tm' o'.op h' nx' (fun y _ _ => Option.rec (motive := fun _ => Bool) true (fun t => sameV y (gt V.nil t tm')) o'.dst) (fun _ _ _ => false) = true) :
    J P ng nt ck ops df ρ0 h0 w0 d' tm' h' nx' (ls.setIfInBounds i true) (a.put o.dst v) w' ρ' (putS o.dst x tmS) pid := by
  have hlt : i < ls.size := by rw [j.sz]; exact (Array.getElem?_eq_some_iff.1 hi).1
  have L := fun k => ls_set (k := k) hlt
  have un : ∀ k, (ls.setIfInBounds i true).getD k false = false → k ≠ i ∧ ls.getD k false = false := fun k hk => by
    rw [L] at hk
    by_cases e : k = i
    · rw [if_pos e] at hk; cases hk
    · rw [if_neg e] at hk; exact ⟨e, hk⟩
  have mono : ∀ k, ls.getD k false = true → (ls.setIfInBounds i true).getD k false = true := fun k hk => by
    rw [L]
    by_cases e : k = i
    · rw [if_pos e]
    · rw [if_neg e]; exact hk
  obtain ⟨z1, z2⟩ := put_size a o.dst v
  have ne : ∀ k, d.dn.testBit k = true → k ≠ i := fun k hk e => by rw [e, ad.new] at hk; cases hk
  have inv : ∀ k, d'.dn.testBit k = true → k = i ∨ (d.dn.testBit k = true ∧ k ≠ i) := fun k hk => by
    rcases (ad.dn k).1 hk with h | h
    · exact .inr ⟨h, ne k h⟩
    · exact .inl h
  have Ml : ∀ k, (gt 0 i d'.mt).testBit k = true → ls.getD k false = true := fun k hk => by
    obtain ⟨e, h1, h2, h3⟩ := ad.mt k hk
    have h4 := hr.2 e h1 h2
    rcases h3 with rfl | h3
    · exact h4
    · exact j.mt _ _ h3 h4
  have Mn : ∀ k, ls.getD k false = false → (gt 0 i d'.mt).testBit k = false := fun k hk => by
    cases e : (gt 0 i d'.mt).testBit k with
    | false => rfl
    | true => rw [Ml k e] at hk; cases hk
  have same : ∀ k o', d.dn.testBit k = true → ls.getD k false = false → ops[k]? = some o' → ∀ t, looksT ops o' t ∨ o'.dst = some t → gt V.nil t tm = gt V.nil t tm' := fun k o' hk hl hko t ht => by
    refine (p2 t fun hd => ?_).symm
    rcases ad.war with h1 | ⟨_, h1⟩
    · rcases ht with ht | ht
      · have := j.dl k o' hk hko t ht; rw [h1 t hd] at this; cases this
      · have := j.dd k o' t hk hko ht; rw [(ad.own t hd).2] at this; cases this
    · have := Ml k (h1 k hk); rw [hl] at this; cases this
  have wsame : ∀ k o', d.dn.testBit k = true → ls.getD k false = false → ops[k]? = some o' → wantK ops tm o'.guard = wantK ops tm' o'.guard := fun k o' hk hl hko => wantK_congr fun t ht => same k o' hk hl hko t (.inl (.inr ht))
  refine ⟨hs, j.x.trans hx, j.g.mono hx.le, ?_, by rw [z1]; exact j.ntok, by rw [z2]; exact j.dfok, by rw [Array.size_setIfInBounds]; exact j.sz, fun k hk => ?_, ?_, ?_, ?_, ?_, ?_, ?_, ?_, ?_, ?_, ?_, ?_, ?_⟩
  · exact (j.t.mono hx.le).putS fun t ht => ⟨hv, Nat.lt_of_lt_of_le (p1 t ht).2 j.ntok⟩
  · rw [L] at hk
    by_cases e : k = i
    · exact (ad.dn k).2 (.inr e)
    · rw [if_neg e] at hk; exact (ad.dn k).2 (.inl (j.sub k hk))
  · intro k o' hk hko t ht
    rcases inv k hk with rfl | ⟨hk, _⟩
    · rw [hi] at hko; cases hko; exact ad.dl t (.inr ht)
    · exact ad.dl t (.inl (j.dl k o' hk hko t ht))
  · intro k o' t hk hko ht
    rcases inv k hk with rfl | ⟨hk, _⟩
    · rw [hi] at hko; cases hko; exact ad.dd t (.inr ht)
    · exact ad.dd t (.inl (j.dd k o' t hk hko ht))
  · intro k t hk
    by_cases e : k = i
    · subst e; exact ⟨(ad.dn k).2 (.inr rfl), o, hi, ad.dt t hk⟩
    · rw [ad.dt' k e] at hk
      obtain ⟨h1, h2⟩ := j.dt k t hk
      exact ⟨(ad.dn k).2 (.inl h1), h2⟩
  · intro k m hk hl
    by_cases e : k = i
    · subst e; exact mono _ (Ml m hk)
    · rw [L, if_neg e] at hl
      rw [ad.mt' k e] at hk
      exact mono _ (j.mt k m hk hl)
  · intro k o' m hk hko hm
    rcases inv k hk with rfl | ⟨hk, e⟩
    · rw [hi] at hko; cases hko
      obtain ⟨e, h1, h2, h3⟩ := ad.mt m hm
      have := ne e.on (ad.pr e h1 h2).1
      exact ⟨e, h1, h2, by rw [ad.mt' _ this]; exact h3⟩
    · rw [ad.mt' k e] at hm
      obtain ⟨e, h1, h2, h3⟩ := j.mt1 k o' m hk hko hm
      have := ne e.on (j.pr k o' hk hko e h1 h2).1
      exact ⟨e, h1, h2, by rw [ad.mt' _ this]; exact h3⟩
  · intro k hk
    have h1 : d.dn.testBit k = false := by
      cases e : d.dn.testBit k with
      | false => rfl
      | true => rw [(ad.dn k).2 (.inl e)] at hk; cases hk
    have h2 : k ≠ i := fun e => by rw [(ad.dn k).2 (.inr e)] at hk; cases hk
    rw [ad.mt' k h2]; exact j.mt0 k h1
  · intro k o' hk hko e he hb
    rcases inv k hk with rfl | ⟨hk, _⟩
    · rw [hi] at hko; cases hko
      obtain ⟨h1, h2⟩ := ad.pr e he hb
      exact ⟨(ad.dn _).2 (.inl h1), h2⟩
    · obtain ⟨h1, h2⟩ := j.pr k o' hk hko e he hb
      exact ⟨(ad.dn _).2 (.inl h1), h2⟩
  · intro k m o1 o2 t hk hm hko hmo h1 h2
    rcases inv k hk with rfl | ⟨hk, _⟩
    · rw [hi] at hko; cases hko
      rcases inv m hm with rfl | ⟨hm, _⟩
      · rfl
      · have := j.dd m o2 t hm hmo h2; rw [(ad.own t h1).2] at this; cases this
    · rcases inv m hm with rfl | ⟨hm, _⟩
      · rw [hi] at hmo; cases hmo
        have := j.dd k o1 t hk hko h1; rw [(ad.own t h2).2] at this; cases this
      · exact j.uniq k m o1 o2 t hk hm hko hmo h1 h2
  · intro k o' hk hl hko t ht m o2 hm hmo hd
    obtain ⟨hne, hl2⟩ := un k hl
    clear hl
    rcases inv k hk with rfl | ⟨hk, _⟩
    · exact absurd rfl hne
    · rcases inv m hm with rfl | ⟨hm, _⟩
      · rw [hi] at hmo; cases hmo
        rcases ad.war with h1 | ⟨_, h1⟩
        · have := j.dl k o' hk hko t ht; rw [h1 t hd] at this; cases this
        · have := Ml k (h1 k hk); rw [hl2] at this; cases this
      · exact j.dep k o' hk hl2 hko t ht m o2 hm hmo hd
  · intro t ht
    cases hdst : o.dst with
    | none =>
      show gt V.nil t tmS = _
      rw [p2 t (by rw [hdst]; simp)]
      exact j.agree t fun k o' hk hl hko => ht k o' ((ad.dn k).2 (.inl hk)) (by rw [L, if_neg (ne k hk)]; exact hl) hko
    | some u =>
      by_cases e : u = t
      · subst e; rw [putS_same, (p1 u hdst).1]
      · have hn : (some u : Option Nat) ≠ some t := fun h => e (by cases h; rfl)
        rw [putS_ne hn, p2 t (by rw [hdst]; exact hn)]
        exact j.agree t fun k o' hk hl hko => ht k o' ((ad.dn k).2 (.inl hk)) (by rw [L, if_neg (ne k hk)]; exact hl) hko
  · intro k o' hk hl hko
    obtain ⟨hne, hl⟩ := un k hl
    rcases inv k hk with rfl | ⟨hk, _⟩
    · exact absurd rfl hne
    · have hp := (j.pend k o' hk hl hko).agree (same k o' hk hl hko)
      rcases hp with ⟨q1, q2, _, _, _, _, q5⟩ | ⟨q1, q2, mk, ob, q3, q4, q5, q6, q7, q8⟩ | hp
      · have := ag k o' hko hk (Mn k hl) q1 q2
        rcases opK_lin (P := P) (ng := ng) (ck := ck) (tm := tm') (h := h') q2 with hy | ⟨y, hy⟩
        · exact Bool.noConfusion ((hy _ _).symm.trans this)
        · replace this := (hy _ _).symm.trans this
          refine .inl ⟨q1, q2, y, h', hy, Sub.refl _, fun t ht => ⟨?_, (q5 t ht).2⟩⟩
          rw [ht] at this
          exact (sameV_eq this).symm
      · obtain ⟨r1, r2⟩ := hx.phant (pid k) (by rw [q6]; exact q3.2) q5
        refine .inr (.inl ⟨q1, q2, mk, ob, q3, ?_, r1, r2.trans q6, q7, q8⟩)
        exact Nat.lt_of_not_le fun hc => hs.dead _ hc (by rw [r2, q6]; exact q3.2)
      · exact .inr (.inr hp)
  · intro k m o1 o2 hk hl hko hc hm hlm hmo hcm hw1 hw2 hp
    obtain ⟨hnk, hl⟩ := un k hl
    obtain ⟨hnm, hlm⟩ := un m hlm
    rcases inv k hk with rfl | ⟨hk, _⟩
    · exact absurd rfl hnk
    · rcases inv m hm with rfl | ⟨hm, _⟩
      · exact absurd rfl hnm
      · exact j.pinj k m o1 o2 hk hl hko hc hm hlm hmo hcm (by rw [wsame k o1 hk hl hko]; exact hw1) (by rw [wsame m o2 hm hlm hmo]; exact hw2) hp
end
end Go.Mx
