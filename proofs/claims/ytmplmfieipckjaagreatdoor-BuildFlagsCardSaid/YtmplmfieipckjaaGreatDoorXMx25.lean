/-
  A part of a small executor of the model, proved sound (Mx25 of 46). No condition.
-/
import Derived.Test.YtmplmfieipckjaaGreatDoorXMx24
namespace Go.Mx
noncomputable section
variable {P : Program} {ng nt : Nat} {ck : CK} {ops : Array Oper} {df : List Deferred} {ρ0 : Ren} {h0 : T O} {w0 : World}
variable {d : DS} {tm : T V} {h : T O} {nx : Nat} {ls : Array Bool} {a : Act} {w : World} {ρ : Ren} {tmS : T V} {pid : Nat → Nat}
theorem Sub.refl (h : T O) : Sub h h := fun _ _ => rfl
theorem Sub.fresh {h1 : T O} (hb : Sub h1 h) (s : St ρ h nx w) (ob : O) : Sub h1 (st O.none ob nx h) := by
  intro id hl
  have e := hb id hl
  have : nx ≠ id := fun en => s.dead nx (Nat.le_refl _) (by rw [en, e]; exact hl)
  rw [gt_st_ne _ _ this, e]
theorem Sub.st {h1 : T O} (hb : Sub h1 h) (s : St ρ h nx w) : St ρ h1 nx w := by
  refine ⟨fun id L hl hL => ?_, fun i j L M hi hj => s.inj i j L M (by rw [hb i hi]; exact hi) (by rw [hb j hj]; exact hj), s.fresh, fun i hi hl => s.dead i hi (by rw [hb i hl]; exact hl)⟩
  have := s.rel id L (by rw [hb id hl]; exact hl) hL
  rw [hb id hl] at this
  exact this
theorem Ext.phantom (x : Ext ρ0 h0 w0 ρ h w) (s : St ρ h nx w) (ob : O) : Ext ρ0 h0 w0 ρ (st O.none ob nx h) w ∧ ¬ (gt O.none nx h0).live := by
  have hf : ρ nx = none := s.fresh nx (Nat.le_refl _)
  have hf0 : ρ0 nx = none := by
    cases e : ρ0 nx with
    | none => rfl
    | some L => rw [x.le _ _ e] at hf; cases hf
  have hn : ¬ (gt O.none nx h0).live := fun hl => by
    obtain ⟨_, e⟩ := x.phant nx hl hf0
    exact s.dead nx (Nat.le_refl _) (by rw [e]; exact hl)
  refine ⟨⟨x.le, x.size, x.os, x.tape, x.output, fun b hb hk => ?_, fun id hl hr => ?_⟩, hn⟩
  · obtain ⟨e1, e2⟩ := x.kept b hb hk
    refine ⟨e1, fun id L hw hL => ?_⟩
    have : nx ≠ id := fun e => by rw [← e, hf] at hL; cases hL
    rw [gt_st_ne _ _ this] at hw
    exact e2 id L hw hL
  · obtain ⟨e1, e2⟩ := x.phant id hl hr
    have : nx ≠ id := fun e => hn (by rw [e]; exact hl)
    exact ⟨e1, by rw [gt_st_ne _ _ this]; exact e2⟩
theorem run_ne_skip {g : Bool → Bool → Bool} (h1 : ∀ run skip, g run skip = run) (h2 : ∀ run skip, g run skip = skip) : False := by
  have := (h1 true false).symm.trans (h2 true false)
  cases this
theorem J.proc {i : Nat} {o : Oper} {k : DS → T V → T O → Nat → Bool} (j : J P ng nt ck ops df ρ0 h0 w0 d tm h nx ls a w ρ tmS pid) (hi : ops[i]? = some o)
    (hk : procK P ng ck nt ops i o d tm h nx k = true) : ∃ d' tm' h' nx' pid', k d' tm' h' nx' = true ∧ J P ng nt ck ops df ρ0 h0 w0 d' tm' h' nx' ls a w ρ tmS pid' := by
  unfold procK at hk
  generalize (ior (tb d.dn i) (ior (inot (predsIn d.dn i o.after.toList)) (inot (Nat.beq (Nat.land (dstM o.dst) d.dl) 0)))) = c at hk
  cases c with
  | true => exact ⟨_, _, _, _, _, hk, j⟩
  | false =>
    have hk : wantK ops tm o.guard
      (Nat.rec (motive := fun _ => Bool) (k d tm h nx) (fun _ _ => opK P ng ck tm o.op h nx (fun x h nx => addK ops false i o d fun d => putTK nt o.dst x tm fun tm => k d tm h nx) (fun _ _ _ => false)) (Nat.sub 2 (clsOp P o.op)))
      (addK ops false i o d fun d => putTK nt o.dst undefV tm fun tm => k d tm h nx) = true := hk
    have own : ∀ {d' : DS}, Added ops false i o d d' → ∀ {tm' : T V}, (∀ t, o.dst ≠ some t → gt V.nil t tm' = gt V.nil t tm) → ∀ t, looksT ops o t → gt V.nil t tm = gt V.nil t tm' := fun ad tm' h1 t ht => (h1 t fun e => (ad.own t e).1 ht).symm
    rcases wantK_cases ops tm o.guard with hw | hw | hw
    · rw [hw] at hk
      cases hc : clsOp P o.op with
      | zero =>
        rw [hc] at hk
        have hk : opK P ng ck tm o.op h nx (fun x h nx => addK ops false i o d fun d => putTK nt o.dst x tm fun tm => k d tm h nx) (fun _ _ _ => false) = true := hk
        rcases opK_lin (P := P) (ng := ng) (ck := ck) (tm := tm) (h := h) hc with hy | ⟨y, hy⟩
        · exact Bool.noConfusion ((hy _ _).symm.trans hk)
        · replace hk := (hy _ _).symm.trans hk
          obtain ⟨d', hk, ad⟩ := addK_spec hk
          obtain ⟨tm', hk, p1, p2⟩ := putTK_spec hk
          obtain ⟨e1, e2⟩ := op_agree (P := P) (ng := ng) (ck := ck) (own ad p2)
          refine ⟨d', tm', h, nx, pid, hk, j.more ad hi j.s j.x p2 (fun _ _ _ _ _ hp => hp) (.inl ⟨by rw [← e2]; exact hw, hc, y, h, by rw [← e1]; exact hy, Sub.refl _, p1⟩) (fun _ _ => rfl) (fun h1 => by rw [hc] at h1; cases h1)⟩
      | succ c =>
        cases c with
        | zero =>
          rw [hc] at hk
          have hk : opK P ng ck tm o.op h nx (fun x h nx => addK ops false i o d fun d => putTK nt o.dst x tm fun tm => k d tm h nx) (fun _ _ _ => false) = true := hk
          obtain ⟨mk, ob, mx, _⟩ := opK_makes hc hk
          rw [mx.1] at hk
          obtain ⟨d', hk, ad⟩ := addK_spec hk
          obtain ⟨tm', hk, p1, p2⟩ := putTK_spec hk
          obtain ⟨e1, e2⟩ := op_agree (P := P) (ng := ng) (ck := ck) (own ad p2)
          obtain ⟨x', hn⟩ := j.x.phantom j.s ob
          have ne : ∀ k, d.dn.testBit k = true → k ≠ i := fun k hk e => by rw [e, ad.new] at hk; cases hk
          refine ⟨d', tm', _, _, fun k => if k = i then nx else pid k, hk, j.more ad hi (j.s.phantom ob) x' p2 (fun k o' hdn hl hko hp => ?_) (.inr (.inl ⟨by rw [← e2]; exact hw, hc, mk, ob, ⟨by rw [← e1]; exact mx.1, mx.2⟩, by simp, by simpa using j.s.fresh nx (Nat.le_refl _), by simp [gt_st_same], by simpa using hn, by simpa using p1⟩)) (fun k e => by simp [e]) (fun _ _ k o' hdn hl hko hc' hw' => ?_)⟩
          · rcases hp with ⟨q1, q2, y, h1, q3, q4, q5⟩ | ⟨q1, q2, mk', ob', q3, q4, q5, q6, q7, q8⟩ | hp
            · exact .inl ⟨q1, q2, y, h1, q3, q4.fresh j.s ob, q5⟩
            · refine .inr (.inl ⟨q1, q2, mk', ob', q3, ?_⟩)
              simp only [if_neg (ne k hdn)]
              exact ⟨by omega, q5, by rw [gt_st_ne _ _ (by omega)]; exact q6, q7, q8⟩
            · exact .inr (.inr hp)
          · simp only [if_true]
            have hw2 : ∀ run skip, wantK ops tm o'.guard run skip = run := by
              have : wantK ops tm o'.guard = wantK ops tm' o'.guard := wantK_congr fun t ht => (p2 t fun e => by
                rcases ad.war with h1 | ⟨h1, _⟩
                · have := j.dl k o' hdn hko t (.inr ht); rw [h1 t e] at this; cases this
                · cases h1).symm
              rw [this]; exact hw'
            rcases j.pend k o' hdn hl hko with ⟨_, q2, _⟩ | ⟨_, _, _, _, _, q4, _⟩ | ⟨q1, _⟩
            · rw [q2] at hc'; cases hc'
            · omega
            · exact (run_ne_skip hw2 q1).elim
        | succ c =>
          rw [hc] at hk
          have e : Nat.sub 2 (c + 1 + 1) = 0 := by show 2 - (c + 1 + 1) = 0; omega
          rw [e] at hk
          exact ⟨_, _, _, _, _, hk, j⟩
    · rw [hw] at hk
      obtain ⟨d', hk, ad⟩ := addK_spec hk
      obtain ⟨tm', hk, p1, p2⟩ := putTK_spec hk
      obtain ⟨e1, e2⟩ := op_agree (P := P) (ng := ng) (ck := ck) (own ad p2)
      exact ⟨d', tm', h, nx, pid, hk, j.more ad hi j.s j.x p2 (fun _ _ _ _ _ hp => hp) (.inr (.inr ⟨by rw [← e2]; exact hw, p1⟩)) (fun _ _ => rfl) (fun _ h1 => (run_ne_skip h1 (by rw [← e2]; exact hw)).elim)⟩
    · rw [hw] at hk; cases hk
theorem J.pass {k : DS → T V → T O → Nat → Bool} : ∀ (l : List Oper) (i : Nat) (d : DS) (tm : T V) (h : T O) (nx : Nat) (pid : Nat → Nat), J P ng nt ck ops df ρ0 h0 w0 d tm h nx ls a w ρ tmS pid → (∀ q, l[q]? = ops[i + q]?) →
    passK P ng ck nt ops l i d tm h nx k = true → ∃ d' tm' h' nx' pid', k d' tm' h' nx' = true ∧ J P ng nt ck ops df ρ0 h0 w0 d' tm' h' nx' ls a w ρ tmS pid'
  | [], _, _, _, _, _, _, j, _, hk => ⟨_, _, _, _, _, hk, j⟩
  | o :: l, i, d, tm, h, nx, pid, j, hl, hk => by
    have hi : ops[i]? = some o := by simpa using (hl 0).symm
    obtain ⟨d', tm', h', nx', pid', hk', j'⟩ := j.proc (k := fun d tm h nx => passK P ng ck nt ops l (Nat.succ i) d tm h nx k) hi hk
    exact J.pass l (i + 1) d' tm' h' nx' pid' j' (fun q => by have := hl (q + 1); simpa [Nat.add_assoc, Nat.add_comm 1 q] using this) hk'
end
end Go.Mx
