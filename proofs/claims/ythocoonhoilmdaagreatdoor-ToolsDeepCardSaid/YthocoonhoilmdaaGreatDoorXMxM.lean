/-
  A part of a small executor of the model, proved sound (14 of 28). No condition.
-/
import Derived.Test.YthocoonhoilmdaaGreatDoorXMxB
namespace Go.Mx
noncomputable section
variable {P : Program} {ng nt : Nat} {ck : CK} {ops : Array Oper} {df : List Deferred} {ρ0 : Ren} {h0 : T O} {w0 : World}
variable {d : DS} {tm : T V} {h : T O} {nx : Nat} {ls : Array Bool} {a : Act} {w : World} {ρ : Ren} {tmS : T V} {pid : Nat → Nat}
theorem sweepK_found {dn : Nat} : ∀ {l : List Oper} {i : Nat} {X : Bool}, sweepK dn l i X X (fun _ _ => false) (fun _ _ _ _ => false) = true → X = true ∧ ∀ q o, l[q]? = some o → dn.testBit (i + q) = true ∨ lacks dn o.after.toList = true := by
  intro l
  induction l with
  | nil => intro i X h; exact ⟨h, by simp⟩
  | cons o l ih =>
    intro i X h
    have h : (Bool.rec (Bool.rec (sweepK dn l (Nat.succ i) false false (fun _ _ => false) (fun _ _ _ _ => false)) (sweepK dn l (Nat.succ i) X X (fun _ _ => false) (fun _ _ _ _ => false)) (lacks dn o.after.toList)) (sweepK dn l (Nat.succ i) X X (fun _ _ => false) (fun _ _ _ _ => false)) (tb dn i) : Bool) = true := h
    have fin : sweepK dn l (Nat.succ i) X X (fun _ _ => false) (fun _ _ _ _ => false) = true → (dn.testBit i = true ∨ lacks dn o.after.toList = true) → X = true ∧ ∀ q o', (o :: l)[q]? = some o' → dn.testBit (i + q) = true ∨ lacks dn o'.after.toList = true := fun h1 h2 => by
      obtain ⟨r1, r2⟩ := ih h1
      refine ⟨r1, fun q o' hq => ?_⟩
      cases q with
      | zero => simp at hq; subst hq; simpa using h2
      | succ q =>
        have := r2 q o' (by simpa using hq)
        rwa [show Nat.succ i + q = i + (q + 1) by omega] at this
    cases e : tb dn i with
    | true => rw [e] at h; rw [tb_eq] at e; exact fin h (.inl e)
    | false =>
      rw [e] at h
      cases e2 : lacks dn o.after.toList with
      | true => rw [e2] at h; exact fin h (.inr e2)
      | false => rw [e2] at h; exact Bool.noConfusion (ih h).1
theorem sweepK_next {dn : Nat} {k1 : Nat → Oper → Bool} : ∀ {l : List Oper} {i : Nat} {X : Bool}, sweepK dn l i X X k1 (fun _ _ _ _ => false) = true →
    (X = true ∧ ∀ q o, l[q]? = some o → dn.testBit (i + q) = true ∨ lacks dn o.after.toList = true) ∨ ∃ q o, l[q]? = some o ∧ k1 (i + q) o = true := by
  intro l
  induction l with
  | nil => intro i X h; exact .inl ⟨h, by simp⟩
  | cons o l ih =>
    intro i X h
    have h : (Bool.rec (Bool.rec (sweepK dn l (Nat.succ i) (k1 i o) (k1 i o) (fun _ _ => false) (fun _ _ _ _ => false)) (sweepK dn l (Nat.succ i) X X k1 (fun _ _ _ _ => false)) (lacks dn o.after.toList)) (sweepK dn l (Nat.succ i) X X k1 (fun _ _ _ _ => false)) (tb dn i) : Bool) = true := h
    have sh : ∀ q, Nat.succ i + q = i + (q + 1) := fun q => by omega
    have fin : sweepK dn l (Nat.succ i) X X k1 (fun _ _ _ _ => false) = true → (dn.testBit i = true ∨ lacks dn o.after.toList = true) →
        (X = true ∧ ∀ q o', (o :: l)[q]? = some o' → dn.testBit (i + q) = true ∨ lacks dn o'.after.toList = true) ∨ ∃ q o', (o :: l)[q]? = some o' ∧ k1 (i + q) o' = true := fun h1 h2 => by
      rcases ih h1 with ⟨r1, r2⟩ | ⟨q, o', r1, r2⟩
      · refine .inl ⟨r1, fun q o' hq => ?_⟩
        cases q with
        | zero => simp at hq; subst hq; simpa using h2
        | succ q => have := r2 q o' (by simpa using hq); rwa [sh] at this
      · exact .inr ⟨q + 1, o', by simpa using r1, by rw [← sh]; exact r2⟩
    cases e : tb dn i with
    | true => rw [e] at h; rw [tb_eq] at e; exact fin h (.inl e)
    | false =>
      rw [e] at h
      cases e2 : lacks dn o.after.toList with
      | true => rw [e2] at h; exact fin h (.inr e2)
      | false => rw [e2] at h; exact .inr ⟨0, o, rfl, (sweepK_found h).1⟩
theorem sweepK_spec {dn : Nat} {k1 : Nat → Oper → Bool} {k2 : Nat → Oper → Nat → Oper → Bool} : ∀ {l : List Oper} {i : Nat} {k0 : Bool}, sweepK dn l i k0 false k1 k2 = true →
    (k0 = true ∧ ∀ q o, l[q]? = some o → dn.testBit (i + q) = true) ∨
    (∃ q o, l[q]? = some o ∧ dn.testBit (i + q) = false ∧ k1 (i + q) o = true ∧ ∀ q' o', l[q']? = some o' → q' = q ∨ dn.testBit (i + q') = true ∨ lacks dn o'.after.toList = true) ∨
    ∃ p q o o2, l[p]? = some o ∧ l[q]? = some o2 ∧ k2 (i + p) o (i + q) o2 = true := by
  intro l
  induction l with
  | nil => intro i k0 h; exact .inl ⟨h, by simp⟩
  | cons o l ih =>
    intro i k0 h
    have h : (Bool.rec (Bool.rec (sweepK dn l (Nat.succ i) (k1 i o) (k1 i o) (k2 i o) (fun _ _ _ _ => false)) (sweepK dn l (Nat.succ i) false false k1 k2) (lacks dn o.after.toList)) (sweepK dn l (Nat.succ i) k0 false k1 k2) (tb dn i) : Bool) = true := h
    have sh : ∀ q, Nat.succ i + q = i + (q + 1) := fun q => by omega
    have right : (∃ q o', l[q]? = some o' ∧ dn.testBit (Nat.succ i + q) = false ∧ k1 (Nat.succ i + q) o' = true ∧ ∀ q' o', l[q']? = some o' → q' = q ∨ dn.testBit (Nat.succ i + q') = true ∨ lacks dn o'.after.toList = true) → (dn.testBit i = true ∨ lacks dn o.after.toList = true) →
        ∃ q o', (o :: l)[q]? = some o' ∧ dn.testBit (i + q) = false ∧ k1 (i + q) o' = true ∧ ∀ q' o', (o :: l)[q']? = some o' → q' = q ∨ dn.testBit (i + q') = true ∨ lacks dn o'.after.toList = true := by
      rintro ⟨q, o', h1, h2, h3, h4⟩ h5
      rw [sh] at h2 h3
      refine ⟨q + 1, o', by simpa using h1, h2, h3, fun q' o'' hq => ?_⟩
      cases q' with
      | zero => simp at hq; subst hq; exact .inr (by simpa using h5)
      | succ q' =>
        rcases h4 q' o'' (by simpa using hq) with h | h | h
        · exact .inl (by omega)
        · rw [sh] at h; exact .inr (.inl h)
        · exact .inr (.inr h)
    have twice : (∃ p q o1 o2, l[p]? = some o1 ∧ l[q]? = some o2 ∧ k2 (Nat.succ i + p) o1 (Nat.succ i + q) o2 = true) → ∃ p q o1 o2, (o :: l)[p]? = some o1 ∧ (o :: l)[q]? = some o2 ∧ k2 (i + p) o1 (i + q) o2 = true := by
      rintro ⟨p, q, o1, o2, h1, h2, h3⟩
      rw [sh, sh] at h3
      exact ⟨p + 1, q + 1, o1, o2, by simpa using h1, by simpa using h2, h3⟩
    cases e : tb dn i with
    | true =>
      rw [e] at h
      rw [tb_eq] at e
      rcases ih h with ⟨h1, h2⟩ | h1 | h1
      · refine .inl ⟨h1, fun q o' hq => ?_⟩
        cases q with
        | zero => exact e
        | succ q => have := h2 q o' (by simpa using hq); rwa [sh] at this
      · exact .inr (.inl (right h1 (.inl e)))
      · exact .inr (.inr (twice h1))
    | false =>
      rw [e] at h
      rw [tb_eq] at e
      cases e2 : lacks dn o.after.toList with
      | true =>
        rw [e2] at h
        rcases ih h with ⟨h1, _⟩ | h1 | h1
        · cases h1
        · exact .inr (.inl (right h1 (.inr e2)))
        · exact .inr (.inr (twice h1))
      | false =>
        rw [e2] at h
        rcases sweepK_next h with ⟨h1, h2⟩ | ⟨q, o', h1, h2⟩
        · refine .inr (.inl ⟨0, o, rfl, e, h1, fun q' o' hq => ?_⟩)
          cases q' with
          | zero => exact .inl rfl
          | succ q' => have := h2 q' o' (by simpa using hq); rw [sh] at this; exact .inr this
        · exact .inr (.inr ⟨0, q + 1, o, o', rfl, by simpa using h1, by rw [sh] at h2; exact h2⟩)
theorem bits_all {dn i j n : Nat} (h : Nat.lor (Nat.lor dn (bit i)) (bit j) = Nat.sub (bit n) 1) {k : Nat} (hk : k < n) (h1 : k ≠ i) (h2 : k ≠ j) : dn.testBit k = true := by
  have e := congrArg (fun m => Nat.testBit m k) h
  simp only [lor_test, bit_test] at e
  have e2 : (Nat.sub (bit n) 1).testBit k = true := by
    show (1 <<< n - 1).testBit k = true
    rw [Nat.one_shiftLeft, Nat.testBit_two_pow_sub_one]
    simp [hk]
  rw [e2] at e
  simpa [Ne.symm h1, Ne.symm h2] using e
theorem J.any {Q : Exit → Act → World → Prop} {Kp : KV} {kfin : T V → T O → Nat → Bool} (hck : CKok P ng ck)
    (hfin : ∀ ρ tm h nx a w, kfin tm h nx = true → St ρ h nx w → Ext ρ0 h0 w0 ρ h w → RG ng ρ → TR ρ tm a → nt ≤ a.tmps.size → a.defers = df → Q .normal a w)
    (hpan : ∀ ρ x h nx v a w, Kp x h nx = true → VR ρ x v → St ρ h nx w → Ext ρ0 h0 w0 ρ h w → RG ng ρ → nt ≤ a.tmps.size → a.defers = df → ∀ ch, PanC v false ch → Q (.panic ch) a w) :
    ∀ (fuel s : Nat) (d : DS) (tm : T V) (h : T O) (nx : Nat) (ls : Array Bool) (a : Act) (w : World) (ρ : Ren) (tmS : T V) (pid : Nat → Nat), J P ng nt ck ops df ρ0 h0 w0 d tm h nx ls a w ρ tmS pid → ls.toList.count false = fuel →
      sweepK d.dn ops.toList 0 (kfin tm h nx) false (fun i o => runE P ng ck nt ops i o d tm h nx (drawK P ng ck nt ops Kp kfin s) Kp) (fun i o j o2 => twoK P ng ck ops i o j o2 d tm h nx kfin) = true → wpAny P .any ops Q fuel ls a w := by
  have two : ∀ (fuel : Nat) (d : DS) (tm : T V) (h : T O) (nx : Nat) (ls : Array Bool) (a : Act) (w : World) (ρ : Ren) (tmS : T V) (pid : Nat → Nat), J P ng nt ck ops df ρ0 h0 w0 d tm h nx ls a w ρ tmS pid → ls.toList.count false = fuel →
      (∃ p q o o2, ops.toList[p]? = some o ∧ ops.toList[q]? = some o2 ∧ twoK P ng ck ops (0 + p) o (0 + q) o2 d tm h nx kfin = true) → wpAny P .any ops Q fuel ls a w := by
    rintro fuel d tm h nx ls a w ρ tmS pid j hc ⟨p, q, o, o2, hp, hq, hk⟩
    rw [Nat.zero_add, Nat.zero_add] at hk
    obtain ⟨hb, d1, h1, d2, hf, d1', h1', d2', s1, s2, t1, t2, hkf⟩ := twoK_spec hk
    exact J.two hfin hck fuel j hc (by simpa using hp) (by simpa using hq) s1 s2 t1 t2 (fun i o' hi n1 n2 => bits_all hb (Array.getElem?_eq_some_iff.1 hi).1 n1 n2) hkf
  intro fuel
  induction fuel with
  | zero =>
    intro s d tm h nx ls a w ρ tmS pid j hc hsw
    have hs2 := sweepK_spec hsw
    rw [← or_assoc] at hs2
    rcases hs2 with hsp | htwo
    case inr => exact two _ _ _ _ _ _ _ _ _ _ _ j hc htwo
    have all : ∀ i, i < ls.size → ls.getD i false = true := fun i hi => cnt_zero hc hi
    have hrd : Region.ready .any ops ls = [] := by
      apply List.eq_nil_iff_forall_not_mem.2
      intro i hi
      obtain ⟨o, h1, h2, _⟩ := (rdy_of j.sz).1 hi
      rw [all i (by rw [j.sz]; exact (Array.getElem?_eq_some_iff.1 h1).1)] at h2
      cases h2
    refine ⟨hrd, ?_⟩
    rcases hsp with ⟨h1, _⟩ | ⟨q, o, h1, h2, _⟩
    · exact hfin ρ tm h nx a w h1 j.s j.x j.g (fun t => by rw [← j.agree t fun i o hd hl ho => by rw [all i (by rw [j.sz]; exact (Array.getElem?_eq_some_iff.1 ho).1)] at hl; cases hl]; exact j.t t) j.ntok j.dfok
    · have hq : ops[q]? = some o := by simpa using h1
      have := j.sub q (all q (by rw [j.sz]; exact (Array.getElem?_eq_some_iff.1 hq).1))
      rw [Nat.zero_add] at h2
      rw [this] at h2; cases h2
  | succ fuel ih =>
    intro s d tm h nx ls a w ρ tmS pid j hc hsw
    have hs2 := sweepK_spec hsw
    rw [← or_assoc] at hs2
    rcases hs2 with hsp | htwo
    case inr => exact two _ _ _ _ _ _ _ _ _ _ _ j hc htwo
    have ltsz : ∀ {i o}, ops[i]? = some o → i < ls.size := fun h1 => by rw [j.sz]; exact (Array.getElem?_eq_some_iff.1 h1).1
    constructor
    · intro hrd
      have nord : ∀ i o, ops[i]? = some o → ¬ Rdy ls i o := fun i o h1 h2 => by
        have := (rdy_of j.sz).2 ⟨o, h1, h2⟩
        rw [hrd] at this; cases this
      have dnl : ∀ i, d.dn.testBit i = true → i < ops.size → ls.getD i false = true := by
        intro i
        induction i using Nat.strongRecOn with
        | _ i ihi =>
          intro hd hlt
          cases e : ls.getD i false with
          | true => rfl
          | false =>
            have ho := Array.getElem?_eq_getElem hlt
            exact absurd ⟨e, fun ed he hb => by
              obtain ⟨g1, g2⟩ := j.pr i _ hd ho ed he hb
              exact ihi _ g2 g1 (by omega)⟩ (nord i _ ho)
      rcases hsp with ⟨h1, h2⟩ | ⟨q, o, h1, h2, h3, _⟩
      · have all : ∀ i o, ops[i]? = some o → ls.getD i false = true := fun i o ho => dnl i (by simpa using h2 i o (by simpa using ho)) (Array.getElem?_eq_some_iff.1 ho).1
        exact hfin ρ tm h nx a w h1 j.s j.x j.g (fun t => by rw [← j.agree t fun i o hd hl ho => by rw [all i o ho] at hl; cases hl]; exact j.t t) j.ntok j.dfok
      · have hq : ops[q]? = some o := by simpa using h1
        rw [Nat.zero_add] at h2 h3
        unfold runE at h3
        rcases wantK_cases ops tm o.guard with hw | hw | hw
        · rw [hw] at h3
          obtain ⟨d', _, ad⟩ := addK_spec h3
          refine absurd ⟨?_, fun ed he hb => ?_⟩ (nord q o hq)
          · cases e : ls.getD q false with
            | false => rfl
            | true => rw [j.sub q e] at h2; cases h2
          · obtain ⟨g1, g2⟩ := ad.pr ed he hb
            exact dnl _ g1 (Nat.lt_trans g2 (Array.getElem?_eq_some_iff.1 hq).1)
        · rw [hw] at h3; cases h3
        · rw [hw] at h3; cases h3
    · intro i hi
      obtain ⟨o, ho, hr⟩ := (rdy_of j.sz).1 hi
      have hcnt : (ls.setIfInBounds i true).toList.count false = fuel := by have := cnt_set (ltsz ho) hr.1; omega
      cases hdn : d.dn.testBit i with
      | true => exact j.step hdn ho hr fun a' w' ρ' tmS' j' => ih s d tm h nx _ a' w' ρ' tmS' pid j' hcnt hsw
      | false =>
        rcases hsp with ⟨_, h2⟩ | ⟨q, o', h1, h2, h3, h4⟩
        · have := h2 i o (by simpa using ho)
          rw [Nat.zero_add, hdn] at this; cases this
        · rw [Nat.zero_add] at h2 h3
          have hqi : i = q := by
            rcases h4 i o (by simpa using ho) with h | h | h
            · exact h
            · rw [Nat.zero_add, hdn] at h; cases h
            · obtain ⟨e, g1, g2, g3⟩ := lacks_spec h
              have := j.sub _ (hr.2 e g1 g2)
              rw [g3] at this; cases this
          subst hqi
          have hoo : o' = o := by
            have : ops[i]? = some o' := by simpa using h1
            rw [ho] at this; exact (Option.some.inj this).symm
          subst hoo
          unfold runE at h3
          rcases wantK_cases ops tm o'.guard with hw | hw | hw
          · rw [hw] at h3
            obtain ⟨d', h5, ad⟩ := addK_spec h3
            have sees : opK P ng ck tmS o'.op = opK P ng ck tm o'.op ∧ wantK ops tmS o'.guard = wantK ops tm o'.guard := op_agree fun t ht => j.agree t fun k o2 hk hl hko hdst => by
              obtain ⟨e, g1, g2, g3⟩ := ad.dep t ht (j.dd k o2 t hk hko hdst)
              obtain ⟨g4, o3, g5, g6⟩ := j.dt _ t g3
              have := j.uniq _ _ _ _ t g4 hk g5 hko g6 hdst
              have h6 := hr.2 e g1 g2
              rw [this, hl] at h6; cases h6
            have hwa := wantK_run (ops := ops) (o := o') j.t (fun r s => by rw [sees.2]; exact hw r s)
            unfold wpOp
            simp only [ho]
            rw [if_pos hwa]
            refine .inl ?_
            refine opK_sound hck (op := o'.op) rfl (by rw [sees.1]; exact h5) j.s j.g j.t o' a _ Q (fun ρ' x h' nx' v w' hv hs hx hk => ?_) (fun ρ' x h' nx' v w' hv hs hx hk => hpan ρ' x h' nx' v a w' hk hv hs (j.x.trans hx) (j.g.mono hx.le) j.ntok j.dfok)
            obtain ⟨tm', hk2, p1, p2⟩ := putTK_spec hk
            obtain ⟨hk3, ag⟩ := againK_spec hk2
            have j2 := j.eff ad ho hr hv hs hx p1 p2 (fun k o2 hko hdk hmk hwk hck => ag k o2 (by simpa using hko) (by simpa using hdk) (by simpa using hmk) hwk hck)
            cases s with
            | zero => exact Bool.noConfusion hk3
            | succ s =>
              obtain ⟨d3, tm3, h3, nx3, pid3, hk4, j3⟩ := J.pass (k := fun d tm h nx => sweepK d.dn ops.toList 0 (kfin tm h nx) false (fun i o => runE P ng ck nt ops i o d tm h nx (drawK P ng ck nt ops Kp kfin s) Kp) (fun i o j o2 => twoK P ng ck ops i o j o2 d tm h nx kfin)) ops.toList 0 d' tm' h' nx' pid j2 (fun q => by simp) hk3
              exact ih s d3 tm3 h3 nx3 _ _ _ _ _ _ j3 hcnt hk4
          · rw [hw] at h3; cases h3
          · rw [hw] at h3; cases h3
theorem drawK_sound {id : Nat} {Q : Exit → Act → World → Prop} {Kp : KV} {kfin : T V → T O → Nat → Bool} (hm : P.follows .mixedOrders = true) (hck : CKok P ng ck) {s : Nat}
    (hk : drawK P ng ck nt ops Kp kfin s ⟨0, 0, 0, .leaf, .leaf⟩ tm h nx = true) (hs : St ρ h nx w) (hg : RG ng ρ) (ht : TR ρ tm a) (hn : nt ≤ a.tmps.size)
    (hfin : ∀ ρ' tm h' nx a' w', kfin tm h' nx = true → St ρ' h' nx w' → Ext ρ h w ρ' h' w' → RG ng ρ' → TR ρ' tm a' → nt ≤ a'.tmps.size → a'.defers = a.defers → Q .normal a' w')
    (hpan : ∀ ρ' x h' nx v a' w', Kp x h' nx = true → VR ρ' x v → St ρ' h' nx w' → Ext ρ h w ρ' h' w' → RG ng ρ' → nt ≤ a'.tmps.size → a'.defers = a.defers → ∀ ch, PanC v false ch → Q (.panic ch) a' w') :
    (Code.region id ops true).wp P Q a w := by
  refine wp_region_any hm ?_
  cases s with
  | zero => exact Bool.noConfusion hk
  | succ s =>
    have x0 : Ext ρ h w ρ h { w with drawn := w.drawn + 1 } := Ext.same rfl rfl rfl rfl
    have z : ∀ i, Nat.testBit 0 i = false := Nat.zero_testBit
    have j0 : J P ng nt ck ops a.defers ρ h w ⟨0, 0, 0, .leaf, .leaf⟩ tm h nx (Array.replicate ops.size false) a { w with drawn := w.drawn + 1 } ρ tm (fun i => i) := by
      refine ⟨hs.heap rfl, x0, hg, ht, hn, rfl, by simp, fun i hi => ?_, fun i o hd => ?_, fun i o t hd => ?_, fun i t hd => ?_, fun i k hd => ?_, fun i o k hd => ?_, fun i hd => gt_leaf _ _, fun i o hd => ?_, fun i k o o' t hd => ?_, fun i o hd => ?_, fun t _ => rfl, fun i o hd => ?_, fun i k o o' hd => ?_⟩
      · rw [Array.getD_eq_getD_getElem?, Array.getElem?_replicate] at hi
        split at hi <;> cases hi
      all_goals first
        | (rw [gt_leaf, z] at hd; cases hd; done)
        | (have hd : Nat.testBit 0 i = true := hd; rw [z] at hd; cases hd)
    obtain ⟨d3, tm3, h3, nx3, pid3, hk4, j3⟩ := J.pass (k := fun d tm h nx => sweepK d.dn ops.toList 0 (kfin tm h nx) false (fun i o => runE P ng ck nt ops i o d tm h nx (drawK P ng ck nt ops Kp kfin s) Kp) (fun i o j o2 => twoK P ng ck ops i o j o2 d tm h nx kfin)) ops.toList 0 _ tm h nx _ j0 (fun q => by simp) hk
    exact J.any hck hfin hpan ops.size s d3 tm3 h3 nx3 _ _ _ _ _ _ j3 (by simp) hk4
end
end Go.Mx
namespace Go.Mx
noncomputable section
variable {P : Program} {ng nt : Nat} {ck : CK} {ops : Array Oper} {Kp : KV} {kfin : T V → T O → Nat → Bool}
theorem ite1_and5 (a b c d e x : Bool) : ite1 (ite1 a (ite1 b (ite1 c (ite1 d (ite1 e true))))) x = ite1 a (ite1 b (ite1 c (ite1 d (ite1 e x)))) := by
  cases a <;> cases b <;> cases c <;> cases d <;> cases e <;> rfl
theorem addK_eq {war : Bool} {i : Nat} {o : Oper} {d : DS} {k : DS → Bool} : addK ops war i o d k = ite1 (addC ops war i o d) (k (addD ops i o d)) := by
  obtain ⟨dst, op, ty, pos, after, guard⟩ := o
  obtain ⟨dn, dl, dd, mt, dt⟩ := d
  simp only [addK, forceN_eq, stK_eq, addC, addD, ite1_and5]
theorem addK_fail {war : Bool} {i : Nat} {o : Oper} {d : DS} {k : DS → Bool} (h : addC ops war i o d = false) : addK ops war i o d k = false := by rw [addK_eq, h]; rfl
theorem addK_ok {war : Bool} {i : Nat} {o : Oper} {d : DS} {k : DS → Bool} (h : addC ops war i o d = true) : addK ops war i o d k = k (addD ops i o d) := by rw [addK_eq, h]; rfl
theorem want_ff (tm : T V) (g : Option (Nat × Bool)) : wantK ops tm g false false = false := by
  rcases wantK_cases ops tm g with h | h | h <;> rw [h]
theorem opK_ff {tm : T V} {h : T O} {nx : Nat} {o : Oper} (hc : clsOp P o.op < 2) : opK P ng ck tm o.op h nx (fun _ _ _ => false) (fun _ _ _ => false) = false := by
  cases e : opK P ng ck tm o.op h nx (fun _ _ _ => false) (fun _ _ _ => false) with
  | false => rfl
  | true =>
    rcases Nat.lt_or_ge (clsOp P o.op) 1 with h1 | h1
    · rcases opK_lin (ng := ng) (ck := ck) (tm := tm) (h := h) (show clsOp P o.op = 0 by omega) with g | ⟨y, g⟩
      · exact Bool.noConfusion ((g nx (fun _ _ _ => false)).symm.trans e)
      · exact Bool.noConfusion ((g nx (fun _ _ _ => false)).symm.trans e)
    · obtain ⟨mk, ob, m, _⟩ := opK_makes (show clsOp P o.op = 1 by omega) e
      rw [m.1] at e; cases e
theorem againK_eq {dn M : Nat} {tm : T V} {h : T O} {nx : Nat} {k : Bool} : ∀ (l : List Oper) (i : Nat), againK P ng ck ops sameV dn M tm h nx l i k = againL P ng ck ops tm h nx (agF dn M l i) k := by
  intro l
  induction l with
  | nil => intro i; rfl
  | cons o l ih =>
    intro i
    have e1 : againK P ng ck ops sameV dn M tm h nx (o :: l) i k = (Bool.rec (againK P ng ck ops sameV dn M tm h nx l (Nat.succ i) k)
      (wantK ops tm o.guard (ite1 (Nat.rec (motive := fun _ => Bool) (opK P ng ck tm o.op h nx (fun y _ _ => Option.rec (motive := fun _ => Bool) true (fun t => sameV y (gt V.nil t tm)) o.dst) (fun _ _ _ => false)) (fun _ _ => true) (clsOp P o.op)) <| againK P ng ck ops sameV dn M tm h nx l (Nat.succ i) k) (againK P ng ck ops sameV dn M tm h nx l (Nat.succ i) k))
      (ite1 (tb dn i) <| inot (tb M i)) : Bool) := rfl
    have e2 : agF dn M (o :: l) i = (Bool.rec (agF dn M l (Nat.succ i)) (o :: agF dn M l (Nat.succ i)) (ite1 (tb dn i) <| inot (tb M i)) : List Oper) := rfl
    rw [e1, e2]
    cases (ite1 (tb dn i) <| inot (tb M i)) with
    | false => exact ih _
    | true => rw [ih]; rfl
abbrev rp (P : Program) (ng : Nat) (ck : CK) (nt : Nat) (ops : Array Oper) (Kp : KV) (kfin : T V → T O → Nat → Bool) (p : Plan) (tm : T V) (h : T O) (nx : Nat) : Bool := runP p P ng ck nt ops Kp kfin tm h nx
theorem addP_run {war : Bool} {i : Nat} {o : Oper} {d : DS} {k : DS → Plan} {tm : T V} {h : T O} {nx : Nat} : rp P ng ck nt ops Kp kfin (addP ops war i o d k) tm h nx = ite1 (addC ops war i o d) (rp P ng ck nt ops Kp kfin (k (addD ops i o d)) tm h nx) := by
  unfold addP
  cases addC ops war i o d <;> rfl
theorem putTK_false {dst : Option Nat} {x : V} {tm : T V} : putTK nt dst x tm (fun _ => false) = false := by
  cases e : putTK nt dst x tm (fun _ => false) with
  | false => rfl
  | true => obtain ⟨_, h, _⟩ := putTK_spec e; cases h
theorem passP_run {kP : DS → Plan} {kD : DS → T V → T O → Nat → Bool} (hk : ∀ d tm h nx, rp P ng ck nt ops Kp kfin (kP d) tm h nx = kD d tm h nx) :
    ∀ (l : List Oper) (i : Nat) (d : DS) (tm : T V) (h : T O) (nx : Nat), rp P ng ck nt ops Kp kfin (passP P ops l i d kP) tm h nx = passK P ng ck nt ops l i d tm h nx kD := by
  intro l
  induction l with
  | nil => intro i d tm h nx; exact hk d tm h nx
  | cons o l ih =>
    intro i d tm h nx
    have e1 : passK P ng ck nt ops (o :: l) i d tm h nx kD = procK P ng ck nt ops i o d tm h nx (fun d tm h nx => passK P ng ck nt ops l (Nat.succ i) d tm h nx kD) := rfl
    have e2 : passP P ops (o :: l) i d kP = (Bool.rec
      (Nat.rec (motive := fun _ => Plan) (Option.rec (motive := fun _ => Plan) (passP P ops l (Nat.succ i) d kP) (fun _ => .gd o (passP P ops l (Nat.succ i) d kP) (addP ops false i o d fun d => passP P ops l (Nat.succ i) d kP)) o.guard)
        (fun _ _ => addP ops false i o d fun d => .pur o (passP P ops l (Nat.succ i) d kP)) (Nat.sub 2 (clsOp P o.op)))
      (passP P ops l (Nat.succ i) d kP) (ior (tb d.dn i) (ior (inot (predsIn d.dn i o.after.toList)) (inot (Nat.beq (Nat.land (dstM o.dst) d.dl) 0)))) : Plan) := rfl
    have ihf : ∀ d, (fun tm h nx => rp P ng ck nt ops Kp kfin (passP P ops l (Nat.succ i) d kP) tm h nx) = fun tm h nx => passK P ng ck nt ops l (Nat.succ i) d tm h nx kD := fun d => by
      funext tm h nx; exact ih _ _ _ _ _
    rw [e1, e2]
    unfold procK
    cases (ior (tb d.dn i) (ior (inot (predsIn d.dn i o.after.toList)) (inot (Nat.beq (Nat.land (dstM o.dst) d.dl) 0)))) with
    | true => exact ih _ _ _ _ _
    | false =>
      show rp P ng ck nt ops Kp kfin (Nat.rec (motive := fun _ => Plan) _ _ (Nat.sub 2 (clsOp P o.op))) tm h nx = wantK ops tm o.guard (Nat.rec (motive := fun _ => Bool) _ _ (Nat.sub 2 (clsOp P o.op))) _
      cases hc : Nat.sub 2 (clsOp P o.op) with
      | zero =>
        cases hg : o.guard with
        | none => exact ih _ _ _ _ _
        | some g =>
          show wantK ops tm o.guard (rp P ng ck nt ops Kp kfin (passP P ops l (Nat.succ i) d kP) tm h nx) (putTK nt o.dst undefV tm fun tm => rp P ng ck nt ops Kp kfin (addP ops false i o d fun d => passP P ops l (Nat.succ i) d kP) tm h nx) = _
          rw [hg, ih]
          congr 1
          cases ha : addC ops false i o d with
          | false =>
            rw [addK_fail ha]
            have : (fun tm => rp P ng ck nt ops Kp kfin (addP ops false i o d fun d => passP P ops l (Nat.succ i) d kP) tm h nx) = fun _ => false := by
              funext tm; rw [addP_run, ha]; rfl
            rw [this, putTK_false]
          | true =>
            rw [addK_ok ha]
            congr 1
            funext tm
            rw [addP_run, ha]
            exact ih _ _ _ _ _
      | succ m =>
        show rp P ng ck nt ops Kp kfin (addP ops false i o d fun d => .pur o (passP P ops l (Nat.succ i) d kP)) tm h nx = wantK ops tm o.guard (opK P ng ck tm o.op h nx (fun x h nx => addK ops false i o d fun d => putTK nt o.dst x tm fun tm => passK P ng ck nt ops l (Nat.succ i) d tm h nx kD) (fun _ _ _ => false)) (addK ops false i o d fun d => putTK nt o.dst undefV tm fun tm => passK P ng ck nt ops l (Nat.succ i) d tm h nx kD)
        rw [addP_run]
        cases ha : addC ops false i o d with
        | false =>
          rw [addK_fail ha]
          have : (fun (x : V) (h : T O) (nx : Nat) => addK ops false i o d fun d => putTK nt o.dst x tm fun tm => passK P ng ck nt ops l (Nat.succ i) d tm h nx kD) = fun _ _ _ => false := by
            funext x h nx; exact addK_fail ha
          rw [this, opK_ff (by have : 2 - clsOp P o.op = m + 1 := hc; omega), want_ff]
          rfl
        | true =>
          rw [addK_ok ha]
          have : (fun (x : V) (h : T O) (nx : Nat) => addK ops false i o d fun d => putTK nt o.dst x tm fun tm => passK P ng ck nt ops l (Nat.succ i) d tm h nx kD) = fun x h nx => putTK nt o.dst x tm fun tm => passK P ng ck nt ops l (Nat.succ i) (addD ops i o d) tm h nx kD := by
            funext x h nx; exact addK_ok ha
          rw [this]
          show wantK ops tm o.guard (opK P ng ck tm o.op h nx (fun x h nx => putTK nt o.dst x tm fun tm => rp P ng ck nt ops Kp kfin (passP P ops l (Nat.succ i) (addD ops i o d) kP) tm h nx) (fun _ _ _ => false)) (putTK nt o.dst undefV tm fun tm => rp P ng ck nt ops Kp kfin (passP P ops l (Nat.succ i) (addD ops i o d) kP) tm h nx) = _
          simp only [ih]
theorem sweepP_run {dn : Nat} {tm : T V} {h : T O} {nx : Nat} : ∀ (l : List Oper) (i : Nat) (a b : Plan) (k1 : Nat → Oper → Plan) (k2 : Nat → Oper → Nat → Oper → Plan),
    rp P ng ck nt ops Kp kfin (sweepP dn l i a b k1 k2) tm h nx = sweepK dn l i (rp P ng ck nt ops Kp kfin a tm h nx) (rp P ng ck nt ops Kp kfin b tm h nx) (fun i o => rp P ng ck nt ops Kp kfin (k1 i o) tm h nx) (fun i o j o2 => rp P ng ck nt ops Kp kfin (k2 i o j o2) tm h nx) := by
  intro l
  induction l with
  | nil => intro i a b k1 k2; rfl
  | cons o l ih =>
    intro i a b k1 k2
    have e1 : sweepP dn (o :: l) i a b k1 k2 = (Bool.rec (Bool.rec (sweepP dn l (Nat.succ i) (k1 i o) (k1 i o) (k2 i o) fun _ _ _ _ => .fail) (sweepP dn l (Nat.succ i) b b k1 k2) (lacks dn o.after.toList)) (sweepP dn l (Nat.succ i) a b k1 k2) (tb dn i) : Plan) := rfl
    have e2 : ∀ (x y : Bool) (q1 : Nat → Oper → Bool) (q2 : Nat → Oper → Nat → Oper → Bool), sweepK dn (o :: l) i x y q1 q2 = (Bool.rec (Bool.rec (sweepK dn l (Nat.succ i) (q1 i o) (q1 i o) (q2 i o) fun _ _ _ _ => false) (sweepK dn l (Nat.succ i) y y q1 q2) (lacks dn o.after.toList)) (sweepK dn l (Nat.succ i) x y q1 q2) (tb dn i) : Bool) := fun _ _ _ _ => rfl
    rw [e1, e2]
    cases tb dn i with
    | true => exact ih _ _ _ _ _
    | false =>
      cases lacks dn o.after.toList with
      | true => exact ih _ _ _ _ _
      | false => exact ih _ _ _ _ _
theorem drawP_run : ∀ (s : Nat) (d : DS) (tm : T V) (h : T O) (nx : Nat), rp P ng ck nt ops Kp kfin (drawP P ops s d) tm h nx = drawK P ng ck nt ops Kp kfin s d tm h nx := by
  intro s
  induction s with
  | zero => intro d tm h nx; rfl
  | succ s ih =>
    intro d tm h nx
    refine passP_run (kD := fun d tm h nx => sweepK d.dn ops.toList 0 (kfin tm h nx) false (fun i o => runE P ng ck nt ops i o d tm h nx (drawK P ng ck nt ops Kp kfin s) Kp) (fun i o j o2 => twoK P ng ck ops i o j o2 d tm h nx kfin)) (fun d tm h nx => ?_) ops.toList 0 d tm h nx
    rw [sweepP_run]
    have e : (fun i o => rp P ng ck nt ops Kp kfin (addP ops true i o d fun d' => .eff o (agF d.dn (gt 0 i d'.mt) ops.toList 0) (drawP P ops s d')) tm h nx) = fun i o => runE P ng ck nt ops i o d tm h nx (drawK P ng ck nt ops Kp kfin s) Kp := by
      funext i o
      rw [addP_run]
      unfold runE
      cases ha : addC ops true i o d with
      | false => rw [addK_fail ha, want_ff]; rfl
      | true =>
        rw [addK_ok ha]
        show wantK ops tm o.guard (opK P ng ck tm o.op h nx (fun v h nx => putTK nt o.dst v tm fun tm => againL P ng ck ops tm h nx (agF d.dn (gt 0 i (addD ops i o d).mt) ops.toList 0) (rp P ng ck nt ops Kp kfin (drawP P ops s (addD ops i o d)) tm h nx)) Kp) false = _
        simp only [ih, againK_eq]
    have e2 : (fun i o j o2 => rp P ng ck nt ops Kp kfin (.two i o j o2 d) tm h nx) = fun i o j o2 => twoK P ng ck ops i o j o2 d tm h nx kfin := rfl
    rw [← e]
    rfl
end
end Go.Mx
namespace Go.Mx
noncomputable section
variable {P : Program} {nt : Nat} {ops : Array Oper}
theorem ck0_ok : CKok P 0 ck0 := fun _ _ _ _ _ _ hk => Bool.noConfusion hk
theorem isBool_spec {x : Bool} {v : V} (h : isBool x v = true) : v = .b x := by
  obtain ⟨b, rfl, hb⟩ := vB_spec h
  rw [bs_eq_spec] at hb
  rw [eq_of_beq hb]
theorem rdyB_iff {ls : Array Bool} {i : Nat} {o : Oper} : rdyB ls i o = true ↔ Rdy ls i o := by
  unfold rdyB Rdy
  simp only [Bool.and_eq_true, Bool.not_eq_true', List.all_eq_true, Bool.or_eq_true]
  refine and_congr_right fun _ => ⟨fun h e he hb => ?_, fun h e he => ?_⟩
  · rcases h e he with g | g
    · rw [hb] at g; cases g
    · exact g
  · cases hb : bindB e with
    | false => exact .inl rfl
    | true => exact .inr (h e he hb)
theorem coin_step {Q : Exit → Act → World → Prop} {i : Nat} {o : Oper} (ho : ops[i]? = some o) (hg : o.guard = none) {tm : T V} {h : T O} {nx : Nat} {K : KV} (hk : opK P 0 ck0 tm o.op h nx K kno = true)
    {ρ : Ren} {a : Act} {w : World} (s : St ρ h nx w) (t : TR ρ tm a) {next : Act → World → Prop}
    (hn : ∀ ρ' x h' nx' v w', VR ρ' x v → St ρ' h' nx' w' → Ext ρ h w ρ' h' w' → K x h' nx' = true → next (a.put o.dst v) w') : wpOp P ops Q i next a w := by
  unfold wpOp
  simp only [ho]
  rw [if_pos (wantK_run (ops := ops) t (fun r s => by rw [hg]; rfl))]
  exact .inl (opK_sound ck0_ok (op := o.op) rfl hk s (fun i hi => by omega) t o a next Q hn (fun ρ' x h' nx' v w' _ _ _ hk => Bool.noConfusion hk))
theorem coin_sound {id : Nat} {Q : Exit → Act → World → Prop} (hm : P.follows .mixedOrders = true) {d0 d1 : Nat} {b1 b2 : Bool} (hc : coinOf P nt ops = some (d0, d1, b1, b2))
    {tm : T V} {h : T O} {nx : Nat} {ρ : Ren} {a : Act} {w : World} (s : St ρ h nx w) (t : TR ρ tm a) (hn : nt ≤ a.tmps.size)
    (hfin : ∀ b a' w', b = b1 ∨ b = b2 → St ρ h nx w' → Ext ρ h w ρ h w' → TR ρ (st V.nil (.b b) d1 (st V.nil V.nil d0 tm)) a' → nt ≤ a'.tmps.size → a'.defers = a.defers → Q .normal a' w') :
    (Code.region id ops true).wp P Q a w := by
  refine wp_region_any hm ?_
  unfold coinOf at hc
  split at hc
  rotate_left
  · cases hc
  rename_i o0 o1 o2 o3 hl
  split at hc
  rotate_left
  · cases hc
  rename_i e0 e1 c1 c2 g0 g3 _ _
  split at hc
  rotate_left
  · cases hc
  rename_i hcc
  simp only [Option.some.injEq, Prod.mk.injEq] at hc
  obtain ⟨rfl, rfl, rfl, rfl⟩ := hc
  have hops : ops = #[o0, o1, o2, o3] := by
    apply Array.ext'
    rw [hl]
  subst hops
  simp only [coinC, Bool.and_eq_true, Option.isNone_iff_eq_none] at hcc
  obtain ⟨⟨⟨⟨⟨⟨⟨⟨⟨q0, q1⟩, q2⟩, q3⟩, z1⟩, z2⟩, l0⟩, l1⟩, hE⟩, hD⟩ := hcc
  have l0 := Nat.blt_eq.mp l0
  have l1 := Nat.blt_eq.mp l1
  simp only [coinE, Bool.and_eq_true, Bool.not_eq_true'] at hE
  obtain ⟨⟨⟨⟨⟨⟨⟨⟨⟨⟨⟨r1, r2⟩, r3⟩, r4⟩, r5⟩, r6⟩, r7⟩, r8⟩, r9⟩, r10⟩, r11⟩, r12⟩ := hE
  have at_ : ∀ {i : Nat} {o : Oper}, (#[o0, o1, o2, o3] : Array Oper)[i]? = some o → (i = 0 ∧ o = o0) ∨ (i = 1 ∧ o = o1) ∨ (i = 2 ∧ o = o2) ∨ (i = 3 ∧ o = o3) := by
    intro i o ho
    match i, ho with
    | 0, ho => simp at ho; exact .inl ⟨rfl, ho.symm⟩
    | 1, ho => simp at ho; exact .inr (.inl ⟨rfl, ho.symm⟩)
    | 2, ho => simp at ho; exact .inr (.inr (.inl ⟨rfl, ho.symm⟩))
    | 3, ho => simp at ho; exact .inr (.inr (.inr ⟨rfl, ho.symm⟩))
    | i + 4, ho => simp at ho
  have rdy : ∀ {ls : Array Bool} {i : Nat}, ls.size = 4 → (i ∈ Region.ready .any #[o0, o1, o2, o3] ls ↔ ∃ o, (#[o0, o1, o2, o3] : Array Oper)[i]? = some o ∧ rdyB ls i o = true) := by
    intro ls i hs
    rw [rdy_of (by simpa using hs)]
    exact ⟨fun ⟨o, h1, h2⟩ => ⟨o, h1, rdyB_iff.2 h2⟩, fun ⟨o, h1, h2⟩ => ⟨o, h1, rdyB_iff.1 h2⟩⟩
  have ne : ∀ {ls : Array Bool} {i : Nat} {o : Oper}, ls.size = 4 → (#[o0, o1, o2, o3] : Array Oper)[i]? = some o → rdyB ls i o = true → Region.ready .any #[o0, o1, o2, o3] ls ≠ [] := by
    intro ls i o hs ho hr e
    have := (rdy hs).2 ⟨o, ho, hr⟩
    rw [e] at this
    cases this
  have dead : ∀ i, ¬ (gt O.none i (.leaf : T O)).live := fun i hi => by rw [gt_leaf] at hi; exact hi
  have s0 : St (fun _ => none) .leaf 0 { w with drawn := w.drawn + 1 } := ⟨fun id L hi _ => (dead id hi).elim, fun i j L M hi => (dead i (O.live_of_wr hi)).elim, fun _ _ => rfl, fun i _ => dead i⟩
  have t0 : TR (fun _ => none) .leaf a := fun q => by rw [gt_leaf]; simp only [VR]
  have fin : ∀ {b : Bool} {ρ' : Ren} {h' : T O} {w' : World} {v0 v3 : Value}, b = c1 ∨ b = c2 → Ext (fun _ => none) .leaf { w with drawn := w.drawn + 1 } ρ' h' w' → VR ρ' (.b b) v3 → Q .normal ((a.put (some e0) v0).put (some e1) v3) w' := by
    intro b ρ' h' w' v0 v3 hb x hv
    have kept : ∀ q, q < w.heap.size → w'.heap[q]? = w.heap[q]? := fun q hq => (x.kept q hq fun id L hw _ => (dead id (O.live_of_wr hw)).elim).1
    simp only [VR] at hv
    refine hfin b _ w' hb ⟨fun id L hi hL => ?_, s.inj, s.fresh, s.dead⟩ ⟨Ren.le.refl _, x.size, x.os, x.tape, x.output, fun q hq hk => ⟨kept q hq, hk⟩, fun _ _ k => ⟨k, rfl⟩⟩ ?_ ?_ rfl
    · obtain ⟨o, p1, p2⟩ := s.rel id L hi hL
      exact ⟨o, by rw [kept L.blk (Array.getElem?_eq_some_iff.1 p1).1]; exact p1, p2⟩
    · refine TR.put (TR.put t (by simp only [VR]) (by omega)) (by rw [hv]; exact VRb _ _) ?_
      simp [Act.put]
      omega
    · simp [Act.put]
      omega
  have last : ∀ {b : Bool} {ρ' : Ren} {h' : T O} {nx' : Nat} {w' : World} {v0 : Value} {y : V}, b = c1 ∨ b = c2 → opK P 0 ck0 (st V.nil y e0 .leaf) o3.op h' nx' (fun x _ _ => isBool b x) kno = true → St ρ' h' nx' w' → Ext (fun _ => none) .leaf { w with drawn := w.drawn + 1 } ρ' h' w' →
      TR ρ' (st V.nil y e0 .leaf) (a.put (some e0) v0) → wpAny P .any #[o0, o1, o2, o3] Q 1 #[true, true, true, false] (a.put (some e0) v0) w' := by
    intro b ρ' h' nx' w' v0 y hb hk s' x' t'
    refine ⟨fun hr => (ne (i := 3) (o := o3) rfl rfl r12 hr).elim, fun i hi => ?_⟩
    obtain ⟨o, ho, hr⟩ := (rdy (ls := #[true, true, true, false]) rfl).1 hi
    rcases at_ ho with ⟨rfl, rfl⟩ | ⟨rfl, rfl⟩ | ⟨rfl, rfl⟩ | ⟨rfl, rfl⟩
    · exact absurd (show false = true from hr) (by decide)
    · exact absurd (show false = true from hr) (by decide)
    · exact absurd (show false = true from hr) (by decide)
    refine coin_step ho q3 hk s' t' (fun ρ2 x h2 n2 v w2 hv s2 x2 hb2 => ?_)
    obtain rfl := isBool_spec hb2
    rw [g3]
    refine ⟨List.eq_nil_iff_forall_not_mem.2 fun j hj => ?_, fin hb (x'.trans x2) hv⟩
    obtain ⟨o', ho', hr'⟩ := (rdy (ls := #[true, true, true, true]) rfl).1 hj
    rcases at_ ho' with ⟨rfl, rfl⟩ | ⟨rfl, rfl⟩ | ⟨rfl, rfl⟩ | ⟨rfl, rfl⟩ <;> simp [rdyB] at hr'
  refine ⟨fun hr => (ne (i := 0) (o := o0) rfl rfl r1 hr).elim, fun i hi => ?_⟩
  obtain ⟨o, ho, hr⟩ := (rdy rfl).1 hi
  rcases at_ ho with ⟨rfl, rfl⟩ | ⟨rfl, rfl⟩ | ⟨rfl, rfl⟩ | ⟨rfl, rfl⟩
  rotate_left
  · exact absurd hr (by rw [show (Array.replicate (#[o0, o, o2, o3] : Array Oper).size false) = #[false, false, false, false] from rfl, r2]; simp)
  · exact absurd hr (by rw [show (Array.replicate (#[o0, o1, o, o3] : Array Oper).size false) = #[false, false, false, false] from rfl, r3]; simp)
  · exact absurd hr (by rw [show (Array.replicate (#[o0, o1, o2, o] : Array Oper).size false) = #[false, false, false, false] from rfl, r4]; simp)
  refine coin_step ho q0 hD s0 t0 (fun ρ1 y h1 n1 v0 w1 hv s1 x1 hk1 => ?_)
  rw [g0]
  obtain ⟨hA, hB⟩ := ite1_spec hk1
  have t1 : TR ρ1 (st V.nil y e0 .leaf) (a.put (some e0) v0) := TR.put (fun q => by rw [gt_leaf]; simp only [VR]) hv (by omega)
  show wpAny P .any #[o, o1, o2, o3] Q 3 #[true, false, false, false] _ _
  refine ⟨fun hr => (ne (i := 1) (o := o1) rfl rfl r5 hr).elim, fun i hi => ?_⟩
  obtain ⟨p, hp, hq⟩ := (rdy (ls := #[true, false, false, false]) rfl).1 hi
  rcases at_ hp with ⟨rfl, rfl⟩ | ⟨rfl, rfl⟩ | ⟨rfl, rfl⟩ | ⟨rfl, rfl⟩
  · exact absurd (show false = true from hq) (by decide)
  · refine coin_step hp q1 hA s1 t1 (fun ρ2 z h2 n2 v w2 hv2 s2 x2 hk2 => ?_)
    rw [z1]
    have t2 := t1.mono x2.le
    show wpAny P .any #[o, p, o2, o3] Q 2 #[true, true, false, false] _ _
    refine ⟨fun hq => (ne (i := 2) (o := o2) rfl rfl r8 hq).elim, fun i hi => ?_⟩
    obtain ⟨p2, hp2, hr2⟩ := (rdy (ls := #[true, true, false, false]) rfl).1 hi
    rcases at_ hp2 with ⟨rfl, rfl⟩ | ⟨rfl, rfl⟩ | ⟨rfl, rfl⟩ | ⟨rfl, rfl⟩
    · exact absurd (show false = true from hr2) (by decide)
    · exact absurd (show false = true from hr2) (by decide)
    · refine coin_step hp2 q2 hk2 s2 t2 (fun ρ3 z3 h3 n3 v3 w3 hv3 s3 x3 hk3 => ?_)
      rw [z2]
      exact last (.inr rfl) hk3 s3 (x1.trans (x2.trans x3)) (t2.mono x3.le)
    · rw [r9] at hr2; cases hr2
  · refine coin_step hp q2 hB s1 t1 (fun ρ2 z h2 n2 v w2 hv2 s2 x2 hk2 => ?_)
    rw [z2]
    have t2 := t1.mono x2.le
    show wpAny P .any #[o, o1, p, o3] Q 2 #[true, false, true, false] _ _
    refine ⟨fun hq => (ne (i := 1) (o := o1) rfl rfl r10 hq).elim, fun i hi => ?_⟩
    obtain ⟨p2, hp2, hr2⟩ := (rdy (ls := #[true, false, true, false]) rfl).1 hi
    rcases at_ hp2 with ⟨rfl, rfl⟩ | ⟨rfl, rfl⟩ | ⟨rfl, rfl⟩ | ⟨rfl, rfl⟩
    · exact absurd (show false = true from hr2) (by decide)
    · refine coin_step hp2 q1 hk2 s2 t2 (fun ρ3 z3 h3 n3 v3 w3 hv3 s3 x3 hk3 => ?_)
      rw [z1]
      exact last (.inl rfl) hk3 s3 (x1.trans (x2.trans x3)) (t2.mono x3.le)
    · exact absurd (show false = true from hr2) (by decide)
    · rw [r11] at hr2; cases hr2
  · rw [r6] at hq; cases hq
end
end Go.Mx
