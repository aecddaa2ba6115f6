/-
  A part of a small executor of the model, proved sound (5 of 28). No condition.
-/
import Derived.Test.YthocoonhoilmdaaGreatDoorXMxR
import Derived.Laws.StructEq
import Derived.LaidEqlPtr
import Derived.Lib.Builder
namespace Go.Mx
noncomputable section
variable {P : Program} {ρ : Ren} {h : T O} {nx : Nat} {w : World}
theorem binI_sound {op : BinOp} {k : IntKind} {a b : Int} {t : TypeId} {K : V → Bool} (hk : binI op k a b K = true) :
    ∃ c r, K c = true ∧ VR ρ c r ∧ (binOp op t (.int k a) (.int k b)).run P w = .ok r w := by
  cases op
  case add => have e : wrK k (Int.add a b) (fun n => K (.i k n)) = true := hk
              rw [wrK_eq] at e; exact ⟨_, _, e, VRi _ _ _, by simp [binOp, Op.intArith] <;> rfl⟩
  case sub => have e : wrK k (Int.sub a b) (fun n => K (.i k n)) = true := hk
              rw [wrK_eq] at e; exact ⟨_, _, e, VRi _ _ _, by simp [binOp, Op.intArith] <;> rfl⟩
  case mul => have e : wrK k (Int.mul a b) (fun n => K (.i k n)) = true := hk
              rw [wrK_eq] at e; exact ⟨_, _, e, VRi _ _ _, by simp [binOp, Op.intArith] <;> rfl⟩
  case quo =>
    have e : (Bool.rec (wrK k (Int.tdiv a b) fun n => K (.i k n)) false (ieq b (Int.ofNat 0)) : Bool) = true := hk
    cases hz : ieq b (Int.ofNat 0) with
    | true => rw [hz] at e; exact Bool.noConfusion e
    | false =>
      rw [hz] at e
      have e2 : wrK k (Int.tdiv a b) (fun n => K (.i k n)) = true := e
      rw [wrK_eq] at e2
      rw [ieq_eq] at hz
      have hne : ¬ b = 0 := by simpa using hz
      exact ⟨_, _, e2, VRi _ _ _, by simp [binOp, Op.intDiv, hne]⟩
  case rem =>
    have e : (Bool.rec (K (.i k (Int.tmod a b))) false (ieq b (Int.ofNat 0)) : Bool) = true := hk
    cases hz : ieq b (Int.ofNat 0) with
    | true => rw [hz] at e; exact Bool.noConfusion e
    | false =>
      rw [hz] at e
      rw [ieq_eq] at hz
      have hne : ¬ b = 0 := by simpa using hz
      exact ⟨_, _, e, VRi _ _ _, by simp [binOp, Op.intDiv, hne] <;> rfl⟩
  case and => have e : forceI (bitsI .and k a b) (fun n => K (.i k n)) = true := hk
              rw [forceI_eq] at e; exact ⟨_, _, e, VRi _ _ _, by simp [binOp, Op.intBits, bitsI]⟩
  case or => have e : forceI (bitsI .or k a b) (fun n => K (.i k n)) = true := hk
             rw [forceI_eq] at e; exact ⟨_, _, e, VRi _ _ _, by simp [binOp, Op.intBits, bitsI]⟩
  case xor => have e : forceI (bitsI .xor k a b) (fun n => K (.i k n)) = true := hk
              rw [forceI_eq] at e; exact ⟨_, _, e, VRi _ _ _, by simp [binOp, Op.intBits, bitsI]⟩
  case andNot => have e : forceI (bitsI .andNot k a b) (fun n => K (.i k n)) = true := hk
                 rw [forceI_eq] at e; exact ⟨_, _, e, VRi _ _ _, by simp [binOp, Op.intBits, bitsI]⟩
  case shl => exact Bool.noConfusion hk
  case shr => exact Bool.noConfusion hk
  case eql => have e : K (.b (ieq a b)) = true := hk
              rw [ieq_eq] at e; exact ⟨_, _, e, VRb _ _, by simp [binOp, Op.intCmp] <;> rfl⟩
  case neq => have e : K (.b (inot (ieq a b))) = true := hk
              rw [ieq_eq, inot_eq] at e; exact ⟨_, _, e, VRb _ _, by simp [binOp, Op.intCmp] <;> rfl⟩
  case lss => have e : K (.b (ilt a b)) = true := hk
              rw [ilt_eq] at e; exact ⟨_, _, e, VRb _ _, by simp [binOp, Op.intCmp]⟩
  case leq => have e : K (.b (inot (ilt b a))) = true := hk
              rw [ilt_eq, inot_eq] at e; exact ⟨_, _, e, VRb _ _, by simp [binOp, Op.intCmp]; rw [Bool.eq_iff_iff]; simp⟩
  case gtr => have e : K (.b (ilt b a)) = true := hk
              rw [ilt_eq] at e; exact ⟨_, _, e, VRb _ _, by simp [binOp, Op.intCmp]⟩
  case geq => have e : K (.b (inot (ilt a b))) = true := hk
              rw [ilt_eq, inot_eq] at e; exact ⟨_, _, e, VRb _ _, by simp [binOp, Op.intCmp]; rw [Bool.eq_iff_iff]; simp⟩
theorem shK_sound {op : BinOp} {k k' : IntKind} {a b : Int} {t : TypeId} {K : V → Bool} (hk : shK op k a b K = true) :
    ∃ c r, K c = true ∧ VR ρ c r ∧ (binOp op t (.int k a) (.int k' b)).run P w = .ok r w := by
  cases a with
  | negSucc a => exact Bool.noConfusion hk
  | ofNat m =>
    cases b with
    | negSucc b => exact Bool.noConfusion hk
    | ofNat y =>
      obtain ⟨_, hk⟩ := ite1_spec hk
      have hy : ¬ ((y : Int) < 0) := by omega
      cases op <;> first | exact Bool.noConfusion hk | skip
      · have e : wrK k (Int.ofNat (Nat.mul m (Nat.pow 2 (Nat.min y k.bits)))) (fun n => K (.i k n)) = true := hk
        rw [wrK_eq] at e
        refine ⟨_, _, e, VRi _ _ _, ?_⟩
        simp only [binOp, Op.shift, hy, if_false, Sem.run_pure, Int.ofNat_eq_natCast, Int.toNat_natCast]
        rw [show ((Nat.mul m (Nat.pow 2 (Nat.min y k.bits)) : Nat) : Int) = (m : Int) * 2 ^ (min y k.bits) from by
          show ((m * 2 ^ (min y k.bits) : Nat) : Int) = _
          push_cast
          rfl]
      · have e : forceN (Nat.div m (Nat.pow 2 (Nat.min y k.bits))) (fun q => K (.i k (Int.ofNat q))) = true := hk
        rw [forceN_eq] at e
        refine ⟨_, _, e, VRi _ _ _, ?_⟩
        simp only [binOp, Op.shift, hy, if_false, Sem.run_pure, Int.ofNat_eq_natCast, Int.toNat_natCast]
        rw [show ((Nat.div m (Nat.pow 2 (Nat.min y k.bits)) : Nat) : Int) = Int.fdiv (m : Int) (2 ^ (min y k.bits)) from by
          show ((m / 2 ^ (min y k.bits) : Nat) : Int) = _
          rw [show ((2 : Int) ^ (min y k.bits)) = ((2 ^ (min y k.bits) : Nat) : Int) by push_cast; rfl]
          rw [Int.fdiv_eq_ediv_of_nonneg _ (Int.natCast_nonneg _)]
          rfl]
theorem binS_sound {op : BinOp} {a b : List Nat} {t : TypeId} {K : V → Bool} (hk : binS op a b K = true) (ha : ∀ n ∈ a, n < 256) (hb : ∀ n ∈ b, n < 256) :
    ∃ c r, K c = true ∧ VR ρ c r ∧ (binOp op t (.string (bs a)) (.string (bs b))).run P w = .ok r w := by
  have hlt : Op.bytesLess (bs a).toList (bs b).toList = slt a b := by rw [bs_toList, bs_toList]; exact slt_eq ha hb
  have heq := bs_eq_beq ha hb
  cases op <;> first | exact Bool.noConfusion hk | skip
  case add =>
    have e : slenK a 0 (fun n => slenK b n fun m => ite1 (Nat.ble m 9223372036854775807) <| scatK a b fun c => K (.s c)) = true := hk
    rw [slenK_eq, slenK_eq] at e
    obtain ⟨hle, e⟩ := ite1_spec e
    rw [scatK_eq] at e
    have hle := Nat.le_of_ble_eq_true hle
    have hab : ∀ n ∈ a ++ b, n < 256 := by
      intro n hn
      rcases List.mem_append.1 hn with h | h
      · exact ha n h
      · exact hb n h
    refine ⟨_, _, e, VRst ρ hab, ?_⟩
    have : ¬ (((bs a).size + (bs b).size : Nat) : Int) > IntKind.i64.max := by
      rw [bs_size, bs_size, IntKind.max_i64]; omega
    simp only [binOp, Op.stringOp, this, if_false, Sem.run_pure, bs_append]
  case eql => have e : K (.b (seq a b)) = true := hk
              exact ⟨_, _, e, VRb _ _, by simp [binOp, Op.stringOp, heq]⟩
  case neq => have e : K (.b (inot (seq a b))) = true := hk
              rw [inot_eq] at e; exact ⟨_, _, e, VRb _ _, by simp [binOp, Op.stringOp, heq]⟩
  case lss => have e : K (.b (slt a b)) = true := hk
              exact ⟨_, _, e, VRb _ _, by simp [binOp, Op.stringOp, hlt]⟩
  case leq => have e : K (.b (ior (slt a b) (seq a b))) = true := hk
              rw [ior_eq] at e; exact ⟨_, _, e, VRb _ _, by simp [binOp, Op.stringOp, hlt, heq]⟩
  case gtr => have e : K (.b (inot (ior (slt a b) (seq a b)))) = true := hk
              rw [inot_eq, ior_eq] at e; exact ⟨_, _, e, VRb _ _, by simp [binOp, Op.stringOp, hlt, heq]⟩
  case geq => have e : K (.b (inot (slt a b))) = true := hk
              rw [inot_eq] at e; exact ⟨_, _, e, VRb _ _, by simp [binOp, Op.stringOp, hlt]⟩
theorem binE_sound {op : BinOp} {r : Bool} {t : TypeId} {x y : Value} {K : V → Bool} (hk : binE op r K = true) (he : (Op.equal t x y).run P w = .ok r w)
    (hb : ∀ o, (o = .eql → binOp o t x y = do pure (.bool (← Op.equal t x y))) ∧ (o = .neq → binOp o t x y = do pure (.bool (!(← Op.equal t x y))))) :
    ∃ c q, K c = true ∧ VR ρ c q ∧ (binOp op t x y).run P w = .ok q w := by
  cases op <;> first | exact Bool.noConfusion hk | skip
  · have e : K (.b r) = true := hk
    refine ⟨_, _, e, VRb _ _, ?_⟩
    rw [(hb .eql).1 rfl]
    simp [he]
  · have e : K (.b (inot r)) = true := hk
    rw [inot_eq] at e
    refine ⟨_, _, e, VRb _ _, ?_⟩
    rw [(hb .neq).2 rfl]
    simp [he]
theorem tyk_cases (t : TypeId) : (tyk P t = 1 → P.underlying t = some .string) ∧ (tyk P t = 2 → P.underlying t = some .bool) ∧ (tyk P t = 22 → ∃ k e, P.underlying t = some (.map k e)) ∧
    (tyk P t = 23 → ∃ m, P.underlying t = some (.interface m)) ∧ (tyk P t = 25 → ∃ e, P.underlying t = some (.pointer e)) ∧ (tyk P t = 26 → ∃ a b c, P.underlying t = some (.func a b c)) ∧
    (tyk P t = 20 → ∃ e, P.underlying t = some (.slice e) ∧ P.underlying e = some (.int .u8)) ∧ (tyk P t ≠ 0 → ∃ d, P.underlying t = some d) ∧
    (tyk P t = 24 → (∃ fs, P.underlying t = some (.struct fs)) ∨ ∃ n e, P.underlying t = some (.array n e)) := by
  unfold tyk
  cases hu : P.underlying t with
  | none => simp
  | some d =>
    cases d <;> simp
    case int k => cases k <;> simp [ikn]
    case slice e =>
      split <;> simp_all
theorem tyk_int {t : TypeId} (h1 : 3 ≤ tyk P t) (h2 : tyk P t ≤ 10) : ∃ k, P.underlying t = some (.int k) := by
  unfold tyk at h1 h2
  cases hu : P.underlying t with
  | none => rw [hu] at h1; simp at h1
  | some d =>
    rw [hu] at h1 h2
    cases d <;> simp at h1 h2
    case int k => exact ⟨k, rfl⟩
    case slice e =>
      cases hue : P.underlying e with
      | none => simp [hue] at h1
      | some d =>
        cases d <;> (try (simp [hue] at h1 h2; done))
        case int k => cases k <;> (simp [hue] at h1 h2; done)
theorem slE_spec {t : TypeId} {n : Nat} (h : slE P t = n + 1) : ∃ i, P.underlying t = some (.slice (slT P t)) ∧ P.info? (slT P t) = some i ∧ i.size = n := by
  unfold slE at h
  unfold slT
  cases hu : P.underlying t with
  | none => rw [hu] at h; simp at h
  | some d =>
    rw [hu] at h
    cases d <;> simp at h
    obtain ⟨i, hi, hin⟩ := szk_spec h
    exact ⟨i, rfl, hi, hin⟩
theorem slE_pos {t : TypeId} (h : Nat.blt 0 (slE P t) = true) : ∃ i, P.underlying t = some (.slice (slT P t)) ∧ P.info? (slT P t) = some i := by
  have := Nat.blt_eq.mp h
  obtain ⟨i, h1, h2, _⟩ := slE_spec (P := P) (t := t) (n := slE P t - 1) (by omega)
  exact ⟨i, h1, h2⟩
theorem beq_spec {a b : Nat} (h : Nat.beq a b = true) : a = b := Nat.eq_of_beq_eq_true h
theorem eqGuard_ok {op : BinOp} {t : TypeId} {x y : Operand} {a b : Value} {P : Program} {w : World} (h : eqGuard op t x y a b = pure ()) {r : Value} (hr : (binOp op t a b).run P w = .ok r w) :
    (do eqGuard op t x y a b; binOp op t a b : Sem Value).run P w = .ok r w := by
  rw [h]; simpa using hr
theorem binE_guard {op : BinOp} {r : Bool} {t : TypeId} {x y : Operand} {a b : Value} {K : V → Bool} (hk : binE op r K = true) (hg : eqGuard op t x y a b = pure ())
    (he : (Op.equal t a b).run P w = .ok r w)
    (hb : ∀ o, (o = .eql → binOp o t a b = do pure (.bool (← Op.equal t a b))) ∧ (o = .neq → binOp o t a b = do pure (.bool (!(← Op.equal t a b))))) :
    ∃ c q, K c = true ∧ VR ρ c q ∧ (do eqGuard op t x y a b; binOp op t a b : Sem Value).run P w = .ok q w := by
  obtain ⟨c, q, h1, h2, h3⟩ := binE_sound (ρ := ρ) (P := P) (w := w) hk he hb
  exact ⟨c, q, h1, h2, eqGuard_ok hg h3⟩
theorem eqAt {t : TypeId} {x y : Value} {r : Bool} (h : ∀ d, (Op.equalIn (d + 1) t x y).run P w = .ok r w) : (Op.equal t x y).run P w = .ok r w := h 9999
theorem isK_spec {x : Operand} (h : isK x = true) : ∃ v, x = .const v := by cases x <;> first | exact ⟨_, rfl⟩ | exact Bool.noConfusion h
theorem bs_eq_spec (a b : Bool) : bs_eq a b = (a == b) := by cases a <;> cases b <;> rfl
theorem ceqK_sound {t : TypeId} {x y : V} {vx vy : Value} {k : Bool → Bool} (hk : ceqK (tyk P t) x y k = true) (h1 : Nat.blt 0 (tyk P t) = true) (h2 : Nat.ble (tyk P t) 10 = true) (hx : VR ρ x vx) (hy : VR ρ y vy) :
    ∃ r, k r = true ∧ ∀ d, (Op.equalIn (d + 1) t vx vy).run P w = .ok r w := by
  have h1 := Nat.blt_eq.mp h1
  have h2 := Nat.le_of_ble_eq_true h2
  unfold ceqK at hk
  cases e1 : Nat.beq (tyk P t) 1 with
  | true =>
    rw [e1] at hk
    obtain ⟨a, b, rfl, rfl, hk3⟩ := seqV_spec (show seqV x y k = true from hk) hx hy
    refine ⟨_, hk3, fun d => ?_⟩
    simp only [Op.equalIn, Sem.run_bind, run_und ((tyk_cases t).1 (beq_spec e1)), Result.andThen_ok, Sem.run_pure]
    rw [beq_toListBytes]
    congr 2
    rw [ByteArray.toList_eq, ByteArray.toList_eq, Bool.eq_iff_iff]
    simp only [beq_iff_eq, decide_eq_true_eq]
    exact ba_ext
  | false =>
    rw [e1] at hk
    cases e2 : Nat.beq (tyk P t) 2 with
    | true =>
      rw [e2] at hk
      obtain ⟨a, rfl, hk2⟩ := vB_spec (show vB x (fun a => vB y fun b => k (bs_eq a b)) = true from hk)
      obtain ⟨b, rfl, hk3⟩ := vB_spec (v := y) hk2
      simp only [VR] at hx hy
      subst hx
      subst hy
      rw [bs_eq_spec] at hk3
      refine ⟨_, hk3, fun d => ?_⟩
      simp only [Op.equalIn, Sem.run_bind, run_und ((tyk_cases t).2.1 (beq_spec e2)), Result.andThen_ok, Sem.run_pure]
    | false =>
      rw [e2] at hk
      obtain ⟨k1, a, rfl, hk2⟩ := vI_spec (show vI x (fun k1 a => vI y fun k2 b => ite1 (keq k1 k2) <| k (ieq a b)) = true from hk)
      obtain ⟨k2, b, rfl, hk3⟩ := vI_spec (v := y) hk2
      obtain ⟨ek, hk4⟩ := ite1_spec hk3
      have ek := keq_eq ek
      subst ek
      simp only [VR] at hx hy
      subst hx
      subst hy
      have n1 := Nat.ne_of_beq_eq_false e1
      have n2 := Nat.ne_of_beq_eq_false e2
      obtain ⟨ik, hu⟩ := tyk_int (P := P) (t := t) (by omega) h2
      rw [ieq_eq] at hk4
      refine ⟨_, hk4, fun d => ?_⟩
      simp only [Op.equalIn, Sem.run_bind, run_und hu, Result.andThen_ok, if_true, Sem.run_pure]
      rfl
theorem plain_isAgg {t : TypeId} (h1 : Nat.blt 0 (tyk P t) = true) (h2 : Nat.ble (tyk P t) 10 = true) : (∀ w, (isAgg t).run P w = .ok false w) ∧ ∀ d, P.eqGuardType (d + 1) t = false := by
  have h1 := Nat.blt_eq.mp h1
  have h2 := Nat.le_of_ble_eq_true h2
  obtain ⟨d, hu, hd⟩ : ∃ d, P.underlying t = some d ∧ (d = .string ∨ d = .bool ∨ ∃ k, d = .int k) := by
    by_cases e1 : tyk P t = 1
    · exact ⟨_, (tyk_cases t).1 e1, .inl rfl⟩
    · by_cases e2 : tyk P t = 2
      · exact ⟨_, (tyk_cases t).2.1 e2, .inr (.inl rfl)⟩
      · obtain ⟨k, hk⟩ := tyk_int (P := P) (t := t) (by omega) h2
        exact ⟨_, hk, .inr (.inr ⟨k, rfl⟩)⟩
  refine ⟨fun w => ?_, fun d => ?_⟩
  · unfold isAgg
    simp only [Sem.run_bind, run_und hu, Result.andThen_ok]
    rcases hd with rfl | rfl | ⟨k, rfl⟩ <;> rfl
  · unfold Program.eqGuardType
    rw [hu]
    rcases hd with rfl | rfl | ⟨k, rfl⟩ <;> rfl
theorem eqK_sound (d : Nat) : ∀ (fs : List Field) (i : Nat) (l l' : V) (xs ys : List Value) (K : Bool → Bool), fdPlain P fs i = true → eqK (fs.map fun f => tyk P f.type) l l' K = true → VRs ρ l (xs.drop i) → VRs ρ l' (ys.drop i) →
    ∃ r, K r = true ∧ (Op.eqFields (d + 1) ⟨xs⟩ ⟨ys⟩ fs).run P w = .ok r w := by
  intro fs
  induction fs with
  | nil => intro i l l' xs ys K _ hk _ _; exact ⟨true, hk, by simp [Op.eqFields]⟩
  | cons f fs ih =>
    intro i l l' xs ys K hp hk hx hy
    unfold fdPlain at hp
    simp only [Bool.and_eq_true] at hp
    obtain ⟨⟨⟨p1, p2⟩, p3, p4⟩, p5⟩ := hp
    have p2 := beq_spec p2
    have hk2 : arg0 l (fun x r => arg0 l' fun y r' => ceqK (tyk P f.type) x y fun b => Bool.rec (K false) (eqK (fs.map fun f => tyk P f.type) r r' K) b) = true := hk
    obtain ⟨x, r, hl, hk3⟩ : ∃ x r, l = .cons x r ∧ arg0 l' (fun y r' => ceqK (tyk P f.type) x y fun b => Bool.rec (K false) (eqK (fs.map fun f => tyk P f.type) r r' K) b) = true := by
      cases l <;> first | exact ⟨_, _, rfl, hk2⟩ | exact Bool.noConfusion hk2
    obtain ⟨y, r', hl', hk4⟩ : ∃ y r', l' = .cons y r' ∧ ceqK (tyk P f.type) x y (fun b => Bool.rec (K false) (eqK (fs.map fun f => tyk P f.type) r r' K) b) = true := by
      cases l' <;> first | exact ⟨_, _, rfl, hk3⟩ | exact Bool.noConfusion hk3
    subst hl
    subst hl'
    simp only [VRs] at hx hy
    obtain ⟨vx, xr, ex, h1, h2⟩ := hx
    obtain ⟨vy, yr, ey, h3, h4⟩ := hy
    have gx : xs[i]? = some vx := by have := congrArg (fun l => l[0]?) ex; simpa using this
    have gy : ys[i]? = some vy := by have := congrArg (fun l => l[0]?) ey; simpa using this
    have dx : xs.drop (i + 1) = xr := by rw [← List.drop_drop, ex]; rfl
    have dy : ys.drop (i + 1) = yr := by rw [← List.drop_drop, ey]; rfl
    obtain ⟨b, hk5, heq⟩ := ceqK_sound (w := w) hk4 p3 p4 h1 h3
    have hname : f.name ≠ "_" := by simpa using p1
    have hag := (plain_isAgg p3 p4).1
    have px : (part f.type ⟨xs⟩ f.offset).run P w = .ok vx w := by
      unfold part
      simp only [Sem.run_bind, hag, Result.andThen_ok, Bool.false_eq_true, if_false, p2]
      simp [gx]
    have py : (part f.type ⟨ys⟩ f.offset).run P w = .ok vy w := by
      unfold part
      simp only [Sem.run_bind, hag, Result.andThen_ok, Bool.false_eq_true, if_false, p2]
      simp [gy]
    cases b with
    | false =>
      refine ⟨false, hk5, ?_⟩
      simp only [Op.eqFields, hname, ne_eq, not_false_eq_true, if_true, Sem.run_bind, px, Result.andThen_ok, py, heq, Bool.not_false, Sem.run_pure]
    | true =>
      obtain ⟨q, hq, hr⟩ := ih (i + 1) r r' xs ys K p5 hk5 (by rw [dx]; exact h2) (by rw [dy]; exact h4)
      refine ⟨q, hq, ?_⟩
      simp only [Op.eqFields, hname, ne_eq, not_false_eq_true, if_true, Sem.run_bind, px, Result.andThen_ok, py, heq, Bool.not_true, Bool.false_eq_true, if_false, hr]
theorem fdPlain_guard {P : Program} (d : Nat) : ∀ {fs : List Field} {i : Nat}, fdPlain P fs i = true → (fs.any fun f => f.name != "_" && P.eqGuardType (d + 1) f.type) = false := by
  intro fs
  induction fs with
  | nil => intro i _; rfl
  | cons f fs ih =>
    intro i hp
    unfold fdPlain at hp
    simp only [Bool.and_eq_true] at hp
    obtain ⟨⟨⟨p1, p2⟩, p3, p4⟩, p5⟩ := hp
    simp only [List.any_cons, (plain_isAgg p3 p4).2 d, Bool.and_false, Bool.false_or]
    exact ih p5
set_option maxHeartbeats 1000000 in
theorem binV0_sound {op : BinOp} {t : TypeId} {x y : Operand} {a b : V} {va vb : Value} {K : V → Bool} (hk : binV0 P op t x y a b K = true) (ha : VR ρ a va) (hb : VR ρ b vb) :
    ∃ c r, K c = true ∧ VR ρ c r ∧ (do eqGuard op t x y va vb; binOp op t va vb : Sem Value).run P w = .ok r w := by
  have two : ∀ {A B : Value}, (∀ o, (o = BinOp.eql → binOp o t A B = do pure (.bool (← Op.equal t A B))) ∧ (o = .neq → binOp o t A B = do pure (.bool (!(← Op.equal t A B))))) →
      ∀ {r : Bool}, binE op r K = true → eqGuard op t x y A B = pure () → (Op.equal t A B).run P w = .ok r w →
      ∃ c q, K c = true ∧ VR ρ c q ∧ (do eqGuard op t x y A B; binOp op t A B : Sem Value).run P w = .ok q w :=
    fun h r h1 h2 h3 => binE_guard h1 h2 h3 h
  cases a <;> first | exact Bool.noConfusion hk | skip
  case i k n =>
    cases b <;> first | exact Bool.noConfusion hk | skip
    case i k' n' =>
      simp only [VR] at ha hb
      subst ha; subst hb
      have hk1 : binIx op k n k' n' K (ite1 (keq k k') <| binI op k n n' K) = true := hk
      have key : (∃ c r, K c = true ∧ VR ρ c r ∧ (binOp op t (.int k n) (.int k' n')).run P w = .ok r w) := by
        by_cases hsh : op = .shl ∨ op = .shr
        · rcases hsh with rfl | rfl
          · exact shK_sound (show shK .shl k n n' K = true from hk1)
          · exact shK_sound (show shK .shr k n n' K = true from hk1)
        · have hk2 : ite1 (keq k k') (binI op k n n' K) = true := by cases op <;> first | exact hk1 | exact (hsh (by simp)).elim
          obtain ⟨e, hk3⟩ := ite1_spec hk2
          have e := keq_eq e
          subst e
          exact binI_sound hk3
      obtain ⟨c, r, h1, h2, h3⟩ := key
      exact ⟨c, r, h1, h2, eqGuard_ok (eqGuard_at_int ..) h3⟩
    case x a' k' lo hi =>
      cases n with
      | negSucc n => exact Bool.noConfusion hk
      | ofNat m =>
        obtain ⟨e, hk2⟩ := ite1_spec (show ite1 (keq k k') (binR op m m 0 lo hi (Nat.succ a') K) = true from hk)
        have e := keq_eq e
        subst e
        simp only [VR] at ha
        subst ha
        obtain ⟨n2, rfl, b2⟩ := VR_x hb
        obtain ⟨c, r, h1, h2, h3⟩ := binR_sound (P := P) (w := w) (kd := k) (t := t) hk2 (InR.lit ρ m) b2
        exact ⟨c, r, h1, h2, eqGuard_ok (eqGuard_at_int ..) h3⟩
  case s l =>
    cases b <;> first | exact Bool.noConfusion hk | skip
    case s l' =>
      simp only [VR] at ha hb
      obtain ⟨rfl, ha⟩ := ha
      obtain ⟨rfl, hb⟩ := hb
      obtain ⟨c, r, h1, h2, h3⟩ := binS_sound (P := P) (w := w) (ρ := ρ) (t := t) (show binS op l l' K = true from hk) ha hb
      exact ⟨c, r, h1, h2, eqGuard_ok (eqGuard_at_string ..) h3⟩
    case w l' =>
      simp only [VR] at ha hb
      obtain ⟨rfl, ha⟩ := ha
      obtain ⟨y, rfl, hb⟩ := hb
      obtain ⟨c, hk2, hc⟩ := chbK_bytes (show chbK l (fun c => binW op c l' K) = true from hk) ha
      obtain ⟨c, r, h1, h2, h3⟩ := binW_sound (P := P) (w := w) (ρ := ρ) (t := t) hk2 (hc ρ) hb
      exact ⟨c, r, h1, h2, eqGuard_ok (eqGuard_at_string ..) h3⟩
    case y l' a' lo hi =>
      cases l with
      | cons _ _ => exact Bool.noConfusion hk
      | nil =>
        obtain ⟨e, hk2⟩ := ite1_spec (show ite1 (Nat.blt 0 lo) (binE op false K) = true from hk)
        have e := Nat.blt_eq.mp e
        simp only [VR] at ha hb
        obtain ⟨rfl, _⟩ := ha
        obtain ⟨y, L, n, rfl, _, _, hlo, _⟩ := hb
        obtain ⟨c, r, h1, h2, h3⟩ := binE_str (P := P) (w := w) (ρ := ρ) (t := t) hk2 (ne_empty (b := y) (by omega)).1
        exact ⟨c, r, h1, h2, eqGuard_ok (eqGuard_at_string ..) h3⟩
  case x ax kx lo hi =>
    cases b <;> first | exact Bool.noConfusion hk | skip
    case i k' n' =>
      cases n' with
      | negSucc n => exact Bool.noConfusion hk
      | ofNat m =>
        obtain ⟨e, hk2⟩ := ite1_spec (show ite1 (keq kx k') (binR op lo hi (Nat.succ ax) m m 0 K) = true from hk)
        have e := keq_eq e
        subst e
        simp only [VR] at hb
        subst hb
        obtain ⟨n1, rfl, b1⟩ := VR_x ha
        obtain ⟨c, r, h1, h2, h3⟩ := binR_sound (P := P) (w := w) (kd := kx) (t := t) hk2 b1 (InR.lit ρ m)
        exact ⟨c, r, h1, h2, eqGuard_ok (eqGuard_at_int ..) h3⟩
    case x a' k' lo' hi' =>
      obtain ⟨e, hk2⟩ := ite1_spec (show ite1 (keq kx k') (binR op lo hi (Nat.succ ax) lo' hi' (Nat.succ a') K) = true from hk)
      have e := keq_eq e
      subst e
      obtain ⟨n1, rfl, b1⟩ := VR_x ha
      obtain ⟨n2, rfl, b2⟩ := VR_x hb
      obtain ⟨c, r, h1, h2, h3⟩ := binR_sound (P := P) (w := w) (kd := kx) (t := t) hk2 b1 b2
      exact ⟨c, r, h1, h2, eqGuard_ok (eqGuard_at_int ..) h3⟩
  case w lw =>
    cases b <;> first | exact Bool.noConfusion hk | skip
    case s l' =>
      simp only [VR] at ha hb
      obtain ⟨x, rfl, ha⟩ := ha
      obtain ⟨rfl, hb⟩ := hb
      obtain ⟨c, hk2, hc⟩ := chbK_bytes (show chbK l' (fun c => binW op lw c K) = true from hk) hb
      obtain ⟨c, r, h1, h2, h3⟩ := binW_sound (P := P) (w := w) (ρ := ρ) (t := t) hk2 ha (hc ρ)
      exact ⟨c, r, h1, h2, eqGuard_ok (eqGuard_at_string ..) h3⟩
    case w l' =>
      simp only [VR] at ha hb
      obtain ⟨x, rfl, ha⟩ := ha
      obtain ⟨y, rfl, hb⟩ := hb
      obtain ⟨c, r, h1, h2, h3⟩ := binW_sound (P := P) (w := w) (ρ := ρ) (t := t) (show binW op lw l' K = true from hk) ha hb
      exact ⟨c, r, h1, h2, eqGuard_ok (eqGuard_at_string ..) h3⟩
  case y ly ay lo hi =>
    cases b <;> first | exact Bool.noConfusion hk | skip
    case s l' =>
      cases l' with
      | cons _ _ => exact Bool.noConfusion hk
      | nil =>
        obtain ⟨e, hk2⟩ := ite1_spec (show ite1 (Nat.blt 0 lo) (binE op false K) = true from hk)
        have e := Nat.blt_eq.mp e
        simp only [VR] at ha hb
        obtain ⟨rfl, _⟩ := hb
        obtain ⟨y, L, n, rfl, _, _, hlo, _⟩ := ha
        obtain ⟨c, r, h1, h2, h3⟩ := binE_str (P := P) (w := w) (ρ := ρ) (t := t) hk2 (ne_empty (b := y) (by omega)).2
        exact ⟨c, r, h1, h2, eqGuard_ok (eqGuard_at_string ..) h3⟩
  case b q =>
    cases b <;> first | exact Bool.noConfusion hk | skip
    case b q' =>
      simp only [VR] at ha hb
      subst ha; subst hb
      obtain ⟨e, hk⟩ := ite1_spec (show ite1 (Nat.beq (tyk P t) 2) (binE op (Bool.rec (inot q') q' q) K) = true from hk)
      refine two (fun o => ⟨fun e => by subst e; rfl, fun e => by subst e; rfl⟩) hk (eqGuard_at_bool ..) ?_
      exact eqAt fun d => by
        simp only [Op.equalIn, Sem.run_bind, run_und ((tyk_cases t).2.1 (beq_spec e)), Result.andThen_ok]
        cases q <;> cases q' <;> rfl
  case pn =>
    simp only [VR] at ha
    subst ha
    cases b <;> first | exact Bool.noConfusion hk | skip
    case pn =>
      simp only [VR] at hb
      subst hb
      obtain ⟨e, hk⟩ := ite1_spec (show ite1 (Nat.beq (tyk P t) 25) (binE op true K) = true from hk)
      obtain ⟨el, hu⟩ := (tyk_cases t).2.2.2.2.1 (beq_spec e)
      refine two (fun o => ⟨fun e => by subst e; rfl, fun e => by subst e; rfl⟩) hk (eqGuard_at_pointer ..) ?_
      exact eqAt fun d => by
        simp only [Op.equalIn, Sem.run_bind, run_und hu, Result.andThen_ok]
        rfl
    case p id off =>
      simp only [VR] at hb
      obtain ⟨L, _, rfl⟩ := hb
      obtain ⟨e, hk⟩ := ite1_spec (show ite1 (Nat.beq (tyk P t) 25) (binE op false K) = true from hk)
      obtain ⟨el, hu⟩ := (tyk_cases t).2.2.2.2.1 (beq_spec e)
      refine two (fun o => ⟨fun e => by subst e; rfl, fun e => by subst e; rfl⟩) hk (eqGuard_at_pointer ..) ?_
      exact eqAt fun d => by
        simp only [Op.equalIn, Sem.run_bind, run_und hu, Result.andThen_ok]
        rfl
  case p id off =>
    simp only [VR] at ha
    obtain ⟨L, _, rfl⟩ := ha
    cases b <;> first | exact Bool.noConfusion hk | skip
    case pn =>
      simp only [VR] at hb
      subst hb
      obtain ⟨e, hk⟩ := ite1_spec (show ite1 (Nat.beq (tyk P t) 25) (binE op false K) = true from hk)
      obtain ⟨el, hu⟩ := (tyk_cases t).2.2.2.2.1 (beq_spec e)
      refine two (fun o => ⟨fun e => by subst e; rfl, fun e => by subst e; rfl⟩) hk (eqGuard_at_pointer ..) ?_
      exact eqAt fun d => by
        simp only [Op.equalIn, Sem.run_bind, run_und hu, Result.andThen_ok]
        rfl
    case p id' off' =>
      rename_i hLa
      obtain ⟨e, hk⟩ := ite1_spec (show ite1 (Nat.beq (tyk P t) 25) (ite1 (Nat.beq id id') <| ite1 (Nat.beq off off') <| ite1 (Nat.blt 0 (szk P (ptE P t))) <| binE op true K) = true from hk)
      obtain ⟨e1, hk1⟩ := ite1_spec hk
      obtain ⟨e2, hk2⟩ := ite1_spec hk1
      obtain ⟨e3, hk3⟩ := ite1_spec hk2
      have e1 := beq_spec e1
      have e2 := beq_spec e2
      subst e1
      subst e2
      simp only [VR] at hb
      obtain ⟨L', hLb, rfl⟩ := hb
      rw [hLa] at hLb
      cases hLb
      obtain ⟨el, hu⟩ := (tyk_cases t).2.2.2.2.1 (beq_spec e)
      have hel : ptE P t = el := by simp [ptE, hu]
      rw [hel] at e3
      obtain ⟨i, hi, _⟩ := szk_spec (P := P) (t := el) (n := szk P el - 1) (by have := Nat.blt_eq.mp e3; omega)
      refine two (fun o => ⟨fun e => by subst e; rfl, fun e => by subst e; rfl⟩) hk3 (eqGuard_at_pointer ..) ?_
      exact eqAt fun d => by
        simp [Op.equalIn, run_underlying hu, sizeOf, typeInfo, hi, run_sameAddr_same]
  case a l =>
    cases b <;> first | exact Bool.noConfusion hk | skip
    case a l' =>
      obtain ⟨e, hk⟩ := ite1_spec (show ite1 (stOk P t) (eqK (stKs P t) l l' fun r => binE op r K) = true from hk)
      simp only [VR] at ha hb
      obtain ⟨xs, ha, rfl⟩ := ha
      obtain ⟨ys, hb, rfl⟩ := hb
      unfold stOk at e
      split at e
      · rename_i fs hu
        simp only [Bool.and_eq_true, Bool.not_eq_true'] at e
        obtain ⟨e1, e2⟩ := e
        have hks : stKs P t = fs.toList.map fun f => tyk P f.type := by simp [stKs, hu]
        rw [hks] at hk
        have hfo : P.fieldsOf t = fs := by simp [Program.fieldsOf, hu]
        obtain ⟨r, hr, hrun⟩ := eqK_sound (w := w) 9998 fs.toList 0 l l' xs ys _ e2 hk (by simpa using ha) (by simpa using hb)
        have heq : (Op.equal t (.agg ⟨xs⟩) (.agg ⟨ys⟩)).run P w = .ok r w := by
          have := run_equalIn_agg (P := P) w 9999 t ⟨xs⟩ ⟨ys⟩ (by rw [hfo]; exact hu) e1
          rw [hfo, hrun] at this
          exact this
        obtain ⟨c, q, h1, h2, h3⟩ := binE_sound (ρ := ρ) (P := P) (w := w) hr heq (fun o => ⟨fun e => by subst e; rfl, fun e => by subst e; rfl⟩)
        have hg : P.eqGuardType P.depth t = false := by
          obtain ⟨d, hd⟩ : ∃ d, P.depth = d + 2 := ⟨_, rfl⟩
          rw [hd]
          have := fdPlain_guard d e2
          unfold Program.eqGuardType
          rw [hu]
          simpa [← Array.any_toList] using this
        refine ⟨c, q, h1, h2, ?_⟩
        simp only [Sem.run_bind, run_eqGuard_agg w op t x y ⟨xs⟩ ⟨ys⟩ hg, Result.andThen_ok, h3]
      · cases e
  case sn =>
    simp only [VR] at ha
    subst ha
    cases b <;> first | exact Bool.noConfusion hk | skip
    case sn =>
      simp only [VR] at hb
      subst hb
      obtain ⟨e, hk⟩ := ite1_spec (show ite1 (Nat.blt 0 (slE P t)) (binE op true K) = true from hk)
      obtain ⟨i, hu, _⟩ := slE_pos e
      refine two (fun o => ⟨fun e => by subst e; rfl, fun e => by subst e; rfl⟩) hk (eqGuard_at_slice ..) ?_
      exact eqAt fun d => by
        simp only [Op.equalIn, Sem.run_bind, run_und hu, Result.andThen_ok]
        rfl
    all_goals
      obtain ⟨e, hk⟩ := ite1_spec (show ite1 (Nat.blt 0 (slE P t)) (binE op false K) = true from hk)
      obtain ⟨i, hu, _⟩ := slE_pos e
      simp only [VR] at hb
      first
        | obtain ⟨L, c, _, _, _, rfl⟩ := hb
        | obtain ⟨A, c, rfl⟩ := hb
        | obtain ⟨A, rfl⟩ := hb
      refine two (fun o => ⟨fun e => by subst e; rfl, fun e => by subst e; rfl⟩) hk (eqGuard_at_slice ..) ?_
      exact eqAt fun d => by
        simp only [Op.equalIn, Sem.run_bind, run_und hu, Result.andThen_ok]
        rfl
  case mn =>
    simp only [VR] at ha
    subst ha
    cases b <;> first | exact Bool.noConfusion hk | skip
    case mn =>
      simp only [VR] at hb
      subst hb
      obtain ⟨e, hk⟩ := ite1_spec (show ite1 (Nat.beq (tyk P t) 22) (binE op true K) = true from hk)
      obtain ⟨_, _, hu⟩ := (tyk_cases t).2.2.1 (beq_spec e)
      refine two (fun o => ⟨fun e => by subst e; rfl, fun e => by subst e; rfl⟩) hk (eqGuard_at_map ..) ?_
      exact eqAt fun d => by
        simp only [Op.equalIn, Sem.run_bind, run_und hu, Result.andThen_ok]
        rfl
    case m id =>
      simp only [VR] at hb
      obtain ⟨L, _, rfl⟩ := hb
      obtain ⟨e, hk⟩ := ite1_spec (show ite1 (Nat.beq (tyk P t) 22) (binE op false K) = true from hk)
      obtain ⟨_, _, hu⟩ := (tyk_cases t).2.2.1 (beq_spec e)
      refine two (fun o => ⟨fun e => by subst e; rfl, fun e => by subst e; rfl⟩) hk (eqGuard_at_map ..) ?_
      exact eqAt fun d => by
        simp only [Op.equalIn, Sem.run_bind, run_und hu, Result.andThen_ok]
        rfl
  case m id =>
    simp only [VR] at ha
    obtain ⟨L, _, rfl⟩ := ha
    cases b <;> first | exact Bool.noConfusion hk | skip
    case mn =>
      simp only [VR] at hb
      subst hb
      obtain ⟨e, hk⟩ := ite1_spec (show ite1 (Nat.beq (tyk P t) 22) (binE op false K) = true from hk)
      obtain ⟨_, _, hu⟩ := (tyk_cases t).2.2.1 (beq_spec e)
      refine two (fun o => ⟨fun e => by subst e; rfl, fun e => by subst e; rfl⟩) hk (eqGuard_at_map ..) ?_
      exact eqAt fun d => by
        simp only [Op.equalIn, Sem.run_bind, run_und hu, Result.andThen_ok]
        rfl
  case fn =>
    simp only [VR] at ha
    subst ha
    cases b <;> first | exact Bool.noConfusion hk | skip
    case fn =>
      simp only [VR] at hb
      subst hb
      obtain ⟨e, hk⟩ := ite1_spec (show ite1 (Nat.beq (tyk P t) 26) (binE op true K) = true from hk)
      obtain ⟨_, _, _, hu⟩ := (tyk_cases t).2.2.2.2.2.1 (beq_spec e)
      refine two (fun o => ⟨fun e => by subst e; rfl, fun e => by subst e; rfl⟩) hk (eqGuard_at_nilFunc ..) ?_
      exact eqAt fun d => by
        simp only [Op.equalIn, Sem.run_bind, run_und hu, Result.andThen_ok]
        rfl
    case f g c =>
      simp only [VR] at hb
      obtain ⟨_, _, rfl⟩ := hb
      obtain ⟨e, hk⟩ := ite1_spec (show ite1 (Nat.beq (tyk P t) 26) (binE op false K) = true from hk)
      obtain ⟨_, _, _, hu⟩ := (tyk_cases t).2.2.2.2.2.1 (beq_spec e)
      refine two (fun o => ⟨fun e => by subst e; rfl, fun e => by subst e; rfl⟩) hk (eqGuard_at_nilFunc ..) ?_
      exact eqAt fun d => by
        simp only [Op.equalIn, Sem.run_bind, run_und hu, Result.andThen_ok]
        rfl
  case f g c =>
    simp only [VR] at ha
    obtain ⟨_, _, rfl⟩ := ha
    cases b <;> first | exact Bool.noConfusion hk | skip
    case fn =>
      simp only [VR] at hb
      subst hb
      obtain ⟨e, hk⟩ := ite1_spec (show ite1 (Nat.beq (tyk P t) 26) (binE op false K) = true from hk)
      obtain ⟨_, _, _, hu⟩ := (tyk_cases t).2.2.2.2.2.1 (beq_spec e)
      refine two (fun o => ⟨fun e => by subst e; rfl, fun e => by subst e; rfl⟩) hk (eqGuard_at_func ..) ?_
      exact eqAt fun d => by
        simp only [Op.equalIn, Sem.run_bind, run_und hu, Result.andThen_ok]
        rfl
  case en =>
    simp only [VR] at ha
    subst ha
    cases b <;> first | exact Bool.noConfusion hk | skip
    case en =>
      simp only [VR] at hb
      subst hb
      obtain ⟨e, hk⟩ := ite1_spec (show ite1 (Nat.beq (tyk P t) 23) (ite1 (ior (isK x) (isK y)) <| binE op true K) = true from hk)
      obtain ⟨e2, hk⟩ := ite1_spec hk
      obtain ⟨_, hu⟩ := (tyk_cases t).2.2.2.1 (beq_spec e)
      have hg : eqGuard op t x y .nilIface .nilIface = pure () := by
        rw [ior_eq, Bool.or_eq_true] at e2
        rcases e2 with e2 | e2
        · obtain ⟨c, rfl⟩ := isK_spec e2; exact eqGuard_nil_constL ..
        · obtain ⟨c, rfl⟩ := isK_spec e2; exact eqGuard_nil_constR ..
      refine two (fun o => ⟨fun e => by subst e; rfl, fun e => by subst e; rfl⟩) hk hg ?_
      exact eqAt fun d => by
        simp only [Op.equalIn, Sem.run_bind, run_und hu, Result.andThen_ok]
        rfl
    case e t' z =>
      simp only [VR] at hb
      obtain ⟨_, _, rfl⟩ := hb
      obtain ⟨e, hk⟩ := ite1_spec (show ite1 (Nat.beq (tyk P t) 23) (binE op false K) = true from hk)
      obtain ⟨_, hu⟩ := (tyk_cases t).2.2.2.1 (beq_spec e)
      refine two (fun o => ⟨fun e => by subst e; rfl, fun e => by subst e; rfl⟩) hk (eqGuard_nil_iface ..) ?_
      exact eqAt fun d => by
        simp only [Op.equalIn, Sem.run_bind, run_und hu, Result.andThen_ok]
        rfl
  case e t' z =>
    simp only [VR] at ha
    obtain ⟨_, _, rfl⟩ := ha
    cases b <;> first | exact Bool.noConfusion hk | skip
    case en =>
      simp only [VR] at hb
      subst hb
      obtain ⟨e, hk⟩ := ite1_spec (show ite1 (Nat.beq (tyk P t) 23) (binE op false K) = true from hk)
      obtain ⟨_, hu⟩ := (tyk_cases t).2.2.2.1 (beq_spec e)
      refine two (fun o => ⟨fun e => by subst e; rfl, fun e => by subst e; rfl⟩) hk (eqGuard_at_iface ..) ?_
      exact eqAt fun d => by
        simp only [Op.equalIn, Sem.run_bind, run_und hu, Result.andThen_ok]
        rfl
  all_goals
    simp only [VR] at ha
    first
      | obtain ⟨L, c, _, _, _, rfl⟩ := ha
      | obtain ⟨A, c, rfl⟩ := ha
      | obtain ⟨A, rfl⟩ := ha
    cases b <;> first | exact Bool.noConfusion hk | skip
    simp only [VR] at hb
    subst hb
    obtain ⟨e, hk⟩ := ite1_spec (show ite1 (Nat.blt 0 (slE P t)) (binE op false K) = true from hk)
    obtain ⟨i, hu, _⟩ := slE_pos e
    refine two (fun o => ⟨fun e => by subst e; rfl, fun e => by subst e; rfl⟩) hk (eqGuard_at_slice ..) ?_
    exact eqAt fun d => by
      simp only [Op.equalIn, Sem.run_bind, run_und hu, Result.andThen_ok]
      rfl
theorem tri3 {K : V → Bool} {U : V} {c1 c2 t f r : Bool} (hk : (Bool.rec (Bool.rec (K U) (K (.b f)) c2) (K (.b t)) c1 : Bool) = true) (hU : VR ρ U (.bool r)) (h1 : c1 = true → r = t) (h2 : c2 = true → r = f) : ∃ y, K y = true ∧ VR ρ y (.bool r) := by
  cases c1 with
  | true => exact ⟨_, hk, by rw [h1 rfl]; exact VRb _ _⟩
  | false =>
    cases c2 with
    | true => exact ⟨_, hk, by rw [h2 rfl]; exact VRb _ _⟩
    | false => exact ⟨_, hk, hU⟩
theorem zero_spec {lo hi : Int} (h : ite1 (ieq lo (Int.ofNat 0)) (ieq hi (Int.ofNat 0)) = true) : lo = 0 ∧ hi = 0 := by
  obtain ⟨h1, h2⟩ := ite1_spec h
  rw [ieq_eq] at h1 h2
  exact ⟨of_decide_eq_true h1, of_decide_eq_true h2⟩
theorem nz_spec {lo hi : Int} (h : ior (ilt (Int.ofNat 0) lo) (ilt hi (Int.ofNat 0)) = true) : 0 < lo ∨ hi < 0 := by
  rw [ior_eq, Bool.or_eq_true] at h
  exact h.imp ilt_spec ilt_spec
def cmpR (op : BinOp) (a b : Int) : Bool := match op with
  | .eql => decide (a = b)
  | .neq => !decide (a = b)
  | .lss => decide (a < b)
  | .leq => !decide (b < a)
  | .gtr => decide (b < a)
  | .geq => !decide (a < b)
  | _ => false
theorem cmpL_sound {op : BinOp} {k : IntKind} {t : TypeId} {a b lo hi : Int} {U : V} {K : V → Bool} (hk : cmpL op lo hi U K = true) (hU : VR ρ U (.bool (cmpR op a b))) (h1 : lo ≤ b - a) (h2 : b - a ≤ hi) :
    ∃ c r, K c = true ∧ VR ρ c r ∧ (binOp op t (.int k a) (.int k b)).run P w = .ok r w := by
  have z : Int.ofNat 0 = 0 := rfl
  cases op <;> first | exact Bool.noConfusion hk | skip
  case eql =>
    obtain ⟨y, g1, g2⟩ := tri3 (ρ := ρ) (r := decide (a = b)) (show (Bool.rec (Bool.rec (K U) (K (.b false)) (ior (ilt (Int.ofNat 0) lo) (ilt hi (Int.ofNat 0)))) (K (.b true)) (ite1 (ieq lo (Int.ofNat 0)) (ieq hi (Int.ofNat 0))) : Bool) = true from hk) hU
      (fun e => by have := zero_spec e; exact decide_eq_true (by omega)) (fun e => by have := nz_spec e; exact decide_eq_false (by omega))
    exact ⟨y, _, g1, g2, by simp [binOp, Op.intCmp] <;> rfl⟩
  case neq =>
    obtain ⟨y, g1, g2⟩ := tri3 (ρ := ρ) (r := !decide (a = b)) (show (Bool.rec (Bool.rec (K U) (K (.b true)) (ior (ilt (Int.ofNat 0) lo) (ilt hi (Int.ofNat 0)))) (K (.b false)) (ite1 (ieq lo (Int.ofNat 0)) (ieq hi (Int.ofNat 0))) : Bool) = true from hk) hU
      (fun e => by have := zero_spec e; rw [decide_eq_true (by omega)]; rfl) (fun e => by have := nz_spec e; rw [decide_eq_false (by omega)]; rfl)
    exact ⟨y, _, g1, g2, by simp [binOp, Op.intCmp] <;> rfl⟩
  case lss =>
    obtain ⟨y, g1, g2⟩ := tri3 (ρ := ρ) (r := decide (a < b)) (show (Bool.rec (Bool.rec (K U) (K (.b false)) (ile hi (Int.ofNat 0))) (K (.b true)) (ilt (Int.ofNat 0) lo) : Bool) = true from hk) hU
      (fun e => by have := ilt_spec e; exact decide_eq_true (by omega)) (fun e => by have := ile_spec e; exact decide_eq_false (by omega))
    exact ⟨y, _, g1, g2, by simp [binOp, Op.intCmp]⟩
  case leq =>
    obtain ⟨y, g1, g2⟩ := tri3 (ρ := ρ) (r := !decide (b < a)) (show (Bool.rec (Bool.rec (K U) (K (.b false)) (ilt hi (Int.ofNat 0))) (K (.b true)) (ile (Int.ofNat 0) lo) : Bool) = true from hk) hU
      (fun e => by have := ile_spec e; rw [decide_eq_false (by omega)]; rfl) (fun e => by have := ilt_spec e; rw [decide_eq_true (by omega)]; rfl)
    exact ⟨y, _, g1, g2, by simp [binOp, Op.intCmp]; rw [Bool.eq_iff_iff]; simp⟩
  case gtr =>
    obtain ⟨y, g1, g2⟩ := tri3 (ρ := ρ) (r := decide (b < a)) (show (Bool.rec (Bool.rec (K U) (K (.b false)) (ile (Int.ofNat 0) lo)) (K (.b true)) (ilt hi (Int.ofNat 0)) : Bool) = true from hk) hU
      (fun e => by have := ilt_spec e; exact decide_eq_true (by omega)) (fun e => by have := ile_spec e; exact decide_eq_false (by omega))
    exact ⟨y, _, g1, g2, by simp [binOp, Op.intCmp]⟩
  case geq =>
    obtain ⟨y, g1, g2⟩ := tri3 (ρ := ρ) (r := !decide (a < b)) (show (Bool.rec (Bool.rec (K U) (K (.b false)) (ilt (Int.ofNat 0) lo)) (K (.b true)) (ile hi (Int.ofNat 0)) : Bool) = true from hk) hU
      (fun e => by have := ile_spec e; rw [decide_eq_false (by omega)]; rfl) (fun e => by have := ilt_spec e; rw [decide_eq_true (by omega)]; rfl)
    exact ⟨y, _, g1, g2, by simp [binOp, Op.intCmp]; rw [Bool.eq_iff_iff]; simp⟩
theorem and255 : ∀ m : Nat, m < 256 → bitsI .and .i64 (m : Int) 255 = m := by decide +kernel
theorem and_run (k : IntKind) (t : TypeId) (a b : Int) : (binOp .and t (.int k a) (.int k b)).run P w = .ok (.int k (bitsI .and k a b)) w := by simp [binOp, Op.intBits, bitsI]
theorem linOp_sound {op : BinOp} {k1 : Nat} {l1 l2 : V} {n1 n2 : Int} {t : TypeId} {K : V → Bool} (hk : linOp op k1 l1 l2 K = true) (h1 : LR ρ l1 n1) (h2 : LR ρ l2 n2) :
    ∃ c r, K c = true ∧ VR ρ c r ∧ (binOp op t (.int (kOfN k1) n1) (.int (kOfN k1) n2)).run P w = .ok r w := by
  have cmp : ∀ {o : BinOp} {q : Nat}, (∀ a b : Int, tbOp q (b + Int.negSucc 0 * a) = cmpR o a b) → addLK (Int.negSucc 0) l1 l2 (fun d => rgK d fun lo hi => cmpL o lo hi (.o 5 d q 0 0) K) = true → ∃ c r, K c = true ∧ VR ρ c r ∧ (binOp o t (.int (kOfN k1) n1) (.int (kOfN k1) n2)).run P w = .ok r w := fun {o q} hq hk => by
    obtain ⟨d, hk2, _, hd⟩ := addLK_spec hk (LR_isC h2)
    obtain ⟨lo, hi, hk3, hr⟩ := rgK_spec hk2
    have := hr ρ _ (hd ρ _ _ h2 h1)
    have hv : VR ρ (.o 5 d q 0 0) (.bool (cmpR o n1 n2)) := by rw [← hq]; exact VR_cmp (hd ρ _ _ h2 h1)
    have e : Int.negSucc 0 * n1 = - n1 := by rw [show Int.negSucc 0 = -1 from rfl]; omega
    rw [e] at this
    exact cmpL_sound hk3 hv (by omega) (by omega)
  have ng : ∀ a : Int, Int.negSucc 0 * a = - a := fun a => by rw [show Int.negSucc 0 = -1 from rfl]; omega
  cases op <;> first | exact Bool.noConfusion hk | exact cmp (fun a b => by rw [ng, Bool.eq_iff_iff]; simp [tbOp, cmpR]; omega) hk | skip
  case add =>
    obtain ⟨d, hk2, _, hd⟩ := addLK_spec (show addLK (Int.ofNat 1) l2 l1 (fun l => mkW k1 l K) = true from hk) (LR_isC h1)
    obtain ⟨y, hk3, hy⟩ := mkW_spec hk2
    have e := hd ρ _ _ h1 h2
    rw [show Int.ofNat 1 * n2 = n2 from Int.one_mul _] at e
    refine ⟨y, _, hk3, hy ρ _ e, ?_⟩
    simp [binOp, Op.intArith]
  case sub =>
    obtain ⟨d, hk2, _, hd⟩ := addLK_spec (show addLK (Int.negSucc 0) l2 l1 (fun l => mkW k1 l K) = true from hk) (LR_isC h1)
    obtain ⟨y, hk3, hy⟩ := mkW_spec hk2
    have e := hd ρ _ _ h1 h2
    rw [show n1 + Int.negSucc 0 * n2 = n1 - n2 from by rw [show Int.negSucc 0 = -1 from rfl]; omega] at e
    refine ⟨y, _, hk3, hy ρ _ e, ?_⟩
    simp [binOp, Op.intArith]
  case mul =>
    rcases cstK_spec (show cstK l2 (fun c => addLK c l1 .nil fun l => mkR k1 l K) (cstK l1 (fun c => addLK c l2 .nil fun l => mkR k1 l K) false) = true from hk) with ⟨c, hk2, hc⟩ | hk2
    · obtain ⟨d, hk3, _, hd⟩ := addLK_spec hk2 (show isC .nil from trivial)
      obtain ⟨y, hk4, hy⟩ := mkR_spec hk3
      have e := hd ρ 0 _ (by simp [LR]) h1
      rw [Int.zero_add, ← hc ρ _ h2, Int.mul_comm] at e
      obtain ⟨q1, q2⟩ := hy ρ _ e
      refine ⟨y, _, hk4, q1, ?_⟩
      rw [← q2]
      simp [binOp, Op.intArith]
    · rcases cstK_spec hk2 with ⟨c, hk2, hc⟩ | hk2
      · obtain ⟨d, hk3, _, hd⟩ := addLK_spec hk2 (show isC .nil from trivial)
        obtain ⟨y, hk4, hy⟩ := mkR_spec hk3
        have e := hd ρ 0 _ (by simp [LR]) h2
        rw [Int.zero_add, ← hc ρ _ h1] at e
        obtain ⟨q1, q2⟩ := hy ρ _ e
        refine ⟨y, _, hk4, q1, ?_⟩
        rw [← q2]
        simp [binOp, Op.intArith]
      · exact Bool.noConfusion hk2
  case and =>
    rcases cstK_spec (show cstK l2 (fun c => ite1 (Nat.beq k1 3) <| ite1 (ieq c (Int.ofNat 255)) <| rgK l1 fun lo hi => ite1 (ile (Int.ofNat 0) lo) <| ite1 (ile hi (Int.ofNat 255)) <| mkI k1 l1 K) false = true from hk) with ⟨c, hk2, hc⟩ | hk2
    · obtain ⟨e0, hk3⟩ := ite1_spec hk2
      have e0 := Nat.eq_of_beq_eq_true e0
      obtain ⟨e1, hk4⟩ := ite1_spec hk3
      rw [ieq_eq] at e1
      have e1 : c = 255 := by simpa using e1
      obtain ⟨lo, hi, hk5, hr⟩ := rgK_spec hk4
      obtain ⟨e2, hk6⟩ := ite1_spec hk5
      obtain ⟨e3, hk7⟩ := ite1_spec hk6
      have e2 := ile_spec e2
      have e3 := ile_spec e3
      obtain ⟨y, hk8, hy⟩ := mkI_spec hk7
      have g := hr ρ n1 h1
      have z0 : Int.ofNat 0 = 0 := rfl
      have z1 : Int.ofNat 255 = 255 := rfl
      obtain ⟨m, rfl⟩ := Int.eq_ofNat_of_zero_le (show 0 ≤ n1 by omega)
      have e4 := hc ρ n2 h2
      subst e4
      subst e1
      subst e0
      refine ⟨y, .int (kOfN 3) (m : Int), hk8, hy ρ _ h1, ?_⟩
      have e5 := and255 m (by omega)
      have e6 : (binOp .and t (.int (kOfN 3) (m : Int)) (.int (kOfN 3) 255)).run P w = .ok (.int .i64 (bitsI .and .i64 (m : Int) 255)) w := and_run .i64 t _ _
      rw [e6, e5]
      rfl
    · exact Bool.noConfusion hk2
theorem ba_list_eq (x y : ByteArray) : (x.toList == y.toList) = decide (x.data.toList = y.data.toList) := by
  rw [ByteArray.toList_eq, ByteArray.toList_eq, Bool.eq_iff_iff]
  simp
theorem binT_sound {op : BinOp} {a b : V} {t : TypeId} {va vb : Value} {K : V → Bool} (hk : binT op a b K = true) (ha : VR ρ a va) (hb : VR ρ b vb) :
    ∃ x y, va = .string x ∧ vb = .string y ∧ ∃ c r, K c = true ∧ VR ρ c r ∧ (binOp op t va vb).run P w = .ok r w := by
  obtain ⟨ra, hk2, hra⟩ := ropK_spec hk
  obtain ⟨rb, hk3, hrb⟩ := ropK_spec hk2
  obtain ⟨x, rfl, hx⟩ := hra ρ _ ha
  obtain ⟨y, rfl, hy⟩ := hrb ρ _ hb
  refine ⟨x, y, rfl, rfl, ?_⟩
  cases op <;> first | exact Bool.noConfusion hk3 | skip
  case add =>
    obtain ⟨c, hk4, hc⟩ := catK_RR (show catK ra rb (fun c => atMost c 4611686018427387904 fun _ => K (.o 0 c 0 0 0)) = true from hk3) (RR_isC hx)
    obtain ⟨l, hk5, hl⟩ := atMost_spec hk4
    have hcat := hc ρ _ _ hx hy
    have hlen := (hl ρ _ hcat).2
    rw [List.length_append] at hlen
    refine ⟨_, .string (x ++ y), hk5, VR_rope (by simpa [ByteArray.data_append] using hcat), ?_⟩
    have e1 : x.size = x.data.toList.length := rfl
    have e2 : y.size = y.data.toList.length := rfl
    have : ¬ ((x.size + y.size : Nat) : Int) > IntKind.i64.max := by rw [IntKind.max_i64]; omega
    simp only [binOp, Op.stringOp, this, if_false, Sem.run_pure]
  case eql =>
    obtain ⟨c, h1, h2⟩ := eqR_spec (show eqR ra rb K = true from hk3) hx hy
    rw [← ba_list_eq] at h2
    exact ⟨c, _, h1, h2, by simp [binOp, Op.stringOp]⟩
  case neq =>
    obtain ⟨c, h1, h2⟩ := eqR_spec (show eqR ra rb (fun v => notV v K) = true from hk3) hx hy
    rw [← ba_list_eq] at h2
    obtain ⟨z, b, g1, g2, g3⟩ := notV_spec h1 h2
    cases g3
    exact ⟨z, _, g1, g2, by simp [binOp, Op.stringOp]⟩
theorem isO3_spec {v : V} {x : Value} (hk : isO3 v = true) (hx : VR ρ v x) : ∃ A n cap, x = .slice (some A) n cap := by
  cases v <;> first | exact Bool.noConfusion hk | skip
  case o t l a lo hi =>
    have e := beq_spec (show Nat.beq t 3 = true from hk)
    replace hx := VR_OV hx (by omega)
    simp only [OV] at hx
    rcases hx with ⟨h1, _⟩ | ⟨h1, _⟩ | ⟨_, L, n, cap, _, _, _, _, h2⟩ | ⟨h1, _⟩
    · omega
    · omega
    · exact ⟨_, _, _, h2⟩
    · omega
theorem isSn_spec {v : V} (hk : isSn v = true) : v = .sn := by cases v <;> first | rfl | exact Bool.noConfusion hk
theorem binO_sound {op : BinOp} {t : TypeId} {x y : Operand} {a b : V} {va vb : Value} {K : V → Bool} (hk : binO P op t a b K = true) (ha : VR ρ a va) (hb : VR ρ b vb) :
    ∃ c r, K c = true ∧ VR ρ c r ∧ (do eqGuard op t x y va vb; binOp op t va vb : Sem Value).run P w = .ok r w := by
  unfold binO at hk
  cases e0 : ite1 (truC a) (sameV a b) with
  | true =>
    rw [e0] at hk
    obtain ⟨q1, q2⟩ := ite1_spec e0
    have q2 := sameV_eq q2
    subst q2
    obtain ⟨z, rfl, rfl⟩ := truC_spec q1 ha hb
    obtain ⟨e, hk2⟩ := ite1_spec (show ite1 (Nat.beq (tyk P t) 2) (binE op true K) = true from hk)
    refine binE_guard hk2 (eqGuard_at_bool ..) (eqAt fun d => ?_) (fun o => ⟨fun e => by subst e; rfl, fun e => by subst e; rfl⟩)
    simp only [Op.equalIn, Sem.run_bind, run_und ((tyk_cases t).2.1 (beq_spec e)), Result.andThen_ok]
    cases z <;> rfl
  | false =>
  rw [e0] at hk
  replace hk : (Bool.rec (Bool.rec (binL op a b K) (binT op a b K) (ior (isTx a) (isTx b))) (ite1 (Nat.blt 0 (slE P t)) <| binE op false K) (ior (ite1 (isO3 a) (isSn b)) (ite1 (isSn a) (isO3 b))) : Bool) = true := hk
  cases e : ior (ite1 (isO3 a) (isSn b)) (ite1 (isSn a) (isO3 b)) with
  | true =>
    rw [e] at hk
    obtain ⟨e1, hk2⟩ := ite1_spec (show ite1 (Nat.blt 0 (slE P t)) (binE op false K) = true from hk)
    obtain ⟨i, hu, _⟩ := slE_pos e1
    rw [ior_eq, Bool.or_eq_true] at e
    rcases e with e | e
    · obtain ⟨q1, q2⟩ := ite1_spec e
      obtain ⟨A, n, cap, rfl⟩ := isO3_spec q1 ha
      have q2 := isSn_spec q2
      subst q2
      simp only [VR] at hb
      subst hb
      refine binE_guard hk2 (eqGuard_at_slice ..) (eqAt fun d => ?_) (fun o => ⟨fun e => by subst e; rfl, fun e => by subst e; rfl⟩)
      simp only [Op.equalIn, Sem.run_bind, run_und hu, Result.andThen_ok]
      rfl
    · obtain ⟨q2, q1⟩ := ite1_spec e
      obtain ⟨A, n, cap, rfl⟩ := isO3_spec q1 hb
      have q2 := isSn_spec q2
      subst q2
      simp only [VR] at ha
      subst ha
      refine binE_guard hk2 (eqGuard_at_slice ..) (eqAt fun d => ?_) (fun o => ⟨fun e => by subst e; rfl, fun e => by subst e; rfl⟩)
      simp only [Op.equalIn, Sem.run_bind, run_und hu, Result.andThen_ok]
      rfl
  | false =>
    rw [e] at hk
    cases e2 : ior (isTx a) (isTx b) with
    | true =>
      rw [e2] at hk
      obtain ⟨sx, sy, rfl, rfl, c, r, h1, h2, h3⟩ := binT_sound (P := P) (w := w) (t := t) hk ha hb
      exact ⟨c, r, h1, h2, eqGuard_ok (eqGuard_at_string ..) h3⟩
    | false =>
      rw [e2] at hk
      obtain ⟨k1, l1, hk2, hl1⟩ := linK_spec hk
      obtain ⟨k2, l2, hk3, hl2⟩ := linK_spec hk2
      obtain ⟨e3, hk4⟩ := ite1_spec hk3
      have e3 := beq_spec e3
      subst e3
      obtain ⟨n1, g1, rfl⟩ := hl1 ρ _ ha
      obtain ⟨n2, g2, rfl⟩ := hl2 ρ _ hb
      obtain ⟨c, r, h1, h2, h3⟩ := linOp_sound (P := P) (w := w) (t := t) hk4 g1 g2
      exact ⟨c, r, h1, h2, eqGuard_ok (eqGuard_at_int ..) h3⟩
theorem binV_sound {op : BinOp} {t : TypeId} {x y : Operand} {a b : V} {va vb : Value} {K : V → Bool} (hk : binV P op t x y a b K = true) (ha : VR ρ a va) (hb : VR ρ b vb) :
    ∃ c r, K c = true ∧ VR ρ c r ∧ (do eqGuard op t x y va vb; binOp op t va vb : Sem Value).run P w = .ok r w := by
  unfold binV at hk
  cases e : ior (ior (isO a) (isO b)) (ite1 (arithOp op) (ior (isXx a) (isXx b))) with
  | false => rw [e] at hk; exact binV0_sound hk ha hb
  | true => rw [e] at hk; exact binO_sound hk ha hb
end
end Go.Mx
