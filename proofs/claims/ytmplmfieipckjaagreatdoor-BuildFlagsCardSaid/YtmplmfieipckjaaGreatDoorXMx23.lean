/-
  A part of a small executor of the model, proved sound (Mx23 of 46). No condition.
-/
import Derived.Test.YtmplmfieipckjaaGreatDoorXMx22
namespace Go.Mx
noncomputable section
variable {P : Program} {ng : Nat}
theorem tb_eq (m i : Nat) : tb m i = m.testBit i := by
  have h : tb m i = decide (m / 2 ^ i % 2 = 1) := by
    show Nat.beq ((m >>> i) &&& 1) 1 = _
    rw [Nat.shiftRight_eq_div_pow, Nat.and_one_is_mod]
    cases e : Nat.beq (m / 2 ^ i % 2) 1 with
    | true => have := Nat.eq_of_beq_eq_true e; simp [this]
    | false => have := Nat.ne_of_beq_eq_false e; simp [this]
  rw [h, Nat.testBit_eq_decide_div_mod_eq]
theorem bit_test (i j : Nat) : (bit i).testBit j = decide (i = j) := by
  show (1 <<< i).testBit j = _
  rw [Nat.one_shiftLeft, Nat.testBit_two_pow]
theorem bit_self (i : Nat) : (bit i).testBit i = true := by rw [bit_test]; simp
theorem lor_test (a b i : Nat) : (Nat.lor a b).testBit i = (a.testBit i || b.testBit i) := Nat.testBit_or a b i
theorem land_test (a b i : Nat) : (Nat.land a b).testBit i = (a.testBit i && b.testBit i) := Nat.testBit_and a b i
theorem bindB_eq (e : Edge) : bindB e = Region.binds .any e := by
  obtain ⟨on, g⟩ := e
  cases g <;> rfl
theorem lookM_of {l : List Operand} {m t : Nat} (h : Operand.tmp t ∈ l ∨ m.testBit t = true) : (lookM l m).testBit t = true := by
  induction l with
  | nil => rcases h with h | h
           · simp at h
           · exact h
  | cons x l ih =>
    have e : lookM (x :: l) m = Operand.rec (motive := fun _ => Nat) (fun t => Nat.lor (bit t) (lookM l m)) (fun _ => lookM l m) (fun _ => lookM l m) (fun _ => lookM l m) x := rfl
    rw [e]
    by_cases hx : x = .tmp t
    · subst hx
      show (Nat.lor (bit t) (lookM l m)).testBit t = true
      rw [lor_test, bit_self]; rfl
    · have h' : (lookM l m).testBit t = true := ih (by
        rcases h with h | h
        · rcases List.mem_cons.1 h with h | h
          · exact absurd h.symm hx
          · exact .inl h
        · exact .inr h)
      cases x with
      | tmp u =>
        show (Nat.lor (bit u) (lookM l m)).testBit t = true
        rw [lor_test, h']; simp
      | _ => exact h'
theorem dstM_of {d : Option Nat} {t : Nat} : (dstM d).testBit t = true ↔ d = some t := by
  cases d with
  | none => simp [dstM]
  | some u => show (bit u).testBit t = true ↔ _; rw [bit_test]; simp
theorem guardM_of {ops : Array Oper} {g : Option (Nat × Bool)} {t : Nat} (h : guardT ops g = some t) : (guardM ops g).testBit t = true := by
  cases g with
  | none => simp [guardT] at h
  | some p => exact dstM_of.2 (by simpa [guardT] using h)
def looksT (ops : Array Oper) (o : Oper) (t : Nat) : Prop := .tmp t ∈ opnds o.op ∨ guardT ops o.guard = some t
theorem predsIn_spec {dn i : Nat} {l : List Edge} (h : predsIn dn i l = true) : ∀ e ∈ l, bindB e = true → dn.testBit e.on = true ∧ e.on < i := by
  induction l with
  | nil => simp
  | cons e l ih =>
    have h' : (Bool.rec (predsIn dn i l) (ite1 (tb dn e.on) <| ite1 (Nat.blt e.on i) (predsIn dn i l)) (bindB e) : Bool) = true := h
    intro e' he' hb
    cases hbe : bindB e with
    | false =>
      rw [hbe] at h'
      rcases List.mem_cons.1 he' with rfl | he'
      · rw [hbe] at hb; cases hb
      · exact ih h' e' he' hb
    | true =>
      rw [hbe] at h'
      obtain ⟨h1, h2⟩ := ite1_spec h'
      obtain ⟨h3, h4⟩ := ite1_spec h2
      rcases List.mem_cons.1 he' with rfl | he'
      · rw [tb_eq] at h1; exact ⟨h1, Nat.blt_eq.mp h3⟩
      · exact ih h4 e' he' hb
theorem lacks_spec {dn : Nat} {l : List Edge} (h : lacks dn l = true) : ∃ e ∈ l, bindB e = true ∧ dn.testBit e.on = false := by
  induction l with
  | nil => exact Bool.noConfusion h
  | cons e l ih =>
    have h' : (Bool.rec (lacks dn l) (Bool.rec true (lacks dn l) (tb dn e.on)) (bindB e) : Bool) = true := h
    have go : lacks dn l = true → ∃ e' ∈ e :: l, bindB e' = true ∧ dn.testBit e'.on = false := fun h => by
      obtain ⟨e', h1, h2⟩ := ih h
      exact ⟨e', List.mem_cons_of_mem _ h1, h2⟩
    cases hbe : bindB e with
    | false => rw [hbe] at h'; exact go h'
    | true =>
      rw [hbe] at h'
      cases ht : tb dn e.on with
      | false => rw [tb_eq] at ht; exact ⟨e, List.mem_cons_self .., hbe, ht⟩
      | true => rw [ht] at h'; exact go h'
theorem predM_spec {mt : T Nat} {l : List Edge} {j : Nat} (h : (predM mt l).testBit j = true) : ∃ e ∈ l, bindB e = true ∧ (j = e.on ∨ (gt 0 e.on mt).testBit j = true) := by
  induction l with
  | nil => simp [predM] at h
  | cons e l ih =>
    have h' : (Bool.rec (predM mt l) (Nat.lor (Nat.lor (gt 0 e.on mt) (bit e.on)) (predM mt l)) (bindB e) : Nat).testBit j = true := h
    have go : (predM mt l).testBit j = true → ∃ e' ∈ e :: l, bindB e' = true ∧ (j = e'.on ∨ (gt 0 e'.on mt).testBit j = true) := fun h => by
      obtain ⟨e', h1, h2⟩ := ih h
      exact ⟨e', List.mem_cons_of_mem _ h1, h2⟩
    cases hbe : bindB e with
    | false => rw [hbe] at h'; exact go h'
    | true =>
      rw [hbe] at h'
      simp only [lor_test, Bool.or_eq_true, bit_test, decide_eq_true_eq] at h'
      rcases h' with (h1 | h1) | h1
      · exact ⟨e, List.mem_cons_self .., hbe, .inr h1⟩
      · exact ⟨e, List.mem_cons_self .., hbe, .inl h1.symm⟩
      · exact go h1
theorem predD_spec {dt : T Nat} {l : List Edge} {t : Nat} (h : (predD dt l).testBit t = true) : ∃ e ∈ l, bindB e = true ∧ (gt 0 e.on dt).testBit t = true := by
  induction l with
  | nil => simp [predD] at h
  | cons e l ih =>
    have h' : (Bool.rec (predD dt l) (Nat.lor (gt 0 e.on dt) (predD dt l)) (bindB e) : Nat).testBit t = true := h
    have go : (predD dt l).testBit t = true → ∃ e' ∈ e :: l, bindB e' = true ∧ (gt 0 e'.on dt).testBit t = true := fun h => by
      obtain ⟨e', h1, h2⟩ := ih h
      exact ⟨e', List.mem_cons_of_mem _ h1, h2⟩
    cases hbe : bindB e with
    | false => rw [hbe] at h'; exact go h'
    | true =>
      rw [hbe] at h'
      simp only [lor_test, Bool.or_eq_true] at h'
      rcases h' with h1 | h1
      · exact ⟨e, List.mem_cons_self .., hbe, h1⟩
      · exact go h1
structure Added (ops : Array Oper) (war : Bool) (i : Nat) (o : Oper) (d d' : DS) : Prop where
  new : d.dn.testBit i = false
  pr : ∀ e ∈ o.after.toList, bindB e = true → d.dn.testBit e.on = true ∧ e.on < i
  own : ∀ t, o.dst = some t → ¬ looksT ops o t ∧ d.dd.testBit t = false
  dep : ∀ t, looksT ops o t → d.dd.testBit t = true → ∃ e ∈ o.after.toList, bindB e = true ∧ (gt 0 e.on d.dt).testBit t = true
  war : (∀ t, o.dst = some t → d.dl.testBit t = false) ∨ (war = true ∧ ∀ j, d.dn.testBit j = true → (gt 0 i d'.mt).testBit j = true)
  dn : ∀ j, d'.dn.testBit j = true ↔ d.dn.testBit j = true ∨ j = i
  dl : ∀ t, d.dl.testBit t = true ∨ looksT ops o t → d'.dl.testBit t = true
  dd : ∀ t, d.dd.testBit t = true ∨ o.dst = some t → d'.dd.testBit t = true
  mt : ∀ j, (gt 0 i d'.mt).testBit j = true → ∃ e ∈ o.after.toList, bindB e = true ∧ (j = e.on ∨ (gt 0 e.on d.mt).testBit j = true)
  mt' : ∀ k, k ≠ i → gt 0 k d'.mt = gt 0 k d.mt
  dt : ∀ t, (gt 0 i d'.dt).testBit t = true → o.dst = some t
  dt' : ∀ k, k ≠ i → gt 0 k d'.dt = gt 0 k d.dt
theorem addK_spec {ops : Array Oper} {war : Bool} {i : Nat} {o : Oper} {d : DS} {k : DS → Bool} (h : addK ops war i o d k = true) : ∃ d', k d' = true ∧ Added ops war i o d d' := by
  obtain ⟨dst, op, ty, pos, after, guard⟩ := o
  obtain ⟨dn, dl, dd, mt, dt⟩ := d
  simp only [addK, forceN_eq, stK_eq] at h
  obtain ⟨h1, h⟩ := ite1_spec h
  obtain ⟨h2, h⟩ := ite1_spec h
  obtain ⟨h3, h⟩ := ite1_spec h
  obtain ⟨h4, h⟩ := ite1_spec h
  obtain ⟨h5, h⟩ := ite1_spec h
  have h3 := beq_spec h3
  have h4 := beq_spec h4
  have hl : ∀ t, looksT ops ⟨dst, op, ty, pos, after, guard⟩ t → (lookM (opnds op) (guardM ops guard)).testBit t = true := fun t ht => by
    rcases ht with ht | ht
    · exact lookM_of (.inl ht)
    · exact lookM_of (.inr (guardM_of ht))
  refine ⟨_, h, ?_, predsIn_spec h2, ?_, ?_, ?_, ?_, ?_, ?_, ?_, ?_, ?_, ?_⟩
  · show dn.testBit i = false
    rw [← tb_eq]
    cases e : tb dn i with
    | false => rfl
    | true => rw [e] at h1; exact Bool.noConfusion h1
  · intro t ht
    have hb := congrArg (fun n => Nat.testBit n t) h3
    simp only [land_test, lor_test, dstM_of.2 ht, Bool.true_and, Nat.zero_testBit, Bool.or_eq_false_iff] at hb
    refine ⟨fun hl' => ?_, hb.2⟩
    rw [hl t hl'] at hb
    exact Bool.noConfusion hb.1
  · intro t ht hd
    have hb := congrArg (fun n => Nat.testBit n t) h4
    simp only [land_test, hl t ht, Bool.true_and] at hb
    have hd : dd.testBit t = true := hd
    rw [hd] at hb
    simp only [Bool.true_and] at hb
    exact predD_spec hb
  · cases e : Nat.beq (Nat.land (dstM dst) dl) 0 with
    | true =>
      refine .inl fun t ht => ?_
      have hb := congrArg (fun n => Nat.testBit n t) (beq_spec e)
      simp only [land_test, dstM_of.2 ht, Bool.true_and, Nat.zero_testBit] at hb
      exact hb
    | false =>
      rw [e] at h5
      obtain ⟨h6, h7⟩ := ite1_spec h5
      refine .inr ⟨h6, fun j hj => ?_⟩
      have hb := congrArg (fun n => Nat.testBit n j) (beq_spec h7)
      have hj : dn.testBit j = true := hj
      simp only [land_test, hj, Bool.true_and] at hb
      show (gt 0 i (st 0 _ i mt)).testBit j = true
      rw [gt_st_same]
      exact hb
  · intro j
    show (Nat.lor dn (bit i)).testBit j = true ↔ _
    rw [lor_test, bit_test]
    simp only [Bool.or_eq_true, decide_eq_true_eq]
    exact ⟨fun h => h.imp id Eq.symm, fun h => h.imp id Eq.symm⟩
  · intro t ht
    show (Nat.lor dl _).testBit t = true
    rw [lor_test]
    rcases ht with ht | ht
    · have ht : dl.testBit t = true := ht
      rw [ht]; rfl
    · rw [hl t ht]; simp
  · intro t ht
    show (Nat.lor dd _).testBit t = true
    rw [lor_test]
    rcases ht with ht | ht
    · have ht : dd.testBit t = true := ht
      rw [ht]; rfl
    · rw [dstM_of.2 ht]; simp
  · intro j hj
    have hj : (gt 0 i (st 0 (predM mt after.toList) i mt)).testBit j = true := hj
    rw [gt_st_same] at hj
    exact predM_spec hj
  · intro k hk
    exact gt_st_ne _ _ (Ne.symm hk) _
  · intro t ht
    have ht : (gt 0 i (st 0 (dstM dst) i dt)).testBit t = true := ht
    rw [gt_st_same] at ht
    exact dstM_of.1 ht
  · intro k hk
    exact gt_st_ne _ _ (Ne.symm hk) _
theorem sameV_eq : ∀ {x y : V}, sameV x y = true → x = y := by
  intro x
  induction x with
  | nil => intro y h; cases y <;> first | rfl | exact Bool.noConfusion h
  | cons a l iha ihl =>
    intro y h
    cases y <;> first | exact Bool.noConfusion h | skip
    case cons b m =>
      obtain ⟨h1, h2⟩ := ite1_spec (show ite1 (sameV a b) (sameV l m) = true from h)
      rw [iha h1, ihl h2]
  | b a =>
    intro y h
    cases y <;> first | exact Bool.noConfusion h | skip
    case b c =>
      have h : bs_eq a c = true := h
      cases a <;> cases c <;> first | rfl | exact Bool.noConfusion h
  | i k n =>
    intro y h
    cases y <;> first | exact Bool.noConfusion h | skip
    case i k' n' =>
      obtain ⟨h1, h2⟩ := ite1_spec (show ite1 (keq k k') (ieq n n') = true from h)
      rw [ieq_eq] at h2
      rw [keq_eq h1, of_decide_eq_true h2]
  | s l =>
    intro y h
    cases y <;> first | exact Bool.noConfusion h | skip
    case s m =>
      have h : seq l m = true := h
      rw [seq_eq] at h
      rw [of_decide_eq_true h]
  | p id off =>
    intro y h
    cases y <;> first | exact Bool.noConfusion h | skip
    case p a b =>
      obtain ⟨h1, h2⟩ := ite1_spec (show ite1 (Nat.beq id a) (Nat.beq off b) = true from h)
      rw [beq_spec h1, beq_spec h2]
  | sl id off len sz =>
    intro y h
    cases y <;> first | exact Bool.noConfusion h | skip
    case sl a b c e =>
      obtain ⟨h1, h⟩ := ite1_spec (show ite1 (Nat.beq id a) (ite1 (Nat.beq off b) (ite1 (Nat.beq len c) (Nat.beq sz e))) = true from h)
      obtain ⟨h2, h⟩ := ite1_spec h
      obtain ⟨h3, h⟩ := ite1_spec h
      rw [beq_spec h1, beq_spec h2, beq_spec h3, beq_spec h]
  | m id =>
    intro y h
    cases y <;> first | exact Bool.noConfusion h | skip
    case m a => have h : Nat.beq id a = true := h; rw [beq_spec h]
  | f g c ih =>
    intro y h
    cases y <;> first | exact Bool.noConfusion h | skip
    case f a b =>
      obtain ⟨h1, h2⟩ := ite1_spec (show ite1 (Nat.beq g a) (sameV c b) = true from h)
      rw [beq_spec h1, ih h2]
  | e t x ih =>
    intro y h
    cases y <;> first | exact Bool.noConfusion h | skip
    case e a b =>
      obtain ⟨h1, h2⟩ := ite1_spec (show ite1 (Nat.beq t a) (sameV x b) = true from h)
      rw [beq_spec h1, ih h2]
  | a l ih =>
    intro y h
    cases y <;> first | exact Bool.noConfusion h | skip
    case a b => have h : sameV l b = true := h; rw [ih h]
  | t l ih =>
    intro y h
    cases y <;> first | exact Bool.noConfusion h | skip
    case t b => have h : sameV l b = true := h; rw [ih h]
  | _ => intro y h; cases y <;> first | rfl | exact Bool.noConfusion h
end
end Go.Mx
