/-
  A part of a small executor of the model, proved sound (MxE of 46). No condition.
-/
import Derived.Test.YtmplmfieipckjaaGreatDoorXMxC
namespace Go.Mx
noncomputable section
variable {P : Program} {ρ : Ren} {h : T O} {nx : Nat} {w : World} {ng : Nat}
def tabO (c : V) (ty : Nat) : O := .c c ty false
def mkT (τ : Nat → Nat) (l : List (Nat × V)) : T O → T O := List.rec (motive := fun _ => T O → T O) (fun t => t) (fun p _ ih t => ih (st O.none (tabO p.2 (τ p.1)) p.1 t)) l
def mkTK (τ : Nat → Nat) (l : List (Nat × V)) : T O → (T O → Bool) → Bool := List.rec (motive := fun _ => T O → (T O → Bool) → Bool) (fun t k => k t) (fun p _ ih t k => stK O.none (tabO p.2 (τ p.1)) p.1 t fun t' => ih t' k) l
theorem mkTK_eq (τ : Nat → Nat) : ∀ (l : List (Nat × V)) (t : T O) (k : T O → Bool), mkTK τ l t k = k (mkT τ l t) := by
  intro l
  induction l with
  | nil => intro t k; rfl
  | cons p l ih =>
    intro t k
    show stK O.none (tabO p.2 (τ p.1)) p.1 t (fun t' => mkTK τ l t' k) = k (mkT τ l (st O.none (tabO p.2 (τ p.1)) p.1 t))
    rw [stK_eq, ih]
theorem mkT_at (τ : Nat → Nat) : ∀ (l : List (Nat × V)) (t : T O) (i : Nat), (∃ p ∈ l, p.1 = i ∧ gt O.none i (mkT τ l t) = tabO p.2 (τ i)) ∨ ((∀ p ∈ l, p.1 ≠ i) ∧ gt O.none i (mkT τ l t) = gt O.none i t) := by
  intro l
  induction l with
  | nil => intro t i; exact .inr ⟨by simp, rfl⟩
  | cons p l ih =>
    intro t i
    rcases ih (st O.none (tabO p.2 (τ p.1)) p.1 t) i with ⟨q, hq, h1, h2⟩ | ⟨h1, h2⟩
    · exact .inl ⟨q, List.mem_cons_of_mem _ hq, h1, h2⟩
    · by_cases e : p.1 = i
      · refine .inl ⟨p, List.mem_cons_self .., e, ?_⟩
        show gt O.none i (mkT τ l (st O.none (tabO p.2 (τ p.1)) p.1 t)) = _
        rw [h2, e, gt_st_same]
      · refine .inr ⟨fun q hq => ?_, ?_⟩
        · rcases List.mem_cons.1 hq with rfl | hq
          · exact e
          · exact h1 q hq
        · show gt O.none i (mkT τ l (st O.none (tabO p.2 (τ p.1)) p.1 t)) = _
          rw [h2, gt_st_ne _ _ e]
def hasT (l : List (Nat × V)) (h : T O) (k : Bool) : Bool := List.rec (motive := fun _ => Bool) k (fun p _ ih => oC (gt O.none p.1 h) fun c _ _ => ite1 (sameV c p.2) ih) l
theorem hasT_spec : ∀ {l : List (Nat × V)} {k : Bool}, hasT l h k = true → k = true ∧ ∀ p ∈ l, ∃ ty wr, asC (gt O.none p.1 h) = .c p.2 ty wr := by
  intro l
  induction l with
  | nil => intro k hk; exact ⟨hk, by simp⟩
  | cons p l ih =>
    intro k hk
    obtain ⟨c, ty, wr, ho, hk2⟩ := oC_spec (show oC (gt O.none p.1 h) (fun c _ _ => ite1 (sameV c p.2) (hasT l h k)) = true from hk)
    obtain ⟨e1, hk3⟩ := ite1_spec hk2
    have e1 := sameV_eq e1
    subst e1
    obtain ⟨h1, h2⟩ := ih hk3
    refine ⟨h1, fun q hq => ?_⟩
    rcases List.mem_cons.1 hq with rfl | hq
    · exact ⟨ty, wr, ho⟩
    · exact h2 q hq
def plainV (x : V) (k : Bool) : Bool := V.rec (motive := fun _ => Bool) false (fun _ _ _ _ => false) (fun _ => k) (fun _ _ => k) (fun _ => k) (fun _ _ => false) false (fun _ _ _ _ => false) false false false (fun _ => false) false (fun _ _ _ => false) false (fun _ _ _ => false) false (fun _ _ => false) (fun _ _ => false) x
def plainC (l : V) : Bool := chain true (fun x _ ih => plainV x ih) l
theorem plain_CR {ρ' : Ren} : ∀ {l : V} {vs : List Value}, plainC l = true → CR ρ l vs → CR ρ' l vs := by
  intro l
  induction l with
  | nil => intro vs _ _; simp [CR]
  | cons x l _ ih =>
    intro vs h hv
    have h' : plainV x (plainC l) = true := h
    simp only [CR] at hv ⊢
    obtain ⟨y, ys, rfl, h1, h2⟩ := hv
    cases x <;> first | exact Bool.noConfusion h' | skip
    all_goals exact ⟨y, ys, rfl, by simpa only [VR] using h1, ih h' h2⟩
  | _ => intro vs _ hv; simp [CR] at hv
def memo (l : List (Nat × V)) (x : Bool) : HookF := fun args h nx K => chain (hasT l h (K (.b x) h nx)) (fun _ _ _ => false) args
def inT (ng : Nat) (l : List (Nat × V)) : Bool := List.rec (motive := fun _ => Bool) true (fun p _ ih => ite1 (Nat.blt p.1 ng) <| ite1 (plainC p.2) ih) l
theorem inT_spec : ∀ {l : List (Nat × V)}, inT ng l = true → ∀ p ∈ l, p.1 < ng ∧ plainC p.2 = true := by
  intro l
  induction l with
  | nil => intro _; simp
  | cons p l ih =>
    intro h q hq
    obtain ⟨h1, h2⟩ := ite1_spec (show ite1 (Nat.blt p.1 ng) (ite1 (plainC p.2) (inT ng l)) = true from h)
    obtain ⟨h3, h4⟩ := ite1_spec h2
    rcases List.mem_cons.1 hq with rfl | hq
    · exact ⟨Nat.blt_eq.mp h1, h3⟩
    · exact ih h4 q hq
def isB (x : Bool) (v : V) : Bool := vB v fun b => bs_eq b x
theorem memo_ok (hm : P.follows .mixedOrders = true) (hn : NameOK P) {hk : Nat → Option HookF} (hh : HKok P ng hk) {n g : Nat} {l : List (Nat × V)} {x : Bool} (hl : inT ng l = true)
    (hrun : ∀ τ, mkTK τ l .leaf (fun h0 => run P ng hk n g .nil h0 ng (fun v _ _ => isB x v) (fun _ _ _ => false)) = true) : HookOk P ng g (memo l x) := by
  intro args h nx K Kp hk1 ρ w vs s hg hv
  have hvs : args = .nil ∧ vs = [] ∧ hasT l h (K (.b x) h nx) = true := by
    cases args <;> first | (simp only [VRs] at hv; done) | exact Bool.noConfusion hk1 | skip
    exact ⟨rfl, by simpa only [VRs] using hv, hk1⟩
  obtain ⟨rfl, rfl, hk2⟩ := hvs
  obtain ⟨hkk, htab⟩ := hasT_spec hk2
  let τ : Nat → Nat := fun i => match asC (gt O.none i h) with
    | .c _ ty _ => ty
    | _ => 0
  have hrun := hrun τ
  rw [mkTK_eq] at hrun
  let ρr : Ren := fun i => if i < ng then ρ i else none
  have hin := inT_spec hl
  have at0 := mkT_at τ l (.leaf : T O)
  have live0 : ∀ i, (gt O.none i (mkT τ l .leaf)).live → ∃ p ∈ l, p.1 = i ∧ gt O.none i (mkT τ l .leaf) = tabO p.2 (τ i) := fun i hi => by
    rcases at0 i with h1 | ⟨_, h2⟩
    · exact h1
    · rw [h2, gt_leaf] at hi; exact hi.elim
  have nowr : ∀ i, ¬ (gt O.none i (mkT τ l .leaf)).wr := fun i hi => by
    obtain ⟨p, _, _, e⟩ := live0 i (O.live_of_wr hi)
    rw [e] at hi
    exact Bool.noConfusion (show false = true from hi)
  have sr : St ρr (mkT τ l .leaf) ng w := by
    refine ⟨fun id L hi hL => ?_, fun i j L M hi hj hL hM hb => ?_, fun i hi => ?_, fun i hi hl' => ?_⟩
    · obtain ⟨p, hp, rfl, e⟩ := live0 id hi
      have hlt := (hin p hp).1
      have hL' : ρ p.1 = some L := by simpa [ρr, hlt] using hL
      obtain ⟨ty, wr, ho⟩ := htab p hp
      obtain ⟨o, h1, h2⟩ := s.relC ho hL'
      refine ⟨o, h1, ?_⟩
      have et : τ p.1 = ty := by simp only [τ, ho]
      rw [e, et]
      obtain ⟨arr, fz, q1, q2, q3, q4, q5⟩ := h2
      exact ⟨arr, fz, q1, q2, q3, q4, plain_CR (hin p hp).2 q5⟩
    · obtain ⟨p, hp, rfl, e⟩ := live0 i hi
      obtain ⟨q, hq, rfl, e'⟩ := live0 j hj
      have hL' : ρ p.1 = some L := by simpa [ρr, (hin p hp).1] using hL
      have hM' : ρ q.1 = some M := by simpa [ρr, (hin q hq).1] using hM
      obtain ⟨ty, wr, ho⟩ := htab p hp
      obtain ⟨ty', wr', ho'⟩ := htab q hq
      exact s.inj _ _ _ _ (asC_live ho) (asC_live ho') hL' hM' hb
    · have : ¬ i < ng := by omega
      simp [ρr, this]
    · obtain ⟨p, hp, rfl, e⟩ := live0 i hl'
      have := (hin p hp).1
      omega
  have gr : RG ng ρr := fun i hi => by
    obtain ⟨L, h1, h2, h3⟩ := hg i hi
    exact ⟨L, by simpa [ρr, hi] using h1, h2, h3⟩
  have up := run_sound hm hn hh n g .nil (mkT τ l .leaf) ng (fun v _ _ => isB x v) (fun _ _ _ => false) hrun ρr w [] sr gr (by simp [VRs])
  intro o a next Q h1 h2
  refine up o a next Q (fun ρ' y h' nx' v w' hv' _ hx hky => ?_) (fun ρ' y h' nx' v w' _ _ _ hky => Bool.noConfusion hky)
  obtain ⟨b, rfl, hb⟩ := vB_spec (show vB y (fun b => bs_eq b x) = true from hky)
  have hbx : b = x := by cases b <;> cases x <;> first | rfl | exact Bool.noConfusion hb
  subst hbx
  simp only [VR] at hv'
  subst hv'
  have kept : ∀ b, b < w.heap.size → w'.heap[b]? = w.heap[b]? := fun b hb => (hx.kept b hb fun id L hw _ => (nowr id hw).elim).1
  have keptL : ∀ {L : Loc} {o : Obj}, w.heap[L.blk]? = some o → w'.heap[L.blk]? = some o := fun {L o} ho => by
    rw [kept L.blk (Array.getElem?_eq_some_iff.1 ho).1]; exact ho
  refine h1 ρ (.b b) h nx (.bool b) w' (by simp only [VR]) ⟨fun id L hi hL => ?_, s.inj, s.fresh, s.dead⟩ ⟨Ren.le.refl _, hx.size, hx.os, hx.tape, hx.output, fun b hb hk => ⟨kept b hb, hk⟩, fun _ _ k => ⟨k, rfl⟩⟩ hkk
  obtain ⟨o, g1, g2⟩ := s.rel id L hi hL
  exact ⟨o, keptL g1, g2⟩
end
end Go.Mx
