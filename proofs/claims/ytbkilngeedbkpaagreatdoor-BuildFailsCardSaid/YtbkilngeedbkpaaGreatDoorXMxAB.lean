/-
  A part of a small executor of the model, proved sound (23 of 33). No condition.
-/
import Derived.Test.YtbkilngeedbkpaaGreatDoorXMxK
import Derived.Test.YtbkilngeedbkpaaGreatDoorXMx36
import Derived.Test.YtbkilngeedbkpaaGreatDoorXMxAA
namespace Go.Mx
noncomputable section
variable {P : Program} {ng : Nat}
theorem VR_back {ρ ρ' : Ren} (hle : Ren.le ρ ρ') : ∀ x : V, (∀ v0 v, VR ρ x v0 → VR ρ' x v → VR ρ x v) ∧ (∀ vs0 vs, VRs ρ x vs0 → VRs ρ' x vs → VRs ρ x vs) := by
  have same : ∀ {i : Nat} {L L' : Loc}, ρ i = some L → ρ' i = some L' → L' = L := fun h h' => by
    have := hle _ _ h
    rw [h'] at this
    exact Option.some.inj this
  intro x
  induction x with
  | nil => exact ⟨fun v0 v _ _ => by simp [VR], fun vs0 vs _ h' => by simpa [VRs] using h'⟩
  | cons x l ihx ihl =>
    refine ⟨fun v0 v h => by simp [VR] at h, fun vs0 vs h h' => ?_⟩
    simp only [VRs] at h h' ⊢
    obtain ⟨y0, ys0, rfl, a1, a2⟩ := h
    obtain ⟨y, ys, rfl, b1, b2⟩ := h'
    exact ⟨y, ys, rfl, ihx.1 _ _ a1 b1, ihl.2 _ _ a2 b2⟩
  | b x => exact ⟨fun v0 v _ h' => by simpa [VR] using h', fun vs0 vs h => by simp [VRs] at h⟩
  | i k n => exact ⟨fun v0 v _ h' => by simpa [VR] using h', fun vs0 vs h => by simp [VRs] at h⟩
  | s l => exact ⟨fun v0 v _ h' => by simpa [VR] using h', fun vs0 vs h => by simp [VRs] at h⟩
  | p id off =>
    refine ⟨fun v0 v h h' => ?_, fun vs0 vs h => by simp [VRs] at h⟩
    simp only [VR] at h h' ⊢
    obtain ⟨L0, a1, _⟩ := h
    obtain ⟨L, b1, b2⟩ := h'
    have := same a1 b1
    subst this
    exact ⟨_, a1, b2⟩
  | pn => exact ⟨fun v0 v _ h' => by simpa [VR] using h', fun vs0 vs h => by simp [VRs] at h⟩
  | sl id off len sz =>
    refine ⟨fun v0 v h h' => ?_, fun vs0 vs h => by simp [VRs] at h⟩
    simp only [VR] at h h' ⊢
    obtain ⟨L0, _, a1, _⟩ := h
    obtain ⟨L, cap, b1, b2⟩ := h'
    have := same a1 b1
    subst this
    exact ⟨_, cap, a1, b2⟩
  | sn => exact ⟨fun v0 v _ h' => by simpa [VR] using h', fun vs0 vs h => by simp [VRs] at h⟩
  | se => exact ⟨fun v0 v _ h' => by simpa [VR] using h', fun vs0 vs h => by simp [VRs] at h⟩
  | s0 => exact ⟨fun v0 v _ h' => by simpa [VR] using h', fun vs0 vs h => by simp [VRs] at h⟩
  | m id =>
    refine ⟨fun v0 v h h' => ?_, fun vs0 vs h => by simp [VRs] at h⟩
    simp only [VR] at h h' ⊢
    obtain ⟨L0, a1, _⟩ := h
    obtain ⟨L, b1, b2⟩ := h'
    have := same a1 b1
    subst this
    exact ⟨_, a1, b2⟩
  | mn => exact ⟨fun v0 v _ h' => by simpa [VR] using h', fun vs0 vs h => by simp [VRs] at h⟩
  | f g c ih =>
    refine ⟨fun v0 v h h' => ?_, fun vs0 vs h => by simp [VRs] at h⟩
    simp only [VR] at h h' ⊢
    obtain ⟨vs0, a1, _⟩ := h
    obtain ⟨vs, b1, b2⟩ := h'
    exact ⟨vs, ih.2 _ _ a1 b1, b2⟩
  | fn => exact ⟨fun v0 v _ h' => by simpa [VR] using h', fun vs0 vs h => by simp [VRs] at h⟩
  | e t x ih =>
    refine ⟨fun v0 v h h' => ?_, fun vs0 vs h => by simp [VRs] at h⟩
    simp only [VR] at h h' ⊢
    obtain ⟨y0, a1, _⟩ := h
    obtain ⟨y, b1, b2⟩ := h'
    exact ⟨y, ih.1 _ _ a1 b1, b2⟩
  | en => exact ⟨fun v0 v _ h' => by simpa [VR] using h', fun vs0 vs h => by simp [VRs] at h⟩
  | a l ih =>
    refine ⟨fun v0 v h h' => ?_, fun vs0 vs h => by simp [VRs] at h⟩
    simp only [VR] at h h' ⊢
    obtain ⟨vs0, a1, _⟩ := h
    obtain ⟨vs, b1, b2⟩ := h'
    exact ⟨vs, ih.2 _ _ a1 b1, b2⟩
  | t l ih =>
    refine ⟨fun v0 v h h' => ?_, fun vs0 vs h => by simp [VRs] at h⟩
    simp only [VR] at h h' ⊢
    obtain ⟨vs0, a1, _⟩ := h
    obtain ⟨vs, b1, b2⟩ := h'
    exact ⟨vs, ih.2 _ _ a1 b1, b2⟩
  | x a k lo hi =>
    refine ⟨fun v0 v h h' => ?_, fun vs0 vs h => by simp [VRs] at h⟩
    simp only [VR] at h h' ⊢
    obtain ⟨L0, a1, _⟩ := h
    obtain ⟨L, b1, b2⟩ := h'
    have := same a1 b1
    subst this
    exact ⟨_, a1, b2⟩
  | w l ih =>
    refine ⟨fun v0 v h h' => ?_, fun vs0 vs h => by simp [VRs] at h⟩
    simp only [VR] at h h' ⊢
    obtain ⟨b0, _, a1⟩ := h
    obtain ⟨b, b2, b1⟩ := h'
    exact ⟨b, b2, ih.2 _ _ a1 b1⟩
  | y l a lo hi ih =>
    refine ⟨fun v0 v h h' => ?_, fun vs0 vs h => by simp [VRs] at h⟩
    simp only [VR] at h h' ⊢
    obtain ⟨b0, L0, n0, _, a1, _, _, _, a2⟩ := h
    obtain ⟨b, L, n, b1, b2, b3, b4, b5, b6⟩ := h'
    have := same a1 b2
    subst this
    exact ⟨b, _, n, b1, a1, b3, b4, b5, ih.2 _ _ a2 b6⟩
  | o t l a lo hi ih =>
    refine ⟨fun v0 v h h' => ?_, fun vs0 vs h => by simp [VRs] at h⟩
    simp only [VR] at h h' ⊢
    rcases h' with h' | ⟨e, vs, b1, b2⟩
    · rcases h with h | ⟨e, vs0, a1, _⟩
      · left
        unfold OV at h h' ⊢
        rcases h' with ⟨e1, b, g1, g2⟩ | ⟨e1, n, g1, g2⟩ | ⟨e1, L, n, cap, g1, g2, g3⟩ | ⟨e1, x, g1, g2⟩
        · rcases h with ⟨_, b0, q1, q2⟩ | ⟨e2, _⟩ | ⟨e2, _⟩ | ⟨e2, _⟩ <;> first | omega | skip
          exact .inl ⟨e1, b, g1, by have := (q2.mono hle).fn g2; rw [← this]; exact q2⟩
        · rcases h with ⟨e2, _⟩ | ⟨_, n0, q1, q2⟩ | ⟨e2, _⟩ | ⟨e2, _⟩ <;> first | omega | skip
          exact .inr (.inl ⟨e1, n, by have := (q1.mono hle).fn g1; rw [← this]; exact q1, g2⟩)
        · rcases h with ⟨e2, _⟩ | ⟨e2, _⟩ | ⟨_, L0, n0, cap0, q1, q2, _⟩ | ⟨e2, _⟩ <;> first | omega | skip
          have := same q1 g1
          subst this
          have := (q2.mono hle).fn g2
          exact .inr (.inr (.inl ⟨e1, _, n, cap, q1, by rw [← this]; exact q2, g3⟩))
        · rcases h with ⟨e2, _⟩ | ⟨e2, _⟩ | ⟨e2, _⟩ | ⟨_, x0, q1, q2⟩ <;> first | omega | skip
          refine .inr (.inr (.inr ⟨e1, x, g1, ?_⟩))
          rcases g2 with g2 | ⟨n, g2, g3⟩
          · exact .inl g2
          · rcases q2 with q2 | ⟨n0, q2, _⟩
            · exact .inl q2
            · exact .inr ⟨n, by have := (q2.mono hle).fn g2; rw [← this]; exact q2, g3⟩
      · unfold OV at h'
        rcases h' with ⟨e1, _⟩ | ⟨e1, _⟩ | ⟨e1, _⟩ | ⟨e1, _⟩ <;> omega
    · rcases h with h | ⟨_, vs0, a1, _⟩
      · unfold OV at h
        rcases h with ⟨e1, _⟩ | ⟨e1, _⟩ | ⟨e1, _⟩ | ⟨e1, _⟩ <;> omega
      · exact .inr ⟨e, vs, ih.2 _ _ a1 b1, b2⟩
abbrev LH := List (Nat × Nat × Nat × Nat × Nat × List Nat × Nat × Nat)
def rid (c : Code) : Nat := Code.rec (motive := fun _ => Nat) 0 (fun id _ _ => id) (fun _ _ a _ => a) (fun _ _ _ a _ => a) (fun _ _ a => a) (fun _ a => a) (fun _ _ _ _ _ _ => 0) (fun _ => 0) (fun _ a => a) (fun _ => 0) (fun _ => 0) 0 (fun _ => 0) c
def cpN (mods : List Nat) (tm : T V) (n : Nat) : T V → (T V → Bool) → Bool := Nat.rec (motive := fun _ => T V → (T V → Bool) → Bool) (fun b k => k b) (fun i ih b k => Bool.rec (stK V.nil (gt V.nil i tm) i b fun b => ih b k) (ih b k) (memN i mods)) n
theorem cpN_spec {mods : List Nat} {tm : T V} : ∀ {n : Nat} {b : T V} {k : T V → Bool}, cpN mods tm n b k = true → ∃ b', k b' = true ∧ ∀ i, gt V.nil i b' = if i < n ∧ memN i mods = false then gt V.nil i tm else gt V.nil i b := by
  intro n
  induction n with
  | zero => intro b k hk; exact ⟨b, hk, fun i => by rw [if_neg (by omega)]⟩
  | succ n ih =>
    intro b k hk
    have hk : (Bool.rec (stK V.nil (gt V.nil n tm) n b fun b => cpN mods tm n b k) (cpN mods tm n b k) (memN n mods) : Bool) = true := hk
    cases e : memN n mods with
    | true =>
      rw [e] at hk
      obtain ⟨b', h1, h2⟩ := ih hk
      refine ⟨b', h1, fun i => ?_⟩
      rw [h2 i]
      by_cases c : i < n ∧ memN i mods = false
      · rw [if_pos c, if_pos ⟨by omega, c.2⟩]
      · rw [if_neg c, if_neg]
        rintro ⟨c1, c2⟩
        by_cases ei : i = n
        · subst ei; rw [e] at c2; cases c2
        · exact c ⟨by omega, c2⟩
    | false =>
      rw [e] at hk
      have hk : stK V.nil (gt V.nil n tm) n b (fun b => cpN mods tm n b k) = true := hk
      rw [stK_eq] at hk
      obtain ⟨b', h1, h2⟩ := ih hk
      refine ⟨b', h1, fun i => ?_⟩
      rw [h2 i]
      by_cases ei : i = n
      · subst ei
        rw [if_neg (by omega), if_pos ⟨by omega, e⟩, gt_st_same]
      · rw [gt_st_ne _ _ (Ne.symm ei)]
        by_cases c : i < n ∧ memN i mods = false
        · rw [if_pos c, if_pos ⟨by omega, c.2⟩]
        · rw [if_neg c, if_neg]
          rintro ⟨c1, c2⟩
          exact c ⟨by omega, c2⟩
theorem ior_cases {a b : Bool} (h : ior a b = true) : a = true ∨ b = true := by
  cases a
  · exact .inr h
  · exact .inl rfl
variable {hk : Nat → Option (V → T O → Nat → KV → Bool)} {lk : LH}
end
end Go.Mx
namespace Go.Mx
open Instr Builtin
noncomputable section
variable {P : Program} {ρ : Ren} {h : T O} {nx : Nat} {w : World} {ng : Nat}
theorem smallRun {R : CK} (hR : CKok P ng R) {g : Nat} {l : List (Nat × V)} {A : V} {vs : List Value} {ob : List (Nat × O)} {N : Nat} {K1 : KV} (hl : inT ng l = true) (s : St ρ h nx w) (hg : RG ng ρ)
    (htab : ∀ p ∈ l, ∃ ty wr, asC (gt O.none p.1 h) = .c p.2 ty wr) {ρb : Ren} (hN : ng ≤ N) (hρb : ∀ i L, ρb i = some L → ng ≤ i ∧ i < N)
    (hob : ∀ i, (gt O.none i (putO ob .leaf)).live → ng ≤ i ∧ i < N ∧ ∀ L, ρb i = some L → ∃ o, w.heap[L.blk]? = some o ∧ OR ρb L (gt O.none i (putO ob .leaf)) o)
    (hinj : ∀ i L, (gt O.none i (putO ob .leaf)).wr → ρb i = some L → (∀ j M, (gt O.none j (putO ob .leaf)).live → ρb j = some M → L.blk = M.blk → i = j) ∧ ∀ p ∈ l, ∀ M, ρ p.1 = some M → L.blk ≠ M.blk)
    (hv : VRs ρb A vs) (hrun : ∀ τ : Nat → Nat, mkTK τ l (putO ob .leaf) (fun h0 => R g A h0 N K1 (fun _ _ _ => false)) = true) :
    ∃ (ρs : Ren) (h0 : T O), Ren.le ρb ρs ∧ (∀ i, (gt O.none i h0).wr → (gt O.none i (putO ob .leaf)).wr) ∧ (∀ i, ng ≤ i → ρs i = ρb i) ∧ St ρs h0 N w ∧ RG ng ρs ∧ UponOK P ((callFunc g ⟨vs⟩).run P w) ρs h0 w K1 (fun _ _ _ => false) := by
  let τ : Nat → Nat := fun i => match asC (gt O.none i h) with
    | .c _ ty _ => ty
    | _ => 0
  have hrun := hrun τ
  rw [mkTK_eq] at hrun
  let ρr : Ren := fun i => if i < ng then ρ i else ρb i
  have hin := inT_spec hl
  have at0 := mkT_at τ l (putO ob (.leaf : T O))
  have hle : Ren.le ρb ρr := fun i L e => by
    have := (hρb i L e).1
    have h1 : ¬ i < ng := by omega
    simp only [ρr, h1, if_false]
    exact e
  have live0 : ∀ i, (gt O.none i (mkTb τ l (putO ob .leaf))).live → (∃ p ∈ l, p.1 = i ∧ gt O.none i (mkTb τ l (putO ob .leaf)) = tabO p.2 (τ i)) ∨ ((gt O.none i (putO ob .leaf)).live ∧ gt O.none i (mkTb τ l (putO ob .leaf)) = gt O.none i (putO ob .leaf)) := fun i hi => by
    rcases at0 i with h1 | ⟨_, h2⟩
    · exact .inl h1
    · rw [h2] at hi; exact .inr ⟨hi, h2⟩
  have wr0 : ∀ i, (gt O.none i (mkTb τ l (putO ob .leaf))).wr → (gt O.none i (putO ob .leaf)).wr := fun i hi => by
    rcases live0 i (O.live_of_wr hi) with ⟨p, _, _, e⟩ | ⟨_, e⟩
    · rw [e] at hi
      exact Bool.noConfusion (show false = true from hi)
    · rw [e] at hi; exact hi
  have al : ∀ {i : Nat} {L : Loc}, ng ≤ i → ρr i = some L → ρb i = some L := fun {i L} h e => by
    have h1 : ¬ i < ng := by omega
    simpa only [ρr, h1, if_false] using e
  have bl : ∀ {i : Nat} {L : Loc}, i < ng → ρr i = some L → ρ i = some L := fun {i L} h e => by
    simpa only [ρr, h, if_true] using e
  have sr : St ρr (mkTb τ l (putO ob .leaf)) N w := by
    refine ⟨fun id L hi hL => ?_, fun i j L M hi hj hL hM hb => ?_, fun i hi => ?_, fun i hi hl' => ?_⟩
    · rcases live0 id hi with ⟨p, hp, rfl, e⟩ | ⟨h1, e⟩
      · have hL' := bl (hin p hp).1 hL
        obtain ⟨ty, wr, ho⟩ := htab p hp
        obtain ⟨o, h1, h2⟩ := s.relC ho hL'
        refine ⟨o, h1, ?_⟩
        have et : τ p.1 = ty := by simp only [τ, ho]
        rw [e, et]
        obtain ⟨arr, fz, q1, q2, q3, q4, q5⟩ := h2
        exact ⟨arr, fz, q1, q2, (fun hf => by cases hf), q4, plain_CR (hin p hp).2 q5⟩
      · obtain ⟨q1, _, q4⟩ := hob id h1
        obtain ⟨o, g1, g2⟩ := q4 L (al q1 hL)
        exact ⟨o, g1, by rw [e]; exact g2.mono hle⟩
    · have hi := wr0 i hi
      have hib := hob i (O.live_of_wr hi)
      obtain ⟨k1, k2⟩ := hinj i L hi (al hib.1 hL)
      rcases live0 j hj with ⟨p, hp, rfl, _⟩ | ⟨h1, _⟩
      · exact absurd hb (k2 p hp M (bl (hin p hp).1 hM))
      · exact k1 j M h1 (al (hob j h1).1 hM) hb
    · have h1 : ¬ i < ng := by omega
      show (if i < ng then ρ i else ρb i) = none
      rw [if_neg h1]
      cases e : ρb i with
      | none => rfl
      | some L => have := (hρb i L e).2; omega
    · rcases live0 i hl' with ⟨p, hp, rfl, _⟩ | ⟨h1, _⟩
      · have := (hin p hp).1
        omega
      · have := (hob i h1).2.1
        omega
  have gr : RG ng ρr := fun i hi => by
    obtain ⟨L, h1, h2, h3⟩ := hg i hi
    exact ⟨L, by simpa [ρr, hi] using h1, h2, h3⟩
  exact ⟨ρr, _, hle, wr0, fun i hi => by have h1 : ¬ i < ng := by omega
                                         simp only [ρr, h1, if_false], sr, gr, hR g A _ N K1 _ hrun ρr w vs sr gr (hv.mono hle)⟩
theorem ro_back {ρs ρ' : Ren} {h0 h' : T O} {w' : World} (s : St ρ h nx w) (hx : Ext ρs h0 w ρ' h' w') (nowr : ∀ i, ¬ (gt O.none i h0).wr) : St ρ h nx w' ∧ Ext ρ h w ρ h w' := by
  have kept : ∀ b, b < w.heap.size → w'.heap[b]? = w.heap[b]? := fun b hb => (hx.kept b hb fun id L hw _ => (nowr id hw).elim).1
  refine ⟨⟨fun id L hi hL => ?_, s.inj, s.fresh, s.dead⟩, ⟨Ren.le.refl _, hx.size, hx.os, hx.tape, hx.output, fun b hb hk => ⟨kept b hb, hk⟩, fun _ _ k => ⟨k, rfl⟩⟩⟩
  obtain ⟨o, g1, g2⟩ := s.rel id L hi hL
  exact ⟨o, by rw [kept L.blk (Array.getElem?_eq_some_iff.1 g1).1]; exact g1, g2⟩
def mskIn (lo hi M : Nat) : Bool := allN 256 fun q => ior (tbN M q) (ite1 (Nat.ble lo q) (Nat.ble q hi))
theorem mskIn_spec {lo hi M : Nat} (hk : mskIn lo hi M = true) (c : UInt8) (hc : tbN M c.toNat = false) : lo ≤ c.toNat ∧ c.toNat ≤ hi := by
  rcases ior_cases (allN_spec hk c.toNat (UInt8.toNat_lt c)) with h | h
  · rw [hc] at h; cases h
  · obtain ⟨h1, h2⟩ := ite1_spec h
    exact ⟨Nat.ble_eq.mp h1, Nat.ble_eq.mp h2⟩
end
end Go.Mx
