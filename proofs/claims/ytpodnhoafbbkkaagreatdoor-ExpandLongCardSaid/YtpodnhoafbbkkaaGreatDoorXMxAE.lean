/-
  A part of a small executor of the model, proved sound (25 of 29). No condition.
-/
import Derived.Test.YtpodnhoafbbkkaaGreatDoorXMxAD
import Derived.Test.YtpodnhoafbbkkaaGreatDoorXMxQ
namespace Go.Mx
noncomputable section
variable {P : Program}
theorem top_run_k (hn : NameOK P) {R : CK} {ng : Nat} (hR : CKok P ng R) {g : Nat} {fn : Func} {cd : Code} (hf : P.funcs[g]? = some fn) (hb : fn.body = some cd)
    {l : List (Nat × V)} {x : Bool} {args : V} {vs : List Value} (hl : inT ng l = true) {W : World} {ob : List (Nat × O)} {ρa : Ren} {nx : Nat} (hnx : ng ≤ nx) (hρ : ∀ i L, ρa i = some L → ng ≤ i ∧ i < nx)
    (hob : ∀ i, (gt O.none i (putO ob .leaf)).live → (ng ≤ i ∧ i < nx ∧ ¬ (gt O.none i (putO ob .leaf)).wr) ∧ ∀ L, ρa i = some L → ∃ o, W.heap[L.blk]? = some o ∧ OR ρa L (gt O.none i (putO ob .leaf)) o)
    (hv : VRs ρa args vs)
    (hrun : ∀ τ : Nat → Nat, mkTK τ l (putO ob .leaf) (fun h0 => R g args h0 nx (fun v _ _ => isB x v) (fun _ _ _ => false)) = true) (tab : HasTables l W) :
    Calls P g ⟨vs⟩ W fun e W' => e = .returned (.bool x) ∧ Stays W W' := by
  let τ : Nat → Nat := fun i => match W.heap[i]? with
    | some (.cells _ ty _) => ty
    | _ => 0
  let sz : Nat → Nat := fun i => match W.heap[i]? with
    | some (.cells arr _ _) => arr.size
    | _ => 0
  have hrun := hrun τ
  rw [mkTK_eq] at hrun
  let ρr : Ren := fun i => if i < ng then some ⟨i, 0, sz i⟩ else ρa i
  have hin := inT_spec hl
  have at0 := mkT_at τ l (putO ob (.leaf : T O))
  have hle : Ren.le ρa ρr := fun i L e => by
    have := (hρ i L e).1
    have h1 : ¬ i < ng := by omega
    simp only [ρr, h1, if_false]
    exact e
  have live0 : ∀ i, (gt O.none i (mkTb τ l (putO ob .leaf))).live → (∃ p ∈ l, p.1 = i ∧ gt O.none i (mkTb τ l (putO ob .leaf)) = tabO p.2 (τ i)) ∨ ((gt O.none i (putO ob .leaf)).live ∧ gt O.none i (mkTb τ l (putO ob .leaf)) = gt O.none i (putO ob .leaf)) := fun i hi => by
    rcases at0 i with h1 | ⟨_, h2⟩
    · exact .inl h1
    · rw [h2] at hi; exact .inr ⟨hi, h2⟩
  have nowr : ∀ i, ¬ (gt O.none i (mkTb τ l (putO ob .leaf))).wr := fun i hi => by
    rcases live0 i (O.live_of_wr hi) with ⟨p, _, _, e⟩ | ⟨h1, e⟩
    · rw [e] at hi
      exact Bool.noConfusion (show false = true from hi)
    · rw [e] at hi
      exact (hob i h1).1.2.2 hi
  have tl : ∀ {i : Nat} {L : Loc}, i < ng → ρr i = some L → L = ⟨i, 0, sz i⟩ := fun {i L} h e => by simpa [ρr, h, eq_comm] using e
  have al : ∀ {i : Nat} {L : Loc}, ng ≤ i → ρr i = some L → ρa i = some L := fun {i L} h e => by
    have h1 : ¬ i < ng := by omega
    simpa only [ρr, h1, if_false] using e
  have sr : St ρr (mkTb τ l (putO ob .leaf)) nx W := by
    refine ⟨fun id L hi hL => ?_, fun i j L M hi => (nowr i hi).elim, fun i hi => ?_, fun i hi hl' => ?_⟩
    · rcases live0 id hi with ⟨p, hp, rfl, e⟩ | ⟨h1, e⟩
      · obtain rfl := tl (hin p hp).1 hL
        obtain ⟨ar, t', h1, h2⟩ := tab p hp
        refine ⟨_, h1, ?_⟩
        have et : τ p.1 = t' := by simp only [τ, h1]
        have es : sz p.1 = ar.size := by simp only [sz, h1]
        rw [e, et]
        exact ⟨ar, (0, 0), rfl, es.symm, (fun hf => by cases hf), Nat.zero_le _, by simpa using plain_CR (hin p hp).2 h2⟩
      · obtain ⟨⟨q1, q2, q3⟩, q4⟩ := hob id h1
        obtain ⟨o, g1, g2⟩ := q4 L (al q1 hL)
        exact ⟨o, g1, by rw [e]; exact g2.mono hle⟩
    · have h1 : ¬ i < ng := by omega
      show (if i < ng then some _ else ρa i) = none
      rw [if_neg h1]
      cases e : ρa i with
      | none => rfl
      | some L => have := (hρ i L e).2; omega
    · rcases live0 i hl' with ⟨p, hp, rfl, _⟩ | ⟨h1, _⟩
      · have := (hin p hp).1
        omega
      · have := (hob i h1).1.2.1
        omega
  have gr : RG ng ρr := fun i hi => ⟨⟨i, 0, sz i⟩, by simp [ρr, hi], rfl, rfl⟩
  have up := hR g args (mkTb τ l (putO ob .leaf)) nx (fun v _ _ => isB x v) (fun _ _ _ => false) hrun ρr W vs sr gr (hv.mono hle)
  let o : Oper := { (default : Oper) with dst := some 0 }
  let a : Act := { tmps := #[undef], defers := [] }
  have h := up o a (fun a' W' => a'.tmps[0]? = some (.bool x) ∧ Stays W W') (fun _ _ _ => False) (fun ρ' y h' nx' v w' hv' _ hx hky => ?_) (fun ρ' y h' nx' v w' _ _ _ hky => Bool.noConfusion hky)
  · rw [callFunc_enter hn hf hb, Oper.upon_enter] at h
    refine h.mono fun e W' hr => ?_
    cases e with
    | returned v =>
      obtain ⟨h1, h2⟩ := hr
      have : v = .bool x := by simpa [Act.put, o, a] using h1
      exact ⟨by rw [this], h2⟩
    | panicked c => exact hr.elim
    | outgrown => obtain ⟨_, _, hq⟩ := hr; exact hq.elim
  · obtain ⟨bb, rfl, hbb⟩ := vB_spec (show vB y (fun b => bs_eq b x) = true from hky)
    have hbx : bb = x := by cases bb <;> cases x <;> first | rfl | exact Bool.noConfusion hbb
    subst hbx
    simp only [VR] at hv'
    subst hv'
    exact ⟨by simp [Act.put, o, a], hx.size, hx.os, hx.tape, hx.output, fun b hb => (hx.kept b hb fun id L hw _ => (nowr id hw).elim).1⟩
end
end Go.Mx
