/-
  A part of a small executor of the model, proved sound (Mx22 of 46). No condition.
-/
import Derived.Test.YtmplmfieipckjaaGreatDoorXMx21
namespace Go.Mx
noncomputable section
variable {P : Program} {ρ : Ren} {h : T O} {nx : Nat} {w : World} {ng : Nat} {tm tm' : T V}
theorem evs_congr : ∀ l : List Operand, (∀ x ∈ l, ev ng tm x = ev ng tm' x) → evs ng tm l = evs ng tm' l
  | [], _ => rfl
  | x :: l, hx => by
    show V.cons (ev ng tm x) (evs ng tm l) = V.cons (ev ng tm' x) (evs ng tm' l)
    rw [hx x (by simp), evs_congr l fun y hy => hx y (by simp [hy])]
theorem evp_congr : ∀ l : List (Nat × Operand), (∀ x ∈ l.map (·.2), ev ng tm x = ev ng tm' x) → evp ng tm l = evp ng tm' l
  | [], _ => rfl
  | (i, x) :: l, hx => by
    show (i, ev ng tm x) :: evp ng tm l = (i, ev ng tm' x) :: evp ng tm' l
    rw [hx x (by simp), evp_congr l fun y hy => hx y (by simp only [List.map_cons, List.mem_cons]; exact .inr hy)]
theorem evo_congr (x : Option Operand) (hx : ∀ y ∈ x.toList, ev ng tm y = ev ng tm' y) : (Option.rec (motive := fun _ => Option V) none (fun x => some (ev ng tm x)) x : Option V) = Option.rec (motive := fun _ => Option V) none (fun x => some (ev ng tm' x)) x := by
  cases x with
  | none => rfl
  | some x => show some (ev ng tm x) = some (ev ng tm' x); rw [hx x (by simp)]
theorem opK_congr {ck : CK} {o : Op} (hx : ∀ x ∈ opnds o, ev ng tm x = ev ng tm' x) : opK P ng ck tm o = opK P ng ck tm' o := by
  funext h nx K Kp
  cases o <;> try rfl
  case move x => have e := hx x (by simp [opnds]); show K (ev ng tm x) h nx = _; rw [e]; rfl
  case assign x => have e := hx x (by simp [opnds]); show K (ev ng tm x) h nx = _; rw [e]; rfl
  case pick c a b =>
    have e1 := hx c (by simp [opnds]); have e2 := hx a (by simp [opnds]); have e3 := hx b (by simp [opnds])
    show (vB (ev ng tm c) fun q => Bool.rec (K (ev ng tm b) h nx) (K (ev ng tm a) h nx) q) = _
    rw [e1, e2, e3]; rfl
  case box t x => have e := hx x (by simp [opnds]); show opBox t (ev ng tm x) h nx K = _; rw [e]; rfl
  case build t ps => have e := evp_congr ps.toList (fun x m => hx x (by simp only [opnds]; exact m)); simp only [opK, e]
  case buildSlice t n ps => have e := evp_congr ps.toList (fun x m => hx x (by simp only [opnds]; exact m)); show opBuildSlice P t n (evp ng tm ps.toList) h nx K = _; rw [e]; rfl
  case insert t m k x =>
    have e1 := hx m (by simp [opnds]); have e2 := hx k (by simp [opnds]); have e3 := hx x (by simp [opnds])
    show opMapUpdate P t (ev ng tm m) (ev ng tm k) (ev ng tm x) h _ = _; rw [e1, e2, e3]; rfl
  case mapUpdate t m k x =>
    have e1 := hx m (by simp [opnds]); have e2 := hx k (by simp [opnds]); have e3 := hx x (by simp [opnds])
    show opMapUpdate P t (ev ng tm m) (ev ng tm k) (ev ng tm x) h _ = _; rw [e1, e2, e3]; rfl
  case load t x => have e := hx x (by simp [opnds]); show opLoad P t (ev ng tm x) h _ = _; rw [e]; rfl
  case store t a x =>
    have e1 := hx a (by simp [opnds]); have e2 := hx x (by simp [opnds])
    show opStore P t (ev ng tm a) (ev ng tm x) h _ = _; rw [e1, e2]; rfl
  case nilCheck x => have e := hx x (by simp [opnds]); simp only [opK, e]
  case binOp op t x y u =>
    have e1 := hx x (by simp [opnds]); have e2 := hx y (by simp [opnds])
    show binV P op t x y (ev ng tm x) (ev ng tm y) _ = _; rw [e1, e2]; rfl
  case unOp op t x => have e := hx x (by simp [opnds]); simp only [opK, e]
  case convert s d x => have e := hx x (by simp [opnds]); show opConvert P s d (ev ng tm x) h nx K = _; rw [e]; rfl
  case makeInterface t x => have e := hx x (by simp [opnds]); show ite1 _ (K (.e t (ev ng tm x)) h nx) = _; rw [e]; rfl
  case makeFunc fn first cap => have e := evs_congr cap.toList (fun x m => hx x (by simp only [opnds]; exact m)); show ite1 _ (fnK fn fun g => K (.f g (evs ng tm cap.toList)) h nx) = _; rw [e]; rfl
  case makeMap t r => have e := evo_congr r (fun x m => hx x (by simp only [opnds]; exact m)); show opMakeMap P t _ h nx K = _; rw [e]; rfl
  case slice t x lo hi mx =>
    have e := hx x (by simp [opnds])
    have e1 := evo_congr lo (fun x m => hx x (by simp only [opnds, List.mem_cons, List.mem_append]; exact .inr (.inl m)))
    have e2 := evo_congr hi (fun x m => hx x (by simp only [opnds, List.mem_cons, List.mem_append]; exact .inr (.inr (.inl m))))
    have e3 := evo_congr mx (fun x m => hx x (by simp only [opnds, List.mem_cons, List.mem_append]; exact .inr (.inr (.inr m))))
    simp only [opK, e, e1, e2, e3]
  case fieldAddr t x f => have e := hx x (by simp [opnds]); simp only [opK, e]
  case field t x f => have e := hx x (by simp [opnds]); show opField P t (ev ng tm x) f _ = _; rw [e]; rfl
  case indexAddr t x y =>
    have e1 := hx x (by simp [opnds]); have e2 := hx y (by simp [opnds])
    simp only [opK, e1, e2]
  case index t x y =>
    have e1 := hx x (by simp [opnds]); have e2 := hx y (by simp [opnds])
    simp only [opK, e1, e2]
  case lookup t x y ok =>
    have e1 := hx x (by simp [opnds]); have e2 := hx y (by simp [opnds])
    simp only [opK, e1, e2]
  case range t x => have e := hx x (by simp [opnds]); show opRange P t (ev ng tm x) h nx K = _; rw [e]; rfl
  case next x s => have e := hx x (by simp [opnds]); simp only [opK, e]
  case typeAssert x s t ok => have e := hx x (by simp [opnds]); simp only [opK, e]
  case extract x ix => have e := hx x (by simp [opnds]); show vT (ev ng tm x) _ = _; rw [e]; rfl
  case makeSlice t l c =>
    have e1 := hx l (by simp [opnds])
    have e2 := hx c (by simp [opnds])
    simp only [opK, e1, e2]
  case panic x => have e := hx x (by simp [opnds]); simp only [opK, e]
  case call c =>
    obtain ⟨callee, args, ts⟩ := c
    cases callee with
    | value f =>
      have e1 := hx f (by simp [opnds])
      have e2 := evs_congr args.toList (fun x m => hx x (by simp only [opnds, List.mem_cons]; exact .inr m))
      show (vF (ev ng tm f) fun g cap => catK (evs ng tm args.toList) cap fun all => ck g all h nx K Kp) = _
      rw [e1, e2]; rfl
    | invoke a b => rfl
    | builtin b =>
      have e2 := evs_congr args.toList (fun x m => hx x (by simp only [opnds]; exact m))
      show opBuiltin P b ts (evs ng tm args.toList) h nx K = _
      rw [e2]; rfl
def guardT (ops : Array Oper) (g : Option (Nat × Bool)) : Option Nat := g.bind fun p => (ops[p.1]?).bind (·.dst)
def wantV (v : V) (want run skip : Bool) : Bool := V.rec (motive := fun _ => Bool) false (fun _ _ _ _ => false) (fun q => Bool.rec skip run (bs_eq q want)) (fun _ _ => false) (fun _ => false) (fun _ _ => false) false (fun _ _ _ _ => false) false false false (fun _ => false) false (fun _ _ _ => false) false (fun _ _ _ => false) false (fun _ _ => false)
      (fun l _ => chain skip (fun _ _ _ => false) l) v
theorem wantK_some {ops : Array Oper} {j : Nat} {want : Bool} {d : Nat} (hd : (ops[j]?).bind (·.dst) = some d) (run skip : Bool) : wantK ops tm (some (j, want)) run skip = wantV (gt V.nil d tm) want run skip := by
  simp only [wantK, hd]
  rfl
theorem wantK_none {ops : Array Oper} {j : Nat} {want : Bool} (hd : (ops[j]?).bind (·.dst) = none) (run skip : Bool) : wantK ops tm (some (j, want)) run skip = false := by
  simp only [wantK, hd]
theorem wantK_cases (ops : Array Oper) (tm : T V) (g : Option (Nat × Bool)) :
    (∀ run skip, wantK ops tm g run skip = run) ∨ (∀ run skip, wantK ops tm g run skip = skip) ∨ ∀ run skip, wantK ops tm g run skip = false := by
  cases g with
  | none => exact .inl fun _ _ => rfl
  | some p =>
    obtain ⟨j, want⟩ := p
    cases hd : (ops[j]?).bind (·.dst) with
    | none => exact .inr (.inr fun run skip => wantK_none hd _ _)
    | some d =>
      have key : (∀ run skip, wantV (gt V.nil d tm) want run skip = run) ∨ (∀ run skip, wantV (gt V.nil d tm) want run skip = skip) ∨ ∀ run skip, wantV (gt V.nil d tm) want run skip = false := by
        generalize gt V.nil d tm = v
        cases v <;> first | exact .inr (.inr fun _ _ => rfl) | skip
        case b q => cases q <;> cases want <;> first | exact .inl fun _ _ => rfl | exact .inr (.inl fun _ _ => rfl)
        case t l => cases l <;> first | exact .inr (.inl fun _ _ => rfl) | exact .inr (.inr fun _ _ => rfl)
      rcases key with k | k | k
      · exact .inl fun run skip => (wantK_some hd _ _).trans (k _ _)
      · exact .inr (.inl fun run skip => (wantK_some hd _ _).trans (k _ _))
      · exact .inr (.inr fun run skip => (wantK_some hd _ _).trans (k _ _))
theorem wantK_congr {ops : Array Oper} {g : Option (Nat × Bool)} (hx : ∀ d, guardT ops g = some d → gt V.nil d tm = gt V.nil d tm') : wantK ops tm g = wantK ops tm' g := by
  funext run skip
  cases g with
  | none => rfl
  | some p =>
    obtain ⟨j, want⟩ := p
    cases hd : (ops[j]?).bind (·.dst) with
    | none => rw [wantK_none hd, wantK_none hd]
    | some d => rw [wantK_some hd, wantK_some hd, hx d (by simpa [guardT] using hd)]
theorem wantK_run {ops : Array Oper} {o : Oper} {a : Act} (ht : TR ρ tm a) (h1 : ∀ run skip, wantK ops tm o.guard run skip = run) : Region.wanted o (yielded ops a.tmps) = true := by
  have e := h1 true false
  unfold Region.wanted
  cases hg : o.guard with
  | none => rfl
  | some p =>
    obtain ⟨j, want⟩ := p
    rw [hg] at e
    cases hd : (ops[j]?).bind (·.dst) with
    | none => rw [wantK_none hd] at e; exact Bool.noConfusion e
    | some d =>
      rw [wantK_some hd] at e
      have hv := ht d
      simp only [Array.getD_eq_getD_getElem?] at hv
      generalize gt V.nil d tm = v at e hv
      cases v <;> first | exact Bool.noConfusion e | skip
      case b q =>
        simp only [VR] at hv
        have hq : q = want := by cases q <;> cases want <;> first | rfl | exact Bool.noConfusion e
        subst hq
        have : a.tmps[d]? = some (.bool q) := by
          cases hx : a.tmps[d]? with
          | none => rw [hx] at hv; simp [undef] at hv
          | some y => rw [hx] at hv; simpa using hv
        simp [yielded, hd, this]
      case t l => cases l <;> exact Bool.noConfusion e
theorem wantK_skip {ops : Array Oper} {o : Oper} {a : Act} (ht : TR ρ tm a) (h1 : ∀ run skip, wantK ops tm o.guard run skip = skip) : Region.wanted o (yielded ops a.tmps) = false := by
  have e := h1 false true
  unfold Region.wanted
  cases hg : o.guard with
  | none => rw [hg] at e; exact Bool.noConfusion e
  | some p =>
    obtain ⟨j, want⟩ := p
    rw [hg] at e
    cases hd : (ops[j]?).bind (·.dst) with
    | none => rw [wantK_none hd] at e; exact Bool.noConfusion e
    | some d =>
      rw [wantK_some hd] at e
      have hv := ht d
      simp only [Array.getD_eq_getD_getElem?] at hv
      generalize gt V.nil d tm = v at e hv
      cases v <;> first | exact Bool.noConfusion e | skip
      case b q =>
        simp only [VR] at hv
        have : a.tmps[d]? = some (.bool q) := by
          cases hx : a.tmps[d]? with
          | none => rw [hx] at hv; simp [undef] at hv
          | some y => rw [hx] at hv; simpa using hv
        cases q <;> cases want <;> first | exact Bool.noConfusion e | simp [yielded, hd, this]
      case t l =>
        cases l <;> first | exact Bool.noConfusion e | (simp [VR, VRs] at hv; done) | skip
        simp only [VR, VRs] at hv
        obtain ⟨vs, rfl, hv⟩ := hv
        have : yielded ops a.tmps j = none := by
          simp only [yielded, hd, Option.bind_some]
          cases hx : a.tmps[d]? with
          | none => rfl
          | some y => rw [hx] at hv; simp at hv; subst hv; rfl
        simp [this]
end
end Go.Mx
