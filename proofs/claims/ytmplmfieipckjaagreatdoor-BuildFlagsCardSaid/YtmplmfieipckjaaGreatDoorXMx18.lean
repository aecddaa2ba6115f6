/-
  A part of a small executor of the model, proved sound (Mx18 of 46). No condition.
-/
import Derived.Test.YtmplmfieipckjaaGreatDoorXMxA
namespace Go.Mx
open Instr Builtin
noncomputable section
variable {P : Program} {ρ : Ren} {h : T O} {nx : Nat} {w : World} {ng : Nat}
def RG (ng : Nat) (ρ : Ren) : Prop := ∀ g, g < ng → ∃ L, ρ g = some L ∧ L.blk = g ∧ L.base = 0
theorem RG.mono {ρ' : Ren} (h : Ren.le ρ ρ') (g : RG ng ρ) : RG ng ρ' := fun i hi => let ⟨L, h1, h2⟩ := g i hi; ⟨L, h _ _ h1, h2⟩
theorem ev_rel {tm : T V} {a : Act} (hg : RG ng ρ) (ht : TR ρ tm a) (x : Operand) : VR ρ (ev ng tm x) (a.eval x) := by
  cases x with
  | tmp t => exact ht t
  | const v => exact ofVal_rel ρ v
  | global g =>
    show VR ρ (Bool.rec V.nil (V.p g 0) (Nat.blt g ng)) _
    cases e : Nat.blt g ng with
    | false => simp only [VR]
    | true =>
      obtain ⟨L, h1, h2, h3⟩ := hg g (Nat.blt_eq.mp e)
      show VR ρ (V.p g 0) _
      simp only [VR]
      exact ⟨L, h1, by simp [Act.eval, h2, h3]⟩
  | func f =>
    show VR ρ (V.f f V.nil) _
    simp only [VR]
    exact ⟨[], by simp [VRs], rfl⟩
theorem evs_rel {tm : T V} {a : Act} (hg : RG ng ρ) (ht : TR ρ tm a) : ∀ l : List Operand, VRs ρ (evs ng tm l) (l.map a.eval)
  | [] => by show VRs ρ V.nil []; simp [VRs]
  | x :: l => by
    show VRs ρ (V.cons (ev ng tm x) (evs ng tm l)) _
    simp only [VRs, List.map_cons]
    exact ⟨_, _, rfl, ev_rel hg ht x, evs_rel hg ht l⟩
theorem evp_rel {tm : T V} {a : Act} (hg : RG ng ρ) (ht : TR ρ tm a) : ∀ l : List (Nat × Operand), PsR ρ (evp ng tm l) (l.map fun p => (p.1, a.eval p.2))
  | [] => .nil
  | (_i, x) :: l => .cons (ev_rel hg ht x) (evp_rel hg ht l)
def UponOK (P : Program) (r : Result Next) (ρ : Ren) (h : T O) (w : World) (K Kp : KV) : Prop :=
  ∀ (o : Oper) (a : Act) (next : Act → World → Prop) (Q : Exit → Act → World → Prop),
    (∀ ρ' x h' nx' v w', VR ρ' x v → St ρ' h' nx' w' → Ext ρ h w ρ' h' w' → K x h' nx' = true → next (a.put o.dst v) w') →
    (∀ ρ' x h' nx' v w', VR ρ' x v → St ρ' h' nx' w' → Ext ρ h w ρ' h' w' → Kp x h' nx' = true → Q (.panic [{ v, recovered := false }]) a w') →
    o.upon P a next Q r
theorem UponOK.val {K Kp : KV} {ρ' : Ren} {x : V} {h' : T O} {nx' : Nat} {v : Value} {w' : World} {r : Result Next} (hr : r = .ok (.value v) w') (hv : VR ρ' x v) (hs : St ρ' h' nx' w') (he : Ext ρ h w ρ' h' w') (hk : K x h' nx' = true) : UponOK P r ρ h w K Kp := by
  intro o a next Q h1 _
  rw [hr]
  exact h1 _ _ _ _ _ _ hv hs he hk
theorem UponOK.skip {K Kp : KV} {ρ' : Ren} {h' : T O} {nx' : Nat} {w' : World} {r : Result Next} (hr : r = .ok .skip w') (hs : St ρ' h' nx' w') (he : Ext ρ h w ρ' h' w') (hk : K .nil h' nx' = true) : UponOK P r ρ h w K Kp := by
  intro o a next Q h1 _
  rw [hr]
  exact h1 _ .nil _ _ undef _ (by simp only [VR]) hs he hk
def CKok (P : Program) (ng : Nat) (ck : CK) : Prop := ∀ g args h nx K Kp, ck g args h nx K Kp = true → ∀ ρ w vs, St ρ h nx w → RG ng ρ → VRs ρ args vs → UponOK P ((callFunc g ⟨vs⟩).run P w) ρ h w K Kp
theorem vrun {s : Sem Value} {v : Value} {w' : World} (h : s.run P w = .ok v w') : ((do pure (.value (← s)) : Sem Next)).run P w = .ok (.value v) w' := by simp [h]
theorem urun {s : Sem Unit} {w' : World} (h : s.run P w = .ok () w') : ((do s; pure .skip : Sem Next)).run P w = .ok .skip w' := by simp [h]
theorem OpR_map {tm : T V} {a : Act} (hg : RG ng ρ) (ht : TR ρ tm a) (x : Option Operand) : OpR ρ (Option.rec (motive := fun _ => Option V) none (fun x => some (ev ng tm x)) x) (x.map a.eval) := by
  cases x with
  | none => trivial
  | some x => exact ev_rel hg ht x
theorem arg0_spec {l : V} {k : V → V → Bool} (h : arg0 l k = true) : ∃ x r, l = .cons x r ∧ k x r = true := by
  cases l <;> first | exact ⟨_, _, rfl, h⟩ | exact Bool.noConfusion h
theorem min2_sound {lt : Bool} {x y : V} {vx vy : Value} {K : V → Bool} (hk : min2 lt x y K = true) (hx : VR ρ x vx) (hy : VR ρ y vy) :
    ∃ z r, K z = true ∧ VR ρ z r ∧ (lt = true → (Builtin.min2 vx vy).run P w = .ok r w) ∧ (lt = false → (Builtin.max2 vx vy).run P w = .ok r w) := by
  obtain ⟨k, a, rfl, hk2⟩ := vI_spec hk
  clear hk
  obtain ⟨k', b, rfl, hk3⟩ := vI_spec hk2
  clear hk2
  obtain ⟨e, hk4⟩ := ite1_spec hk3
  clear hk3
  have e := keq_eq e
  subst e
  simp only [VR] at hx hy
  subst hx
  subst hy
  cases lt with
  | true =>
    have hk5 : (Bool.rec (K (.i k a)) (K (.i k b)) (ilt b a) : Bool) = true := hk4
    rw [ilt_eq] at hk5
    by_cases hlt : b < a
    · simp only [hlt, decide_true] at hk5
      exact ⟨_, _, hk5, VRi _ _ _, fun _ => by simp [Builtin.min2, hlt], fun h => by cases h⟩
    · simp only [hlt, decide_false] at hk5
      exact ⟨_, _, hk5, VRi _ _ _, fun _ => by simp [Builtin.min2, hlt], fun h => by cases h⟩
  | false =>
    have hk5 : (Bool.rec (K (.i k a)) (K (.i k b)) (ilt a b) : Bool) = true := hk4
    rw [ilt_eq] at hk5
    by_cases hlt : a < b
    · simp only [hlt, decide_true] at hk5
      exact ⟨_, _, hk5, VRi _ _ _, (fun h => by cases h), fun _ => by simp [Builtin.max2, hlt]⟩
    · simp only [hlt, decide_false] at hk5
      exact ⟨_, _, hk5, VRi _ _ _, (fun h => by cases h), fun _ => by simp [Builtin.max2, hlt]⟩
theorem opBuiltin_sound {b : Builtin} {ts : Array TypeId} {ty' : TypeId} {cs : Array Bool} {args : V} {vs : List Value} {K Kp : KV} (hk : opBuiltin P b ts args h nx K = true) (s : St ρ h nx w) (ha : VRs ρ args vs) :
    UponOK P ((builtin b ts ty' cs ⟨vs⟩).run P w) ρ h w K Kp := by
  cases b <;> first | exact Bool.noConfusion hk | skip
  case append =>
    obtain ⟨x, r, rfl, hk2⟩ := arg0_spec (show arg0 args (fun s r => arg0 r fun x _ => ite1 (Nat.ble 2 ts.size) <| opAppend P (ts.getD 0 0) (ts.getD 1 0) s x h nx K) = true from hk)
    obtain ⟨y, r2, rfl, hk3⟩ := arg0_spec hk2
    obtain ⟨e, hk4⟩ := ite1_spec hk3
    have e := Nat.le_of_ble_eq_true e
    simp only [VRs] at ha
    obtain ⟨v1, l1, rfl, h1, v2, l2, rfl, h2, _⟩ := ha
    have t0 : ts[0]? = some (ts.getD 0 0) := by rw [Array.getD_eq_getD_getElem?, Array.getElem?_eq_getElem (by omega)]; rfl
    have t1 : ts[1]? = some (ts.getD 1 0) := by rw [Array.getD_eq_getD_getElem?, Array.getElem?_eq_getElem (by omega)]; rfl
    obtain ⟨ρ', z, h', nx', v, w', q1, q2, q3, q4, q5⟩ := opAppend_sound (P := P) (ty := ty') (args := ⟨v1 :: v2 :: l2⟩) hk4 s t0 t1 rfl rfl h1 h2
    exact UponOK.val (vrun q5) q2 q3 q4 q1
  case len =>
    obtain ⟨x, r, rfl, hk2⟩ := arg0_spec (show arg0 args (fun x _ => ite1 (Nat.ble 1 ts.size) <| opLen P (ts.getD 0 0) x h fun v => K v h nx) = true from hk)
    obtain ⟨e, hk4⟩ := ite1_spec hk2
    have e := Nat.le_of_ble_eq_true e
    simp only [VRs] at ha
    obtain ⟨v1, l1, rfl, h1, _⟩ := ha
    have t0 : ts[0]? = some (ts.getD 0 0) := by rw [Array.getD_eq_getD_getElem?, Array.getElem?_eq_getElem (by omega)]; rfl
    obtain ⟨z, v, q1, q2, q3⟩ := opLen_sound (P := P) (ty := ty') (args := ⟨v1 :: l1⟩) (K := fun v => K v h nx) hk4 s h1 t0 rfl
    exact UponOK.val (vrun q3) q2 s (Ext.refl _ _ _) q1
  case min =>
    obtain ⟨x, r, rfl, hk2⟩ := arg0_spec (show arg0 args (fun x r => arg0 r fun y r' => chain (Mx.min2 true x y fun v => K v h nx) (fun _ _ _ => false) r') = true from hk)
    obtain ⟨y, r2, rfl, hk3⟩ := arg0_spec hk2
    simp only [VRs] at ha
    obtain ⟨v1, l1, rfl, h1, v2, l2, rfl, h2, h3⟩ := ha
    cases r2 <;> first | (simp only [VRs] at h3; done) | exact Bool.noConfusion hk3 | skip
    simp only [VRs] at h3
    subst h3
    obtain ⟨z, v, q1, q2, q3, _⟩ := min2_sound (P := P) (w := w) (K := fun v => K v h nx) (show Mx.min2 true x y (fun v => K v h nx) = true from hk3) h1 h2
    refine UponOK.val (vrun (v := v) ?_) q2 s (Ext.refl _ _ _) q1
    simp [min_, q3 rfl]
  case max =>
    obtain ⟨x, r, rfl, hk2⟩ := arg0_spec (show arg0 args (fun x r => arg0 r fun y r' => chain (Mx.min2 false x y fun v => K v h nx) (fun _ _ _ => false) r') = true from hk)
    obtain ⟨y, r2, rfl, hk3⟩ := arg0_spec hk2
    simp only [VRs] at ha
    obtain ⟨v1, l1, rfl, h1, v2, l2, rfl, h2, h3⟩ := ha
    cases r2 <;> first | (simp only [VRs] at h3; done) | exact Bool.noConfusion hk3 | skip
    simp only [VRs] at h3
    subst h3
    obtain ⟨z, v, q1, q2, _, q3⟩ := min2_sound (P := P) (w := w) (K := fun v => K v h nx) (show Mx.min2 false x y (fun v => K v h nx) = true from hk3) h1 h2
    refine UponOK.val (vrun (v := v) ?_) q2 s (Ext.refl _ _ _) q1
    simp [max_, q3 rfl]
  case cap =>
    obtain ⟨x, r, rfl, hk2⟩ := arg0_spec (show arg0 args (fun x _ => ite1 (Nat.ble 1 ts.size) <| opCap P (ty ts 0) x fun v => K v h nx) = true from hk)
    obtain ⟨e, hk4⟩ := ite1_spec hk2
    have e := Nat.le_of_ble_eq_true e
    simp only [VRs] at ha
    obtain ⟨v1, l1, rfl, h1, _⟩ := ha
    have t0 : ts[0]? = some (ts.getD 0 0) := by rw [Array.getD_eq_getD_getElem?, Array.getElem?_eq_getElem (by omega)]; rfl
    obtain ⟨z, v, q1, q2, q3⟩ := opCap_sound (P := P) (w := w) (ty := ty') (args := ⟨v1 :: l1⟩) (K := fun v => K v h nx) hk4 h1 t0 rfl
    exact UponOK.val (vrun q3) q2 s (Ext.refl _ _ _) q1
  case copy =>
    obtain ⟨x, r, rfl, hk2⟩ := arg0_spec (show arg0 args (fun d r => arg0 r fun s _ => ite1 (Nat.ble 1 ts.size) <| opCopy P (ty ts 0) d s h fun v h' => K v h' nx) = true from hk)
    obtain ⟨y, r2, rfl, hk3⟩ := arg0_spec hk2
    obtain ⟨e, hk4⟩ := ite1_spec hk3
    have e := Nat.le_of_ble_eq_true e
    simp only [VRs] at ha
    obtain ⟨v1, l1, rfl, h1, v2, l2, rfl, h2, _⟩ := ha
    have t0 : ts[0]? = some (ts.getD 0 0) := by rw [Array.getD_eq_getD_getElem?, Array.getElem?_eq_getElem (by omega)]; rfl
    obtain ⟨z, v, h', w', q1, q2, q3, q4, q5⟩ := opCopy_sound (P := P) (ty := ty') (args := ⟨v1 :: v2 :: l2⟩) (K := fun v h' => K v h' nx) hk4 s h1 h2 t0 rfl rfl
    exact UponOK.val (vrun q5) q2 q3 q4 q1
  case unsafeSliceData =>
    obtain ⟨x, r, rfl, hk2⟩ := arg0_spec (show arg0 args (fun x r => chain (opSliceData x fun v => K v h nx) (fun _ _ _ => false) r) = true from hk)
    simp only [VRs] at ha
    obtain ⟨v1, l1, rfl, h1, h3⟩ := ha
    cases r <;> first | (simp only [VRs] at h3; done) | exact Bool.noConfusion hk2 | skip
    simp only [VRs] at h3
    subst h3
    obtain ⟨z, v, q1, q2, q3⟩ := opSliceData_sound (P := P) (w := w) (ts := ts) (ty := ty') (K := fun v => K v h nx) (show opSliceData x (fun v => K v h nx) = true from hk2) h1
    exact UponOK.val (vrun q3) q2 s (Ext.refl _ _ _) q1
  case unsafeString =>
    obtain ⟨x, r, rfl, hk2⟩ := arg0_spec (show arg0 args (fun x r => arg0 r fun n r' => chain (ite1 (Nat.ble 1 ts.size) <| opString P (ty ts 0) x n h fun v h' => K v h' nx) (fun _ _ _ => false) r') = true from hk)
    obtain ⟨y, r2, rfl, hk3⟩ := arg0_spec hk2
    simp only [VRs] at ha
    obtain ⟨v1, l1, rfl, h1, v2, l2, rfl, h2, h3⟩ := ha
    cases r2 <;> first | (simp only [VRs] at h3; done) | exact Bool.noConfusion hk3 | skip
    simp only [VRs] at h3
    subst h3
    obtain ⟨e, hk4⟩ := ite1_spec (show ite1 (Nat.ble 1 ts.size) (opString P (ty ts 0) x y h fun v h' => K v h' nx) = true from hk3)
    have e := Nat.le_of_ble_eq_true e
    have t0 : ts[0]? = some (ts.getD 0 0) := by rw [Array.getD_eq_getD_getElem?, Array.getElem?_eq_getElem (by omega)]; rfl
    obtain ⟨z, v, h', w', q1, q2, q3, q4, q5⟩ := opString_sound (P := P) (ty := ty') (ts := ts) (K := fun v h' => K v h' nx) hk4 s h1 h2 t0
    exact UponOK.val (vrun q5) q2 q3 q4 q1
theorem opCall_sound {ck : CK} (hck : CKok P ng ck) {tm : T V} {a : Act} {c : Call} {ty : TypeId} {K Kp : KV} (hk : opCall P ng ck tm c h nx K Kp = true) (s : St ρ h nx w) (hg : RG ng ρ) (ht : TR ρ tm a) :
    UponOK P ((do let d ← resolve a.eval c ty; invoke d.target d.args : Sem Next).run P w) ρ h w K Kp := by
  obtain ⟨callee, args, ts⟩ := c
  have hargs := evs_rel hg ht args.toList
  have harr : (⟨args.toList.map a.eval⟩ : Array Value) = args.map a.eval := by apply Array.ext'; simp
  cases callee with
  | invoke r m => exact Bool.noConfusion hk
  | value f =>
    obtain ⟨g, cap, hf, hk2⟩ := vF_spec (show vF (ev ng tm f) (fun g cap => catK (evs ng tm args.toList) cap fun all => ck g all h nx K Kp) = true from hk)
    have hfr := ev_rel hg ht f
    rw [hf] at hfr
    simp only [VR] at hfr
    obtain ⟨cs, hcs, hfe⟩ := hfr
    obtain ⟨all, hk3, _, hall, _⟩ := catK_spec hk2 (VRs_isC hargs)
    have := hck g all h nx K Kp hk3 ρ w _ s hg (hall ρ _ _ hargs hcs)
    have e : (do let d ← resolve a.eval ⟨.value f, args, ts⟩ ty; invoke d.target d.args : Sem Next).run P w = (callFunc g ⟨args.toList.map a.eval ++ cs⟩).run P w := by
      simp only [resolve, hfe, Deferred.ofValue, Sem.run_bind, Sem.run_pure, Result.andThen_ok, invoke]
      congr 2
      apply Array.ext'
      simp
    rw [e]
    exact this
  | builtin b =>
    have := opBuiltin_sound (P := P) (ty' := ty) (cs := args.map fun | .const _ => true | _ => false) (Kp := Kp) (show opBuiltin P b ts (evs ng tm args.toList) h nx K = true from hk) s hargs
    have e : (do let d ← resolve a.eval ⟨.builtin b, args, ts⟩ ty; invoke d.target d.args : Sem Next).run P w = (builtin b ts ty (args.map fun | .const _ => true | _ => false) ⟨args.toList.map a.eval⟩).run P w := by
      simp only [resolve, Sem.run_bind, Sem.run_pure, Result.andThen_ok, invoke, harr]
      rfl
    rw [e]
    exact this
set_option maxHeartbeats 1000000 in
theorem opK_sound {ck : CK} (hck : CKok P ng ck) {tm : T V} {a : Act} {o : Oper} {op : Op} (hop : o.op = op) {K Kp : KV} (hk : opK P ng ck tm op h nx K Kp = true) (s : St ρ h nx w) (hg : RG ng ρ) (ht : TR ρ tm a) :
    UponOK P ((execOp a.eval o).run P w) ρ h w K Kp := by
  obtain ⟨dst, op', ty, pos, after, guard⟩ := o
  simp only at hop
  subst hop
  cases op' <;> first | exact Bool.noConfusion hk | skip
  case move x => exact UponOK.val rfl (ev_rel hg ht x) s (Ext.refl _ _ _) hk
  case assign x => exact UponOK.val rfl (ev_rel hg ht x) s (Ext.refl _ _ _) hk
  case pick c x y =>
    obtain ⟨q, hq, hk2⟩ := vB_spec (show vB (ev ng tm c) (fun q => Bool.rec (K (ev ng tm y) h nx) (K (ev ng tm x) h nx) q) = true from hk)
    have hc := ev_rel hg ht c
    rw [hq] at hc
    simp only [VR] at hc
    cases q with
    | true => exact UponOK.val (by simp [execOp, hc, asBool]) (ev_rel hg ht x) s (Ext.refl _ _ _) hk2
    | false => exact UponOK.val (by simp [execOp, hc, asBool]) (ev_rel hg ht y) s (Ext.refl _ _ _) hk2
  case alloc t =>
    obtain ⟨ρ', x, h', nx', v, w', q1, q2, q3, q4, q5⟩ := opAlloc_sound (show opAlloc P t h nx K = true from hk) s
    exact UponOK.val (vrun q5) q2 q3 q4 q1
  case box t x =>
    obtain ⟨ρ', y, h', nx', v, w', q1, q2, q3, q4, q5⟩ := opBox_sound (P := P) (show opBox t (ev ng tm x) h nx K = true from hk) s (ev_rel hg ht x)
    exact UponOK.val (vrun q5) q2 q3 q4 q1
  case build t ps =>
    obtain ⟨y, r, q1, q2, q3⟩ := opBuild_sound (w := w) (vs := ps.map fun (i, x) => (i, a.eval x)) (show opBuild P t (evp ng tm ps.toList) (fun v => K v h nx) = true from hk) (by simpa using evp_rel hg ht ps.toList)
    exact UponOK.val (vrun q3) q2 s (Ext.refl _ _ _) q1
  case buildSlice t n ps =>
    obtain ⟨ρ', y, h', nx', v, w', q1, q2, q3, q4, q5⟩ := opBuildSlice_sound (vs := ps.map fun (i, x) => (i, a.eval x)) (show opBuildSlice P t n (evp ng tm ps.toList) h nx K = true from hk) (by simpa using evp_rel hg ht ps.toList) s
    exact UponOK.val (vrun q5) q2 q3 q4 q1
  case insert t m k x =>
    obtain ⟨h', w', q1, q2, q3, q4⟩ := opMapUpdate_sound (show opMapUpdate P t (ev ng tm m) (ev ng tm k) (ev ng tm x) h (fun h' => K .nil h' nx) = true from hk) s (ev_rel hg ht m) (ev_rel hg ht k) (ev_rel hg ht x)
    exact UponOK.skip (urun q4) q2 q3 q1
  case mapUpdate t m k x =>
    obtain ⟨h', w', q1, q2, q3, q4⟩ := opMapUpdate_sound (show opMapUpdate P t (ev ng tm m) (ev ng tm k) (ev ng tm x) h (fun h' => K .nil h' nx) = true from hk) s (ev_rel hg ht m) (ev_rel hg ht k) (ev_rel hg ht x)
    exact UponOK.skip (urun q4) q2 q3 q1
  case makeSlice t l c =>
    obtain ⟨ρ', x, h', nx', v, w', q1, q2, q3, q4, q5⟩ := opMakeSlice_sound (show opMakeSlice P t (ev ng tm l) (ev ng tm c) h nx K = true from hk) s (ev_rel hg ht l) (ev_rel hg ht c)
    exact UponOK.val (vrun q5) q2 q3 q4 q1
  case load t x =>
    obtain ⟨y, r, q1, q2, q3⟩ := opLoad_sound (show opLoad P t (ev ng tm x) h (fun v => K v h nx) = true from hk) s (ev_rel hg ht x)
    exact UponOK.val (vrun q3) q2 s (Ext.refl _ _ _) q1
  case store t x y =>
    obtain ⟨h', w', q1, q2, q3, q4⟩ := opStore_sound (show opStore P t (ev ng tm x) (ev ng tm y) h (fun h' => K .nil h' nx) = true from hk) s (ev_rel hg ht x) (ev_rel hg ht y)
    exact UponOK.skip (urun q4) q2 q3 q1
  case nilCheck x =>
    have hx := ev_rel hg ht x
    generalize hv : ev ng tm x = v at hx
    have hk2 : opK P ng ck tm (.nilCheck x) h nx K Kp = true := hk
    unfold opK at hk2
    simp only [hv] at hk2
    clear hk
    cases v <;> first | exact Bool.noConfusion hk2 | skip
    case p id off =>
      have hx2 := hx
      simp only [VR] at hx2
      obtain ⟨L, _, he⟩ := hx2
      exact UponOK.val (v := a.eval x) (by simp only [execOp, he]; rfl) hx s (Ext.refl _ _ _) hk2
    case f g c =>
      have hx2 := hx
      simp only [VR] at hx2
      obtain ⟨cs, _, he⟩ := hx2
      exact UponOK.val (v := a.eval x) (by simp only [execOp, he]; rfl) hx s (Ext.refl _ _ _) hk2
  case binOp op t x y t2 =>
    obtain ⟨c, r, q1, q2, q3⟩ := binV_sound (w := w) (show binV P op t x y (ev ng tm x) (ev ng tm y) (fun v => K v h nx) = true from hk) (ev_rel hg ht x) (ev_rel hg ht y)
    exact UponOK.val (vrun q3) q2 s (Ext.refl _ _ _) q1
  case unOp op t x =>
    obtain ⟨c, r, q1, q2, q3⟩ := unV_sound (P := P) (w := w) (show unV op (ev ng tm x) (fun v => K v h nx) = true from hk) (ev_rel hg ht x)
    exact UponOK.val (vrun q3) q2 s (Ext.refl _ _ _) q1
  case convert s1 d x =>
    obtain ⟨ρ', y, h', nx', v, w', q1, q2, q3, q4, q5⟩ := opConvert_sound (show opConvert P s1 d (ev ng tm x) h nx K = true from hk) s (ev_rel hg ht x)
    exact UponOK.val (vrun q5) q2 q3 q4 q1
  case makeInterface t x =>
    obtain ⟨e, hk2⟩ := ite1_spec (show ite1 (conc P t) (K (.e t (ev ng tm x)) h nx) = true from hk)
    have hd : ∃ d, P.underlying t = some d ∧ ∀ m, d ≠ .interface m := by
      unfold conc at e
      cases e2 : Nat.beq (tyk P t) 23 with
      | true => rw [e2] at e; exact Bool.noConfusion e
      | false =>
        rw [e2] at e
        have e := Nat.blt_eq.mp (show Nat.blt 0 (tyk P t) = true from e)
        obtain ⟨d, hu⟩ := (tyk_cases (P := P) t).2.2.2.2.2.2.2.1 (Nat.pos_iff_ne_zero.1 e)
        refine ⟨d, hu, fun m hm => ?_⟩
        subst hm
        simp [tyk, hu] at e2
    obtain ⟨d, hu, hni⟩ := hd
    refine UponOK.val (v := .iface t (a.eval x)) (vrun ?_) (by simp only [VR]; exact ⟨_, ev_rel hg ht x, rfl⟩) s (Ext.refl _ _ _) hk2
    unfold Instr.makeInterface
    simp only [Sem.run_bind, run_und hu, Result.andThen_ok]
    cases d <;> first | exact (hni _ rfl).elim | rfl
  case makeFunc fn first cap =>
    obtain ⟨e, hk2⟩ := ite1_spec (show ite1 (Nat.beq first.size 0) (fnK fn fun g => K (.f g (evs ng tm cap.toList)) h nx) = true from hk)
    have e := beq_spec e
    have hf : first = #[] := Array.eq_empty_of_size_eq_zero e
    subst hf
    cases fn <;> first | exact Bool.noConfusion hk2 | skip
    case func g =>
      refine UponOK.val (v := .func (.func g) #[] (cap.map a.eval)) (vrun ?_) ?_ s (Ext.refl _ _ _) hk2
      · simp [Instr.makeFunc]
      · simp only [VR]
        exact ⟨_, evs_rel hg ht cap.toList, by congr 1; apply Array.ext'; simp⟩
  case makeMap t r =>
    obtain ⟨ρ', y, h', nx', v, w', q1, q2, q3, q4, q5⟩ := opMakeMap_sound (P := P) (show opMakeMap P t (Option.rec (motive := fun _ => Option V) none (fun x => some (ev ng tm x)) r) h nx K = true from hk) s (OpR_map hg ht r)
    exact UponOK.val (vrun q5) q2 q3 q4 q1
  case slice t x lo hi mx =>
    obtain ⟨y, r, q1, q2, q3⟩ := opSlice_sound (w := w) (show opSlice P t (ev ng tm x) (Option.rec (motive := fun _ => Option V) none (fun x => some (ev ng tm x)) lo) (Option.rec (motive := fun _ => Option V) none (fun x => some (ev ng tm x)) hi) (Option.rec (motive := fun _ => Option V) none (fun x => some (ev ng tm x)) mx) (fun v => K v h nx) = true from hk)
      (ev_rel hg ht x) (OpR_map hg ht lo) (OpR_map hg ht hi) (OpR_map hg ht mx)
    exact UponOK.val (vrun q3) q2 s (Ext.refl _ _ _) q1
  case fieldAddr t x f =>
    obtain ⟨y, r, q1, q2, q3⟩ := opFieldAddr_sound (w := w) (show opFieldAddr P t (ev ng tm x) f (fun v => K v h nx) = true from hk) (ev_rel hg ht x)
    exact UponOK.val (vrun q3) q2 s (Ext.refl _ _ _) q1
  case field t x f =>
    obtain ⟨y, r, q1, q2, q3⟩ := opField_sound (w := w) (show opField P t (ev ng tm x) f (fun v => K v h nx) = true from hk) (ev_rel hg ht x)
    exact UponOK.val (vrun q3) q2 s (Ext.refl _ _ _) q1
  case indexAddr t x ix =>
    obtain ⟨y, r, q1, q2, q3⟩ := opIndexAddr_sound (w := w) (show opIndexAddr P t (ev ng tm x) (ev ng tm ix) (fun v => K v h nx) = true from hk) (ev_rel hg ht x) (ev_rel hg ht ix)
    exact UponOK.val (vrun q3) q2 s (Ext.refl _ _ _) q1
  case index t x ix =>
    obtain ⟨y, r, q1, q2, q3⟩ := opIndex_sound (w := w) (show opIndex P t (ev ng tm x) (ev ng tm ix) (fun v => K v h nx) = true from hk) (ev_rel hg ht x) (ev_rel hg ht ix)
    exact UponOK.val (vrun q3) q2 s (Ext.refl _ _ _) q1
  case lookup t x ix ok =>
    obtain ⟨y, r, q1, q2, q3⟩ := opLookup_sound (show opLookup P t (ev ng tm x) (ev ng tm ix) ok h (fun v => K v h nx) = true from hk) s (ev_rel hg ht x) (ev_rel hg ht ix)
    exact UponOK.val (vrun q3) q2 s (Ext.refl _ _ _) q1
  case range t x =>
    obtain ⟨ρ', y, h', nx', v, w', q1, q2, q3, q4, q5⟩ := opRange_sound (show opRange P t (ev ng tm x) h nx K = true from hk) s (ev_rel hg ht x)
    exact UponOK.val (vrun q5) q2 q3 q4 q1
  case next it str =>
    obtain ⟨y, h', v, w', q1, q2, q3, q4, q5⟩ := opNext_sound (P := P) (ty := ty) (show opNext (ev ng tm it) str h (fun v h' => K v h' nx) = true from hk) s (ev_rel hg ht it)
    exact UponOK.val (vrun q5) q2 q3 q4 q1
  case typeAssert x xT t ok =>
    obtain ⟨y, r, q1, q2, q3⟩ := opAssert_sound (w := w) (xT := xT) (show opAssert P (ev ng tm x) t ok (fun v => K v h nx) = true from hk) (ev_rel hg ht x)
    exact UponOK.val (vrun q3) q2 s (Ext.refl _ _ _) q1
  case extract x ix =>
    obtain ⟨l, hl, hk2⟩ := vT_spec (show vT (ev ng tm x) (fun l => nthK l ix fun v => K v h nx) = true from hk)
    have hx := ev_rel hg ht x
    rw [hl] at hx
    simp only [VR] at hx
    obtain ⟨vs, hvs, he⟩ := hx
    obtain ⟨y, hy, hr⟩ := nthK_spec hk2
    obtain ⟨r, hr1, hr2⟩ := hr ρ _ hvs.CR'
    refine UponOK.val (v := r) (vrun ?_) hr2 s (Ext.refl _ _ _) hy
    have : (⟨vs⟩ : Array Value)[ix]? = some r := by simpa using hr1
    simp only [he, Instr.extract, this, Sem.run_pure]
  case call c => exact opCall_sound hck (show opCall P ng ck tm c h nx K Kp = true from hk) s hg ht
  case panic x =>
    have hx := ev_rel hg ht x
    generalize hv : ev ng tm x = v at hx
    have hk2 : opK P ng ck tm (.panic x) h nx K Kp = true := hk
    unfold opK at hk2
    simp only [hv] at hk2
    clear hk
    cases v <;> first | exact Bool.noConfusion hk2 | skip
    case e t y =>
      have hx2 := hx
      simp only [VR] at hx2
      obtain ⟨z, _, he⟩ := hx2
      intro o a' next Q _ hp
      have hr : (execOp a.eval { dst := dst, op := .panic x, type := ty, pos := pos, after := after, guard := guard }).run P w = .halt (.panic (a.eval x)) w := by
        simp only [execOp, he, Instr.panic, Sem.run_bind]
        rfl
      rw [hr]
      exact hp _ _ _ _ _ _ hx s (Ext.refl _ _ _) hk2
end
end Go.Mx
