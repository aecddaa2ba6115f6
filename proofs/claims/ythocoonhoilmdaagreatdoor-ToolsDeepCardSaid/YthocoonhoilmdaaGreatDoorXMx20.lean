/-
  A part of a small executor of the model, proved sound (10 of 28). No condition.
-/
import Derived.Test.YthocoonhoilmdaaGreatDoorXMxA
import Derived.Test.YthocoonhoilmdaaGreatDoorXMx5
namespace Go.Mx
open Instr Builtin
noncomputable section
variable {P : Program} {ρ : Ren} {h : T O} {nx : Nat} {w : World} {ng : Nat}
def RG (ng : Nat) (ρ : Ren) : Prop := ∀ g, g < ng → ∃ L, ρ g = some L ∧ L.blk = g ∧ L.base = 0
theorem RG.mono {ρ' : Ren} (h : Ren.le ρ ρ') (g : RG ng ρ) : RG ng ρ' := fun i hi => let ⟨L, h1, h2⟩ := g i hi; ⟨L, h _ _ h1, h2⟩
theorem ev_rel {tm : T V} {a : Act} (hg : RG ng ρ) (ht : TR ρ tm a) (x : Operand) : VR ρ (ev ng tm x) (a.eval x) := by
  cases x with
  | tmp t => exact ht t
  | const v => exact ofVal_rel ρ v
  | global g =>
    show VR ρ (Bool.rec V.nil (V.p g 0) (Nat.blt g ng)) _
    cases e : Nat.blt g ng with
    | false => simp only [VR]
    | true =>
      obtain ⟨L, h1, h2, h3⟩ := hg g (Nat.blt_eq.mp e)
      show VR ρ (V.p g 0) _
      simp only [VR]
      exact ⟨L, h1, by simp [Act.eval, h2, h3]⟩
  | func f =>
    show VR ρ (V.f f V.nil) _
    simp only [VR]
    exact ⟨[], by simp [VRs], rfl⟩
theorem evs_rel {tm : T V} {a : Act} (hg : RG ng ρ) (ht : TR ρ tm a) : ∀ l : List Operand, VRs ρ (evs ng tm l) (l.map a.eval)
  | [] => by show VRs ρ V.nil []; simp [VRs]
  | x :: l => by
    show VRs ρ (V.cons (ev ng tm x) (evs ng tm l)) _
    simp only [VRs, List.map_cons]
    exact ⟨_, _, rfl, ev_rel hg ht x, evs_rel hg ht l⟩
theorem evp_rel {tm : T V} {a : Act} (hg : RG ng ρ) (ht : TR ρ tm a) : ∀ l : List (Nat × Operand), PsR ρ (evp ng tm l) (l.map fun p => (p.1, a.eval p.2))
  | [] => .nil
  | (_i, x) :: l => .cons (ev_rel hg ht x) (evp_rel hg ht l)
def PanC (v : Value) (rc : Bool) (ch : List PanicEntry) : Prop := ∃ tail, ch = { v := v, recovered := rc } :: tail ∧ ∀ e ∈ tail, e.goexit = false
theorem PanC.one (v : Value) (rc : Bool) : PanC v rc [{ v := v, recovered := rc }] := ⟨[], rfl, fun _ h => by cases h⟩
theorem PanC.all {v : Value} {rc : Bool} {ch : List PanicEntry} (h : PanC v rc ch) : ∀ e ∈ ch, e.goexit = false := by
  obtain ⟨tail, rfl, ht⟩ := h
  intro e he
  rcases List.mem_cons.1 he with rfl | he
  · rfl
  · exact ht e he
theorem PanC.more {v : Value} {rc : Bool} {ch old : List PanicEntry} (h : PanC v rc ch) (ho : ∀ e ∈ old, e.goexit = false) : PanC v rc (ch ++ old) := by
  obtain ⟨tail, rfl, ht⟩ := h
  exact ⟨tail ++ old, rfl, fun e he => (List.mem_append.1 he).elim (ht e) (ho e)⟩
def UponOK (P : Program) (r : Result Next) (ρ : Ren) (h : T O) (w : World) (K Kp : KV) : Prop :=
  ∀ (o : Oper) (a : Act) (next : Act → World → Prop) (Q : Exit → Act → World → Prop),
    (∀ ρ' x h' nx' v w', VR ρ' x v → St ρ' h' nx' w' → Ext ρ h w ρ' h' w' → K x h' nx' = true → next (a.put o.dst v) w') →
    (∀ ρ' x h' nx' v w', VR ρ' x v → St ρ' h' nx' w' → Ext ρ h w ρ' h' w' → Kp x h' nx' = true → ∀ ch, PanC v false ch → Q (.panic ch) a w') →
    o.upon P a next Q r
theorem UponOK.val {K Kp : KV} {ρ' : Ren} {x : V} {h' : T O} {nx' : Nat} {v : Value} {w' : World} {r : Result Next} (hr : r = .ok (.value v) w') (hv : VR ρ' x v) (hs : St ρ' h' nx' w') (he : Ext ρ h w ρ' h' w') (hk : K x h' nx' = true) : UponOK P r ρ h w K Kp := by
  intro o a next Q h1 _
  rw [hr]
  exact h1 _ _ _ _ _ _ hv hs he hk
theorem UponOK.skip {K Kp : KV} {ρ' : Ren} {h' : T O} {nx' : Nat} {w' : World} {r : Result Next} (hr : r = .ok .skip w') (hs : St ρ' h' nx' w') (he : Ext ρ h w ρ' h' w') (hk : K .nil h' nx' = true) : UponOK P r ρ h w K Kp := by
  intro o a next Q h1 _
  rw [hr]
  exact h1 _ .nil _ _ undef _ (by simp only [VR]) hs he hk
def CKok (P : Program) (ng : Nat) (ck : CK) : Prop := ∀ g args h nx K Kp, ck g args h nx K Kp = true → ∀ ρ w vs, St ρ h nx w → RG ng ρ → VRs ρ args vs → UponOK P ((callFunc g ⟨vs⟩).run P w) ρ h w K Kp
theorem vrun {s : Sem Value} {v : Value} {w' : World} (h : s.run P w = .ok v w') : ((do pure (.value (← s)) : Sem Next)).run P w = .ok (.value v) w' := by simp [h]
theorem urun {s : Sem Unit} {w' : World} (h : s.run P w = .ok () w') : ((do s; pure .skip : Sem Next)).run P w = .ok .skip w' := by simp [h]
theorem OpR_map {tm : T V} {a : Act} (hg : RG ng ρ) (ht : TR ρ tm a) (x : Option Operand) : OpR ρ (Option.rec (motive := fun _ => Option V) none (fun x => some (ev ng tm x)) x) (x.map a.eval) := by
  cases x with
  | none => trivial
  | some x => exact ev_rel hg ht x
theorem arg0_spec {l : V} {k : V → V → Bool} (h : arg0 l k = true) : ∃ x r, l = .cons x r ∧ k x r = true := by
  cases l <;> first | exact ⟨_, _, rfl, h⟩ | exact Bool.noConfusion h
theorem min20_sound {lt : Bool} {x y : V} {vx vy : Value} {K : V → Bool} (hk : min20 lt x y K = true) (hx : VR ρ x vx) (hy : VR ρ y vy) :
    ∃ z r, K z = true ∧ VR ρ z r ∧ (lt = true → (Builtin.min2 vx vy).run P w = .ok r w) ∧ (lt = false → (Builtin.max2 vx vy).run P w = .ok r w) := by
  obtain ⟨k, a, rfl, hk2⟩ := vI_spec hk
  clear hk
  obtain ⟨k', b, rfl, hk3⟩ := vI_spec hk2
  clear hk2
  obtain ⟨e, hk4⟩ := ite1_spec hk3
  clear hk3
  have e := keq_eq e
  subst e
  simp only [VR] at hx hy
  subst hx
  subst hy
  cases lt with
  | true =>
    have hk5 : (Bool.rec (K (.i k a)) (K (.i k b)) (ilt b a) : Bool) = true := hk4
    rw [ilt_eq] at hk5
    by_cases hlt : b < a
    · simp only [hlt, decide_true] at hk5
      exact ⟨_, _, hk5, VRi _ _ _, fun _ => by simp [Builtin.min2, hlt], fun h => by cases h⟩
    · simp only [hlt, decide_false] at hk5
      exact ⟨_, _, hk5, VRi _ _ _, fun _ => by simp [Builtin.min2, hlt], fun h => by cases h⟩
  | false =>
    have hk5 : (Bool.rec (K (.i k a)) (K (.i k b)) (ilt a b) : Bool) = true := hk4
    rw [ilt_eq] at hk5
    by_cases hlt : a < b
    · simp only [hlt, decide_true] at hk5
      exact ⟨_, _, hk5, VRi _ _ _, (fun h => by cases h), fun _ => by simp [Builtin.max2, hlt]⟩
    · simp only [hlt, decide_false] at hk5
      exact ⟨_, _, hk5, VRi _ _ _, (fun h => by cases h), fun _ => by simp [Builtin.max2, hlt]⟩
theorem minO_sound {lt : Bool} {x y : V} {vx vy : Value} {K : V → Bool} (hk : minO lt x y K = true) (hx : VR ρ x vx) (hy : VR ρ y vy) :
    ∃ z r, K z = true ∧ VR ρ z r ∧ (lt = true → (Builtin.min2 vx vy).run P w = .ok r w) ∧ (lt = false → (Builtin.max2 vx vy).run P w = .ok r w) := by
  obtain ⟨k1, l1, hk2, hl1⟩ := linK_spec hk
  obtain ⟨k2, l2, hk3, hl2⟩ := linK_spec hk2
  obtain ⟨e3, hk4⟩ := ite1_spec hk3
  have e3 := beq_spec e3
  subst e3
  obtain ⟨a, g1, rfl⟩ := hl1 ρ _ hx
  obtain ⟨b, g2, rfl⟩ := hl2 ρ _ hy
  obtain ⟨d, hk5, _, hd⟩ := addLK_spec hk4 (LR_isC g2)
  obtain ⟨lo, hi, hk6, hr⟩ := rgK_spec hk5
  have hb := hr ρ _ (hd ρ _ _ g2 g1)
  have e : Int.negSucc 0 * a = - a := by rw [show Int.negSucc 0 = -1 from rfl]; omega
  rw [e] at hb
  have z : Int.ofNat 0 = (0 : Int) := rfl
  cases e4 : ile (Int.ofNat 0) lo with
  | true =>
    rw [e4] at hk6
    have e4 := ile_spec e4
    have hab : ¬ b < a := by omega
    cases lt with
    | true => exact ⟨_, _, hk6, hx, fun _ => by simp [Builtin.min2, hab], fun h => by cases h⟩
    | false =>
      refine ⟨_, _, hk6, hy, (fun h => by cases h), fun _ => ?_⟩
      by_cases hlt : a < b
      · simp [Builtin.max2, hlt]
      · have : a = b := by omega
        subst this
        simp [Builtin.max2]
  | false =>
    rw [e4] at hk6
    obtain ⟨e5, hk7⟩ := ite1_spec hk6
    have e5 := ile_spec e5
    have hab : ¬ a < b := by omega
    cases lt with
    | false => exact ⟨_, _, hk7, hx, (fun h => by cases h), fun _ => by simp [Builtin.max2, hab]⟩
    | true =>
      refine ⟨_, _, hk7, hy, fun _ => ?_, fun h => by cases h⟩
      by_cases hlt : b < a
      · simp [Builtin.min2, hlt]
      · have : a = b := by omega
        subst this
        simp [Builtin.min2]
theorem min2_sound {lt : Bool} {x y : V} {vx vy : Value} {K : V → Bool} (hk : Mx.min2 lt x y K = true) (hx : VR ρ x vx) (hy : VR ρ y vy) :
    ∃ z r, K z = true ∧ VR ρ z r ∧ (lt = true → (Builtin.min2 vx vy).run P w = .ok r w) ∧ (lt = false → (Builtin.max2 vx vy).run P w = .ok r w) := by
  unfold Mx.min2 at hk
  cases e : ior (isO x) (isO y) with
  | false => rw [e] at hk; exact min20_sound hk hx hy
  | true => rw [e] at hk; exact minO_sound hk hx hy
theorem opBuiltin_sound {b : Builtin} {ts : Array TypeId} {ty' : TypeId} {cs : Array Bool} {args : V} {vs : List Value} {K Kp : KV} (hk : opBuiltin P b ts args h nx K = true) (s : St ρ h nx w) (ha : VRs ρ args vs) :
    UponOK P ((builtin b ts ty' cs ⟨vs⟩).run P w) ρ h w K Kp := by
  cases b <;> first | exact Bool.noConfusion hk | skip
  case append =>
    obtain ⟨x, r, rfl, hk2⟩ := arg0_spec (show arg0 args (fun s r => arg0 r fun x _ => ite1 (Nat.ble 2 ts.size) <| opAppend P (ts.getD 0 0) (ts.getD 1 0) s x h nx K) = true from hk)
    obtain ⟨y, r2, rfl, hk3⟩ := arg0_spec hk2
    obtain ⟨e, hk4⟩ := ite1_spec hk3
    have e := Nat.le_of_ble_eq_true e
    simp only [VRs] at ha
    obtain ⟨v1, l1, rfl, h1, v2, l2, rfl, h2, _⟩ := ha
    have t0 : ts[0]? = some (ts.getD 0 0) := by rw [Array.getD_eq_getD_getElem?, Array.getElem?_eq_getElem (by omega)]; rfl
    have t1 : ts[1]? = some (ts.getD 1 0) := by rw [Array.getD_eq_getD_getElem?, Array.getElem?_eq_getElem (by omega)]; rfl
    obtain ⟨ρ', z, h', nx', v, w', q1, q2, q3, q4, q5⟩ := opAppend_sound (P := P) (ty := ty') (args := ⟨v1 :: v2 :: l2⟩) hk4 s t0 t1 rfl rfl h1 h2
    exact UponOK.val (vrun q5) q2 q3 q4 q1
  case len =>
    obtain ⟨x, r, rfl, hk2⟩ := arg0_spec (show arg0 args (fun x _ => ite1 (Nat.ble 1 ts.size) <| opLen P (ts.getD 0 0) x h fun v => K v h nx) = true from hk)
    obtain ⟨e, hk4⟩ := ite1_spec hk2
    have e := Nat.le_of_ble_eq_true e
    simp only [VRs] at ha
    obtain ⟨v1, l1, rfl, h1, _⟩ := ha
    have t0 : ts[0]? = some (ts.getD 0 0) := by rw [Array.getD_eq_getD_getElem?, Array.getElem?_eq_getElem (by omega)]; rfl
    obtain ⟨z, v, q1, q2, q3⟩ := opLen_sound (P := P) (ty := ty') (args := ⟨v1 :: l1⟩) (K := fun v => K v h nx) hk4 s h1 t0 rfl
    exact UponOK.val (vrun q3) q2 s (Ext.refl _ _ _) q1
  case min =>
    obtain ⟨x, r, rfl, hk2⟩ := arg0_spec (show arg0 args (fun x r => arg0 r fun y r' => chain (Mx.min2 true x y fun v => K v h nx) (fun _ _ _ => false) r') = true from hk)
    obtain ⟨y, r2, rfl, hk3⟩ := arg0_spec hk2
    simp only [VRs] at ha
    obtain ⟨v1, l1, rfl, h1, v2, l2, rfl, h2, h3⟩ := ha
    cases r2 <;> first | (simp only [VRs] at h3; done) | exact Bool.noConfusion hk3 | skip
    simp only [VRs] at h3
    subst h3
    obtain ⟨z, v, q1, q2, q3, _⟩ := min2_sound (P := P) (w := w) (K := fun v => K v h nx) (show Mx.min2 true x y (fun v => K v h nx) = true from hk3) h1 h2
    refine UponOK.val (vrun (v := v) ?_) q2 s (Ext.refl _ _ _) q1
    simp [min_, q3 rfl]
  case max =>
    obtain ⟨x, r, rfl, hk2⟩ := arg0_spec (show arg0 args (fun x r => arg0 r fun y r' => chain (Mx.min2 false x y fun v => K v h nx) (fun _ _ _ => false) r') = true from hk)
    obtain ⟨y, r2, rfl, hk3⟩ := arg0_spec hk2
    simp only [VRs] at ha
    obtain ⟨v1, l1, rfl, h1, v2, l2, rfl, h2, h3⟩ := ha
    cases r2 <;> first | (simp only [VRs] at h3; done) | exact Bool.noConfusion hk3 | skip
    simp only [VRs] at h3
    subst h3
    obtain ⟨z, v, q1, q2, _, q3⟩ := min2_sound (P := P) (w := w) (K := fun v => K v h nx) (show Mx.min2 false x y (fun v => K v h nx) = true from hk3) h1 h2
    refine UponOK.val (vrun (v := v) ?_) q2 s (Ext.refl _ _ _) q1
    simp [max_, q3 rfl]
  case cap =>
    obtain ⟨x, r, rfl, hk2⟩ := arg0_spec (show arg0 args (fun x _ => ite1 (Nat.ble 1 ts.size) <| opCap P (ty ts 0) x fun v => K v h nx) = true from hk)
    obtain ⟨e, hk4⟩ := ite1_spec hk2
    have e := Nat.le_of_ble_eq_true e
    simp only [VRs] at ha
    obtain ⟨v1, l1, rfl, h1, _⟩ := ha
    have t0 : ts[0]? = some (ts.getD 0 0) := by rw [Array.getD_eq_getD_getElem?, Array.getElem?_eq_getElem (by omega)]; rfl
    obtain ⟨z, v, q1, q2, q3⟩ := opCap_sound (P := P) (w := w) (ty := ty') (args := ⟨v1 :: l1⟩) (K := fun v => K v h nx) hk4 h1 t0 rfl
    exact UponOK.val (vrun q3) q2 s (Ext.refl _ _ _) q1
  case delete =>
    obtain ⟨x, r, rfl, hk2⟩ := arg0_spec (show arg0 args (fun m r => arg0 r fun k _ => ite1 (Nat.ble 1 ts.size) <| opDelete P (ts.getD 0 0) m k h fun h' => K (.t .nil) h' nx) = true from hk)
    obtain ⟨y, r2, rfl, hk3⟩ := arg0_spec hk2
    obtain ⟨e, hk4⟩ := ite1_spec hk3
    have e := Nat.le_of_ble_eq_true e
    simp only [VRs] at ha
    obtain ⟨v1, l1, rfl, h1, v2, l2, rfl, h2, _⟩ := ha
    have t0 : ts[0]? = some (ts.getD 0 0) := by rw [Array.getD_eq_getD_getElem?, Array.getElem?_eq_getElem (by omega)]; rfl
    obtain ⟨h', w', q1, q2, q3, q4⟩ := opDelete_sound (P := P) (ty := ty') (args := ⟨v1 :: v2 :: l2⟩) (K := fun h' => K (.t .nil) h' nx) hk4 s h1 h2 t0 rfl rfl
    exact UponOK.val (vrun q4) (by simp only [VR]; exact ⟨[], by simp [VRs], rfl⟩) q2 q3 q1
  case copy =>
    obtain ⟨x, r, rfl, hk2⟩ := arg0_spec (show arg0 args (fun d r => arg0 r fun s _ => ite1 (Nat.ble 1 ts.size) <| opCopy P (ty ts 0) d s h fun v h' => K v h' nx) = true from hk)
    obtain ⟨y, r2, rfl, hk3⟩ := arg0_spec hk2
    obtain ⟨e, hk4⟩ := ite1_spec hk3
    have e := Nat.le_of_ble_eq_true e
    simp only [VRs] at ha
    obtain ⟨v1, l1, rfl, h1, v2, l2, rfl, h2, _⟩ := ha
    have t0 : ts[0]? = some (ts.getD 0 0) := by rw [Array.getD_eq_getD_getElem?, Array.getElem?_eq_getElem (by omega)]; rfl
    obtain ⟨z, v, h', w', q1, q2, q3, q4, q5⟩ := opCopy_sound (P := P) (ty := ty') (args := ⟨v1 :: v2 :: l2⟩) (K := fun v h' => K v h' nx) hk4 s h1 h2 t0 rfl rfl
    exact UponOK.val (vrun q5) q2 q3 q4 q1
  case unsafeSliceData =>
    obtain ⟨x, r, rfl, hk2⟩ := arg0_spec (show arg0 args (fun x r => chain (opSliceData x fun v => K v h nx) (fun _ _ _ => false) r) = true from hk)
    simp only [VRs] at ha
    obtain ⟨v1, l1, rfl, h1, h3⟩ := ha
    cases r <;> first | (simp only [VRs] at h3; done) | exact Bool.noConfusion hk2 | skip
    simp only [VRs] at h3
    subst h3
    obtain ⟨z, v, q1, q2, q3⟩ := opSliceData_sound (P := P) (w := w) (ts := ts) (ty := ty') (K := fun v => K v h nx) (show opSliceData x (fun v => K v h nx) = true from hk2) h1
    exact UponOK.val (vrun q3) q2 s (Ext.refl _ _ _) q1
  case unsafeString =>
    obtain ⟨x, r, rfl, hk2⟩ := arg0_spec (show arg0 args (fun x r => arg0 r fun n r' => chain (ite1 (Nat.ble 1 ts.size) <| opString P (ty ts 0) x n h fun v h' => K v h' nx) (fun _ _ _ => false) r') = true from hk)
    obtain ⟨y, r2, rfl, hk3⟩ := arg0_spec hk2
    simp only [VRs] at ha
    obtain ⟨v1, l1, rfl, h1, v2, l2, rfl, h2, h3⟩ := ha
    cases r2 <;> first | (simp only [VRs] at h3; done) | exact Bool.noConfusion hk3 | skip
    simp only [VRs] at h3
    subst h3
    obtain ⟨e, hk4⟩ := ite1_spec (show ite1 (Nat.ble 1 ts.size) (opString P (ty ts 0) x y h fun v h' => K v h' nx) = true from hk3)
    have e := Nat.le_of_ble_eq_true e
    have t0 : ts[0]? = some (ts.getD 0 0) := by rw [Array.getD_eq_getD_getElem?, Array.getElem?_eq_getElem (by omega)]; rfl
    obtain ⟨z, v, h', w', q1, q2, q3, q4, q5⟩ := opString_sound (P := P) (ty := ty') (ts := ts) (K := fun v h' => K v h' nx) hk4 s h1 h2 t0
    exact UponOK.val (vrun q5) q2 q3 q4 q1
theorem opCall_sound {ck : CK} (hck : CKok P ng ck) {tm : T V} {a : Act} {c : Call} {ty : TypeId} {K Kp : KV} (hk : opCall P ng ck tm c h nx K Kp = true) (s : St ρ h nx w) (hg : RG ng ρ) (ht : TR ρ tm a) :
    UponOK P ((do let d ← resolve a.eval c ty; invoke d.target d.args : Sem Next).run P w) ρ h w K Kp := by
  obtain ⟨callee, args, ts⟩ := c
  have hargs := evs_rel hg ht args.toList
  have harr : (⟨args.toList.map a.eval⟩ : Array Value) = args.map a.eval := by apply Array.ext'; simp
  cases callee with
  | invoke r m => exact Bool.noConfusion hk
  | value f =>
    rcases vF2_spec (show vF2 (ev ng tm f) (fun g cap => catK (evs ng tm args.toList) cap fun all => ck g all h nx K Kp) (fun g fst => catK fst (evs ng tm args.toList) fun all => ck g all h nx K Kp) = true from hk) with ⟨g, cap, hf, hk2⟩ | ⟨l, g, lo, hi, hf, hk2⟩
    · have hfr := ev_rel hg ht f
      rw [hf] at hfr
      simp only [VR] at hfr
      obtain ⟨cs, hcs, hfe⟩ := hfr
      obtain ⟨all, hk3, _, hall, _⟩ := catK_spec hk2 (VRs_isC hargs)
      have := hck g all h nx K Kp hk3 ρ w _ s hg (hall ρ _ _ hargs hcs)
      have e : (do let d ← resolve a.eval ⟨.value f, args, ts⟩ ty; invoke d.target d.args : Sem Next).run P w = (callFunc g ⟨args.toList.map a.eval ++ cs⟩).run P w := by
        simp only [resolve, hfe, Deferred.ofValue, Sem.run_bind, Sem.run_pure, Result.andThen_ok, invoke]
        congr 2
        apply Array.ext'
        simp
      rw [e]
      exact this
    · have hfr := ev_rel hg ht f
      rw [hf] at hfr
      simp only [VR] at hfr
      rcases hfr with hfr | ⟨_, cs, hcs, hfe⟩
      · simp [OV] at hfr
      obtain ⟨all, hk3, _, hall, _⟩ := catK_spec hk2 (VRs_isC hcs)
      have := hck g all h nx K Kp hk3 ρ w _ s hg (hall ρ _ _ hcs hargs)
      have e : (do let d ← resolve a.eval ⟨.value f, args, ts⟩ ty; invoke d.target d.args : Sem Next).run P w = (callFunc g ⟨cs ++ args.toList.map a.eval⟩).run P w := by
        simp only [resolve, hfe, Deferred.ofValue, Sem.run_bind, Sem.run_pure, Result.andThen_ok, invoke]
        congr 2
        apply Array.ext'
        simp
      rw [e]
      exact this
  | builtin b =>
    have := opBuiltin_sound (P := P) (ty' := ty) (cs := args.map fun | .const _ => true | _ => false) (Kp := Kp) (show opBuiltin P b ts (evs ng tm args.toList) h nx K = true from hk) s hargs
    have e : (do let d ← resolve a.eval ⟨.builtin b, args, ts⟩ ty; invoke d.target d.args : Sem Next).run P w = (builtin b ts ty (args.map fun | .const _ => true | _ => false) ⟨args.toList.map a.eval⟩).run P w := by
      simp only [resolve, Sem.run_bind, Sem.run_pure, Result.andThen_ok, invoke, harr]
      rfl
    rw [e]
    exact this
set_option maxHeartbeats 1000000 in
theorem opK_sound {ck : CK} (hck : CKok P ng ck) {tm : T V} {a : Act} {o : Oper} {op : Op} (hop : o.op = op) {K Kp : KV} (hk : opK P ng ck tm op h nx K Kp = true) (s : St ρ h nx w) (hg : RG ng ρ) (ht : TR ρ tm a) :
    UponOK P ((execOp a.eval o).run P w) ρ h w K Kp := by
  obtain ⟨dst, op', ty, pos, after, guard⟩ := o
  simp only at hop
  subst hop
  cases op' <;> first | exact Bool.noConfusion hk | skip
  case move x => exact UponOK.val rfl (ev_rel hg ht x) s (Ext.refl _ _ _) hk
  case assign x => exact UponOK.val rfl (ev_rel hg ht x) s (Ext.refl _ _ _) hk
  case pick c x y =>
    obtain ⟨q, hq, hk2⟩ := vB_spec (show vB (ev ng tm c) (fun q => Bool.rec (K (ev ng tm y) h nx) (K (ev ng tm x) h nx) q) = true from hk)
    have hc := ev_rel hg ht c
    rw [hq] at hc
    simp only [VR] at hc
    cases q with
    | true => exact UponOK.val (by simp [execOp, hc, asBool]) (ev_rel hg ht x) s (Ext.refl _ _ _) hk2
    | false => exact UponOK.val (by simp [execOp, hc, asBool]) (ev_rel hg ht y) s (Ext.refl _ _ _) hk2
  case alloc t =>
    obtain ⟨ρ', x, h', nx', v, w', q1, q2, q3, q4, q5⟩ := opAlloc_sound (show opAlloc P t h nx K = true from hk) s
    exact UponOK.val (vrun q5) q2 q3 q4 q1
  case box t x =>
    obtain ⟨ρ', y, h', nx', v, w', q1, q2, q3, q4, q5⟩ := opBox_sound (P := P) (show opBox t (ev ng tm x) h nx K = true from hk) s (ev_rel hg ht x)
    exact UponOK.val (vrun q5) q2 q3 q4 q1
  case build t ps =>
    obtain ⟨y, r, q1, q2, q3⟩ := opBuild_sound (w := w) (vs := ps.map fun (i, x) => (i, a.eval x)) (show opBuild P t (evp ng tm ps.toList) (fun v => K v h nx) = true from hk) (by simpa using evp_rel hg ht ps.toList)
    exact UponOK.val (vrun q3) q2 s (Ext.refl _ _ _) q1
  case buildSlice t n ps =>
    obtain ⟨ρ', y, h', nx', v, w', q1, q2, q3, q4, q5⟩ := opBuildSlice_sound (vs := ps.map fun (i, x) => (i, a.eval x)) (show opBuildSlice P t n (evp ng tm ps.toList) h nx K = true from hk) (by simpa using evp_rel hg ht ps.toList) s
    exact UponOK.val (vrun q5) q2 q3 q4 q1
  case insert t m k x =>
    obtain ⟨h', w', q1, q2, q3, q4⟩ := opMapUpdate_sound (show opMapUpdate P t (ev ng tm m) (ev ng tm k) (ev ng tm x) h (fun h' => K .nil h' nx) = true from hk) s (ev_rel hg ht m) (ev_rel hg ht k) (ev_rel hg ht x)
    exact UponOK.skip (urun q4) q2 q3 q1
  case mapUpdate t m k x =>
    obtain ⟨h', w', q1, q2, q3, q4⟩ := opMapUpdate_sound (show opMapUpdate P t (ev ng tm m) (ev ng tm k) (ev ng tm x) h (fun h' => K .nil h' nx) = true from hk) s (ev_rel hg ht m) (ev_rel hg ht k) (ev_rel hg ht x)
    exact UponOK.skip (urun q4) q2 q3 q1
  case mapEntry t m k =>
    obtain ⟨y, r, h', w', q1, q2, q3, q4, q5⟩ := opMapEntry_sound (show opMapEntry P t (ev ng tm m) (ev ng tm k) h (fun v h' => K v h' nx) = true from hk) s (ev_rel hg ht m) (ev_rel hg ht k)
    exact UponOK.val (vrun q5) q2 q3 q4 q1
  case entryStore t m st x =>
    obtain ⟨h', w', q1, q2, q3, q4⟩ := opEntryStore_sound (t := t) (show opEntryStore (ev ng tm m) (ev ng tm st) (ev ng tm x) h (fun h' => K .nil h' nx) = true from hk) s (ev_rel hg ht m) (ev_rel hg ht st) (ev_rel hg ht x)
    exact UponOK.skip (urun q4) q2 q3 q1
  case makeSlice t l c =>
    obtain ⟨ρ', x, h', nx', v, w', q1, q2, q3, q4, q5⟩ := opMakeSlice_sound (show opMakeSlice P t (ev ng tm l) (ev ng tm c) h nx K = true from hk) s (ev_rel hg ht l) (ev_rel hg ht c)
    exact UponOK.val (vrun q5) q2 q3 q4 q1
  case load t x =>
    obtain ⟨y, r, q1, q2, q3⟩ := opLoad_sound (show opLoad P t (ev ng tm x) h (fun v => K v h nx) = true from hk) s (ev_rel hg ht x)
    exact UponOK.val (vrun q3) q2 s (Ext.refl _ _ _) q1
  case store t x y =>
    obtain ⟨h', w', q1, q2, q3, q4⟩ := opStore_sound (show opStore P t (ev ng tm x) (ev ng tm y) h (fun h' => K .nil h' nx) = true from hk) s (ev_rel hg ht x) (ev_rel hg ht y)
    exact UponOK.skip (urun q4) q2 q3 q1
  case nilCheck x =>
    have hx := ev_rel hg ht x
    generalize hv : ev ng tm x = v at hx
    have hk2 : opK P ng ck tm (.nilCheck x) h nx K Kp = true := hk
    unfold opK at hk2
    simp only [hv] at hk2
    clear hk
    cases v <;> first | exact Bool.noConfusion hk2 | skip
    case p id off =>
      have hx2 := hx
      simp only [VR] at hx2
      obtain ⟨L, _, he⟩ := hx2
      exact UponOK.val (v := a.eval x) (by simp only [execOp, he]; rfl) hx s (Ext.refl _ _ _) hk2
    case f g c =>
      have hx2 := hx
      simp only [VR] at hx2
      obtain ⟨cs, _, he⟩ := hx2
      exact UponOK.val (v := a.eval x) (by simp only [execOp, he]; rfl) hx s (Ext.refl _ _ _) hk2
  case binOp op t x y t2 =>
    obtain ⟨c, r, q1, q2, q3⟩ := binV_sound (w := w) (show binV P op t x y (ev ng tm x) (ev ng tm y) (fun v => K v h nx) = true from hk) (ev_rel hg ht x) (ev_rel hg ht y)
    exact UponOK.val (vrun q3) q2 s (Ext.refl _ _ _) q1
  case unOp op t x =>
    obtain ⟨c, r, q1, q2, q3⟩ := unV_sound (P := P) (w := w) (show unV op (ev ng tm x) (fun v => K v h nx) = true from hk) (ev_rel hg ht x)
    exact UponOK.val (vrun q3) q2 s (Ext.refl _ _ _) q1
  case convert s1 d x =>
    obtain ⟨ρ', y, h', nx', v, w', q1, q2, q3, q4, q5⟩ := opConvert_sound (show opConvert P s1 d (ev ng tm x) h nx K = true from hk) s (ev_rel hg ht x)
    exact UponOK.val (vrun q5) q2 q3 q4 q1
  case makeInterface t x =>
    obtain ⟨e, hk2⟩ := ite1_spec (show ite1 (conc P t) (K (.e t (ev ng tm x)) h nx) = true from hk)
    have hd : ∃ d, P.underlying t = some d ∧ ∀ m, d ≠ .interface m := by
      unfold conc at e
      cases e2 : Nat.beq (tyk P t) 23 with
      | true => rw [e2] at e; exact Bool.noConfusion e
      | false =>
        rw [e2] at e
        have e := Nat.blt_eq.mp (show Nat.blt 0 (tyk P t) = true from e)
        obtain ⟨d, hu⟩ := (tyk_cases (P := P) t).2.2.2.2.2.2.2.1 (Nat.pos_iff_ne_zero.1 e)
        refine ⟨d, hu, fun m hm => ?_⟩
        subst hm
        simp [tyk, hu] at e2
    obtain ⟨d, hu, hni⟩ := hd
    refine UponOK.val (v := .iface t (a.eval x)) (vrun ?_) (by simp only [VR]; exact ⟨_, ev_rel hg ht x, rfl⟩) s (Ext.refl _ _ _) hk2
    unfold Instr.makeInterface
    simp only [Sem.run_bind, run_und hu, Result.andThen_ok]
    cases d <;> first | exact (hni _ rfl).elim | rfl
  case makeFunc fn first cap =>
    have hk0 : (Bool.rec (ite1 (Nat.beq cap.size 0) <| fnK fn fun g => K (.o 8 (evs ng tm first.toList) g 0 0) h nx) (fnK fn fun g => K (.f g (evs ng tm cap.toList)) h nx) (Nat.beq first.size 0) : Bool) = true := hk
    cases e : Nat.beq first.size 0 with
    | true =>
      rw [e] at hk0
      have hk2 : fnK fn (fun g => K (.f g (evs ng tm cap.toList)) h nx) = true := hk0
      have e := beq_spec e
      have hf : first = #[] := Array.eq_empty_of_size_eq_zero e
      subst hf
      cases fn <;> first | exact Bool.noConfusion hk2 | skip
      case func g =>
        refine UponOK.val (v := .func (.func g) #[] (cap.map a.eval)) (vrun ?_) ?_ s (Ext.refl _ _ _) hk2
        · simp [Instr.makeFunc]
        · simp only [VR]
          exact ⟨_, evs_rel hg ht cap.toList, by congr 1; apply Array.ext'; simp⟩
    | false =>
      rw [e] at hk0
      obtain ⟨e2, hk2⟩ := ite1_spec (show ite1 (Nat.beq cap.size 0) (fnK fn fun g => K (.o 8 (evs ng tm first.toList) g 0 0) h nx) = true from hk0)
      have e2 := beq_spec e2
      have hf : cap = #[] := Array.eq_empty_of_size_eq_zero e2
      subst hf
      cases fn <;> first | exact Bool.noConfusion hk2 | skip
      case func g =>
        refine UponOK.val (v := .func (.func g) (first.map a.eval) #[]) (vrun ?_) ?_ s (Ext.refl _ _ _) hk2
        · simp [Instr.makeFunc]
        · simp only [VR]
          exact .inr ⟨trivial, _, evs_rel hg ht first.toList, by congr 1; apply Array.ext'; simp⟩
  case makeMap t r =>
    obtain ⟨ρ', y, h', nx', v, w', q1, q2, q3, q4, q5⟩ := opMakeMap_sound (P := P) (show opMakeMap P t (Option.rec (motive := fun _ => Option V) none (fun x => some (ev ng tm x)) r) h nx K = true from hk) s (OpR_map hg ht r)
    exact UponOK.val (vrun q5) q2 q3 q4 q1
  case slice t x lo hi mx =>
    obtain ⟨y, r, q1, q2, q3⟩ := opSlice_sound (w := w) (show opSlice P t (ev ng tm x) (Option.rec (motive := fun _ => Option V) none (fun x => some (ev ng tm x)) lo) (Option.rec (motive := fun _ => Option V) none (fun x => some (ev ng tm x)) hi) (Option.rec (motive := fun _ => Option V) none (fun x => some (ev ng tm x)) mx) h (fun v => K v h nx) = true from hk) s
      (ev_rel hg ht x) (OpR_map hg ht lo) (OpR_map hg ht hi) (OpR_map hg ht mx)
    exact UponOK.val (vrun q3) q2 s (Ext.refl _ _ _) q1
  case fieldAddr t x f =>
    obtain ⟨y, r, q1, q2, q3⟩ := opFieldAddr_sound (w := w) (show opFieldAddr P t (ev ng tm x) f (fun v => K v h nx) = true from hk) (ev_rel hg ht x)
    exact UponOK.val (vrun q3) q2 s (Ext.refl _ _ _) q1
  case field t x f =>
    obtain ⟨y, r, q1, q2, q3⟩ := opField_sound (w := w) (show opField P t (ev ng tm x) f (fun v => K v h nx) = true from hk) (ev_rel hg ht x)
    exact UponOK.val (vrun q3) q2 s (Ext.refl _ _ _) q1
  case indexAddr t x ix =>
    obtain ⟨y, r, q1, q2, q3⟩ := opIndexAddr_sound (w := w) (show opIndexAddr P t (ev ng tm x) (ev ng tm ix) (fun v => K v h nx) = true from hk) (ev_rel hg ht x) (ev_rel hg ht ix)
    exact UponOK.val (vrun q3) q2 s (Ext.refl _ _ _) q1
  case index t x ix =>
    obtain ⟨y, r, q1, q2, q3⟩ := opIndex_sound (w := w) (show opIndex P t (ev ng tm x) (ev ng tm ix) (fun v => K v h nx) = true from hk) (ev_rel hg ht x) (ev_rel hg ht ix)
    exact UponOK.val (vrun q3) q2 s (Ext.refl _ _ _) q1
  case lookup t x ix ok =>
    obtain ⟨y, r, q1, q2, q3⟩ := opLookup_sound (show opLookup P t (ev ng tm x) (ev ng tm ix) ok h (fun v => K v h nx) = true from hk) s (ev_rel hg ht x) (ev_rel hg ht ix)
    exact UponOK.val (vrun q3) q2 s (Ext.refl _ _ _) q1
  case range t x =>
    obtain ⟨ρ', y, h', nx', v, w', q1, q2, q3, q4, q5⟩ := opRange_sound (show opRange P t (ev ng tm x) h nx K = true from hk) s (ev_rel hg ht x)
    exact UponOK.val (vrun q5) q2 q3 q4 q1
  case next it str =>
    obtain ⟨y, h', v, w', q1, q2, q3, q4, q5⟩ := opNext_sound (P := P) (ty := ty) (show opNext (ev ng tm it) str h (fun v h' => K v h' nx) = true from hk) s (ev_rel hg ht it)
    exact UponOK.val (vrun q5) q2 q3 q4 q1
  case entry it =>
    obtain ⟨y, v, q1, q2, q3⟩ := opEntry_sound (P := P) (show opEntry (ev ng tm it) h (fun v => K v h nx) = true from hk) s (ev_rel hg ht it)
    exact UponOK.val (vrun q3) q2 s (Ext.refl _ _ _) q1
  case typeAssert x xT t ok =>
    obtain ⟨y, r, q1, q2, q3⟩ := opAssert_sound (w := w) (xT := xT) (show opAssert P (ev ng tm x) t ok (fun v => K v h nx) = true from hk) (ev_rel hg ht x)
    exact UponOK.val (vrun q3) q2 s (Ext.refl _ _ _) q1
  case extract x ix =>
    obtain ⟨l, hl, hk2⟩ := vT_spec (show vT (ev ng tm x) (fun l => nthK l ix fun v => K v h nx) = true from hk)
    have hx := ev_rel hg ht x
    rw [hl] at hx
    simp only [VR] at hx
    obtain ⟨vs, hvs, he⟩ := hx
    obtain ⟨y, hy, hr⟩ := nthK_spec hk2
    obtain ⟨r, hr1, hr2⟩ := hr ρ _ hvs.CR'
    refine UponOK.val (v := r) (vrun ?_) hr2 s (Ext.refl _ _ _) hy
    have : (⟨vs⟩ : Array Value)[ix]? = some r := by simpa using hr1
    simp only [he, Instr.extract, this, Sem.run_pure]
  case call c => exact opCall_sound hck (show opCall P ng ck tm c h nx K Kp = true from hk) s hg ht
  case panic x =>
    have hx := ev_rel hg ht x
    generalize hv : ev ng tm x = v at hx
    have hk2 : opK P ng ck tm (.panic x) h nx K Kp = true := hk
    unfold opK at hk2
    simp only [hv] at hk2
    clear hk
    cases v <;> first | exact Bool.noConfusion hk2 | skip
    case e t y =>
      have hx2 := hx
      simp only [VR] at hx2
      obtain ⟨z, _, he⟩ := hx2
      intro o a' next Q _ hp
      have hr : (execOp a.eval { dst := dst, op := .panic x, type := ty, pos := pos, after := after, guard := guard }).run P w = .halt (.panic (a.eval x)) w := by
        simp only [execOp, he, Instr.panic, Sem.run_bind]
        rfl
      rw [hr]
      exact hp _ _ _ _ _ _ hx s (Ext.refl _ _ _) hk2 _ (PanC.one _ _)
end
end Go.Mx
namespace Go.Mx
noncomputable section
variable {α β : Type}
def LinK (F : (α → Bool) → Bool) : Prop := (∀ K, F K = false) ∨ ∃ y, ∀ K, F K = K y
theorem lin_no : LinK (α := α) fun _ => false := .inl fun _ => rfl
theorem lin_k (y : α) : LinK fun K => K y := .inr ⟨y, fun _ => rfl⟩
theorem lin_bind {F : (α → Bool) → Bool} {G : α → (β → Bool) → Bool} (hF : LinK F) (hG : ∀ x, LinK (G x)) : LinK fun K => F fun x => G x K := by
  rcases hF with h | ⟨y, h⟩
  · exact .inl fun K => h _
  · rcases hG y with g | ⟨z, g⟩
    · exact .inl fun K => (h _).trans (g K)
    · exact .inr ⟨z, fun K => (h _).trans (g K)⟩
theorem lin_ite1 (c : Bool) {G : (β → Bool) → Bool} (hG : LinK G) : LinK fun K => ite1 c (G K) := by
  cases c
  · exact .inl fun _ => rfl
  · exact hG
theorem lin_bool (c : Bool) {A B : (β → Bool) → Bool} (hA : LinK A) (hB : LinK B) : LinK fun K => (Bool.rec (A K) (B K) c : Bool) := by
  cases c
  · exact hA
  · exact hB
theorem lin_vB (v : V) {G : Bool → (β → Bool) → Bool} (hG : ∀ x, LinK (G x)) : LinK fun K => vB v fun x => G x K := by
  cases v <;> first | exact .inl fun _ => rfl | exact hG _
theorem lin_vI (v : V) {G : IntKind → Int → (β → Bool) → Bool} (hG : ∀ x y, LinK (G x y)) : LinK fun K => vI v fun x y => G x y K := by
  cases v <;> first | exact .inl fun _ => rfl | exact hG _ _
theorem lin_vP (v : V) {G : Nat → Nat → (β → Bool) → Bool} (hG : ∀ x y, LinK (G x y)) : LinK fun K => vP v fun x y => G x y K := by
  cases v <;> first | exact .inl fun _ => rfl | exact hG _ _
theorem lin_vA (v : V) {G : V → (β → Bool) → Bool} (hG : ∀ x, LinK (G x)) : LinK fun K => vA v fun x => G x K := by
  cases v <;> first | exact .inl fun _ => rfl | exact hG _
theorem lin_vT (v : V) {G : V → (β → Bool) → Bool} (hG : ∀ x, LinK (G x)) : LinK fun K => vT v fun x => G x K := by
  cases v <;> first | exact .inl fun _ => rfl | exact hG _
theorem lin_vN (v : V) {G : Nat → (β → Bool) → Bool} (hG : ∀ x, LinK (G x)) : LinK fun K => vN v fun x => G x K :=
  lin_vI v fun _ n => by cases n <;> first | exact hG _ | exact .inl fun _ => rfl
theorem lin_cellsK (v : V) : LinK (cellsK v) := by
  cases v <;> first | exact .inl fun _ => rfl | exact lin_k _
theorem lin_oC (o : O) {G : V → Nat → Bool → (β → Bool) → Bool} (hG : ∀ x y z, LinK (G x y z)) : LinK fun K => oC o fun x y z => G x y z K := by
  cases o <;> first | exact .inl fun _ => rfl | exact hG _ _ _
theorem lin_oW (o : O) {G : V → Nat → Bool → (β → Bool) → Bool} {G2 : V → Nat → (β → Bool) → Bool} (hG : ∀ x y z, LinK (G x y z)) (hG2 : ∀ x y, LinK (G2 x y)) : LinK fun K => oW o (fun x y z => G x y z K) (fun x y => G2 x y K) := by
  cases o <;> first | exact .inl fun _ => rfl | exact hG _ _ _ | exact hG2 _ _
theorem lin_oV (o : O) {G : V → Nat → (β → Bool) → Bool} (hG : ∀ x y, LinK (G x y)) : LinK fun K => oV o fun x y => G x y K := by
  cases o <;> first | exact .inl fun _ => rfl | exact hG _ _
theorem lin_oM (o : O) {G : E → Nat → (β → Bool) → Bool} (hG : ∀ x y, LinK (G x y)) : LinK fun K => oM o fun x y => G x y K := by
  cases o <;> first | exact .inl fun _ => rfl | exact hG _ _
theorem lin_nat (n : Nat) {A : (β → Bool) → Bool} {B : Nat → (β → Bool) → Bool} (hA : LinK A) (hB : ∀ m, LinK (B m)) : LinK fun K => (Nat.rec (motive := fun _ => Bool) (A K) (fun m _ => B m K) n : Bool) := by
  cases n
  · exact hA
  · exact hB _
theorem lin_opt {γ : Type} (n : Option γ) {A : (β → Bool) → Bool} {B : γ → (β → Bool) → Bool} (hA : LinK A) (hB : ∀ m, LinK (B m)) : LinK fun K => (Option.rec (motive := fun _ => Bool) (A K) (fun m => B m K) n : Bool) := by
  cases n
  · exact hA
  · exact hB _
theorem lin_int (n : Int) {A B : Nat → (β → Bool) → Bool} (hA : ∀ m, LinK (A m)) (hB : ∀ m, LinK (B m)) : LinK fun K => (Int.rec (motive := fun _ => Bool) (fun m => A m K) (fun m => B m K) n : Bool) := by
  cases n
  · exact hA _
  · exact hB _
theorem lin_forceN (n : Nat) : LinK (forceN n) := by
  cases n
  · exact lin_k _
  · exact lin_k _
theorem lin_nthK : ∀ (l : V) (j : Nat), LinK (nthK l j) := by
  intro l
  induction l with
  | cons x l _ ih =>
    intro j
    cases j with
    | zero => exact lin_k x
    | succ j => exact ih j
  | _ => intro j; exact lin_no
theorem lin_dropK : ∀ (l : V) (j : Nat), LinK (dropK l j) := by
  intro l
  induction l with
  | cons x l _ ih =>
    intro j
    cases j with
    | zero => exact lin_k _
    | succ j => exact ih j
  | _ => intro j; cases j <;> first | exact lin_no | exact lin_k _
theorem lin_takeK : ∀ (l : V) (j : Nat), LinK (takeK l j) := by
  intro l
  induction l with
  | cons x l _ ih =>
    intro j
    cases j with
    | zero => exact lin_k _
    | succ j => show LinK fun K : V → Bool => takeK l j fun c => K (.cons x c); exact lin_bind (ih j) fun c => lin_k _
  | _ => intro j; cases j <;> first | exact lin_no | exact lin_k _
theorem lin_lenK : ∀ (l : V) (j : Nat), LinK (lenK l j) := by
  intro l
  induction l with
  | cons x l _ ih => intro j; exact ih _
  | _ => intro j; exact lin_k _
theorem lin_catK : ∀ (l r : V), LinK (catK l r) := by
  intro l
  induction l with
  | cons x l _ ih => intro j; show LinK fun K : V → Bool => catK l j fun c => K (.cons x c); exact lin_bind (ih j) fun c => lin_k _
  | _ => intro j; exact lin_k _
theorem lin_slenK : ∀ (l : List Nat) (j : Nat), LinK (slenK l j) := by
  intro l
  induction l with
  | cons x l ih => intro j; exact ih _
  | nil => intro j; exact lin_k _
theorem lin_snthK : ∀ (l : List Nat) (j : Nat), LinK (snthK l j) := by
  intro l
  induction l with
  | cons x l ih =>
    intro j
    cases j with
    | zero => exact lin_k x
    | succ j => exact ih j
  | nil => intro j; exact lin_no
theorem lin_sdropK : ∀ (l : List Nat) (j : Nat), LinK (sdropK l j) := by
  intro l
  induction l with
  | cons x l ih =>
    intro j
    cases j with
    | zero => exact lin_k _
    | succ j => exact ih j
  | nil => intro j; cases j <;> first | exact lin_no | exact lin_k _
theorem lin_stakeK : ∀ (l : List Nat) (j : Nat), LinK (stakeK l j) := by
  intro l
  induction l with
  | cons x l ih =>
    intro j
    cases j with
    | zero => exact lin_k _
    | succ j => show LinK fun K : List Nat → Bool => stakeK l j fun c => K (x :: c); exact lin_bind (ih j) fun c => lin_k _
  | nil => intro j; cases j <;> first | exact lin_no | exact lin_k _
theorem lin_scatK : ∀ (l r : List Nat), LinK (scatK l r) := by
  intro l
  induction l with
  | cons x l ih => intro j; show LinK fun K : List Nat → Bool => scatK l j fun c => K (x :: c); exact lin_bind (ih j) fun c => lin_k _
  | nil => intro j; exact lin_k _
theorem lin_bchK : ∀ l : V, LinK (bchK l) := by
  intro l
  induction l with
  | cons x l _ ih =>
    show LinK fun K : List Nat → Bool => vI x fun kd n => IntKind.rec (motive := fun _ => Bool) false false false false (Int.rec (motive := fun _ => Bool) (fun m => Bool.rec false (bchK l fun c => K (m :: c)) (Nat.ble m 255)) (fun _ => false) n) false false false kd
    refine lin_vI x fun kd n => ?_
    cases kd <;> first | exact lin_no | skip
    cases n with
    | ofNat m => exact lin_bool _ lin_no (lin_bind ih fun c => lin_k _)
    | negSucc m => exact lin_no
  | _ => exact lin_k _
theorem lin_chbK : ∀ l : List Nat, LinK (chbK l) := by
  intro l
  induction l with
  | cons x l ih => show LinK fun K : V → Bool => chbK l fun c => K (.cons (.i .u8 (Int.ofNat x)) c); exact lin_bind ih fun c => lin_k _
  | nil => exact lin_k _
theorem lin_rngK (v : V) {G : IntKind → Nat → Nat → Nat → (β → Bool) → Bool} (hG : ∀ a b c d, LinK (G a b c d)) : LinK fun K => rngK v fun a b c d => G a b c d K := by
  cases v <;> first | exact lin_no | skip
  case i kd n => exact lin_int (A := fun m K => G kd m m 0 K) n (fun m => hG _ _ _ _) fun m => lin_no
  case x a kd lo hi => exact hG _ _ _ _
theorem lin_tri (l1 h1 i1 l2 h2 i2 : Nat) {A B C : (β → Bool) → Bool} (hA : LinK A) (hB : LinK B) (hC : LinK C) : LinK fun K => tri l1 h1 i1 l2 h2 i2 (A K) (B K) (C K) :=
  lin_bool _ (lin_bool _ hC hA) hB
theorem lin_xeqK (l1 h1 i1 l2 h2 i2 : Nat) : LinK (xeqK l1 h1 i1 l2 h2 i2) := lin_tri l1 h1 i1 l2 h2 i2 (lin_k _) (lin_k _) lin_no
theorem lin_xltK (l1 h1 i1 l2 h2 i2 : Nat) : LinK (xltK l1 h1 i1 l2 h2 i2) := lin_bool (β := Bool) _ (lin_bool _ (lin_bool _ lin_no (lin_k _)) (lin_k _)) (lin_k _)
theorem lin_weqK : ∀ la lb : V, LinK (weqK la lb) := by
  intro la
  induction la with
  | cons x l _ ih =>
    intro lb
    cases lb <;> first | exact lin_k _ | skip
    case cons y m =>
      show LinK fun k : Bool → Bool => rngK x fun _ l1 h1 i1 => rngK y fun _ l2 h2 i2 => tri l1 h1 i1 l2 h2 i2 (k false) (weqK l m k) (weqK l m fun b => Bool.rec (k false) false b)
      exact lin_rngK x fun _ l1 h1 i1 => lin_rngK y fun _ l2 h2 i2 => lin_tri l1 h1 i1 l2 h2 i2 (lin_k _) (ih m) (lin_bind (ih m) fun b => lin_bool b (lin_k _) lin_no)
  | _ => intro lb; cases lb <;> exact lin_k _
theorem lin_strK (c : V) : LinK (strK c) := lin_bool (β := V) _ (lin_ite1 _ (lin_k _)) (lin_bind (lin_bchK c) fun _t => lin_k _)
theorem lin_seqV (a b : V) : LinK (seqV a b) := by
  cases a <;> first | exact lin_no | skip
  case s l =>
    cases b <;> first | exact lin_no | exact lin_k _ | skip
    case w l' => show LinK fun k : Bool → Bool => chbK l fun c => weqK c l' k; exact lin_bind (lin_chbK l) fun c => lin_weqK _ _
  case w l =>
    cases b <;> first | exact lin_no | skip
    case s l' => show LinK fun k : Bool → Bool => chbK l' fun c => weqK l c k; exact lin_bind (lin_chbK l') fun c => lin_weqK _ _
    case w l' => exact lin_weqK l l'
theorem lin_wrapK (mx : Nat) (k : IntKind) (n : Int) : LinK (wrapK mx k n) := by
  cases n with
  | ofNat m => show LinK fun K : Int → Bool => (Bool.rec (K (k.wrap (Int.ofNat m))) (forceN m fun m => K (Int.ofNat m)) (Nat.ble m mx) : Bool); exact lin_bool _ (lin_k _) (lin_bind (lin_forceN _) fun m => lin_k _)
  | negSucc m => exact lin_k _
theorem lin_wrap64K (n : Int) : LinK (wrap64K n) := by
  cases n with
  | ofNat m => show LinK fun K : Int → Bool => (Bool.rec (K (IntKind.i64.wrap (Int.ofNat m))) (forceN m fun m => K (Int.ofNat m)) (Nat.ble m 9223372036854775807) : Bool); exact lin_bool _ (lin_k _) (lin_bind (lin_forceN _) fun m => lin_k _)
  | negSucc m => show LinK fun K : Int → Bool => (Bool.rec (K (IntKind.i64.wrap (Int.negSucc m))) (forceN m fun m => K (Int.negSucc m)) (Nat.ble m 9223372036854775807) : Bool); exact lin_bool _ (lin_k _) (lin_bind (lin_forceN _) fun m => lin_k _)
theorem lin_wrK (k : IntKind) (n : Int) : LinK (wrK k n) := by
  cases k <;> first | exact lin_wrapK _ _ _ | exact lin_wrap64K _
theorem lin_partK (n : Nat) (l : V) (off : Nat) : LinK (partK n l off) := by
  cases n with
  | zero => exact lin_no
  | succ n =>
    cases n with
    | zero => exact lin_nthK _ _
    | succ n => show LinK fun K : V → Bool => dropK l off fun r => takeK r n fun c => K (.a c); exact lin_bind (lin_dropK _ _) fun r => lin_bind (lin_takeK _ _) fun c => lin_k _
theorem lin_putK : ∀ (l : V) (off : Nat) (new : V), LinK (putK l off new) := by
  intro l
  induction l with
  | cons x l _ ih =>
    intro off new
    cases off with
    | zero =>
      cases new <;> first | exact lin_k _ | exact lin_no | skip
      case cons y new' =>
        show LinK fun K : V → Bool => (Bool.rec false (putK l 0 new' fun c => K (.cons y c)) (one y) : Bool)
        exact lin_bool _ lin_no (lin_bind (ih 0 _) fun c => lin_k _)
    | succ off => show LinK fun K : V → Bool => putK l off new fun c => K (.cons x c); exact lin_bind (ih off new) fun c => lin_k _
  | _ => intro off new; cases off <;> cases new <;> first | exact lin_no | exact lin_k _
theorem lin_fI (n : Int) {G : Int → (β → Bool) → Bool} (hG : ∀ c, LinK (G c)) : LinK fun K => fI n fun c => G c K := by
  have e : (fun K : β → Bool => fI n fun c => G c K) = G n := by funext K; rw [fI_eq]
  rw [e]
  exact hG n
theorem lin_tmK (v : V) {G : V → Int → (β → Bool) → Bool} (hG : ∀ x c, LinK (G x c)) : LinK fun K => tmK v fun x c => G x c K := by
  cases v <;> first | exact hG _ _ | skip
  case o t l a lo hi => exact lin_bool (Nat.beq t 6) (hG _ _) (hG _ _)
theorem lin_insK (x : V) (c : Int) : ∀ l : V, LinK (insK x c l) := by
  have nl : LinK fun K : V → Bool => fI c fun c => K (.cons (mkT x c) .nil) := lin_fI c (G := fun c (K : V → Bool) => K (V.cons (mkT x c) V.nil)) fun c => lin_k _
  intro l
  induction l with
  | cons y r _ ih =>
    show LinK fun K : V → Bool => tmK y fun x' c' => Bool.rec (insK x c r fun r' => K (.cons y r')) (fI (Int.add c c') fun c2 => Bool.rec (K (.cons (mkT x c2) r)) (K r) (ieq c2 (Int.ofNat 0))) (sameV x x')
    exact lin_tmK y fun x' c' => lin_bool _ (lin_bind ih fun r' => lin_k _) (lin_fI _ fun c2 => lin_bool _ (lin_k _) (lin_k _))
  | _ => exact nl
theorem lin_addLK (q : Int) : ∀ r l : V, LinK (addLK q r l) := by
  intro r
  induction r with
  | cons y r _ ih =>
    intro l
    show LinK fun K : V → Bool => tmK y fun x c => fI (Int.mul q c) fun d => insK x d l fun l' => addLK q r l' K
    exact lin_tmK y fun x c => lin_fI _ fun d => lin_bind (lin_insK _ _ _) fun l' => ih l'
  | _ => intro l; exact lin_k _
theorem lin_mrK (x : V) {G : Int → Int → (β → Bool) → Bool} (hG : ∀ a b, LinK (G a b)) : LinK fun K => mrK x fun a b => G a b K := by
  cases x <;> first | exact lin_no | exact hG _ _ | skip
  case o t l a lo hi => exact lin_bool (ior (Nat.beq t 1) (Nat.beq t 4)) (lin_bool (Nat.beq t 7) (lin_bool (Nat.beq t 9) lin_no (hG _ _)) (hG _ _)) (hG _ _)
theorem lin_rgK : ∀ (l : V) {G : Int → Int → (β → Bool) → Bool}, (∀ a b, LinK (G a b)) → LinK fun K => rgK l fun a b => G a b K := by
  intro l
  induction l with
  | cons y r _ ih =>
    intro G hG
    show LinK fun K : β → Bool => tmK y fun x c => mrK x fun lo hi => rgK r fun a b => Bool.rec (fI (Int.add a (Int.mul c lo)) fun a => fI (Int.add b (Int.mul c hi)) fun b => G a b K) (fI (Int.add a (Int.mul c hi)) fun a => fI (Int.add b (Int.mul c lo)) fun b => G a b K) (ilt c (Int.ofNat 0))
    exact lin_tmK y fun x c => lin_mrK x fun lo hi => ih fun a b => lin_bool _ (lin_fI _ fun a => lin_fI _ fun b => hG a b) (lin_fI _ fun a => lin_fI _ fun b => hG a b)
  | _ => intro G hG; exact hG _ _
theorem lin_mkI (kd : Nat) (l : V) : LinK (mkI kd l) := by
  cases l <;> first | exact lin_k _ | skip
  case cons y r =>
    have one : LinK fun K : V → Bool => tmK y fun x c => Bool.rec (K (.o 2 (.cons y r) kd 0 0)) (K (.i (kOfN' kd) c)) (sameV x oneV) :=
      lin_tmK y fun x c => lin_bool _ (lin_k _) (lin_k _)
    cases r <;> first | exact lin_k _ | exact one
theorem lin_mkR (kd : Nat) (l : V) : LinK (mkR kd l) := lin_rgK l fun _lo _hi => lin_ite1 _ (lin_ite1 _ (lin_mkI _ _))
theorem lin_mkW (kd : Nat) (l : V) : LinK (mkW kd l) := by
  show LinK fun K : V → Bool => rgK l fun lo hi => Bool.rec (ite1 (Nat.beq kd 3) <| K (.o 2 (.cons (.o 9 l 0 0 0) .nil) 3 0 0)) (mkI kd l K) (ite1 (ile (kMin kd) lo) (ile hi (Int.ofNat (mxK (kOfN' kd)))))
  exact lin_rgK l fun _lo _hi => lin_bool _ (lin_ite1 _ (lin_k _)) (lin_mkI _ _)
theorem lin_linK (v : V) {G : Nat → V → (β → Bool) → Bool} (hG : ∀ a b, LinK (G a b)) : LinK fun K => linK v fun a b => G a b K := by
  cases v <;> first | exact lin_no | exact hG _ _ | skip
  case o t l a lo hi => exact lin_ite1 _ (hG _ _)
theorem lin_cmpL (op : BinOp) (lo hi : Int) (U : V) : LinK fun K => cmpL op lo hi U K := by
  cases op <;> first | exact lin_no | exact lin_bool _ (lin_bool _ (lin_k _) (lin_k _)) (lin_k _)
theorem lin_linOp (op : BinOp) (k1 : Nat) (l1 l2 : V) : LinK fun K => linOp op k1 l1 l2 K := by
  have add : LinK fun K : V → Bool => addLK (Int.ofNat 1) l2 l1 fun l => mkW k1 l K := lin_bind (lin_addLK _ _ _) fun l => lin_mkW _ _
  have sub : LinK fun K : V → Bool => addLK (Int.negSucc 0) l2 l1 fun l => mkW k1 l K := lin_bind (lin_addLK _ _ _) fun l => lin_mkW _ _
  have cmp : ∀ (o : BinOp) (q : Nat), LinK fun K : V → Bool => addLK (Int.negSucc 0) l1 l2 fun d => rgK d fun lo hi => cmpL o lo hi (.o 5 d q 0 0) K := fun o q =>
    lin_bind (lin_addLK _ _ _) fun d => lin_rgK d (G := fun lo hi K => cmpL o lo hi (.o 5 d q 0 0) K) fun lo hi => lin_cmpL _ _ _ _
  have cst : ∀ (l : V) {G : Int → (V → Bool) → Bool} {d : (V → Bool) → Bool}, (∀ c, LinK (G c)) → LinK d → LinK fun K => cstK l (fun c => G c K) (d K) := fun l {G d} hG hd => lin_bind (lin_mkI 3 l) fun v => by cases v <;> first | exact hd | exact hG _
  have mul : LinK fun K : V → Bool => cstK l2 (fun c => addLK c l1 .nil fun l => mkR k1 l K) (cstK l1 (fun c => addLK c l2 .nil fun l => mkR k1 l K) false) :=
    cst _ (fun c => lin_bind (lin_addLK _ _ _) fun l => lin_mkR _ _) (cst _ (fun c => lin_bind (lin_addLK _ _ _) fun l => lin_mkR _ _) lin_no)
  have and_ : LinK fun K : V → Bool => cstK l2 (fun c => ite1 (Nat.beq k1 3) <| ite1 (ieq c (Int.ofNat 255)) <| rgK l1 fun lo hi => ite1 (ile (Int.ofNat 0) lo) <| ite1 (ile hi (Int.ofNat 255)) <| mkI k1 l1 K) false :=
    cst _ (fun c => lin_ite1 _ (lin_ite1 _ (lin_rgK l1 (G := fun lo hi K => ite1 (ile (Int.ofNat 0) lo) <| ite1 (ile hi (Int.ofNat 255)) <| mkI k1 l1 K) fun _ _ => lin_ite1 _ (lin_ite1 _ (lin_mkI _ _))))) lin_no
  cases op <;> first | exact lin_no | exact add | exact sub | exact mul | exact and_ | exact cmp .eql 1 | exact cmp .neq 2 | exact cmp .lss 3 | exact cmp .leq 4 | exact cmp .gtr 5 | exact cmp .geq 6
theorem lin_binL (op : BinOp) (a b : V) : LinK fun K => binL op a b K :=
  lin_linK a fun _k1 _l1 => lin_linK b fun _k2 _l2 => lin_ite1 _ (lin_linOp _ _ _ _)
theorem lin_ropK (v : V) : LinK (ropK v) := by
  cases v <;> first | exact lin_no | exact lin_chbK _ | exact lin_ite1 _ (lin_k _)
theorem lin_lenE (y l : V) : LinK (lenE y l) := by
  cases y <;> first | exact lin_no | exact lin_insK _ _ _
theorem lin_lenA : ∀ (c : V) (n : Nat) (l : V), LinK (lenA c n l) := by
  intro c
  induction c with
  | cons y r _ ih =>
    intro n l
    show LinK fun K : V → Bool => Bool.rec (lenE y l fun l => lenA r n l K) (forceN (Nat.succ n) fun n => lenA r n l K) (isBy y)
    exact lin_bool _ (lin_bind (lin_lenE _ _) fun l => ih n l) (lin_bind (lin_forceN _) fun n => ih n l)
  | _ => intro n l; exact lin_nat n (lin_k _) fun _ => lin_insK _ _ _
theorem lin_lenR (c : V) : LinK (lenR c) := lin_lenA c 0 .nil
theorem lin_strR (c : V) : LinK (strR c) := lin_bool (β := V) _ (lin_k _) (lin_strK c)
theorem lin_lensK (a b : V) {A B C : (β → Bool) → Bool} (hA : LinK A) (hB : LinK B) (hC : LinK C) : LinK fun K => lensK a b (A K) (B K) (C K) :=
  lin_bind (lin_lenR a) fun la => lin_bind (lin_lenR b) fun lb => lin_rgK la fun _l1 _h1 => lin_rgK lb fun _l2 _h2 => lin_bool _ (lin_bool _ (lin_bool _ hC hB) hA) hA
theorem lin_vUn (v : V) : LinK (vUn v) := by
  cases v <;> first | exact lin_k _ | skip
  case b x => exact lin_bool (β := V) x (lin_k _) (lin_k _)
theorem lin_eqR : ∀ a b : V, LinK (eqR a b) := by
  have len : ∀ a b : V, LinK fun k : V → Bool => lensK a b (k (.b false)) (k (.b true)) (k unkB) := fun a b => lin_lensK a b (lin_k _) (lin_k _) (lin_k _)
  intro a
  induction a with
  | cons x ra _ ih =>
    intro b
    cases b <;> first | exact len (.cons x ra) .nil | skip
    case cons y rb =>
      show LinK fun k : V → Bool => Bool.rec (Bool.rec (Bool.rec (lensK (.cons x ra) (.cons y rb) (k (.b false)) (k (.b true)) (k unkB)) (k (.b false)) (ior (ior (clashB x y) (clashB y x)) (neR x ra y rb)))
        (rngK x fun _ l1 h1 i1 => rngK y fun _ l2 h2 i2 => tri l1 h1 i1 l2 h2 i2 (k (.b false)) (eqR ra rb k) (eqR ra rb fun v => vUn v k))
        (ite1 (isBy x) (isBy y))) (eqR ra rb k) (sameV x y)
      exact lin_bool _ (lin_bool _ (lin_bool _ (len _ _) (lin_k _)) (lin_rngK x fun _ l1 h1 i1 => lin_rngK y fun _ l2 h2 i2 => lin_tri l1 h1 i1 l2 h2 i2 (lin_k _) (ih rb) (lin_bind (ih rb) fun v => lin_vUn v))) (ih rb)
  | _ => intro b; exact len .nil b
theorem lin_notV (v : V) : LinK (notV v) := by
  cases v <;> first | exact lin_no | exact lin_k _ | exact lin_ite1 _ (lin_k _)
theorem lin_atMost (c : V) (m : Nat) : LinK (atMost c m) := by
  show LinK fun K : V → Bool => lenR c fun l => rgK l fun _ hi => ite1 (ile hi (Int.ofNat m)) (K l)
  exact lin_bind (lin_lenR c) fun l => lin_rgK l (G := fun _ hi K => ite1 (ile hi (Int.ofNat m)) (K l)) fun _ _hi => lin_ite1 _ (lin_k _)
theorem lin_binT (op : BinOp) (a b : V) : LinK fun K => binT op a b K := by
  have add : LinK fun K : V → Bool => ropK a fun ra => ropK b fun rb => catK ra rb fun c => atMost c 4611686018427387904 fun _ => K (.o 0 c 0 0 0) :=
    lin_bind (lin_ropK a) fun ra => lin_bind (lin_ropK b) fun rb => lin_bind (lin_catK _ _) fun c => lin_bind (lin_atMost _ _) fun _ => lin_k _
  have eql : LinK fun K : V → Bool => ropK a fun ra => ropK b fun rb => eqR ra rb K := lin_bind (lin_ropK a) fun ra => lin_bind (lin_ropK b) fun rb => lin_eqR _ _
  have neq : LinK fun K : V → Bool => ropK a fun ra => ropK b fun rb => eqR ra rb fun v => notV v K := lin_bind (lin_ropK a) fun ra => lin_bind (lin_ropK b) fun rb => lin_bind (lin_eqR _ _) fun v => lin_notV v
  have no : LinK fun _ : V → Bool => ropK a fun _ => ropK b fun _ => false := lin_bind (lin_ropK a) fun ra => lin_bind (lin_ropK b) fun rb => lin_no
  cases op <;> first | exact add | exact eql | exact neq | exact no
theorem lin_dropR : ∀ (l : V) (j : Nat), LinK (dropR l j) := by
  intro l
  induction l with
  | cons x l _ ih =>
    intro j
    cases j with
    | zero => exact lin_k _
    | succ j => exact lin_ite1 _ (ih j)
  | _ => intro j; cases j <;> first | exact lin_no | exact lin_k _
theorem lin_takeR : ∀ (l : V) (j : Nat), LinK (takeR l j) := by
  intro l
  induction l with
  | cons x l _ ih =>
    intro j
    cases j with
    | zero => exact lin_k _
    | succ j => exact lin_ite1 (isBy x) (lin_bind (ih j) fun c => lin_k _)
  | _ => intro j; cases j <;> first | exact lin_no | exact lin_k _
theorem lin_oR (o : O) {G : V → Nat → Bool → (β → Bool) → Bool} (hG : ∀ x y z, LinK (G x y z)) : LinK fun K => oR o fun x y z => G x y z K := by
  cases o <;> first | exact .inl fun _ => rfl | exact hG _ _ _
theorem lin_arg0' (l : V) {G : V → V → (β → Bool) → Bool} (hG : ∀ x y, LinK (G x y)) : LinK fun K => arg0 l fun x y => G x y K := by
  cases l <;> first | exact lin_no | exact hG _ _
theorem lin_loN (lo : Option V) {G : Nat → (β → Bool) → Bool} (hG : ∀ a, LinK (G a)) : LinK fun K => loN lo fun a => G a K := by
  cases lo with
  | none => exact hG 0
  | some v => exact lin_vN v fun j => hG j
theorem lin_loZ (lo : Option V) {G : (β → Bool) → Bool} (hG : LinK G) : LinK fun K => loZ lo (G K) := by
  cases lo with
  | none => exact hG
  | some v => exact lin_vN v fun j => lin_ite1 _ hG
theorem lin_hi3 (l : V) (id : Nat) (v hv : V) : LinK (hi3 l id v hv) := by
  cases hv <;> first | exact lin_no | skip
  case i kd n => exact lin_int (β := V) n (fun n => lin_rgK l fun a _ => lin_ite1 _ (lin_k _)) fun _ => lin_no
  case o t l' a lo hi => exact lin_ite1 _ (lin_ite1 _ (lin_k _))
theorem lin_hi0 (l r : V) (j : Nat) (hv : V) : LinK (hi0 l r j hv) := by
  cases hv <;> first | exact lin_no | skip
  case i kd n => exact lin_int (β := V) n (fun n => lin_ite1 _ (lin_bind (lin_takeR _ _) fun c => lin_strK _)) fun _ => lin_no
  case o t l' a lo hi => exact lin_ite1 _ (lin_bind (lin_lenR _) fun m => lin_ite1 _ (lin_strR _))
theorem lin_splS : ∀ (S : V) {G : Nat → V → (β → Bool) → Bool}, (∀ n l, LinK (G n l)) → LinK fun K => splS S fun n l => G n l K := by
  intro S
  induction S with
  | cons y r _ ih =>
    intro G hG
    show LinK fun K : β → Bool => tmK y fun x c => Bool.rec (splS r fun n l => G n (.cons y l) K) (Int.rec (motive := fun _ => Bool) (fun m => splS r fun n l => forceN (Nat.add n m) fun n => G n l K) (fun _ => false) c) (sameV x oneV)
    exact lin_tmK y fun x c => lin_bool _ (ih fun n l => hG n _) (lin_int (β := β) c (fun m => ih (G := fun n l (K : β → Bool) => forceN (Nat.add n m) fun n => G n l K) fun n l => lin_bind (lin_forceN _) fun n => hG n l) fun _ => lin_no)
  | _ => intro G hG; exact hG _ _
theorem lin_chain2 (l : V) {A B : (β → Bool) → Bool} (hA : LinK A) (hB : LinK B) : LinK fun K => chain (M := Bool) (A K) (fun _ _ _ => B K) l := by
  cases l <;> first | exact hA | exact hB
theorem lin_remL (y : V) : ∀ (l : V) {G : V → (β → Bool) → Bool}, (∀ l, LinK (G l)) → LinK fun K => remL y l (fun l => G l K) false := by
  intro l
  induction l with
  | cons z r _ ih =>
    intro G hG
    show LinK fun K : β → Bool => tmK z fun x c => Bool.rec (remL y r (fun r' => G (.cons z r') K) false) (Int.rec (motive := fun _ => Bool) (fun m => Nat.rec (motive := fun _ => Bool) false (fun m' _ => Nat.rec (motive := fun _ => Bool) (G r K) (fun _ _ => G (.cons (mkT x (Int.ofNat m')) r) K) m') m) (fun _ => false) c) (sameV x y)
    exact lin_tmK z fun x c => lin_bool _ (ih fun r' => hG _) (lin_int (β := β) c (fun m => lin_nat m lin_no fun m' => lin_nat m' (hG _) fun _ => hG _) fun _ => lin_no)
  | _ => intro G _; exact lin_no
theorem lin_dropL : ∀ (c : V) (n : Nat) (l : V) {G : V → (β → Bool) → Bool}, (∀ r, LinK (G r)) → LinK fun K => dropL c n l (fun r => G r K) false := by
  intro c
  induction c with
  | cons y r _ ih =>
    intro n l G hG
    show LinK fun K : β → Bool => Bool.rec
      (Nat.rec (motive := fun _ => Bool) (chain (M := Bool) (G (.cons y r) K) (fun _ _ _ => remL y l (fun l' => dropL r n l' (fun r => G r K) false) false) l) (fun _ _ => remL y l (fun l' => dropL r n l' (fun r => G r K) false) false) n)
      (Nat.rec (motive := fun _ => Bool) (chain (M := Bool) (G (.cons y r) K) (fun _ _ _ => false) l) (fun n' _ => dropL r n' l (fun r => G r K) false) n) (isBy y)
    have take : LinK fun K : β → Bool => remL y l (fun l' => dropL r n l' (fun r => G r K) false) false := lin_remL y l fun l' => ih n l' hG
    exact lin_bool _ (lin_nat n (lin_chain2 l (hG _) take) fun _ => take) (lin_nat n (lin_chain2 l (hG _) lin_no) fun n' => ih n' l hG)
  | _ => intro n l G hG; exact lin_nat n (lin_chain2 l (hG _) lin_no) fun _ => lin_no
theorem lin_takeL : ∀ (c : V) (n : Nat) (l : V) {G : V → (β → Bool) → Bool}, (∀ r, LinK (G r)) → LinK fun K => takeL c n l fun r => G r K := by
  intro c
  induction c with
  | cons y r _ ih =>
    intro n l G hG
    show LinK fun K : β → Bool => Bool.rec
      (Nat.rec (motive := fun _ => Bool) (chain (M := Bool) (G .nil K) (fun _ _ _ => remL y l (fun l' => takeL r n l' fun c => G (.cons y c) K) false) l) (fun _ _ => remL y l (fun l' => takeL r n l' fun c => G (.cons y c) K) false) n)
      (Nat.rec (motive := fun _ => Bool) (chain (M := Bool) (G .nil K) (fun _ _ _ => false) l) (fun n' _ => takeL r n' l fun c => G (.cons y c) K) n) (isBy y)
    have take : LinK fun K : β → Bool => remL y l (fun l' => takeL r n l' fun c => G (.cons y c) K) false := lin_remL y l fun l' => ih n l' fun _ => hG _
    exact lin_bool _ (lin_nat n (lin_chain2 l (hG _) take) fun _ => take) (lin_nat n (lin_chain2 l (hG _) lin_no) fun n' => ih n' l fun _ => hG _)
  | _ => intro n l G hG; exact lin_nat n (lin_chain2 l (hG _) lin_no) fun _ => lin_no
theorem lin_slO0 (l : V) (lo hi : Option V) : LinK (slO0 l lo hi) := by
  refine lin_loN (β := V) lo fun j => lin_bind (lin_dropR _ _) fun r => ?_
  exact lin_opt hi (lin_strR _) fun hv => lin_hi0 _ _ _ _
theorem lin_loL (lo : Option V) {G : V → (β → Bool) → Bool} (hG : ∀ S, LinK (G S)) : LinK fun K => loL lo fun S => G S K := by
  cases lo with
  | none => exact hG _
  | some v => exact lin_linK v fun _ S => hG S
theorem lin_slOL (l : V) (lo hi : Option V) : LinK (slOL l lo hi) := by
  refine lin_loL (β := V) lo fun S => lin_splS S fun n l' => lin_dropL l n l' fun r => ?_
  exact lin_opt hi (lin_strR _) fun hv => lin_linK (β := V) hv fun _ H => lin_bind (lin_addLK _ _ _) fun D => lin_splS D fun n2 l2 => lin_takeL r n2 l2 fun c => lin_strR c
theorem lin_slO (l : V) (lo hi : Option V) : LinK (slO l lo hi) := lin_bool (β := V) _ (lin_slO0 _ _ _) (lin_slOL _ _ _)
end
end Go.Mx
namespace Go.Mx
noncomputable section
variable {P : Program} {h : T O} {nx : Nat} {ng : Nat} {β : Type}
theorem lin_opLoad (t : TypeId) (v : V) : LinK fun K => opLoad P t v h K :=
  lin_vP v fun _id _off => lin_oC _ fun _l _ _ => lin_partK _ _ _
theorem lin_fillK (place : Nat → Nat × Nat) : ∀ (l : List (Nat × V)) (c : V), LinK (fillK place l c) := by
  intro l
  induction l with
  | nil => intro c; exact lin_k _
  | cons p l ih =>
    intro c
    show LinK fun K : V → Bool => cellsK p.2 fun new => lenK new 0 fun n => ite1 (Nat.beq (place p.1).2 (Nat.succ n)) <| putK c (place p.1).1 new fun c' => fillK place l c' K
    exact lin_bind (lin_cellsK _) fun new => lin_bind (lin_lenK _ _) fun n => lin_ite1 _ (lin_bind (lin_putK _ _ _) fun c' => ih c')
theorem lin_opBuild (t : TypeId) (ps : List (Nat × V)) : LinK fun K => opBuild P t ps K :=
  lin_ite1 _ (lin_opt _ lin_no fun _c => lin_bind (lin_fillK _ _ _) fun _c' => lin_k _)
theorem lin_opFieldAddr (t : TypeId) (v : V) (f : Nat) : LinK fun K => opFieldAddr P t v f K :=
  lin_vP v fun _id _off => lin_nat _ lin_no fun _o => lin_k _
theorem lin_opField (t : TypeId) (v : V) (f : Nat) : LinK fun K => opField P t v f K :=
  lin_vA v fun _l => lin_nat _ lin_no fun _o => lin_partK _ _ _
theorem lin_opIndexAddr (t : TypeId) (v ix : V) : LinK fun K => opIndexAddr P t v ix K := by
  refine lin_vN ix fun j => ?_
  cases v <;> first | exact lin_no | skip
  case p id off => exact lin_ite1 _ (lin_nat _ lin_no fun sz => lin_k _)
  case sl id off len sz => exact lin_ite1 _ (lin_ite1 _ (lin_k _))
theorem lin_opIndex0 (t : TypeId) (v ix : V) : LinK fun K => opIndex0 P t v ix K := by
  refine lin_vN ix fun j => ?_
  cases v <;> first | exact lin_no | skip
  case s l => exact lin_ite1 _ (lin_bind (lin_snthK _ _) fun x => lin_k _)
  case a l => exact lin_ite1 _ (lin_nat _ lin_no fun sz => lin_partK _ _ _)
  case w l => exact lin_ite1 _ (lin_nthK _ _)
  case y l a lo hi => exact lin_ite1 _ (lin_nthK _ _)
  case o t' l a lo hi => exact lin_ite1 _ (lin_ite1 _ (lin_bind (lin_dropR _ _) fun r => lin_arg0' r fun x _ => lin_ite1 _ (lin_k _)))
theorem lin_opIndexL (t : TypeId) (v ix : V) : LinK fun K => opIndexL P t v ix K := by
  refine lin_linK (β := V) ix fun _ S => ?_
  cases v <;> first | exact lin_no | skip
  case o t' l a lo hi => exact lin_ite1 _ (lin_ite1 _ (lin_splS S fun n l' => lin_dropL l n l' fun r => lin_arg0' r fun x _ => lin_ite1 _ (lin_k _)))
theorem lin_opIndex (t : TypeId) (v ix : V) : LinK fun K => opIndex P t v ix K := lin_bool _ (lin_opIndex0 _ _ _) (lin_opIndexL _ _ _)
theorem lin_bndK (lo hi : Option V) (len : Nat) {G : Nat → Nat → (β → Bool) → Bool} (hG : ∀ x y, LinK (G x y)) : LinK fun K => bndK lo hi len fun x y => G x y K := by
  have key : ∀ n, LinK fun K : β → Bool => (Option.rec (motive := fun _ => (Nat → Bool) → Bool) (fun c => c 0) (fun v c => vN v fun l => ite1 (Nat.ble l n) <| c l) lo : (Nat → Bool) → Bool) fun l => G l n K := by
    intro n
    cases lo with
    | none => exact hG _ _
    | some v => exact lin_vN v fun l => lin_ite1 _ (hG _ _)
  cases hi with
  | none => exact key _
  | some v => exact lin_vN v fun n => lin_ite1 _ (key n)
theorem lin_opSlice (t : TypeId) (v : V) (lo hi mx : Option V) : LinK fun K => opSlice P t v lo hi mx h K := by
  cases mx with
  | none =>
    cases v <;> first | exact lin_no | skip
    case s l => exact lin_ite1 _ (lin_bind (lin_slenK _ _) fun n => lin_bndK _ _ _ fun a b => lin_bind (lin_sdropK _ _) fun r => lin_bind (lin_stakeK _ _) fun c => lin_k _)
    case w l => exact lin_ite1 _ (lin_bind (lin_lenK _ _) fun n => lin_bndK _ _ _ fun a b => lin_bind (lin_dropK _ _) fun r => lin_bind (lin_takeK _ _) fun c => lin_strK _)
    case o t' l id x' y' => exact lin_bool _ (lin_ite1 _ (lin_ite1 _ (lin_slO _ _ _))) (lin_ite1 _ (lin_loZ lo (lin_opt hi (lin_k _) fun hv => lin_hi3 _ _ _ _)))
    case p id off => exact lin_nat _ lin_no fun n => lin_nat _ lin_no fun sz => lin_oC _ fun _l _ _ => lin_bind (lin_lenK _ _) fun c => lin_ite1 _ (lin_bndK _ _ _ fun a b => lin_bool _ (lin_k _) (lin_k _))
    case sl id off len sz => exact lin_ite1 _ (lin_bndK _ _ _ fun a b => lin_bool _ (lin_bool _ (lin_k _) (lin_k _)) (lin_k _))
    all_goals exact lin_ite1 _ (lin_bndK _ _ _ fun a b => lin_k _)
  | some m =>
    refine lin_vN m fun m' => lin_ite1 _ (lin_ite1 _ (lin_opt _ lin_no fun hv => lin_vN hv fun j => lin_ite1 _ (lin_bndK _ _ _ fun _ _ => ?_)))
    cases v <;> first | exact lin_no | exact lin_k _
theorem lin_forceI (n : Int) : LinK (forceI n) := by
  cases n with
  | ofNat m => show LinK fun K : Int → Bool => forceN m fun m => K (Int.ofNat m); exact lin_bind (lin_forceN _) fun m => lin_k _
  | negSucc m => show LinK fun K : Int → Bool => forceN m fun m => K (Int.negSucc m); exact lin_bind (lin_forceN _) fun m => lin_k _
theorem lin_bitK (op : BinOp) (k : IntKind) (a b : Int) : LinK fun K => bitK op k a b K := by
  show LinK fun K : V → Bool => forceI (bitsI op k a b) fun n => K (.i k n)
  exact lin_bind (lin_forceI _) fun n => lin_k _
theorem lin_wrV (k : IntKind) (n : Int) : LinK fun K : V → Bool => wrK k n fun n => K (.i k n) := lin_bind (lin_wrK _ _) fun _n => lin_k _
theorem lin_shK (op : BinOp) (k : IntKind) (a b : Int) : LinK fun K => shK op k a b K := by
  refine lin_int a (fun m => ?_) (fun m => lin_no)
  refine lin_int b (fun y => lin_ite1 _ ?_) (fun m => lin_no)
  cases op <;> first | exact lin_no | exact lin_wrV _ _ | exact lin_bind (lin_forceN _) fun q => lin_k _
theorem lin_binI (op : BinOp) (k : IntKind) (a b : Int) : LinK fun K => binI op k a b K := by
  cases op <;> first | exact lin_no | exact lin_wrV _ _ | exact lin_k _ | exact lin_bool _ (lin_wrV _ _) lin_no | exact lin_bool _ (lin_k _) lin_no | exact lin_bitK _ _ _ _
theorem lin_binS (op : BinOp) (a b : List Nat) : LinK fun K => binS op a b K := by
  cases op <;> first | exact lin_no | exact lin_k _ | skip
  show LinK fun K : V → Bool => slenK a 0 fun n => slenK b n fun m => ite1 (Nat.ble m 9223372036854775807) <| scatK a b fun c => K (.s c)
  exact lin_bind (lin_slenK _ _) fun n => lin_bind (lin_slenK _ _) fun m => lin_ite1 _ (lin_bind (lin_scatK _ _) fun c => lin_k _)
theorem lin_binR (op : BinOp) (l1 h1 i1 l2 h2 i2 : Nat) : LinK fun K => binR op l1 h1 i1 l2 h2 i2 K := by
  cases op <;> first | exact lin_no | skip
  case eql => show LinK fun K : V → Bool => xeqK l1 h1 i1 l2 h2 i2 fun b => K (.b b); exact lin_bind (lin_xeqK _ _ _ _ _ _) fun b => lin_k _
  case neq => show LinK fun K : V → Bool => xeqK l1 h1 i1 l2 h2 i2 fun b => K (.b (inot b)); exact lin_bind (lin_xeqK _ _ _ _ _ _) fun b => lin_k _
  case lss => show LinK fun K : V → Bool => xltK l1 h1 i1 l2 h2 i2 fun b => K (.b b); exact lin_bind (lin_xltK _ _ _ _ _ _) fun b => lin_k _
  case leq => show LinK fun K : V → Bool => xltK l2 h2 i2 l1 h1 i1 fun b => K (.b (inot b)); exact lin_bind (lin_xltK _ _ _ _ _ _) fun b => lin_k _
  case gtr => show LinK fun K : V → Bool => xltK l2 h2 i2 l1 h1 i1 fun b => K (.b b); exact lin_bind (lin_xltK _ _ _ _ _ _) fun b => lin_k _
  case geq => show LinK fun K : V → Bool => xltK l1 h1 i1 l2 h2 i2 fun b => K (.b (inot b)); exact lin_bind (lin_xltK _ _ _ _ _ _) fun b => lin_k _
theorem lin_binW (op : BinOp) (a b : V) : LinK fun K => binW op a b K := by
  cases op <;> first | exact lin_no | skip
  case eql => show LinK fun K : V → Bool => weqK a b fun r => K (.b r); exact lin_bind (lin_weqK _ _) fun b => lin_k _
  case neq => show LinK fun K : V → Bool => weqK a b fun r => K (.b (inot r)); exact lin_bind (lin_weqK _ _) fun b => lin_k _
  show LinK fun K : V → Bool => lenK a 0 fun n => lenK b n fun m => ite1 (Nat.ble m 9223372036854775807) <| catK a b fun c => strK c K
  exact lin_bind (lin_lenK _ _) fun n => lin_bind (lin_lenK _ _) fun m => lin_ite1 _ (lin_bind (lin_catK _ _) fun c => lin_strK _)
theorem lin_binE (op : BinOp) (r : Bool) : LinK fun K => binE op r K := by
  cases op <;> first | exact lin_no | exact lin_k _
theorem lin_binIx (op : BinOp) (k : IntKind) (a : Int) (k' : IntKind) (b : Int) {r : (V → Bool) → Bool} (hr : LinK r) : LinK fun K => binIx op k a k' b K (r K) := by
  cases op <;> first | exact hr | exact lin_shK .shl k a b | exact lin_shK .shr k a b
theorem lin_arg0 (l : V) {G : V → V → (β → Bool) → Bool} (hG : ∀ x y, LinK (G x y)) : LinK fun K => arg0 l fun x y => G x y K := by
  cases l <;> first | exact lin_no | exact hG _ _
theorem lin_ceqK (kc : Nat) (x y : V) : LinK (ceqK kc x y) :=
  lin_bool (β := Bool) _ (lin_bool _ (lin_vI x fun _k1 _a => lin_vI y fun _k2 _b => lin_ite1 _ (lin_k _)) (lin_vB x fun _a => lin_vB y fun _b => lin_k _)) (lin_seqV x y)
theorem lin_eqK : ∀ (ks : List Nat) (l l' : V), LinK (eqK ks l l') := by
  intro ks
  induction ks with
  | nil => intro l l'; exact lin_k _
  | cons c ks ih =>
    intro l l'
    show LinK fun K : Bool → Bool => arg0 l fun x r => arg0 l' fun y r' => ceqK c x y fun b => Bool.rec (K false) (eqK ks r r' K) b
    exact lin_arg0 l fun x r => lin_arg0 l' fun y r' => lin_bind (lin_ceqK _ _ _) fun b => lin_bool b (lin_k _) (ih r r')
theorem lin_binV0 (op : BinOp) (t : TypeId) (x y : Operand) (a b : V) : LinK fun K => binV0 P op t x y a b K := by
  cases a <;> first | exact lin_no | skip
  case b q => cases b <;> first | exact lin_no | exact lin_ite1 _ (lin_binE _ _)
  case i k n =>
    cases b <;> first | exact lin_no | skip
    case i k' n' => exact lin_binIx op k n k' n' (lin_ite1 _ (lin_binI _ _ _ _))
    case x a' k' lo hi => exact lin_int n (fun m => lin_ite1 _ (lin_binR _ _ _ _ _ _ _)) fun m => lin_no
  case s l =>
    cases b <;> first | exact lin_no | exact lin_binS _ _ _ | skip
    case w l' => show LinK fun K : V → Bool => chbK l fun c => binW op c l' K; exact lin_bind (lin_chbK l) fun c => lin_binW _ _ _
    case y l' a' lo hi => cases l <;> first | exact lin_no | exact lin_ite1 _ (lin_binE _ _)
  case x ax kx lo hi =>
    cases b <;> first | exact lin_no | skip
    case i k' n' => exact lin_int n' (fun m => lin_ite1 _ (lin_binR _ _ _ _ _ _ _)) fun m => lin_no
    case x a' k' lo' hi' => exact lin_ite1 _ (lin_binR _ _ _ _ _ _ _)
  case w lw =>
    cases b <;> first | exact lin_no | skip
    case s l' => show LinK fun K : V → Bool => chbK l' fun c => binW op lw c K; exact lin_bind (lin_chbK l') fun c => lin_binW _ _ _
    case w l' => exact lin_binW _ _ _
  case y ly ay lo hi =>
    cases b <;> first | exact lin_no | skip
    case s l' => cases l' <;> first | exact lin_no | exact lin_ite1 _ (lin_binE _ _)
  case a l => cases b <;> first | exact lin_no | exact lin_ite1 _ (lin_bind (lin_eqK _ _ _) fun r => lin_binE _ _)
  case p id off => cases b <;> first | exact lin_no | exact lin_ite1 _ (lin_binE _ _) | exact lin_ite1 _ (lin_ite1 _ (lin_ite1 _ (lin_ite1 _ (lin_binE _ _))))
  all_goals cases b <;> first | exact lin_no | exact lin_ite1 _ (lin_binE _ _) | exact lin_ite1 _ (lin_ite1 _ (lin_binE _ _))
theorem lin_binV (op : BinOp) (t : TypeId) (x y : Operand) (a b : V) : LinK fun K => binV P op t x y a b K :=
  lin_bool _ (lin_binV0 _ _ _ _ _ _) (lin_bool _ (lin_bool _ (lin_bool _ (lin_binL _ _ _) (lin_binT _ _ _)) (lin_ite1 _ (lin_binE _ _))) (lin_ite1 _ (lin_binE _ _)))
theorem lin_unV (op : UnOp) (v : V) : LinK fun K => unV op v K := by
  cases op
  · show LinK fun K : V → Bool => Bool.rec (vI v fun k n => wrK k (Int.sub (Int.ofNat 0) n) fun m => K (.i k m)) (linK v fun kd l => addLK (Int.negSucc 0) l .nil fun l2 => mkW kd l2 K) (isO v)
    exact lin_bool _ (lin_vI v fun k n => lin_wrV _ _) (lin_linK v fun kd l => lin_bind (lin_addLK _ _ _) fun l2 => lin_mkW _ _)
  · exact lin_vI v fun k n => lin_bitK _ _ _ _
  · exact lin_notV v
  · exact lin_no
theorem lin_veqK (kc : Nat) (a b : V) : LinK (veqK kc a b) :=
  lin_bool (β := Bool) _ (lin_ite1 _ (lin_ite1 _ (lin_vI a fun _k1 _n1 => lin_vI b fun _k2 _n2 => lin_ite1 _ (lin_k _)))) (lin_seqV a b)
theorem lin_lookE (kc : Nat) (key : V) {no : (β → Bool) → Bool} {yes : V → (β → Bool) → Bool} (h1 : LinK no) (h2 : ∀ v, LinK (yes v)) : ∀ es : E, LinK fun K => lookE kc key (no K) (fun v => yes v K) es := by
  intro es
  induction es with
  | nil => exact h1
  | cons k v bn r ih =>
    show LinK fun K : β → Bool => veqK kc key k fun b => (Bool.rec (lookE kc key (no K) (fun v => yes v K) r) (yes v K) b : Bool)
    exact lin_bind (lin_veqK _ _ _) fun b => lin_bool _ ih (h2 v)
theorem lin_opLookup (t : TypeId) (m key : V) (ok : Bool) : LinK fun K => opLookup P t m key ok h K := by
  refine lin_ite1 _ (lin_ite1 _ (lin_opt _ lin_no fun z => ?_))
  cases m <;> first | exact lin_no | exact lin_k _ | skip
  case m id => exact lin_oM _ fun es _ => lin_lookE _ _ (lin_k _) (fun v => lin_k _) es
theorem lin_opAssert (v : V) (t : TypeId) (ok : Bool) : LinK fun K => opAssert P v t ok K := by
  refine lin_ite1 _ ?_
  cases v <;> first | exact lin_no | skip
  case e t y => exact lin_bool _ (lin_bool _ lin_no (lin_opt _ lin_no fun z => lin_k _)) (lin_k _)
  case en => exact lin_bool _ lin_no (lin_opt _ lin_no fun z => lin_k _)
theorem lin_cntE : ∀ (es : E) (n : Nat), LinK (cntE es n) := by
  intro es
  induction es with
  | nil => intro n; exact lin_k _
  | cons k v bn r ih => intro n; exact ih _
theorem lin_opLen (t : TypeId) (v : V) : LinK fun K => opLen P t v h K := by
  cases v <;> first | exact lin_no | exact lin_ite1 _ (lin_k _) | skip
  case s l => exact lin_ite1 _ (lin_bind (lin_slenK _ _) fun n => lin_k _)
  case w l => exact lin_ite1 _ (lin_bind (lin_lenK _ _) fun n => lin_k _)
  case m id => exact lin_ite1 _ (lin_oM _ fun es _ => lin_bind (lin_cntE _ _) fun n => lin_k _)
  case o t' l a x' y' => exact lin_bool _ (lin_ite1 _ (lin_ite1 _ (lin_bind (lin_lenR _) fun m => lin_mkI _ _))) (lin_ite1 _ (lin_mkI _ _))
theorem lin_min20 (lt : Bool) (a b : V) : LinK fun K => min20 lt a b K :=
  lin_vI a fun _k _x => lin_vI b fun _k' _y => lin_ite1 _ (lin_bool _ (lin_k _) (lin_k _))
theorem lin_min2 (lt : Bool) (a b : V) : LinK fun K => min2 lt a b K :=
  lin_bool _ (lin_min20 _ _ _) (lin_linK a fun _k1 _l1 => lin_linK b fun _k2 _l2 => lin_ite1 _ (lin_bind (lin_addLK _ _ _) fun d => lin_rgK d fun _lo _hi => lin_bool _ (lin_ite1 _ (lin_bool _ (lin_k _) (lin_k _))) (lin_bool _ (lin_k _) (lin_k _))))
theorem lin_mm (lt : Bool) (l : V) : LinK fun K : V → Bool => arg0 l fun x r => arg0 r fun y r' => chain (min2 lt x y K) (fun _ _ _ => false) r' := by
  refine lin_arg0 l (G := fun x r K => arg0 r fun y r' => chain (min2 lt x y K) (fun _ _ _ => false) r') fun x r => lin_arg0 r (G := fun y r' K => chain (min2 lt x y K) (fun _ _ _ => false) r') fun y r' => ?_
  cases r' <;> first | exact lin_min2 lt x y | exact lin_no
def LinV (F : Nat → KV → Bool) (h : T O) : Prop := (∀ nx K, F nx K = false) ∨ ∃ y, ∀ nx K, F nx K = K y h nx
theorem LinK.v {G : (V → Bool) → Bool} (hG : LinK G) : LinV (fun nx K => G fun v => K v h nx) h := by
  rcases hG with g | ⟨y, g⟩
  · exact .inl fun nx K => g _
  · exact .inr ⟨y, fun nx K => g _⟩
theorem lin_cvP (s d : TypeId) (id off : Nat) : LinK fun K => cvP P s d id off h K :=
  lin_bool _ (lin_ite1 _ (lin_ite1 _ (lin_oV _ fun _l _ty => lin_bind (lin_lenK _ _) fun _n => lin_ite1 _ (lin_ite1 _ (lin_ite1 _ (lin_ite1 _ (lin_k _)))))))
    (lin_ite1 _ (lin_ite1 _ (lin_oC _ fun _l _ _ => lin_bind (lin_nthK _ _) fun _ => lin_k _)))
theorem lin_opConvert (s d : TypeId) (v : V) (hd : Nat.beq (tyk P d) 20 = false) : LinV (fun nx K => opConvert P s d v h nx K) h := by
  have e : (fun nx K => opConvert P s d v h nx K) = fun (nx : Nat) (K : KV) => (fun K : V → Bool => opConvert P s d v h 0 fun v _ _ => K v) fun v => K v h nx := by
    funext nx K
    cases v <;> first | rfl | skip
    case s l => simp only [opConvert, hd, ite1]
    case w l => simp only [opConvert, hd, ite1]
    case sl id off len sz => simp only [opConvert, hd]
    case o t l a x' y' => simp only [opConvert, cvO, hd, ite1]
  rw [e]
  refine LinK.v (G := fun K : V → Bool => opConvert P s d v h 0 fun v _ _ => K v) ?_
  cases v <;> first | exact lin_no | skip
  case i k n => exact lin_ite1 _ (lin_opt _ (lin_ite1 _ (lin_int _ (fun m => lin_ite1 _ (lin_k _)) fun m => lin_no)) fun kd => lin_wrV _ _)
  case s l =>
    refine lin_ite1 _ (lin_bool _ ?_ (lin_k _))
    simp only [hd, ite1]
    exact lin_no
  case w l =>
    refine lin_ite1 _ (lin_bool _ ?_ (lin_k _))
    simp only [hd, ite1]
    exact lin_no
  case x ax kx lo hi => exact lin_ite1 _ (lin_opt _ (lin_ite1 _ (lin_ite1 _ (lin_k _))) fun kd => lin_ite1 _ (lin_k _))
  case p id off => exact lin_cvP _ _ _ _
  case o t l a x' y' =>
    refine lin_ite1 _ (lin_bool _ (lin_bool _ (lin_ite1 _ (lin_ite1 _ (lin_ite1 _ (lin_oR _ fun c _ _ => lin_bind (lin_lenR _) fun m => lin_bool _ (lin_splS _ fun n2 l2 => lin_takeL _ _ _ fun c => lin_strR _) (lin_strR _))))) (lin_opt _ lin_no fun kd => lin_bind (lin_mkW _ _) fun v => lin_k _)) (lin_bool _ ?_ (lin_k _)))
    simp only [hd, ite1]
    exact lin_no
  case sl id off len sz =>
    simp only [opConvert, hd]
    exact lin_ite1 _ (lin_ite1 _ (lin_ite1 _ (lin_oC _ fun l _ _ => lin_bind (lin_dropK _ _) fun r => lin_bind (lin_takeK _ _) fun c => lin_strK _)))
  all_goals exact lin_ite1 _ (lin_ite1 _ (lin_k _))
theorem opK_lin {ck : CK} {tm : T V} {o : Op} (hc : clsOp P o = 0) : LinV (fun nx K => opK P ng ck tm o h nx K fun _ _ _ => false) h := by
  cases o <;> first | (exact absurd hc (by simp only [clsOp]; decide)) | skip
  case move x => exact LinK.v (lin_k _)
  case assign x => exact LinK.v (lin_k _)
  case pick c a b => exact LinK.v (lin_vB _ fun q => lin_bool _ (lin_k _) (lin_k _))
  case build t ps => exact LinK.v (lin_opBuild _ _)
  case load t a => exact LinK.v (lin_opLoad _ _)
  case nilCheck x =>
    generalize hv : ev ng tm x = v
    refine LinK.v (G := fun K => V.rec (motive := fun _ => Bool) (false) (fun _ _ _ _ => false) (fun _ => false) (fun _ _ => false) (fun _ => false) (fun id off => K (.p id off)) (false) (fun _ _ _ _ => false) (false) (false) (false) (fun _ => false) (false) (fun g c _ => K (.f g c)) (false) (fun _ _ _ => false) (false) (fun _ _ => false) (fun _ _ => false) (fun _ _ _ _ => false) (fun _ _ => false) (fun _ _ _ _ _ => false) (fun _ _ _ _ _ _ => false) (ev ng tm x)) ?_
    rw [hv]
    cases v <;> first | exact lin_no | exact lin_k _
  case binOp => exact LinK.v (lin_binV _ _ _ _ _ _)
  case unOp => exact LinK.v (lin_unV _ _)
  case convert s d x =>
    refine lin_opConvert _ _ _ ?_
    cases e : Nat.beq (tyk P d) 20 with
    | false => rfl
    | true => exact absurd hc (by simp only [clsOp, e]; decide)
  case makeInterface t x => exact LinK.v (lin_ite1 _ (lin_k _))
  case makeFunc fn first cap =>
    refine LinK.v (G := fun K => Bool.rec (ite1 (Nat.beq cap.size 0) <| fnK fn fun g => K (.o 8 (evs ng tm first.toList) g 0 0)) (fnK fn fun g => K (.f g (evs ng tm cap.toList))) (Nat.beq first.size 0)) ?_
    cases Nat.beq first.size 0
    · refine lin_ite1 _ ?_
      cases fn <;> first | exact lin_no | exact lin_k _
    · cases fn <;> first | exact lin_no | exact lin_k _
  case slice t x lo hi mx => exact LinK.v (lin_opSlice _ _ _ _ _)
  case fieldAddr t x f => exact LinK.v (lin_opFieldAddr _ _ _)
  case field t x f => exact LinK.v (lin_opField _ _ _)
  case indexAddr t x ix => exact LinK.v (lin_opIndexAddr _ _ _)
  case index t x ix => exact LinK.v (lin_opIndex _ _ _)
  case lookup t x ix ok => exact LinK.v (lin_opLookup _ _ _ _)
  case typeAssert x s t ok => exact LinK.v (lin_opAssert _ _ _)
  case extract x ix => exact LinK.v (lin_vT _ fun l => lin_nthK _ _)
  case call c =>
    obtain ⟨callee, args, ts⟩ := c
    cases callee with
    | value f => exact absurd hc (by simp only [clsOp]; decide)
    | invoke a b => exact absurd hc (by simp only [clsOp]; decide)
    | builtin b =>
      cases b <;> first | (exact absurd hc (by simp only [clsOp]; decide)) | skip
      · exact LinK.v (lin_arg0 _ fun x r => lin_ite1 _ (lin_opLen _ _))
      · exact LinK.v (lin_mm false _)
      · exact LinK.v (lin_mm true _)
end
end Go.Mx
