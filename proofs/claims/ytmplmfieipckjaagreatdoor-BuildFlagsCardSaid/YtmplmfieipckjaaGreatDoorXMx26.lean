/-
  A part of a small executor of the model, proved sound (Mx26 of 46). No condition.
-/
import Derived.Test.YtmplmfieipckjaaGreatDoorXMx25
namespace Go.Mx
open Instr Builtin
noncomputable section
variable {P : Program} {ρ : Ren} {h : T O} {nx : Nat} {w : World} {ng : Nat}
theorem opConvert_pure {a d : TypeId} (hnd : Nat.beq (tyk P d) 20 = false) {x : V} {vx : Value} {K : KV} (hk : opConvert P a d x h nx K = true) (s : St ρ h nx w) (hx : VR ρ x vx) :
    ∃ y v, K y h nx = true ∧ VR ρ y v ∧ (convert a d vx).run P w = .ok v w := by
  have bytes : ∀ {l : List Nat}, Nat.beq (tyk P a) 20 = true → Nat.beq (tyk P d) 1 = true → (Conv.bytesToString vx).run P w = .ok (.string (bs l)) w → (∃ A n c, vx = .slice A n c) → (convert a d vx).run P w = .ok (.string (bs l)) w := by
    intro l h1 h2 h3 h4
    obtain ⟨e, hu, hue⟩ := (tyk_cases (P := P) a).2.2.2.2.2.2.1 (beq_spec h1)
    have hd := (tyk_cases (P := P) d).1 (beq_spec h2)
    obtain ⟨A, n, c, rfl⟩ := h4
    rw [run_convert_bytes_string w a d e A n c hu hue hd]
    exact h3
  cases x <;> first | exact Bool.noConfusion hk | skip
  case i k n =>
    obtain ⟨e1, hk2⟩ := ite1_spec (show ite1 (Nat.blt 0 (tyk P a)) (Option.rec (motive := fun _ => Bool) (ite1 (Nat.beq (tyk P d) 1) <| Int.rec (motive := fun _ => Bool) (fun m => ite1 (Nat.blt m 128) <| K (.s [m]) h nx) (fun _ => false) n) (fun kd => wrK kd n fun m => K (.i kd m) h nx) (dstK P d)) = true from hk)
    have e1 := Nat.blt_eq.mp e1
    obtain ⟨ds, hs⟩ := (tyk_cases (P := P) a).2.2.2.2.2.2.2.1 (Nat.pos_iff_ne_zero.1 e1)
    simp only [VR] at hx
    subst hx
    cases hd : dstK P d with
    | some kd =>
      rw [hd] at hk2
      have hk3 : wrK kd n (fun m => K (.i kd m) h nx) = true := hk2
      rw [wrK_eq] at hk3
      refine ⟨_, _, hk3, VRi _ _ _, ?_⟩
      unfold convert
      simp only [Sem.run_bind, run_und hs, run_und (dstK_spec hd), Result.andThen_ok]
      rfl
    | none =>
      rw [hd] at hk2
      obtain ⟨e2, hk3⟩ := ite1_spec (show ite1 (Nat.beq (tyk P d) 1) (Int.rec (motive := fun _ => Bool) (fun m => ite1 (Nat.blt m 128) <| K (.s [m]) h nx) (fun _ => false) n) = true from hk2)
      have hu := (tyk_cases (P := P) d).1 (beq_spec e2)
      cases n with
      | negSucc n => exact Bool.noConfusion hk3
      | ofNat m =>
        obtain ⟨e3, hk4⟩ := ite1_spec hk3
        have e3 := Nat.blt_eq.mp e3
        refine ⟨_, _, hk4, VRst ρ (by simp; omega), ?_⟩
        unfold convert
        simp only [Sem.run_bind, run_und hs, run_und hu, Result.andThen_ok]
        show (Conv.intToString (Int.ofNat m)).run P w = _
        rw [show Conv.intToString (Int.ofNat m) = pure (.string (Utf8.encode (m : Int))) from rfl, encode_ascii e3]
        rfl
  case s l =>
    obtain ⟨e1, hk2⟩ := ite1_spec (show ite1 (Nat.blt 0 (tyk P a)) (Bool.rec (ite1 (Nat.beq (tyk P d) 20) <| chbK l fun c => slenK l 0 fun n => newK c (slT P d) h nx fun id h' nx' => K (.sl id 0 n 1) h' nx') (K (.s l) h nx) (Nat.beq (tyk P d) 1)) = true from hk)
    have e1 := Nat.blt_eq.mp e1
    obtain ⟨ds, hs⟩ := (tyk_cases (P := P) a).2.2.2.2.2.2.2.1 (Nat.pos_iff_ne_zero.1 e1)
    simp only [VR] at hx
    obtain ⟨rfl, hl⟩ := hx
    cases e2 : Nat.beq (tyk P d) 1 with
    | true =>
      rw [e2] at hk2
      have hu := (tyk_cases (P := P) d).1 (beq_spec e2)
      refine ⟨_, _, hk2, VRst ρ hl, ?_⟩
      unfold convert
      simp only [Sem.run_bind, run_und hs, run_und hu, Result.andThen_ok]
      rfl
    | false =>
      rw [e2] at hk2
      obtain ⟨e3, hk3⟩ := ite1_spec (show ite1 (Nat.beq (tyk P d) 20) (chbK l fun c => slenK l 0 fun n => newK c (slT P d) h nx fun id h' nx' => K (.sl id 0 n 1) h' nx') = true from hk2)
      rw [hnd] at e3; cases e3
  case p id off =>
    obtain ⟨y, r, q1, q2, q3⟩ := cvP_sound (show cvP P a d id off h (fun v => K v h nx) = true from hk) s hx
    exact ⟨y, r, q1, q2, q3⟩
  case sl id off len sz =>
    simp only [opConvert, hnd] at hk
    obtain ⟨e1, hk2⟩ := ite1_spec (show ite1 (Nat.beq (tyk P a) 20) (ite1 (Nat.beq (tyk P d) 1) <| ite1 (Nat.beq sz 1) <| oC (gt O.none id h) fun l _ _ => dropK l off fun r => takeK r len fun c => bchK c fun t => K (.s t) h nx) = true from hk)
    obtain ⟨e2, hk3⟩ := ite1_spec hk2
    obtain ⟨e3, hk4⟩ := ite1_spec hk3
    have e3 := beq_spec e3
    subst e3
    obtain ⟨l, bty, wr, ho, hk5⟩ := oC_spec hk4
    simp only [VR] at hx
    obtain ⟨L, cap, hL, hc1, hc2, rfl⟩ := hx
    obtain ⟨o, h2, h3⟩ := s.relC ho hL
    obtain ⟨arr, fz, rfl, h4, h5, h6, h7⟩ := h3
    obtain ⟨r, hk6, hrc, hr⟩ := dropK_spec hk5 (CR_isC h7)
    obtain ⟨c, hk7, hc⟩ := takeK_spec hk6 hrc
    obtain ⟨g1, g2⟩ := hr ρ _ h7
    obtain ⟨g3, g4⟩ := hc ρ _ g1
    obtain ⟨t, hk8, ht, hts⟩ := bchK_spec hk7 (VRs_isC g3)
    have hcells := hts ρ _ g3
    simp only [Nat.mul_one] at hc2
    have hload := run_loadCells_of P w L.blk (L.base + off) len bty fz arr h2 (by omega)
    rw [← List.drop_drop, hcells] at hload
    refine ⟨_, _, hk8, VRst ρ ht, ?_⟩
    exact bytes e1 e2 (bytesToString_run hload) ⟨_, _, _, rfl⟩
  all_goals
    obtain ⟨e1, hk2⟩ := ite1_spec (show ite1 (Nat.beq (tyk P a) 20) (ite1 (Nat.beq (tyk P d) 1) <| K (.s []) h nx) = true from hk)
    obtain ⟨e2, hk3⟩ := ite1_spec hk2
    simp only [VR] at hx
    first
      | subst hx
      | obtain ⟨A, c, rfl⟩ := hx
      | obtain ⟨A, rfl⟩ := hx
    refine ⟨_, _, hk3, VRst ρ (by simp), ?_⟩
    refine bytes e1 e2 ?_ ⟨_, _, _, rfl⟩
    first
      | rfl
      | exact bytesToString_run (l := []) (by simp [loadCells, loadCellsFrom])
def PureOK (_P : Program) (r : Result Next) (ρ : Ren) (h : T O) (nx : Nat) (w : World) (K : KV) : Prop := ∃ y v, K y h nx = true ∧ VR ρ y v ∧ r = .ok (.value v) w
theorem PureOK.val {K : KV} {x : V} {v : Value} {r : Result Next} (hr : r = .ok (.value v) w) (hv : VR ρ x v) (_ : St ρ h nx w) (_ : Ext ρ h w ρ h w) (hk : K x h nx = true) : PureOK P r ρ h nx w K := ⟨_, _, hk, hv, hr⟩
theorem opBuiltin_pure {b : Builtin} {ts : Array TypeId} {ty : TypeId} {cs : Array Bool} {args : V} {vs : List Value} {K : KV} (hb : b = .len ∨ b = .min ∨ b = .max) (hk : opBuiltin P b ts args h nx K = true) (s : St ρ h nx w) (ha : VRs ρ args vs) :
    PureOK P ((builtin b ts ty cs ⟨vs⟩).run P w) ρ h nx w K := by
  cases b <;> first | (simp at hb; done) | skip
  case len =>
    obtain ⟨x, r, rfl, hk2⟩ := arg0_spec (show arg0 args (fun x _ => ite1 (Nat.ble 1 ts.size) <| opLen P (ts.getD 0 0) x h fun v => K v h nx) = true from hk)
    obtain ⟨e, hk4⟩ := ite1_spec hk2
    have e := Nat.le_of_ble_eq_true e
    simp only [VRs] at ha
    obtain ⟨v1, l1, rfl, h1, _⟩ := ha
    have t0 : ts[0]? = some (ts.getD 0 0) := by rw [Array.getD_eq_getD_getElem?, Array.getElem?_eq_getElem (by omega)]; rfl
    obtain ⟨z, v, q1, q2, q3⟩ := opLen_sound (P := P) (ty := ty) (args := ⟨v1 :: l1⟩) (K := fun v => K v h nx) hk4 s h1 t0 rfl
    exact PureOK.val (vrun q3) q2 s (Ext.refl _ _ _) q1
  case min =>
    obtain ⟨x, r, rfl, hk2⟩ := arg0_spec (show arg0 args (fun x r => arg0 r fun y r' => chain (Mx.min2 true x y fun v => K v h nx) (fun _ _ _ => false) r') = true from hk)
    obtain ⟨y, r2, rfl, hk3⟩ := arg0_spec hk2
    simp only [VRs] at ha
    obtain ⟨v1, l1, rfl, h1, v2, l2, rfl, h2, h3⟩ := ha
    cases r2 <;> first | (simp only [VRs] at h3; done) | exact Bool.noConfusion hk3 | skip
    simp only [VRs] at h3
    subst h3
    obtain ⟨z, v, q1, q2, q3, _⟩ := min2_sound (P := P) (w := w) (K := fun v => K v h nx) (show Mx.min2 true x y (fun v => K v h nx) = true from hk3) h1 h2
    refine PureOK.val (vrun (v := v) ?_) q2 s (Ext.refl _ _ _) q1
    simp [min_, q3 rfl]
  case max =>
    obtain ⟨x, r, rfl, hk2⟩ := arg0_spec (show arg0 args (fun x r => arg0 r fun y r' => chain (Mx.min2 false x y fun v => K v h nx) (fun _ _ _ => false) r') = true from hk)
    obtain ⟨y, r2, rfl, hk3⟩ := arg0_spec hk2
    simp only [VRs] at ha
    obtain ⟨v1, l1, rfl, h1, v2, l2, rfl, h2, h3⟩ := ha
    cases r2 <;> first | (simp only [VRs] at h3; done) | exact Bool.noConfusion hk3 | skip
    simp only [VRs] at h3
    subst h3
    obtain ⟨z, v, q1, q2, _, q3⟩ := min2_sound (P := P) (w := w) (K := fun v => K v h nx) (show Mx.min2 false x y (fun v => K v h nx) = true from hk3) h1 h2
    refine PureOK.val (vrun (v := v) ?_) q2 s (Ext.refl _ _ _) q1
    simp [max_, q3 rfl]
theorem opK_pure {ck : CK} {tm : T V} {a : Act} {o : Oper} {op : Op} (hop : o.op = op) (hc : clsOp P op = 0) {K Kp : KV} (hk : opK P ng ck tm op h nx K Kp = true) (s : St ρ h nx w) (hg : RG ng ρ) (ht : TR ρ tm a) :
    PureOK P ((execOp a.eval o).run P w) ρ h nx w K := by
  obtain ⟨dst, op', ty, pos, after, guard⟩ := o
  simp only at hop
  subst hop
  cases op' <;> first | exact Bool.noConfusion hk | (exact absurd hc (by simp only [clsOp]; decide)) | skip
  case move x => exact PureOK.val rfl (ev_rel hg ht x) s (Ext.refl _ _ _) hk
  case assign x => exact PureOK.val rfl (ev_rel hg ht x) s (Ext.refl _ _ _) hk
  case pick c x y =>
    obtain ⟨q, hq, hk2⟩ := vB_spec (show vB (ev ng tm c) (fun q => Bool.rec (K (ev ng tm y) h nx) (K (ev ng tm x) h nx) q) = true from hk)
    have hcc := ev_rel hg ht c
    rw [hq] at hcc
    simp only [VR] at hcc
    cases q with
    | true => exact PureOK.val (by simp [execOp, hcc, asBool]) (ev_rel hg ht x) s (Ext.refl _ _ _) hk2
    | false => exact PureOK.val (by simp [execOp, hcc, asBool]) (ev_rel hg ht y) s (Ext.refl _ _ _) hk2
  case build t ps =>
    obtain ⟨y, r, q1, q2, q3⟩ := opBuild_sound (w := w) (vs := ps.map fun (i, x) => (i, a.eval x)) (show opBuild P t (evp ng tm ps.toList) (fun v => K v h nx) = true from hk) (by simpa using evp_rel hg ht ps.toList)
    exact PureOK.val (vrun q3) q2 s (Ext.refl _ _ _) q1
  case load t x =>
    obtain ⟨y, r, q1, q2, q3⟩ := opLoad_sound (show opLoad P t (ev ng tm x) h (fun v => K v h nx) = true from hk) s (ev_rel hg ht x)
    exact PureOK.val (vrun q3) q2 s (Ext.refl _ _ _) q1
  case nilCheck x =>
    have hx := ev_rel hg ht x
    generalize hv : ev ng tm x = v at hx
    have hk2 : opK P ng ck tm (.nilCheck x) h nx K Kp = true := hk
    unfold opK at hk2
    simp only [hv] at hk2
    clear hk
    cases v <;> first | exact Bool.noConfusion hk2 | skip
    case p id off =>
      have hx2 := hx
      simp only [VR] at hx2
      obtain ⟨L, _, he⟩ := hx2
      exact PureOK.val (v := a.eval x) (by simp only [execOp, he]; rfl) hx s (Ext.refl _ _ _) hk2
    case f g c =>
      have hx2 := hx
      simp only [VR] at hx2
      obtain ⟨cs, _, he⟩ := hx2
      exact PureOK.val (v := a.eval x) (by simp only [execOp, he]; rfl) hx s (Ext.refl _ _ _) hk2
  case binOp op t x y t2 =>
    obtain ⟨c, r, q1, q2, q3⟩ := binV_sound (w := w) (show binV P op t x y (ev ng tm x) (ev ng tm y) (fun v => K v h nx) = true from hk) (ev_rel hg ht x) (ev_rel hg ht y)
    exact PureOK.val (vrun q3) q2 s (Ext.refl _ _ _) q1
  case unOp op t x =>
    obtain ⟨c, r, q1, q2, q3⟩ := unV_sound (P := P) (w := w) (show unV op (ev ng tm x) (fun v => K v h nx) = true from hk) (ev_rel hg ht x)
    exact PureOK.val (vrun q3) q2 s (Ext.refl _ _ _) q1
  case convert s1 d x =>
    have hnd : Nat.beq (tyk P d) 20 = false := by
      cases e : Nat.beq (tyk P d) 20 with
      | false => rfl
      | true => exact absurd hc (by simp only [clsOp, e]; decide)
    obtain ⟨y, v, q1, q2, q5⟩ := opConvert_pure hnd (show opConvert P s1 d (ev ng tm x) h nx K = true from hk) s (ev_rel hg ht x)
    exact PureOK.val (vrun q5) q2 s (Ext.refl _ _ _) q1
  case makeInterface t x =>
    obtain ⟨e, hk2⟩ := ite1_spec (show ite1 (conc P t) (K (.e t (ev ng tm x)) h nx) = true from hk)
    have hd : ∃ d, P.underlying t = some d ∧ ∀ m, d ≠ .interface m := by
      unfold conc at e
      cases e2 : Nat.beq (tyk P t) 23 with
      | true => rw [e2] at e; exact Bool.noConfusion e
      | false =>
        rw [e2] at e
        have e := Nat.blt_eq.mp (show Nat.blt 0 (tyk P t) = true from e)
        obtain ⟨d, hu⟩ := (tyk_cases (P := P) t).2.2.2.2.2.2.2.1 (Nat.pos_iff_ne_zero.1 e)
        refine ⟨d, hu, fun m hm => ?_⟩
        subst hm
        simp [tyk, hu] at e2
    obtain ⟨d, hu, hni⟩ := hd
    refine PureOK.val (v := .iface t (a.eval x)) (vrun ?_) (by simp only [VR]; exact ⟨_, ev_rel hg ht x, rfl⟩) s (Ext.refl _ _ _) hk2
    unfold Instr.makeInterface
    simp only [Sem.run_bind, run_und hu, Result.andThen_ok]
    cases d <;> first | exact (hni _ rfl).elim | rfl
  case makeFunc fn first cap =>
    obtain ⟨e, hk2⟩ := ite1_spec (show ite1 (Nat.beq first.size 0) (fnK fn fun g => K (.f g (evs ng tm cap.toList)) h nx) = true from hk)
    have e := beq_spec e
    have hf : first = #[] := Array.eq_empty_of_size_eq_zero e
    subst hf
    cases fn <;> first | exact Bool.noConfusion hk2 | skip
    case func g =>
      refine PureOK.val (v := .func (.func g) #[] (cap.map a.eval)) (vrun ?_) ?_ s (Ext.refl _ _ _) hk2
      · simp [Instr.makeFunc]
      · simp only [VR]
        exact ⟨_, evs_rel hg ht cap.toList, by congr 1; apply Array.ext'; simp⟩
  case slice t x lo hi mx =>
    obtain ⟨y, r, q1, q2, q3⟩ := opSlice_sound (w := w) (show opSlice P t (ev ng tm x) (Option.rec (motive := fun _ => Option V) none (fun x => some (ev ng tm x)) lo) (Option.rec (motive := fun _ => Option V) none (fun x => some (ev ng tm x)) hi) (Option.rec (motive := fun _ => Option V) none (fun x => some (ev ng tm x)) mx) (fun v => K v h nx) = true from hk)
      (ev_rel hg ht x) (OpR_map hg ht lo) (OpR_map hg ht hi) (OpR_map hg ht mx)
    exact PureOK.val (vrun q3) q2 s (Ext.refl _ _ _) q1
  case fieldAddr t x f =>
    obtain ⟨y, r, q1, q2, q3⟩ := opFieldAddr_sound (w := w) (show opFieldAddr P t (ev ng tm x) f (fun v => K v h nx) = true from hk) (ev_rel hg ht x)
    exact PureOK.val (vrun q3) q2 s (Ext.refl _ _ _) q1
  case field t x f =>
    obtain ⟨y, r, q1, q2, q3⟩ := opField_sound (w := w) (show opField P t (ev ng tm x) f (fun v => K v h nx) = true from hk) (ev_rel hg ht x)
    exact PureOK.val (vrun q3) q2 s (Ext.refl _ _ _) q1
  case indexAddr t x ix =>
    obtain ⟨y, r, q1, q2, q3⟩ := opIndexAddr_sound (w := w) (show opIndexAddr P t (ev ng tm x) (ev ng tm ix) (fun v => K v h nx) = true from hk) (ev_rel hg ht x) (ev_rel hg ht ix)
    exact PureOK.val (vrun q3) q2 s (Ext.refl _ _ _) q1
  case index t x ix =>
    obtain ⟨y, r, q1, q2, q3⟩ := opIndex_sound (w := w) (show opIndex P t (ev ng tm x) (ev ng tm ix) (fun v => K v h nx) = true from hk) (ev_rel hg ht x) (ev_rel hg ht ix)
    exact PureOK.val (vrun q3) q2 s (Ext.refl _ _ _) q1
  case lookup t x ix ok =>
    obtain ⟨y, r, q1, q2, q3⟩ := opLookup_sound (show opLookup P t (ev ng tm x) (ev ng tm ix) ok h (fun v => K v h nx) = true from hk) s (ev_rel hg ht x) (ev_rel hg ht ix)
    exact PureOK.val (vrun q3) q2 s (Ext.refl _ _ _) q1
  case typeAssert x xT t ok =>
    obtain ⟨y, r, q1, q2, q3⟩ := opAssert_sound (w := w) (xT := xT) (show opAssert P (ev ng tm x) t ok (fun v => K v h nx) = true from hk) (ev_rel hg ht x)
    exact PureOK.val (vrun q3) q2 s (Ext.refl _ _ _) q1
  case extract x ix =>
    obtain ⟨l, hl, hk2⟩ := vT_spec (show vT (ev ng tm x) (fun l => nthK l ix fun v => K v h nx) = true from hk)
    have hx := ev_rel hg ht x
    rw [hl] at hx
    simp only [VR] at hx
    obtain ⟨vs, hvs, he⟩ := hx
    obtain ⟨y, hy, hr⟩ := nthK_spec hk2
    obtain ⟨r, hr1, hr2⟩ := hr ρ _ hvs.CR'
    refine PureOK.val (v := r) (vrun ?_) hr2 s (Ext.refl _ _ _) hy
    have : (⟨vs⟩ : Array Value)[ix]? = some r := by simpa using hr1
    simp only [he, Instr.extract, this, Sem.run_pure]
  case call c =>
    obtain ⟨callee, args, ts⟩ := c
    cases callee with
    | value f => exact absurd hc (by simp only [clsOp]; decide)
    | invoke a b => exact absurd hc (by simp only [clsOp]; decide)
    | builtin b =>
      have harr : (⟨args.toList.map a.eval⟩ : Array Value) = args.map a.eval := by apply Array.ext'; simp
      have hb : b = .len ∨ b = .min ∨ b = .max := by
        cases b <;> first | (exact absurd hc (by simp only [clsOp]; decide)) | simp
      have := opBuiltin_pure (P := P) (ty := ty) (cs := args.map fun | .const _ => true | _ => false) hb (show opBuiltin P b ts (evs ng tm args.toList) h nx K = true from hk) s (evs_rel hg ht args.toList)
      have e : (do let d ← resolve a.eval ⟨.builtin b, args, ts⟩ ty; invoke d.target d.args : Sem Next).run P w = (builtin b ts ty (args.map fun | .const _ => true | _ => false) ⟨args.toList.map a.eval⟩).run P w := by
        simp only [resolve, Sem.run_bind, Sem.run_pure, Result.andThen_ok, invoke, harr]
        rfl
      show PureOK P ((do let d ← resolve a.eval ⟨.builtin b, args, ts⟩ ty; invoke d.target d.args : Sem Next).run P w) ρ h nx w K
      rw [e]
      exact this
end
end Go.Mx
