/-
  A part of a small executor of the model, proved sound (15 of 28). No condition.
-/
import Derived.Test.YthocoonhoilmdaaGreatDoorXMxM
import Derived.Scope
import Derived.Recover
namespace Go.Mx
def WG (P : Program) (dk : Bool) (c : Code) (Q : Exit → Act → List Frame → World → Prop) (a : Act) (cs : List Frame) (w : World) : Prop :=
  ∀ (b : Frame) (k : List Item), (dk = true → b.kind = .deferred ∧ b.roundOf = none) →
    ∃ e a' cs' w', Q e a' cs' w' ∧ Arrives P (lone (b.at a (.code c :: k)) cs w) b k cs' e a' w'
section
variable {P : Program} {dk : Bool} {Q : Exit → Act → List Frame → World → Prop} {a : Act} {cs : List Frame} {w : World}
theorem WG.mono {c : Code} {Q' : Exit → Act → List Frame → World → Prop} (h : WG P dk c Q a cs w) (hq : ∀ e a cs w, Q e a cs w → Q' e a cs w) : WG P dk c Q' a cs w :=
  fun b k hb => let ⟨e, a', cs', w', q, r⟩ := h b k hb; ⟨e, a', cs', w', hq _ _ _ _ q, r⟩
theorem WG.of_wp {c : Code} (h : c.wp P (fun e a' w' => Q e a' cs w') a w) : WG P dk c Q a cs w :=
  fun b k _ => let ⟨e, a', w', q, r⟩ := h b k cs; ⟨e, a', cs, w', q, r⟩
theorem WG.wp {c : Code} {Q : Exit → Act → World → Prop} (h : ∀ cs, WG P false c (fun e a' cs' w' => cs' = cs ∧ Q e a' w') a cs w) : c.wp P Q a w :=
  fun b k cs => let ⟨e, a', cs', w', ⟨hc, q⟩, r⟩ := h cs b k (by simp); ⟨e, a', w', q, hc ▸ r⟩
theorem WG.wpS {c : Code} (h : WG P true c Q a cs w) : c.wpS P Q a cs w := fun b k h1 h2 => h b k fun _ => ⟨h1, h2⟩
theorem WG.skip (h : Q .normal a cs w) : WG P dk .skip Q a cs w := .of_wp (wp_skip h)
theorem WG.label {l : Nat} (h : Q .normal a cs w) : WG P dk (.label l) Q a cs w := .of_wp (wp_label h)
theorem WG.exit {id : Nat} (h : Q (.exit id) a cs w) : WG P dk (.exit id) Q a cs w := .of_wp (wp_exit h)
theorem WG.ret (h : Q .ret a cs w) : WG P dk .ret Q a cs w := .of_wp (wp_ret h)
theorem WG.seq {x y : Code} (h : WG P dk x (Exit.thenS (WG P dk y Q) Q) a cs w) : WG P dk (.seq x y) Q a cs w := by
  intro b k hb
  obtain ⟨e, a₁, cs₁, w₁, hq, harr⟩ := h b (.code y :: k) hb
  cases e with
  | normal =>
    obtain ⟨e₂, a₂, cs₂, w₂, hq₂, harr₂⟩ := hq b k hb
    exact ⟨e₂, a₂, cs₂, w₂, hq₂, .of_steps (.head step_seq harr) harr₂⟩
  | exit id => exact ⟨_, a₁, cs₁, w₁, hq, .of_steps (.one step_seq) (.pass (x := .code y) rfl (fun _ _ => .inl (by simp)) harr)⟩
  | goto l => exact ⟨_, a₁, cs₁, w₁, hq, .of_steps (.one step_seq) (.pass (x := .code y) rfl (fun _ _ => .inl (by simp)) harr)⟩
  | ret => exact ⟨_, a₁, cs₁, w₁, hq, .of_steps (.one step_seq) (.pass (x := .code y) rfl (fun _ _ => .inl (by simp)) harr)⟩
  | panic ch => exact ⟨_, a₁, cs₁, w₁, hq, .of_steps (.one step_seq) (.pass (x := .code y) rfl (fun _ _ => .inl (by simp)) harr)⟩
  | outgrown => exact ⟨_, a₁, cs₁, w₁, hq, .of_steps (.one step_seq) (.pass (x := .code y) rfl (fun _ _ => .inl (by simp)) harr)⟩
theorem WG.cond {c : Operand} {x y : Code} {t : Bool} (hc : a.eval c = .bool t) (h : WG P dk (if t then x else y) Q a cs w) : WG P dk (.cond c x y) Q a cs w :=
  fun b k hb => let ⟨e, a', cs', w', q, r⟩ := h b k hb; ⟨e, a', cs', w', q, .of_steps (.one (step_cond hc)) r⟩
def blockQ (id : Nat) (Q : Exit → Act → List Frame → World → Prop) : Exit → Act → List Frame → World → Prop
  | .exit id', a, cs, w => if id' = id then Q .normal a cs w else Q (.exit id') a cs w
  | e, a, cs, w => Q e a cs w
theorem WG.block {id : Nat} {c : Code} (h : WG P dk c (blockQ id Q) a cs w) : WG P dk (.block id c) Q a cs w := by
  intro b k hb
  obtain ⟨e, a₁, cs₁, w₁, hq, harr⟩ := h b (.inBlock id :: k) hb
  cases e with
  | normal => exact ⟨.normal, a₁, cs₁, w₁, hq, .head step_block (Steps.trans harr (.one step_inBlock))⟩
  | exit id' =>
    by_cases hid : id' = id
    · simp only [blockQ, hid, if_true] at hq
      exact ⟨.normal, a₁, cs₁, w₁, hq, .head step_block (harr k (by simp [exitTo, hid]))⟩
    · simp only [blockQ, hid, if_false] at hq
      refine ⟨.exit id', a₁, cs₁, w₁, hq, fun k' hk => .head step_block (harr k' ?_)⟩
      have : (id == id') = false := by simp; exact fun h => hid h.symm
      simp [exitTo, this, hk]
  | goto l => exact ⟨_, a₁, cs₁, w₁, hq, fun k' hk => .head step_block (harr k' (by simp [gotoIn, hk]))⟩
  | ret => exact ⟨_, a₁, cs₁, w₁, hq, .of_steps (.one step_block) harr⟩
  | panic ch => exact ⟨_, a₁, cs₁, w₁, hq, .of_steps (.one step_block) harr⟩
  | outgrown => exact ⟨_, a₁, cs₁, w₁, hq, .of_steps (b := b) (k := k) (cs := cs₁) (e := .outgrown) (.one step_block) harr⟩
def scopeQ (Q : Exit → Act → List Frame → World → Prop) : Exit → Act → List Frame → World → Prop
  | .goto _, _, _, _ => False
  | e, a, cs, w => Q e a cs w
theorem WG.scope {c : Code} (h : WG P dk c (scopeQ Q) a cs w) : WG P dk (.scope c) Q a cs w := by
  intro b k hb
  obtain ⟨e, a₁, cs₁, w₁, hq, harr⟩ := h b (.inScope c :: k) hb
  cases e with
  | normal => exact ⟨.normal, a₁, cs₁, w₁, hq, .head step_scope (Steps.trans harr (.one step_inScope))⟩
  | exit id => exact ⟨.exit id, a₁, cs₁, w₁, hq, fun k' hk => .head step_scope (harr k' (by simp [exitTo, hk]))⟩
  | goto l => exact hq.elim
  | ret => exact ⟨_, a₁, cs₁, w₁, hq, .of_steps (.one step_scope) harr⟩
  | panic ch => exact ⟨_, a₁, cs₁, w₁, hq, .of_steps (.one step_scope) harr⟩
  | outgrown => exact ⟨_, a₁, cs₁, w₁, hq, .of_steps (b := b) (k := k) (cs := cs₁) (e := .outgrown) (.one step_scope) harr⟩
def WL (P : Program) (dk : Bool) (c : Code) (Q : Exit → Act → List Frame → World → Prop) (a : Act) (cs : List Frame) (w : World) : Prop :=
  ∀ (b : Frame) (k : List Item), (dk = true → b.kind = .deferred ∧ b.roundOf = none) →
    ∃ e a' cs' w', Q e a' cs' w' ∧ Arrives P (lone (b.at a (.code c :: .inLoop c :: k)) cs w) b k cs' e a' w'
theorem WL.loop {c : Code} (h : WL P dk c Q a cs w) : WG P dk (.loop c) Q a cs w := fun b k hb =>
  let ⟨e, a', cs', w', q, r⟩ := h b k hb
  ⟨e, a', cs', w', q, .of_steps (.one step_loop) r⟩
theorem WL.round {c : Code} (h : WG P dk c (Exit.thenS (WL P dk c Q) Q) a cs w) : WL P dk c Q a cs w := by
  intro b k hb
  obtain ⟨e, a₁, cs₁, w₁, hq, harr⟩ := h b (.inLoop c :: k) hb
  cases e with
  | normal =>
    obtain ⟨e₂, a₂, cs₂, w₂, hq₂, harr₂⟩ := hq b k hb
    exact ⟨e₂, a₂, cs₂, w₂, hq₂, .of_steps (Steps.trans harr (.one step_inLoop)) harr₂⟩
  | exit id => exact ⟨_, a₁, cs₁, w₁, hq, .pass (x := .inLoop c) rfl (fun _ _ => .inl (by simp)) harr⟩
  | goto l => exact ⟨_, a₁, cs₁, w₁, hq, .pass (x := .inLoop c) rfl (fun _ _ => .inl (by simp)) harr⟩
  | ret => exact ⟨_, a₁, cs₁, w₁, hq, .pass (x := .inLoop c) rfl (fun _ _ => .inl (by simp)) harr⟩
  | panic ch => exact ⟨_, a₁, cs₁, w₁, hq, .pass (x := .inLoop c) rfl (fun _ _ => .inl (by simp)) harr⟩
  | outgrown => exact ⟨_, a₁, cs₁, w₁, hq, .pass (x := .inLoop c) rfl (fun _ _ => .inl (by simp)) harr⟩
end
end Go.Mx
namespace Go.Mx
def opsG (P : Program) (dk : Bool) (ops : Array Oper) (Q : Exit → Act → List Frame → World → Prop) (l : List Nat) (a : Act) (cs : List Frame) (w : World) : Prop :=
  match dk with
  | true => wpOpsS P ops Q l a cs w
  | false => wpOps P ops (fun e a w => Q e a cs w) l a w
section
variable {P : Program} {dk : Bool} {ops : Array Oper} {Q : Exit → Act → List Frame → World → Prop} {a : Act} {cs : List Frame} {w : World} {i : Nat} {rest : List Nat} {o : Oper}
theorem opsG.region {id : Nat} (h : opsG P dk ops Q (List.range ops.size) a cs w) : WG P dk (.region id ops false) Q a cs w := by
  cases dk with
  | true => intro b k hb; exact wpS_region h b k (hb rfl).1 (hb rfl).2
  | false => exact .of_wp (wp_region h)
theorem opsG.nil (h : Q .normal a cs w) : opsG P dk ops Q [] a cs w := by cases dk <;> exact h
theorem opsG.run (hi : ops[i]? = some o) (hw : Region.wanted o (yielded ops a.tmps) = true)
    (h : o.upon P a (fun a' w' => opsG P dk ops Q rest a' cs w') (fun e a' w' => Q e a' cs w') ((execOp a.eval o).run P w)) : opsG P dk ops Q (i :: rest) a cs w := by
  cases dk with
  | true =>
    show wpOpsS P ops Q (i :: rest) a cs w
    simp only [wpOpsS, hi, hw, if_true]
    generalize (execOp a.eval o).run P w = r at h
    split
    · exact h.elim
    · exact h
  | false =>
    show wpOps P ops _ (i :: rest) a w
    simp only [wpOps, hi, hw, if_true]
    exact .inl h
theorem opsG.skip (hi : ops[i]? = some o) (hw : Region.wanted o (yielded ops a.tmps) = false) (h : opsG P dk ops Q rest (a.put o.dst undef) cs w) : opsG P dk ops Q (i :: rest) a cs w := by
  cases dk with
  | true =>
    show wpOpsS P ops Q (i :: rest) a cs w
    simp only [wpOpsS, hi, hw, Bool.false_eq_true, if_false]
    exact h
  | false =>
    show wpOps P ops _ (i :: rest) a w
    simp only [wpOps, hi, hw, Bool.false_eq_true, if_false]
    exact h
theorem opsG.recover (hi : ops[i]? = some o) (hw : Region.wanted o (yielded ops a.tmps) = true) {w' : World} (hr : (execOp a.eval o).run P w = .ok .recover w')
    (h1 : ∀ v cs', recoverD cs = some (v, cs') → opsG P true ops Q rest (a.put o.dst v) cs' w') (h2 : recoverD cs = none → opsG P true ops Q rest (a.put o.dst .nilIface) cs w') : opsG P true ops Q (i :: rest) a cs w := by
  show wpOpsS P ops Q (i :: rest) a cs w
  simp only [wpOpsS, hi, hw, if_true, hr]
  split
  · rename_i v cs' h; exact h1 v cs' h
  · rename_i h; exact h2 h
end
end Go.Mx
namespace Go.Mx
noncomputable section
variable {P : Program} {ρ : Ren} {h : T O} {nx : Nat} {w : World} {ng nt : Nat} {ck : CK} {ops : Array Oper}
def DR (ρ : Ren) : V → List Deferred → Prop
  | .nil, ds => ds = []
  | .cons (.cons (.f g c) args) r, ds => ∃ caps vs rest, ds = { target := .fn (.func g) ⟨caps⟩, args := ⟨vs⟩ } :: rest ∧ VRs ρ c caps ∧ VRs ρ args vs ∧ DR ρ r rest
  | _, _ => False
theorem DR.mono {ρ' : Ren} (hle : Ren.le ρ ρ') : ∀ {D : V} {ds : List Deferred}, DR ρ D ds → DR ρ' D ds := by
  intro D
  induction D with
  | nil => intro ds h; simpa [DR] using h
  | cons d r ihd ih =>
    intro ds h
    clear ihd
    cases d <;> first | (simp [DR] at h; done) | skip
    case cons f args =>
      cases f <;> first | (simp [DR] at h; done) | skip
      case f g c =>
        simp only [DR] at h ⊢
        obtain ⟨caps, vs, rest, h1, h2, h3, h4⟩ := h
        exact ⟨caps, vs, rest, h1, h2.mono hle, h3.mono hle, ih h4⟩
  | _ => intro ds h; simp [DR] at h
def UM (ρ : Ren) : V → FrameMode → Prop
  | .nil, u => u = .returning
  | .cons v .nil, u => ∃ x ch, VR ρ v x ∧ PanC x false ch ∧ u = .panicking ch
  | .cons v (.cons _ .nil), u => ∃ x ch, VR ρ v x ∧ PanC x true ch ∧ u = .panicking ch
  | _, _ => False
theorem UM.mono {ρ' : Ren} (hle : Ren.le ρ ρ') {U : V} {u : FrameMode} (h : UM ρ U u) : UM ρ' U u := by
  unfold UM at h ⊢
  split at h
  · exact h
  · obtain ⟨x, ch, h1, h2⟩ := h; exact ⟨x, ch, h1.mono hle, h2⟩
  · obtain ⟨x, ch, h1, h2⟩ := h; exact ⟨x, ch, h1.mono hle, h2⟩
  · exact h.elim
def UR (ρ : Ren) (dk : Bool) (U : V) (c0 : Frame) (cs0 cs : List Frame) : Prop :=
  match dk with
  | false => U = .b false ∧ cs = cs0
  | true => ∃ u, cs = { c0 with mode := u } :: cs0 ∧ UM ρ U u
theorem UR.mono {ρ' : Ren} (hle : Ren.le ρ ρ') {dk : Bool} {U : V} {c0 : Frame} {cs0 cs : List Frame} (h : UR ρ dk U c0 cs0 cs) : UR ρ' dk U c0 cs0 cs := by
  cases dk with
  | false => exact h
  | true => obtain ⟨u, h1, h2⟩ := h; exact ⟨u, h1, h2.mono hle⟩
end
end Go.Mx
namespace Go.Mx
noncomputable section
variable {P : Program} {ρ : Ren} {h : T O} {nx : Nat} {w : World} {ng nt : Nat} {ck : CK} {ops : Array Oper}
def plainOp : Op → Bool
  | .defer _ => false
  | .call ⟨.builtin .recover, _, _⟩ => false
  | _ => true
theorem opX_plain {o : Op} {tm : T V} {D U : V} {K Kp : V → V → V → T O → Nat → Bool} (hp : plainOp o = true) :
    opX P ng ck o tm D U h nx K Kp = opK P ng ck tm o h nx (fun v h nx => K v D U h nx) (fun v h nx => Kp v D U h nx) := by
  cases o <;> try rfl
  case call c =>
    obtain ⟨callee, args, ts⟩ := c
    cases callee with
    | value f => rfl
    | invoke a b => rfl
    | builtin b => cases b <;> first | rfl | exact Bool.noConfusion hp
  case defer c => exact Bool.noConfusion hp
def QOK (ng nt : Nat) (dk : Bool) (c0 : Frame) (cs0 : List Frame) (ρ0 : Ren) (h0 : T O) (w0 : World) (k : KX) (Q : Exit → Act → List Frame → World → Prop) : Prop :=
  ∀ ρ x tm D U h nx a cs w, k x tm D U h nx = true → St ρ h nx w → Ext ρ0 h0 w0 ρ h w → RG ng ρ → TR ρ tm a → nt ≤ a.tmps.size → DR ρ D a.defers → UR ρ dk U c0 cs0 cs →
    match x with
    | .n => Q .normal a cs w
    | .x id => Q (.exit id) a cs w
    | .r => Q .ret a cs w
    | .pk v => ∀ y, VR ρ v y → ∀ ch, PanC y false ch → Q (.panic ch) a cs w
theorem TR.slot {tm tm' : T V} {a : Act} {dst : Option Nat} {x : V} {v : Value} (ht : TR ρ tm a) (hn : nt ≤ a.tmps.size) (hv : VR ρ x v) (p1 : ∀ t, dst = some t → gt V.nil t tm' = x ∧ t < nt) (p2 : ∀ t, dst ≠ some t → gt V.nil t tm' = gt V.nil t tm) : TR ρ tm' (a.put dst v) := by
  have key : TR ρ (Go.Mx.putS dst x tm) (a.put dst v) := ht.putS fun t hd => ⟨hv, Nat.lt_of_lt_of_le (p1 t hd).2 hn⟩
  intro t
  have := key t
  by_cases e : dst = some t
  · subst e; rw [putS_same] at this; rw [(p1 t rfl).1]; exact this
  · rw [putS_ne e] at this; rw [p2 t e]; exact this
theorem regK_sound (hck : CKok P ng ck) {dk : Bool} {c0 : Frame} {cs0 : List Frame} {ρ0 : Ren} {h0 : T O} {w0 : World} {k : KX} {Q : Exit → Act → List Frame → World → Prop} (hq : QOK ng nt dk c0 cs0 ρ0 h0 w0 k Q) :
    ∀ (l : List Oper) (i : Nat) (tm : T V) (D U : V) (h : T O) (nx : Nat) (a : Act) (cs : List Frame) (w : World) (ρ : Ren), (∀ q, l[q]? = ops[i + q]?) →
      regK P ng ck nt ops (fun v tm D U h nx => k (.pk v) tm D U h nx) l tm D U h nx (fun tm D U h nx => k .n tm D U h nx) = true →
      St ρ h nx w → Ext ρ0 h0 w0 ρ h w → RG ng ρ → TR ρ tm a → nt ≤ a.tmps.size → DR ρ D a.defers → UR ρ dk U c0 cs0 cs → opsG P dk ops Q (List.range' i l.length) a cs w := by
  intro l
  induction l with
  | nil => intro i tm D U h nx a cs w ρ _ hk s x g t hn hd hu; exact .nil (hq ρ .n tm D U h nx a cs w hk s x g t hn hd hu)
  | cons o l ih =>
    intro i tm D U h nx a cs w ρ hl hk s x g t hn hd hu
    have hi : ops[i]? = some o := by simpa using (hl 0).symm
    have hl' : ∀ q, l[q]? = ops[(i + 1) + q]? := fun q => by have := hl (q + 1); simpa [Nat.add_assoc, Nat.add_comm 1 q] using this
    obtain ⟨dst, op, ty, pos, after, guard⟩ := o
    replace hk : wantK ops tm guard
        (opX P ng ck op tm D U h nx (fun x D U h nx => putTK nt dst x tm fun tm => regK P ng ck nt ops (fun v tm D U h nx => k (.pk v) tm D U h nx) l tm D U h nx (fun tm D U h nx => k .n tm D U h nx)) (fun v D U h nx => k (.pk v) tm D U h nx))
        (putTK nt dst undefV tm fun tm => regK P ng ck nt ops (fun v tm D U h nx => k (.pk v) tm D U h nx) l tm D U h nx (fun tm D U h nx => k .n tm D U h nx)) = true := hk
    show opsG P dk ops Q (i :: List.range' (i + 1) l.length) a cs w
    rcases wantK_cases ops tm guard with hw | hw | hw
    · rw [hw] at hk
      have hwa := wantK_run (ops := ops) (o := ⟨dst, op, ty, pos, after, guard⟩) t hw
      cases hp : plainOp op with
      | true =>
        rw [opX_plain hp] at hk
        refine opsG.run hi hwa ?_
        refine opK_sound hck (op := op) rfl hk s g t _ a _ _ (fun ρ' y h' nx' v w' hv hs hx hk2 => ?_) (fun ρ' y h' nx' v w' hv hs hx hk2 => ?_)
        · obtain ⟨tm', hk3, p1, p2⟩ := putTK_spec hk2
          obtain ⟨z1, z2⟩ := put_size a dst v
          exact ih (i + 1) tm' D U h' nx' _ cs w' ρ' hl' hk3 hs (x.trans hx) (g.mono hx.le) ((t.mono hx.le).slot hn hv p1 p2) (by rw [z1]; exact hn) (by rw [z2]; exact hd.mono hx.le) (hu.mono hx.le)
        · exact hq ρ' (.pk y) tm D U h' nx' a cs w' hk2 hs (x.trans hx) (g.mono hx.le) (t.mono hx.le) hn (hd.mono hx.le) (hu.mono hx.le) v hv
      | false =>
        cases op <;> first | exact Bool.noConfusion hp | skip
        case call c =>
          obtain ⟨callee, args, ts⟩ := c
          cases callee with
          | invoke r m => exact Bool.noConfusion hp
          | value f => exact Bool.noConfusion hp
          | builtin b =>
            cases b <;> first | exact Bool.noConfusion hp | skip
            have hk2 : recovK U (fun v U => putTK nt dst v tm fun tm => regK P ng ck nt ops (fun v tm D U h nx => k (.pk v) tm D U h nx) l tm D U h nx (fun tm D U h nx => k .n tm D U h nx)) = true := hk
            have hrun : (execOp a.eval ⟨dst, .call ⟨.builtin .recover, args, ts⟩, ty, pos, after, guard⟩).run P w = .ok .recover w := by
              simp [execOp, resolve, invoke, builtin]
            have go : ∀ (y : V) (U' : V) (v : Value) (cs' : List Frame), putTK nt dst y tm (fun tm => regK P ng ck nt ops (fun v tm D U h nx => k (.pk v) tm D U h nx) l tm D U' h nx (fun tm D U h nx => k .n tm D U h nx)) = true → VR ρ y v → UR ρ dk U' c0 cs0 cs' → opsG P dk ops Q (List.range' (i + 1) l.length) (a.put dst v) cs' w := fun y U' v cs' hk3 hv hu' => by
              obtain ⟨tm', hk4, p1, p2⟩ := putTK_spec hk3
              obtain ⟨z1, z2⟩ := put_size a dst v
              exact ih (i + 1) tm' D U' h nx _ cs' w ρ hl' hk4 s x g (t.slot hn hv p1 p2) (by rw [z1]; exact hn) (by rw [z2]; exact hd) hu'
            cases dk with
            | false =>
              obtain ⟨rfl, _⟩ := hu
              exact Bool.noConfusion hk2
            | true =>
              obtain ⟨u, rfl, hum⟩ := hu
              clear hk
              cases U <;> first | (simp [UM] at hum; done) | skip
              case nil =>
                simp only [UM] at hum
                subst hum
                refine opsG.recover hi hwa hrun (fun v cs' hr => by simp [recoverD] at hr) (fun _ => go .en .nil .nilIface _ hk2 (by simp [VR]) ⟨_, rfl, by simp [UM]⟩)
              case cons v r =>
                cases r <;> first | (simp [UM] at hum; done) | skip
                case nil =>
                  simp only [UM] at hum
                  obtain ⟨z, _, hz, ⟨tl, rfl, htl⟩, rfl⟩ := hum
                  refine opsG.recover hi hwa hrun (fun v' cs' hr => ?_) (fun hr => by simp [recoverD] at hr)
                  simp only [recoverD, Option.some.injEq, Prod.mk.injEq] at hr
                  obtain ⟨rfl, rfl⟩ := hr
                  exact go v (.cons v (.cons .nil .nil)) _ _ hk2 hz ⟨_, rfl, by simp only [UM]; exact ⟨_, _, hz, ⟨tl, rfl, htl⟩, rfl⟩⟩
                case cons y r2 =>
                  cases r2 <;> first | (simp [UM] at hum; done) | skip
                  have hum2 := hum
                  simp only [UM] at hum
                  obtain ⟨z, _, hz, ⟨tl, rfl, htl⟩, rfl⟩ := hum
                  exact opsG.recover hi hwa hrun (fun v' cs' hr => by simp [recoverD] at hr) (fun _ => go .en _ .nilIface _ hk2 (by simp [VR]) ⟨_, rfl, hum2⟩)
        case defer c =>
          obtain ⟨callee, args, ts⟩ := c
          cases callee with
          | invoke r m => exact Bool.noConfusion hk
          | builtin b => exact Bool.noConfusion hk
          | value f =>
            obtain ⟨g', cap, hf, hk2⟩ := vF_spec (show vF (ev ng tm f) (fun g cap => putTK nt dst undefV tm fun tm' => regK P ng ck nt ops (fun v tm D U h nx => k (.pk v) tm D U h nx) l tm' (.cons (.cons (.f g cap) (evs ng tm args.toList)) D) U h nx (fun tm D U h nx => k .n tm D U h nx)) = true from hk)
            have hfr := ev_rel g t f
            rw [hf] at hfr
            simp only [VR] at hfr
            obtain ⟨caps, hcs, hfe⟩ := hfr
            have hrun : (execOp a.eval ⟨dst, .defer ⟨.value f, args, ts⟩, ty, pos, after, guard⟩).run P w = .ok (.defer { target := .fn (.func g') ⟨caps⟩, args := ⟨args.toList.map a.eval⟩ }) w := by
              have harr : (⟨args.toList.map a.eval⟩ : Array Value) = args.map a.eval := by apply Array.ext'; simp
              rw [harr]
              simp [execOp, resolve, hfe, Deferred.ofValue]
            refine opsG.run hi hwa ?_
            rw [hrun]
            obtain ⟨tm', hk3, p1, p2⟩ := putTK_spec hk2
            obtain ⟨z1, z2⟩ := put_size { a with defers := { target := .fn (.func g') ⟨caps⟩, args := ⟨args.toList.map a.eval⟩ } :: a.defers } dst undef
            have t2 : TR ρ tm { a with defers := { target := .fn (.func g') ⟨caps⟩, args := ⟨args.toList.map a.eval⟩ } :: a.defers } := t
            refine ih (i + 1) tm' _ U h nx _ cs w ρ hl' hk3 s x g (t2.slot hn (by simp [undefV, VR, VRs, undef]) p1 p2) (by rw [z1]; exact hn) ?_ hu
            rw [z2]
            simp only [DR]
            exact ⟨caps, _, a.defers, rfl, hcs, evs_rel g t args.toList, hd⟩
    · rw [hw] at hk
      have hwa := wantK_skip (ops := ops) (o := ⟨dst, op, ty, pos, after, guard⟩) t hw
      obtain ⟨tm', hk3, p1, p2⟩ := putTK_spec hk
      obtain ⟨z1, z2⟩ := put_size a dst undef
      exact opsG.skip hi hwa (ih (i + 1) tm' D U h nx _ cs w ρ hl' hk3 s x g (t.slot hn (by simp [undefV, VR, VRs, undef]) p1 p2) (by rw [z1]; exact hn) (by rw [z2]; exact hd) hu)
    · rw [hw] at hk; cases hk
end
end Go.Mx
