/-
  A part of a small executor of the model, proved sound (Mx30 of 46). No condition.
-/
import Derived.Test.YtmplmfieipckjaaGreatDoorXMxD
import Derived.Scope
import Derived.Recover
namespace Go.Mx
def WG (P : Program) (dk : Bool) (c : Code) (Q : Exit → Act → List Frame → World → Prop) (a : Act) (cs : List Frame) (w : World) : Prop :=
  ∀ (b : Frame) (k : List Item), (dk = true → b.kind = .deferred ∧ b.roundOf = none) →
    ∃ e a' cs' w', Q e a' cs' w' ∧ Arrives P (lone (b.at a (.code c :: k)) cs w) b k cs' e a' w'
section
variable {P : Program} {dk : Bool} {Q : Exit → Act → List Frame → World → Prop} {a : Act} {cs : List Frame} {w : World}
theorem WG.mono {c : Code} {Q' : Exit → Act → List Frame → World → Prop} (h : WG P dk c Q a cs w) (hq : ∀ e a cs w, Q e a cs w → Q' e a cs w) : WG P dk c Q' a cs w :=
  fun b k hb => let ⟨e, a', cs', w', q, r⟩ := h b k hb; ⟨e, a', cs', w', hq _ _ _ _ q, r⟩
theorem WG.of_wp {c : Code} (h : c.wp P (fun e a' w' => Q e a' cs w') a w) : WG P dk c Q a cs w :=
  fun b k _ => let ⟨e, a', w', q, r⟩ := h b k cs; ⟨e, a', cs, w', q, r⟩
theorem WG.wp {c : Code} {Q : Exit → Act → World → Prop} (h : ∀ cs, WG P false c (fun e a' cs' w' => cs' = cs ∧ Q e a' w') a cs w) : c.wp P Q a w :=
  fun b k cs => let ⟨e, a', cs', w', ⟨hc, q⟩, r⟩ := h cs b k (by simp); ⟨e, a', w', q, hc ▸ r⟩
theorem WG.wpS {c : Code} (h : WG P true c Q a cs w) : c.wpS P Q a cs w := fun b k h1 h2 => h b k fun _ => ⟨h1, h2⟩
theorem WG.skip (h : Q .normal a cs w) : WG P dk .skip Q a cs w := .of_wp (wp_skip h)
theorem WG.label {l : Nat} (h : Q .normal a cs w) : WG P dk (.label l) Q a cs w := .of_wp (wp_label h)
theorem WG.exit {id : Nat} (h : Q (.exit id) a cs w) : WG P dk (.exit id) Q a cs w := .of_wp (wp_exit h)
theorem WG.ret (h : Q .ret a cs w) : WG P dk .ret Q a cs w := .of_wp (wp_ret h)
theorem WG.seq {x y : Code} (h : WG P dk x (Exit.thenS (WG P dk y Q) Q) a cs w) : WG P dk (.seq x y) Q a cs w := by
  intro b k hb
  obtain ⟨e, a₁, cs₁, w₁, hq, harr⟩ := h b (.code y :: k) hb
  cases e with
  | normal =>
    obtain ⟨e₂, a₂, cs₂, w₂, hq₂, harr₂⟩ := hq b k hb
    exact ⟨e₂, a₂, cs₂, w₂, hq₂, .of_steps (.head step_seq harr) harr₂⟩
  | exit id => exact ⟨_, a₁, cs₁, w₁, hq, .of_steps (.one step_seq) (.pass (x := .code y) rfl (fun _ _ => .inl (by simp)) harr)⟩
  | goto l => exact ⟨_, a₁, cs₁, w₁, hq, .of_steps (.one step_seq) (.pass (x := .code y) rfl (fun _ _ => .inl (by simp)) harr)⟩
  | ret => exact ⟨_, a₁, cs₁, w₁, hq, .of_steps (.one step_seq) (.pass (x := .code y) rfl (fun _ _ => .inl (by simp)) harr)⟩
  | panic ch => exact ⟨_, a₁, cs₁, w₁, hq, .of_steps (.one step_seq) (.pass (x := .code y) rfl (fun _ _ => .inl (by simp)) harr)⟩
  | outgrown => exact ⟨_, a₁, cs₁, w₁, hq, .of_steps (.one step_seq) (.pass (x := .code y) rfl (fun _ _ => .inl (by simp)) harr)⟩
theorem WG.cond {c : Operand} {x y : Code} {t : Bool} (hc : a.eval c = .bool t) (h : WG P dk (if t then x else y) Q a cs w) : WG P dk (.cond c x y) Q a cs w :=
  fun b k hb => let ⟨e, a', cs', w', q, r⟩ := h b k hb; ⟨e, a', cs', w', q, .of_steps (.one (step_cond hc)) r⟩
def blockQ (id : Nat) (Q : Exit → Act → List Frame → World → Prop) : Exit → Act → List Frame → World → Prop
  | .exit id', a, cs, w => if id' = id then Q .normal a cs w else Q (.exit id') a cs w
  | e, a, cs, w => Q e a cs w
theorem WG.block {id : Nat} {c : Code} (h : WG P dk c (blockQ id Q) a cs w) : WG P dk (.block id c) Q a cs w := by
  intro b k hb
  obtain ⟨e, a₁, cs₁, w₁, hq, harr⟩ := h b (.inBlock id :: k) hb
  cases e with
  | normal => exact ⟨.normal, a₁, cs₁, w₁, hq, .head step_block (Steps.trans harr (.one step_inBlock))⟩
  | exit id' =>
    by_cases hid : id' = id
    · simp only [blockQ, hid, if_true] at hq
      exact ⟨.normal, a₁, cs₁, w₁, hq, .head step_block (harr k (by simp [exitTo, hid]))⟩
    · simp only [blockQ, hid, if_false] at hq
      refine ⟨.exit id', a₁, cs₁, w₁, hq, fun k' hk => .head step_block (harr k' ?_)⟩
      have : (id == id') = false := by simp; exact fun h => hid h.symm
      simp [exitTo, this, hk]
  | goto l => exact ⟨_, a₁, cs₁, w₁, hq, fun k' hk => .head step_block (harr k' (by simp [gotoIn, hk]))⟩
  | ret => exact ⟨_, a₁, cs₁, w₁, hq, .of_steps (.one step_block) harr⟩
  | panic ch => exact ⟨_, a₁, cs₁, w₁, hq, .of_steps (.one step_block) harr⟩
  | outgrown => exact ⟨_, a₁, cs₁, w₁, hq, .of_steps (b := b) (k := k) (cs := cs₁) (e := .outgrown) (.one step_block) harr⟩
def scopeQ (Q : Exit → Act → List Frame → World → Prop) : Exit → Act → List Frame → World → Prop
  | .goto _, _, _, _ => False
  | e, a, cs, w => Q e a cs w
theorem WG.scope {c : Code} (h : WG P dk c (scopeQ Q) a cs w) : WG P dk (.scope c) Q a cs w := by
  intro b k hb
  obtain ⟨e, a₁, cs₁, w₁, hq, harr⟩ := h b (.inScope c :: k) hb
  cases e with
  | normal => exact ⟨.normal, a₁, cs₁, w₁, hq, .head step_scope (Steps.trans harr (.one step_inScope))⟩
  | exit id => exact ⟨.exit id, a₁, cs₁, w₁, hq, fun k' hk => .head step_scope (harr k' (by simp [exitTo, hk]))⟩
  | goto l => exact hq.elim
  | ret => exact ⟨_, a₁, cs₁, w₁, hq, .of_steps (.one step_scope) harr⟩
  | panic ch => exact ⟨_, a₁, cs₁, w₁, hq, .of_steps (.one step_scope) harr⟩
  | outgrown => exact ⟨_, a₁, cs₁, w₁, hq, .of_steps (b := b) (k := k) (cs := cs₁) (e := .outgrown) (.one step_scope) harr⟩
def WL (P : Program) (dk : Bool) (c : Code) (Q : Exit → Act → List Frame → World → Prop) (a : Act) (cs : List Frame) (w : World) : Prop :=
  ∀ (b : Frame) (k : List Item), (dk = true → b.kind = .deferred ∧ b.roundOf = none) →
    ∃ e a' cs' w', Q e a' cs' w' ∧ Arrives P (lone (b.at a (.code c :: .inLoop c :: k)) cs w) b k cs' e a' w'
theorem WL.loop {c : Code} (h : WL P dk c Q a cs w) : WG P dk (.loop c) Q a cs w := fun b k hb =>
  let ⟨e, a', cs', w', q, r⟩ := h b k hb
  ⟨e, a', cs', w', q, .of_steps (.one step_loop) r⟩
theorem WL.round {c : Code} (h : WG P dk c (Exit.thenS (WL P dk c Q) Q) a cs w) : WL P dk c Q a cs w := by
  intro b k hb
  obtain ⟨e, a₁, cs₁, w₁, hq, harr⟩ := h b (.inLoop c :: k) hb
  cases e with
  | normal =>
    obtain ⟨e₂, a₂, cs₂, w₂, hq₂, harr₂⟩ := hq b k hb
    exact ⟨e₂, a₂, cs₂, w₂, hq₂, .of_steps (Steps.trans harr (.one step_inLoop)) harr₂⟩
  | exit id => exact ⟨_, a₁, cs₁, w₁, hq, .pass (x := .inLoop c) rfl (fun _ _ => .inl (by simp)) harr⟩
  | goto l => exact ⟨_, a₁, cs₁, w₁, hq, .pass (x := .inLoop c) rfl (fun _ _ => .inl (by simp)) harr⟩
  | ret => exact ⟨_, a₁, cs₁, w₁, hq, .pass (x := .inLoop c) rfl (fun _ _ => .inl (by simp)) harr⟩
  | panic ch => exact ⟨_, a₁, cs₁, w₁, hq, .pass (x := .inLoop c) rfl (fun _ _ => .inl (by simp)) harr⟩
  | outgrown => exact ⟨_, a₁, cs₁, w₁, hq, .pass (x := .inLoop c) rfl (fun _ _ => .inl (by simp)) harr⟩
end
end Go.Mx
