/-
  A part of a small executor of the model, proved sound (Mx33 of 46). No condition.
-/
import Derived.Test.YtmplmfieipckjaaGreatDoorXMx32
namespace Go.Mx
noncomputable section
variable {P : Program} {ρ : Ren} {h : T O} {nx : Nat} {w : World} {ng nt : Nat} {ck : CK} {ops : Array Oper}
def plainOp : Op → Bool
  | .defer _ => false
  | .call ⟨.builtin .recover, _, _⟩ => false
  | _ => true
theorem opX_plain {o : Op} {tm : T V} {D U : V} {K Kp : V → V → V → T O → Nat → Bool} (hp : plainOp o = true) :
    opX P ng ck o tm D U h nx K Kp = opK P ng ck tm o h nx (fun v h nx => K v D U h nx) (fun v h nx => Kp v D U h nx) := by
  cases o <;> try rfl
  case call c =>
    obtain ⟨callee, args, ts⟩ := c
    cases callee with
    | value f => rfl
    | invoke a b => rfl
    | builtin b => cases b <;> first | rfl | exact Bool.noConfusion hp
  case defer c => exact Bool.noConfusion hp
def QOK (ng nt : Nat) (dk : Bool) (c0 : Frame) (cs0 : List Frame) (ρ0 : Ren) (h0 : T O) (w0 : World) (k : KX) (Q : Exit → Act → List Frame → World → Prop) : Prop :=
  ∀ ρ x tm D U h nx a cs w, k x tm D U h nx = true → St ρ h nx w → Ext ρ0 h0 w0 ρ h w → RG ng ρ → TR ρ tm a → nt ≤ a.tmps.size → DR ρ D a.defers → UR ρ dk U c0 cs0 cs →
    match x with
    | .n => Q .normal a cs w
    | .x id => Q (.exit id) a cs w
    | .r => Q .ret a cs w
    | .pk v => ∀ y, VR ρ v y → Q (.panic [{ v := y, recovered := false }]) a cs w
theorem TR.slot {tm tm' : T V} {a : Act} {dst : Option Nat} {x : V} {v : Value} (ht : TR ρ tm a) (hn : nt ≤ a.tmps.size) (hv : VR ρ x v) (p1 : ∀ t, dst = some t → gt V.nil t tm' = x ∧ t < nt) (p2 : ∀ t, dst ≠ some t → gt V.nil t tm' = gt V.nil t tm) : TR ρ tm' (a.put dst v) := by
  have key : TR ρ (Go.Mx.putS dst x tm) (a.put dst v) := ht.putS fun t hd => ⟨hv, Nat.lt_of_lt_of_le (p1 t hd).2 hn⟩
  intro t
  have := key t
  by_cases e : dst = some t
  · subst e; rw [putS_same] at this; rw [(p1 t rfl).1]; exact this
  · rw [putS_ne e] at this; rw [p2 t e]; exact this
theorem regK_sound (hck : CKok P ng ck) {dk : Bool} {c0 : Frame} {cs0 : List Frame} {ρ0 : Ren} {h0 : T O} {w0 : World} {k : KX} {Q : Exit → Act → List Frame → World → Prop} (hq : QOK ng nt dk c0 cs0 ρ0 h0 w0 k Q) :
    ∀ (l : List Oper) (i : Nat) (tm : T V) (D U : V) (h : T O) (nx : Nat) (a : Act) (cs : List Frame) (w : World) (ρ : Ren), (∀ q, l[q]? = ops[i + q]?) →
      regK P ng ck nt ops (fun v tm D U h nx => k (.pk v) tm D U h nx) l tm D U h nx (fun tm D U h nx => k .n tm D U h nx) = true →
      St ρ h nx w → Ext ρ0 h0 w0 ρ h w → RG ng ρ → TR ρ tm a → nt ≤ a.tmps.size → DR ρ D a.defers → UR ρ dk U c0 cs0 cs → opsG P dk ops Q (List.range' i l.length) a cs w := by
  intro l
  induction l with
  | nil => intro i tm D U h nx a cs w ρ _ hk s x g t hn hd hu; exact .nil (hq ρ .n tm D U h nx a cs w hk s x g t hn hd hu)
  | cons o l ih =>
    intro i tm D U h nx a cs w ρ hl hk s x g t hn hd hu
    have hi : ops[i]? = some o := by simpa using (hl 0).symm
    have hl' : ∀ q, l[q]? = ops[(i + 1) + q]? := fun q => by have := hl (q + 1); simpa [Nat.add_assoc, Nat.add_comm 1 q] using this
    obtain ⟨dst, op, ty, pos, after, guard⟩ := o
    replace hk : wantK ops tm guard
        (opX P ng ck op tm D U h nx (fun x D U h nx => putTK nt dst x tm fun tm => regK P ng ck nt ops (fun v tm D U h nx => k (.pk v) tm D U h nx) l tm D U h nx (fun tm D U h nx => k .n tm D U h nx)) (fun v D U h nx => k (.pk v) tm D U h nx))
        (putTK nt dst undefV tm fun tm => regK P ng ck nt ops (fun v tm D U h nx => k (.pk v) tm D U h nx) l tm D U h nx (fun tm D U h nx => k .n tm D U h nx)) = true := hk
    show opsG P dk ops Q (i :: List.range' (i + 1) l.length) a cs w
    rcases wantK_cases ops tm guard with hw | hw | hw
    · rw [hw] at hk
      have hwa := wantK_run (ops := ops) (o := ⟨dst, op, ty, pos, after, guard⟩) t hw
      cases hp : plainOp op with
      | true =>
        rw [opX_plain hp] at hk
        refine opsG.run hi hwa ?_
        refine opK_sound hck (op := op) rfl hk s g t _ a _ _ (fun ρ' y h' nx' v w' hv hs hx hk2 => ?_) (fun ρ' y h' nx' v w' hv hs hx hk2 => ?_)
        · obtain ⟨tm', hk3, p1, p2⟩ := putTK_spec hk2
          obtain ⟨z1, z2⟩ := put_size a dst v
          exact ih (i + 1) tm' D U h' nx' _ cs w' ρ' hl' hk3 hs (x.trans hx) (g.mono hx.le) ((t.mono hx.le).slot hn hv p1 p2) (by rw [z1]; exact hn) (by rw [z2]; exact hd.mono hx.le) (hu.mono hx.le)
        · exact hq ρ' (.pk y) tm D U h' nx' a cs w' hk2 hs (x.trans hx) (g.mono hx.le) (t.mono hx.le) hn (hd.mono hx.le) (hu.mono hx.le) v hv
      | false =>
        cases op <;> first | exact Bool.noConfusion hp | skip
        case call c =>
          obtain ⟨callee, args, ts⟩ := c
          cases callee with
          | invoke r m => exact Bool.noConfusion hp
          | value f => exact Bool.noConfusion hp
          | builtin b =>
            cases b <;> first | exact Bool.noConfusion hp | skip
            have hk2 : recovK U (fun v U => putTK nt dst v tm fun tm => regK P ng ck nt ops (fun v tm D U h nx => k (.pk v) tm D U h nx) l tm D U h nx (fun tm D U h nx => k .n tm D U h nx)) = true := hk
            have hrun : (execOp a.eval ⟨dst, .call ⟨.builtin .recover, args, ts⟩, ty, pos, after, guard⟩).run P w = .ok .recover w := by
              simp [execOp, resolve, invoke, builtin]
            have go : ∀ (y : V) (U' : V) (v : Value) (cs' : List Frame), putTK nt dst y tm (fun tm => regK P ng ck nt ops (fun v tm D U h nx => k (.pk v) tm D U h nx) l tm D U' h nx (fun tm D U h nx => k .n tm D U h nx)) = true → VR ρ y v → UR ρ dk U' c0 cs0 cs' → opsG P dk ops Q (List.range' (i + 1) l.length) (a.put dst v) cs' w := fun y U' v cs' hk3 hv hu' => by
              obtain ⟨tm', hk4, p1, p2⟩ := putTK_spec hk3
              obtain ⟨z1, z2⟩ := put_size a dst v
              exact ih (i + 1) tm' D U' h nx _ cs' w ρ hl' hk4 s x g (t.slot hn hv p1 p2) (by rw [z1]; exact hn) (by rw [z2]; exact hd) hu'
            cases dk with
            | false =>
              obtain ⟨rfl, _⟩ := hu
              exact Bool.noConfusion hk2
            | true =>
              obtain ⟨u, rfl, hum⟩ := hu
              clear hk
              cases U <;> first | (simp [UM] at hum; done) | skip
              case nil =>
                simp only [UM] at hum
                subst hum
                refine opsG.recover hi hwa hrun (fun v cs' hr => by simp [recoverD] at hr) (fun _ => go .en .nil .nilIface _ hk2 (by simp [VR]) ⟨_, rfl, by simp [UM]⟩)
              case cons v r =>
                cases r <;> first | (simp [UM] at hum; done) | skip
                case nil =>
                  simp only [UM] at hum
                  obtain ⟨z, hz, rfl⟩ := hum
                  refine opsG.recover hi hwa hrun (fun v' cs' hr => ?_) (fun hr => by simp [recoverD] at hr)
                  simp only [recoverD, Option.some.injEq, Prod.mk.injEq] at hr
                  obtain ⟨rfl, rfl⟩ := hr
                  exact go v (.cons v (.cons .nil .nil)) _ _ hk2 hz ⟨_, rfl, by simp only [UM]; exact ⟨_, hz, rfl⟩⟩
                case cons y r2 =>
                  cases r2 <;> first | (simp [UM] at hum; done) | skip
                  have hum2 := hum
                  simp only [UM] at hum
                  obtain ⟨z, hz, rfl⟩ := hum
                  exact opsG.recover hi hwa hrun (fun v' cs' hr => by simp [recoverD] at hr) (fun _ => go .en _ .nilIface _ hk2 (by simp [VR]) ⟨_, rfl, hum2⟩)
        case defer c =>
          obtain ⟨callee, args, ts⟩ := c
          cases callee with
          | invoke r m => exact Bool.noConfusion hk
          | builtin b => exact Bool.noConfusion hk
          | value f =>
            obtain ⟨g', cap, hf, hk2⟩ := vF_spec (show vF (ev ng tm f) (fun g cap => putTK nt dst undefV tm fun tm' => regK P ng ck nt ops (fun v tm D U h nx => k (.pk v) tm D U h nx) l tm' (.cons (.cons (.f g cap) (evs ng tm args.toList)) D) U h nx (fun tm D U h nx => k .n tm D U h nx)) = true from hk)
            have hfr := ev_rel g t f
            rw [hf] at hfr
            simp only [VR] at hfr
            obtain ⟨caps, hcs, hfe⟩ := hfr
            have hrun : (execOp a.eval ⟨dst, .defer ⟨.value f, args, ts⟩, ty, pos, after, guard⟩).run P w = .ok (.defer { target := .fn (.func g') ⟨caps⟩, args := ⟨args.toList.map a.eval⟩ }) w := by
              have harr : (⟨args.toList.map a.eval⟩ : Array Value) = args.map a.eval := by apply Array.ext'; simp
              rw [harr]
              simp [execOp, resolve, hfe, Deferred.ofValue]
            refine opsG.run hi hwa ?_
            rw [hrun]
            obtain ⟨tm', hk3, p1, p2⟩ := putTK_spec hk2
            obtain ⟨z1, z2⟩ := put_size { a with defers := { target := .fn (.func g') ⟨caps⟩, args := ⟨args.toList.map a.eval⟩ } :: a.defers } dst undef
            have t2 : TR ρ tm { a with defers := { target := .fn (.func g') ⟨caps⟩, args := ⟨args.toList.map a.eval⟩ } :: a.defers } := t
            refine ih (i + 1) tm' _ U h nx _ cs w ρ hl' hk3 s x g (t2.slot hn (by simp [undefV, VR, VRs, undef]) p1 p2) (by rw [z1]; exact hn) ?_ hu
            rw [z2]
            simp only [DR]
            exact ⟨caps, _, a.defers, rfl, hcs, evs_rel g t args.toList, hd⟩
    · rw [hw] at hk
      have hwa := wantK_skip (ops := ops) (o := ⟨dst, op, ty, pos, after, guard⟩) t hw
      obtain ⟨tm', hk3, p1, p2⟩ := putTK_spec hk
      obtain ⟨z1, z2⟩ := put_size a dst undef
      exact opsG.skip hi hwa (ih (i + 1) tm' D U h nx _ cs w ρ hl' hk3 s x g (t.slot hn (by simp [undefV, VR, VRs, undef]) p1 p2) (by rw [z1]; exact hn) (by rw [z2]; exact hd) hu)
    · rw [hw] at hk; cases hk
end
end Go.Mx
