/-
  A part of a small executor of the model, proved sound (Mx34 of 46). No condition.
-/
import Derived.Test.YtmplmfieipckjaaGreatDoorXMx33
namespace Go.Mx
noncomputable section
variable {P : Program} {ng : Nat} {hk : Nat → Option (V → T O → Nat → KV → Bool)}
def EXok (P : Program) (ng : Nat) (ex : Code → Nat → T V → V → V → T O → Nat → KX → Bool) : Prop :=
  ∀ (c : Code) (nt : Nat) (tm : T V) (D U : V) (h : T O) (nx : Nat) (k : KX), ex c nt tm D U h nx k = true →
    ∀ (dk : Bool) (c0 : Frame) (cs0 : List Frame) (ρ0 : Ren) (h0 : T O) (w0 : World) (Q : Exit → Act → List Frame → World → Prop), QOK ng nt dk c0 cs0 ρ0 h0 w0 k Q →
    ∀ (ρ : Ren) (a : Act) (cs : List Frame) (w : World), St ρ h nx w → Ext ρ0 h0 w0 ρ h w → RG ng ρ → TR ρ tm a → nt ≤ a.tmps.size → DR ρ D a.defers → UR ρ dk U c0 cs0 cs →
      WG P dk c Q a cs w ∧ ∀ c', c = .loop c' → WL P dk c' Q a cs w
theorem exec_step (hm : P.follows .mixedOrders = true) {n : Nat} (ih : EXok P ng (exec P ng hk n)) (hck : CKok P ng (callX P hk (exec P ng hk n))) : EXok P ng (exec P ng hk (n + 1)) := by
  intro c nt tm D U h nx k he dk c0 cs0 ρ0 h0 w0 Q hq ρ a cs w s x g t hn hd hu
  cases c <;> try exact Bool.noConfusion he
  case skip => exact ⟨.skip (hq ρ .n tm D U h nx a cs w he s x g t hn hd hu), by simp⟩
  case exit id => exact ⟨.exit (hq ρ (.x id) tm D U h nx a cs w he s x g t hn hd hu), by simp⟩
  case label l => exact ⟨.label (hq ρ .n tm D U h nx a cs w he s x g t hn hd hu), by simp⟩
  case ret => exact ⟨.ret (hq ρ .r tm D U h nx a cs w he s x g t hn hd hu), by simp⟩
  case region id o dr =>
    refine ⟨?_, by simp⟩
    cases dr with
    | false =>
      have he : regK P ng (callX P hk (exec P ng hk n)) nt o (fun v tm D U h nx => k (.pk v) tm D U h nx) o.toList tm D U h nx (fun tm D U h nx => k .n tm D U h nx) = true := he
      have := regK_sound hck hq o.toList 0 tm D U h nx a cs w ρ (fun q => by simp) he s x g t hn hd hu
      refine opsG.region ?_
      rw [List.range_eq_range']
      simpa using this
    | true =>
      have he : rp P ng (callX P hk (exec P ng hk n)) nt o (fun v h nx => k (.pk v) .leaf D U h nx) (fun tm h nx => k .n tm D U h nx) (drawP P o (Nat.succ o.size) ⟨0, 0, 0, .leaf, .leaf⟩) tm h nx = true := he
      rw [drawP_run] at he
      have he : drawK P ng (callX P hk (exec P ng hk n)) nt o (fun v h nx => k (.pk v) .leaf D U h nx) (fun tm h nx => k .n tm D U h nx) (Nat.succ o.size) ⟨0, 0, 0, .leaf, .leaf⟩ tm h nx = true := he
      refine .of_wp (drawK_sound hm hck he s g t hn (fun ρ' tm' h' nx' a' w' hk2 s' x' g' t' hn' hd' => ?_) (fun ρ' y h' nx' v a' w' hk2 hv s' x' g' hn' hd' => ?_))
      · exact hq ρ' .n tm' D U h' nx' a' cs w' hk2 s' (x.trans x') g' t' hn' (by rw [hd']; exact hd.mono x'.le) (hu.mono x'.le)
      · exact hq ρ' (.pk y) .leaf D U h' nx' a' cs w' hk2 s' (x.trans x') g' (fun q => by rw [gt_leaf]; simp [VR]) hn' (by rw [hd']; exact hd.mono x'.le) (hu.mono x'.le) v hv
  case seq c1 c2 =>
    refine ⟨.seq (ih c1 nt tm D U h nx _ he dk c0 cs0 ρ0 h0 w0 _ (fun ρ z tm D U h nx a cs w hk s x g t hn hd hu => ?_) ρ a cs w s x g t hn hd hu).1, by simp⟩
    cases z with
    | n => exact (ih c2 nt tm D U h nx k hk dk c0 cs0 ρ0 h0 w0 Q hq ρ a cs w s x g t hn hd hu).1
    | x id => exact hq ρ (.x id) tm D U h nx a cs w hk s x g t hn hd hu
    | r => exact hq ρ .r tm D U h nx a cs w hk s x g t hn hd hu
    | pk v => exact hq ρ (.pk v) tm D U h nx a cs w hk s x g t hn hd hu
  case scope c1 =>
    refine ⟨.scope (ih c1 nt tm D U h nx k he dk c0 cs0 ρ0 h0 w0 _ (fun ρ z tm D U h nx a cs w hk s x g t hn hd hu => ?_) ρ a cs w s x g t hn hd hu).1, by simp⟩
    have := hq ρ z tm D U h nx a cs w hk s x g t hn hd hu
    cases z <;> exact this
  case block id c1 =>
    refine ⟨.block (ih c1 nt tm D U h nx _ he dk c0 cs0 ρ0 h0 w0 _ (fun ρ z tm D U h nx a cs w hk s x g t hn hd hu => ?_) ρ a cs w s x g t hn hd hu).1, by simp⟩
    cases z with
    | n => exact hq ρ .n tm D U h nx a cs w hk s x g t hn hd hu
    | x id' =>
      have hk : (Bool.rec (k (.x id') tm D U h nx) (k .n tm D U h nx) (Nat.beq id' id) : Bool) = true := hk
      show if id' = id then _ else _
      cases e : Nat.beq id' id with
      | true => rw [e] at hk; rw [if_pos (beq_spec e)]; exact hq ρ .n tm D U h nx a cs w hk s x g t hn hd hu
      | false => rw [e] at hk; rw [if_neg (Nat.ne_of_beq_eq_false e)]; exact hq ρ (.x id') tm D U h nx a cs w hk s x g t hn hd hu
    | r => exact hq ρ .r tm D U h nx a cs w hk s x g t hn hd hu
    | pk v => exact hq ρ (.pk v) tm D U h nx a cs w hk s x g t hn hd hu
  case loop c1 =>
    have key : WL P dk c1 Q a cs w := by
      refine .round (ih c1 nt tm D U h nx _ he dk c0 cs0 ρ0 h0 w0 _ (fun ρ z tm D U h nx a cs w hk s x g t hn hd hu => ?_) ρ a cs w s x g t hn hd hu).1
      cases z with
      | n => exact (ih (.loop c1) nt tm D U h nx k hk dk c0 cs0 ρ0 h0 w0 Q hq ρ a cs w s x g t hn hd hu).2 c1 rfl
      | x id => exact hq ρ (.x id) tm D U h nx a cs w hk s x g t hn hd hu
      | r => exact hq ρ .r tm D U h nx a cs w hk s x g t hn hd hu
      | pk v => exact hq ρ (.pk v) tm D U h nx a cs w hk s x g t hn hd hu
    exact ⟨key.loop, fun c' e => by cases e; exact key⟩
  case cond c1 c2 c3 =>
    obtain ⟨q, hc, he2⟩ := vB_spec (show vB (ev ng tm c1) (fun q => Bool.rec (exec P ng hk n c3 nt tm D U h nx k) (exec P ng hk n c2 nt tm D U h nx k) q) = true from he)
    have hv := ev_rel g t c1
    rw [hc] at hv
    simp only [VR] at hv
    refine ⟨.cond hv ?_, by simp⟩
    cases q with
    | true => exact (ih c2 nt tm D U h nx k he2 dk c0 cs0 ρ0 h0 w0 Q hq ρ a cs w s x g t hn hd hu).1
    | false => exact (ih c3 nt tm D U h nx k he2 dk c0 cs0 ρ0 h0 w0 Q hq ρ a cs w s x g t hn hd hu).1
end
end Go.Mx
