/-
  A part of a small executor of the model, proved sound (27 of 28). No condition.
-/
import Derived.Test.YthocoonhoilmdaaGreatDoorXMxAL
import Derived.Test.YthocoonhoilmdaaGreatDoorXMx16
namespace Go.Mx
open Instr Builtin RowKit
noncomputable section
variable {P : Program} {ng : Nat}
theorem calls_st (hn : NameOK P) {R : CK} (hR : CKok P ng R) {g : Nat} {fn : Func} {cd : Code} (hf : P.funcs[g]? = some fn) (hb : fn.body = some cd) {args : V} {vs : List Value} {K1 : KV} {ρ : Ren} {h : T O} {nx : Nat} {w : World}
    (s : St ρ h nx w) (gr : RG ng ρ) (hv : VRs ρ args vs) (hrun : R g args h nx K1 (fun _ _ _ => false) = true) :
    Calls P g ⟨vs⟩ w fun e w' => ∃ ρ' y v h' nx', e = .returned v ∧ VR ρ' y v ∧ St ρ' h' nx' w' ∧ K1 y h' nx' = true ∧ Ext ρ h w ρ' h' w' := by
  have up := hR g args h nx K1 (fun _ _ _ => false) hrun ρ w vs s gr hv
  let o : Oper := { (default : Oper) with dst := some 0 }
  let a : Act := { tmps := #[undef], defers := [] }
  have hh := up o a (fun a' w' => ∃ ρ' y v h' nx', a'.tmps[0]? = some v ∧ VR ρ' y v ∧ St ρ' h' nx' w' ∧ K1 y h' nx' = true ∧ Ext ρ h w ρ' h' w') (fun _ _ _ => False) (fun ρ' y h' nx' v w' hv' hs hx hky => ?_) (fun ρ' y h' nx' v w' _ _ _ hky => Bool.noConfusion hky)
  · rw [callFunc_enter hn hf hb, Oper.upon_enter] at hh
    refine hh.mono fun e W' hr => ?_
    cases e with
    | returned v =>
      obtain ⟨ρ', y, v2, h', nx', h1, h2, h3, h4, h5⟩ := hr
      have : v = v2 := by simpa [Act.put, o, a] using h1
      exact ⟨ρ', y, v2, h', nx', by rw [this], h2, h3, h4, h5⟩
    | panicked c => exact hr.elim
    | outgrown => obtain ⟨_, _, hq⟩ := hr; exact hq.elim
  · exact ⟨ρ', y, v, h', nx', by simp [Act.put, o, a], hv', hs, hky, hx⟩
theorem st_leaf (W : World) : ∃ ρ : Ren, St ρ (.leaf : T O) ng W ∧ RG ng ρ := by
  have none0 : ∀ i, ¬ (gt O.none i (.leaf : T O)).live := fun i hi => by rw [gt_leaf] at hi; exact hi
  refine ⟨fun i => if i < ng then some ⟨i, 0, 0⟩ else none, ⟨fun id L hi _ => (none0 id hi).elim, fun i j L M hi _ _ _ _ => (none0 i (O.live_of_wr hi)).elim, fun i hi => ?_, fun i _ => none0 i⟩, fun i hi => ⟨⟨i, 0, 0⟩, by simp [hi], rfl, rfl⟩⟩
  have h1 : ¬ i < ng := by omega
  simp only [h1, if_false]
theorem stays_leaf {ρ ρ' : Ren} {h' : T O} {W W' : World} (x : Ext ρ (.leaf : T O) W ρ' h' W') : Stays W W' :=
  ⟨x.size, x.os, x.tape, x.output, fun b hb => (x.kept b hb fun id L hw _ => absurd (O.live_of_wr hw) (by rw [gt_leaf]; exact fun h => h)).1⟩
def entK (es : E) (k : V → V → E → Bool) : Bool := match es with
  | .cons x v _ r => k x v r
  | .nil => false
theorem entK_spec {es : E} {k : V → V → E → Bool} (h : entK es k = true) : ∃ x v b r, es = .cons x v b r ∧ k x v r = true := by
  cases es <;> first | exact Bool.noConfusion h | exact ⟨_, _, _, _, rfl, h⟩
def entN (es : E) : Bool := match es with
  | .nil => true
  | .cons _ _ _ _ => false
theorem entN_spec {es : E} (h : entN es = true) : es = .nil := by
  cases es <;> first | exact Bool.noConfusion h | rfl
theorem none_out {ρ : Ren} {E : E} {l : List MapEntry} (hk : entN E = true) (her : ER ρ E l) : l = [] := by
  rw [entN_spec hk] at her
  simpa only [ER] using her
end
end Go.Mx
