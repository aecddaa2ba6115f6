/-
  A part of a small executor of the model, proved sound (26 of 28). No condition.
-/
import Derived.Test.YthocoonhoilmdaaGreatDoorXMxAG
import Derived.Test.YthocoonhoilmdaaGreatDoorXMxN
namespace Go.Mx
open Instr Builtin RowKit
noncomputable section
variable {P : Program} {ρ : Ren} {h : T O} {nx : Nat} {w : World} {ng : Nat}
theorem calls_of_ck (hn : NameOK P) {R : CK} (hR : CKok P ng R) {g : Nat} {fn : Func} {cd : Code} (hf : P.funcs[g]? = some fn) (hb : fn.body = some cd) {args : V} {vs : List Value} {K1 : KV} {φ : Value → Prop}
    (hv : ∀ ρ : Ren, VRs ρ args vs) (hrun : R g args .leaf ng K1 (fun _ _ _ => false) = true) (hK : ∀ ρ' y v h' nx', K1 y h' nx' = true → VR ρ' y v → φ v) (W : World) :
    Calls P g ⟨vs⟩ W fun e W' => ∃ v, e = .returned v ∧ φ v ∧ Stays W W' := by
  let ρr : Ren := fun i => if i < ng then some ⟨i, 0, 0⟩ else none
  have none0 : ∀ i, ¬ (gt O.none i (.leaf : T O)).live := fun i hi => by rw [gt_leaf] at hi; exact hi
  have sr : St ρr (.leaf : T O) ng W := ⟨fun id L hi _ => (none0 id hi).elim, fun i j L M hi _ _ _ _ => (none0 i (O.live_of_wr hi)).elim, fun i hi => by
    have h1 : ¬ i < ng := by omega
    simp only [ρr, h1, if_false], fun i _ => none0 i⟩
  have gr : RG ng ρr := fun i hi => ⟨⟨i, 0, 0⟩, by simp [ρr, hi], rfl, rfl⟩
  have up := hR g args .leaf ng K1 (fun _ _ _ => false) hrun ρr W vs sr gr (hv ρr)
  let o : Oper := { (default : Oper) with dst := some 0 }
  let a : Act := { tmps := #[undef], defers := [] }
  have h := up o a (fun a' W' => ∃ v, a'.tmps[0]? = some v ∧ φ v ∧ Stays W W') (fun _ _ _ => False) (fun ρ' y h' nx' v w' hv' _ hx hky => ?_) (fun ρ' y h' nx' v w' _ _ _ hky => Bool.noConfusion hky)
  · rw [callFunc_enter hn hf hb, Oper.upon_enter] at h
    refine h.mono fun e W' hr => ?_
    cases e with
    | returned v =>
      obtain ⟨v2, h1, h2, h3⟩ := hr
      have : v = v2 := by simpa [Act.put, o, a] using h1
      exact ⟨v, rfl, this ▸ h2, h3⟩
    | panicked c => exact hr.elim
    | outgrown => obtain ⟨_, _, hq⟩ := hr; exact hq.elim
  · exact ⟨v, by simp [Act.put, o, a], hK ρ' y v h' nx' hky hv', hx.size, hx.os, hx.tape, hx.output, fun b hb => (hx.kept b hb fun id L hw _ => (none0 id (O.live_of_wr hw)).elim).1⟩
end
end Go.Mx
