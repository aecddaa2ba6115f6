/-
  A part of a small executor of the model, proved sound (MxF of 46). No condition.
-/
import Derived.Test.YtmplmfieipckjaaGreatDoorXMxE
namespace Go.Mx
noncomputable section
variable {P : Program} {ρ : Ren} {h : T O} {nx : Nat} {w : World} {ng : Nat}
structure Stays (w w' : World) : Prop where
  size : w.heap.size ≤ w'.heap.size
  os : w'.os = w.os
  tape : w'.tape = w.tape
  output : w'.output = w.output
  heap : ∀ b, b < w.heap.size → w'.heap[b]? = w.heap[b]?
def HasTables (l : List (Nat × V)) (W : World) : Prop := ∀ p ∈ l, ∃ arr ty, W.heap[p.1]? = some (.cells arr ty (0, 0)) ∧ CR (fun _ => none) p.2 arr.toList
theorem top_run (hm : P.follows .mixedOrders = true) (hn : NameOK P) {hk : Nat → Option HookF} (hh : HKok P ng hk) {n g : Nat} {fn : Func} {c : Code} (hf : P.funcs[g]? = some fn) (hb : fn.body = some c)
    {l : List (Nat × V)} {x : Bool} {args : V} {vs : List Value} (hl : inT ng l = true) (hv : VRs (fun _ => none) args vs)
    (hrun : ∀ τ, mkTK τ l .leaf (fun h0 => run P ng hk n g args h0 ng (fun v _ _ => isB x v) (fun _ _ _ => false)) = true) {W : World} (tab : HasTables l W) :
    Calls P g ⟨vs⟩ W fun e W' => e = .returned (.bool x) ∧ Stays W W' := by
  let τ : Nat → Nat := fun i => match W.heap[i]? with
    | some (.cells _ ty _) => ty
    | _ => 0
  let sz : Nat → Nat := fun i => match W.heap[i]? with
    | some (.cells arr _ _) => arr.size
    | _ => 0
  have hrun := hrun τ
  rw [mkTK_eq] at hrun
  let ρr : Ren := fun i => if i < ng then some ⟨i, 0, sz i⟩ else none
  have hin := inT_spec hl
  have at0 := mkT_at τ l (.leaf : T O)
  have live0 : ∀ i, (gt O.none i (mkT τ l .leaf)).live → ∃ p ∈ l, p.1 = i ∧ gt O.none i (mkT τ l .leaf) = tabO p.2 (τ i) := fun i hi => by
    rcases at0 i with h1 | ⟨_, h2⟩
    · exact h1
    · rw [h2, gt_leaf] at hi; exact hi.elim
  have nowr : ∀ i, ¬ (gt O.none i (mkT τ l .leaf)).wr := fun i hi => by
    obtain ⟨p, _, _, e⟩ := live0 i (O.live_of_wr hi)
    rw [e] at hi
    exact Bool.noConfusion (show false = true from hi)
  have sr : St ρr (mkT τ l .leaf) ng W := by
    refine ⟨fun id L hi hL => ?_, fun i j L M hi hj hL hM hb => ?_, fun i hi => ?_, fun i hi hl' => ?_⟩
    · obtain ⟨p, hp, rfl, e⟩ := live0 id hi
      have hlt := (hin p hp).1
      have hL' : L = ⟨p.1, 0, sz p.1⟩ := by simpa [ρr, hlt, eq_comm] using hL
      subst hL'
      obtain ⟨arr, ty, h1, h2⟩ := tab p hp
      refine ⟨_, h1, ?_⟩
      have et : τ p.1 = ty := by simp only [τ, h1]
      have es : sz p.1 = arr.size := by simp only [sz, h1]
      rw [e, et]
      exact ⟨arr, (0, 0), rfl, es.symm, by intro q _; simp, Nat.zero_le _, by simpa using plain_CR (hin p hp).2 h2⟩
    · obtain ⟨p, hp, rfl, e⟩ := live0 i hi
      obtain ⟨q, hq, rfl, e'⟩ := live0 j hj
      have hL' : L = ⟨p.1, 0, sz p.1⟩ := by simpa [ρr, (hin p hp).1, eq_comm] using hL
      have hM' : M = ⟨q.1, 0, sz q.1⟩ := by simpa [ρr, (hin q hq).1, eq_comm] using hM
      subst hL' hM'
      exact hb
    · have : ¬ i < ng := by omega
      simp [ρr, this]
    · obtain ⟨p, hp, rfl, e⟩ := live0 i hl'
      have := (hin p hp).1
      omega
  have gr : RG ng ρr := fun i hi => ⟨⟨i, 0, sz i⟩, by simp [ρr, hi], rfl, rfl⟩
  have hv' : VRs ρr args vs := hv.mono (fun i L e => by cases e)
  have up := run_sound hm hn hh n g args (mkT τ l .leaf) ng (fun v _ _ => isB x v) (fun _ _ _ => false) hrun ρr W vs sr gr hv'
  let o : Oper := { (default : Oper) with dst := some 0 }
  let a : Act := { tmps := #[undef], defers := [] }
  have h := up o a (fun a' W' => a'.tmps[0]? = some (.bool x) ∧ Stays W W') (fun _ _ _ => False) (fun ρ' y h' nx' v w' hv' _ hx hky => ?_) (fun ρ' y h' nx' v w' _ _ _ hky => Bool.noConfusion hky)
  · rw [callFunc_enter hn hf hb, Oper.upon_enter] at h
    refine h.mono fun e W' hr => ?_
    cases e with
    | returned v =>
      obtain ⟨h1, h2⟩ := hr
      have : v = .bool x := by simpa [Act.put, o, a] using h1
      exact ⟨by rw [this], h2⟩
    | panicked c => exact hr.elim
    | outgrown => obtain ⟨_, _, hq⟩ := hr; exact hq.elim
  · obtain ⟨b, rfl, hb⟩ := vB_spec (show vB y (fun b => bs_eq b x) = true from hky)
    have hbx : b = x := by cases b <;> cases x <;> first | rfl | exact Bool.noConfusion hb
    subst hbx
    simp only [VR] at hv'
    subst hv'
    exact ⟨by simp [Act.put, o, a], hx.size, hx.os, hx.tape, hx.output, fun b hb => (hx.kept b hb fun id L hw _ => (nowr id hw).elim).1⟩
end
end Go.Mx
