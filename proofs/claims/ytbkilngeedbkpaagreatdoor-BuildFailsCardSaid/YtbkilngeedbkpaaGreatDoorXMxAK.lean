/-
  A part of a small executor of the model, proved sound (26 of 33). No condition.
-/
import Derived.Test.YtbkilngeedbkpaaGreatDoorXMxAG
import Derived.Test.YtbkilngeedbkpaaGreatDoorXRowK6
import Derived.Test.YtbkilngeedbkpaaGreatDoorXMxX
import Derived.Test.YtbkilngeedbkpaaGreatDoorXMxAD
import Derived.Test.YtbkilngeedbkpaaGreatDoorXMxK
import Derived.Lib.SlTrimSet
namespace Go.Mx
open Instr Builtin RowKit
noncomputable section
variable {P : Program} {ρ : Ren} {h : T O} {nx : Nat} {w : World} {ng : Nat}
def slM (v : V) (n sz : Nat) (k : Nat → Bool) : Bool := V.rec (motive := fun _ => Bool) (false) (fun _ _ _ _ => false) (fun _ => false) (fun _ _ => false) (fun _ => false) (fun _ _ => false) (false) (fun id off len sz' => ite1 (Nat.beq off 0) <| ite1 (Nat.beq len n) <| ite1 (Nat.beq sz' sz) <| k id) (false) (false) (false) (fun _ => false) (false) (fun _ _ _ => false) (false) (fun _ _ _ => false) (false) (fun _ _ => false) (fun _ _ => false) (fun _ _ _ _ => false) (fun _ _ => false) (fun _ _ _ _ _ => false) (fun _ _ _ _ _ _ => false) v
theorem slM_spec {v : V} {n sz : Nat} {k : Nat → Bool} (hk : slM v n sz k = true) : ∃ id, v = .sl id 0 n sz ∧ k id = true := by
  cases v <;> first | exact Bool.noConfusion hk | skip
  case sl id off len sz' =>
    replace hk := ite1_spec (show ite1 (Nat.beq off 0) (ite1 (Nat.beq len n) <| ite1 (Nat.beq sz' sz) <| k id) = true from hk)
    obtain ⟨e1, hk⟩ := hk
    replace hk := ite1_spec hk
    obtain ⟨e2, hk⟩ := hk
    replace hk := ite1_spec hk
    obtain ⟨e3, hk⟩ := hk
    have e1 := beq_spec e1
    have e2 := beq_spec e2
    have e3 := beq_spec e3
    subst e1
    subst e2
    subst e3
    exact ⟨id, rfl, hk⟩
def freshK (n sz ty : Nat) (cs : V) : KV := fun v h1 _ => slM v n sz fun id => oC (gt O.none id h1) fun c ty1 wr => ite1 wr <| ite1 (Nat.beq ty1 ty) <| sameV c cs
def hkFresh (l : List (Nat × V)) (A cs : V) (n sz ty : Nat) (e : HookF) : HookF := fun args h nx K => Bool.rec (e args h nx K) (hasT l h <| stK O.none (.c cs ty true) nx h fun h' => K (.sl nx 0 n sz) h' (Nat.succ nx)) (sameV args A)
theorem hkFresh_ok {R : CK} (hR : CKok P ng R) {g : Nat} {l : List (Nat × V)} {A cs : V} {n sz ty : Nat} {e : HookF} (he : HookOk P ng g e) (hl : inT ng l = true) (hA : ∀ ρ ρ' vs, VRs ρ A vs → VRs ρ' A vs) (hcs : plainC cs = true)
    (hrun : ∀ τ : Nat → Nat, mkTK τ l .leaf (fun h0 => R g A h0 ng (freshK n sz ty cs) (fun _ _ _ => false)) = true) : HookOk P ng g (hkFresh l A cs n sz ty e) := by
  intro args h nx K Kp hk ρ w vs s hg hvs
  have hk0 : (Bool.rec (e args h nx K) (hasT l h <| stK O.none (.c cs ty true) nx h fun h' => K (.sl nx 0 n sz) h' (Nat.succ nx)) (sameV args A) : Bool) = true := hk
  clear hk
  cases eA : sameV args A with
  | false => rw [eA] at hk0; exact he args h nx K Kp hk0 ρ w vs s hg hvs
  | true =>
  rw [eA] at hk0
  have eA := sameV_eq eA
  subst eA
  obtain ⟨hk, htab⟩ := hasT_spec (show hasT l h (stK O.none (.c cs ty true) nx h fun h' => K (.sl nx 0 n sz) h' (Nat.succ nx)) = true from hk0)
  rw [stK_eq] at hk
  have nolive : ∀ i, ¬ (gt O.none i (putO [] (.leaf : T O))).live := fun i hi => by rw [show putO [] (.leaf : T O) = .leaf from rfl, gt_leaf] at hi; exact hi.elim
  obtain ⟨ρs, h0, _, hwr, _, _, _, up⟩ := smallRun hR (A := args) (vs := vs) (ob := []) (N := ng) hl s hg htab (ρb := fun _ => none) (Nat.le_refl _) (fun i L hi => by cases hi) (fun i hi => (nolive i hi).elim) (fun i L hi => (nolive i (O.live_of_wr hi)).elim) (hA _ _ _ hvs) hrun
  have nowr : ∀ i, ¬ (gt O.none i h0).wr := fun i hi => nolive i (O.live_of_wr (hwr i hi))
  intro o a next Q h1 _
  refine up o a next Q (fun ρ' v h1' n1 val w' hv' hs' hx hky => ?_) (fun ρ' y h' nx' v w' _ _ _ hky => Bool.noConfusion hky)
  unfold freshK at hky
  replace hky := slM_spec hky
  obtain ⟨id', rfl, hky⟩ := hky
  replace hky := oC_spec hky
  obtain ⟨c, ty1, wr1, ho3, hky⟩ := hky
  replace hky := ite1_spec hky
  obtain ⟨y1, hky⟩ := hky
  subst y1
  replace hky := ite1_spec hky
  obtain ⟨y1, hky⟩ := hky
  have y1 := beq_spec y1
  subst y1
  have hky := sameV_eq hky
  subst hky
  simp only [VR] at hv'
  obtain ⟨L', cap, hL', hcap, hfit, rfl⟩ := hv'
  obtain ⟨o3, ho3a, arr3, fz3, ho3b, p2, p3, p4, p5⟩ := hs'.relC ho3 hL'
  have w3 : (gt O.none id' h1').wr := asC_wr ho3
  obtain ⟨g1, g2⟩ := ro_back s hx nowr
  have kept : ∀ q, q < w.heap.size → L'.blk ≠ q := fun q hq => (hx.kept q hq fun i L1 hi _ => (nowr i hi).elim).2 id' L' w3 hL'
  let ρN : Ren := fun i => if i = nx then some L' else ρ i
  have rN : ρN nx = some L' := by simp [ρN]
  have rO : ∀ {i : Nat}, i ≠ nx → ρN i = ρ i := fun {i} hi => by simp only [ρN, hi, if_false]
  have hleN : Ren.le ρ ρN := fun i L1 e => by
    have : i ≠ nx := fun e2 => by rw [s.fresh i (by omega)] at e; cases e
    rw [rO this]
    exact e
  have hat : ∀ i, gt O.none i (st O.none (.c c ty1 true) nx h) = if i = nx then .c c ty1 true else gt O.none i h := fun i => by
    by_cases c1 : i = nx
    · subst c1; rw [gt_st_same, if_pos rfl]
    · rw [gt_st_ne _ _ (Ne.symm c1), if_neg c1]
  have old : ∀ {i : Nat} {L1 : Loc}, (gt O.none i h).live → ρ i = some L1 → L1.blk < w.heap.size := fun {i L1} hl1 hL1 => by
    obtain ⟨o5, g5, _⟩ := s.rel i L1 hl1 hL1
    exact (Array.getElem?_eq_some_iff.1 g5).1
  have live : ∀ {i : Nat}, (gt O.none i h).live → i ≠ nx := fun {i} hi e => s.dead i (by omega) hi
  refine h1 ρN _ _ (Nat.succ nx) _ w' ?_ ⟨fun i L1 hlv hL1 => ?_, fun i j' L1 M1 hi hj hL1 hM1 hb1 => ?_, fun i hi => ?_, fun i hi hl1 => ?_⟩ ⟨hleN, g2.size, g2.os, g2.tape, g2.output, fun q hq hw => ?_, fun i hi hn1 => ?_⟩ hk
  · simp only [VR]
    exact ⟨L', cap, rN, hcap, hfit, rfl⟩
  · rw [hat i] at hlv ⊢
    by_cases c1 : i = nx
    · subst c1
      rw [rN] at hL1
      have := Option.some.inj hL1
      subst this
      rw [if_pos rfl]
      exact ⟨o3, ho3a, arr3, fz3, ho3b, p2, p3, p4, plain_CR hcs p5⟩
    · rw [if_neg c1] at hlv ⊢
      rw [rO c1] at hL1
      obtain ⟨o5, g5, g6⟩ := g1.rel i L1 hlv hL1
      exact ⟨o5, g5, g6.mono hleN⟩
  · rw [hat i] at hi
    rw [hat j'] at hj
    by_cases c1 : i = nx
    · subst c1
      by_cases c2 : j' = i
      · exact c2.symm
      · rw [if_neg c2] at hj
        rw [rO c2] at hM1
        rw [rN] at hL1
        have := Option.some.inj hL1
        subst this
        exact absurd hb1 (kept _ (old hj hM1))
    · rw [if_neg c1] at hi
      rw [rO c1] at hL1
      by_cases c2 : j' = nx
      · subst c2
        rw [rN] at hM1
        have := Option.some.inj hM1
        subst this
        exact absurd hb1.symm (kept _ (old (O.live_of_wr hi) hL1))
      · rw [if_neg c2] at hj
        rw [rO c2] at hM1
        exact s.inj i j' L1 M1 hi hj hL1 hM1 hb1
  · have hi : nx + 1 ≤ i := hi
    rw [rO (by omega)]
    exact s.fresh i (by omega)
  · have hi : nx + 1 ≤ i := hi
    rw [hat i, if_neg (by omega)] at hl1
    exact s.dead i (by omega) hl1
  · obtain ⟨k1, k2⟩ := g2.kept q hq hw
    refine ⟨k1, fun i L1 hi hL1 => ?_⟩
    rw [hat i] at hi
    by_cases c1 : i = nx
    · subst c1
      rw [rN] at hL1
      have := Option.some.inj hL1
      subst this
      exact kept q hq
    · rw [if_neg c1] at hi
      rw [rO c1] at hL1
      exact k2 i L1 hi hL1
  · have c1 : i ≠ nx := live hi
    rw [hat i, if_neg c1, rO c1]
    exact ⟨hn1, rfl⟩
end
end Go.Mx
namespace Go.Mx
noncomputable section
variable {P : Program}
end
end Go.Mx
namespace Go.Mx
open Instr Builtin RowKit
noncomputable section
variable {P : Program} {ρ : Ren} {h : T O} {nx : Nat} {w : World} {ng : Nat}
end
end Go.Mx
namespace Go.Mx
open Instr Builtin RowKit
noncomputable section
variable {P : Program} {ρ : Ren} {h : T O} {nx : Nat} {w : World} {ng : Nat}
end
end Go.Mx
