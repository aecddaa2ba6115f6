/-
  A part of a small executor of the model, proved sound (Mx12 of 46). No condition.
-/
import Derived.Test.YtmplmfieipckjaaGreatDoorXMx11
namespace Go.Mx
open Instr
noncomputable section
variable {P : Program} {ρ : Ren} {h : T O} {nx : Nat} {w : World}
theorem foldl_put (off : Nat) : ∀ (vs : List Value) (k : Nat) (arr : Array Value), off + k + vs.length ≤ arr.size →
    ((vs.zipIdx k).foldl (fun cs (x : Value × Nat) => cs.setIfInBounds (off + x.2) x.1) arr).toList = lput arr.toList (off + k) vs := by
  intro vs
  induction vs with
  | nil => intro k arr _; simp [lput]
  | cons v vs ih =>
    intro k arr hl
    simp only [List.length_cons] at hl
    rw [List.zipIdx_cons, List.foldl_cons, ih (k + 1) _ (by simp; omega)]
    have e := list_seg_step arr.toList (off + k) v vs (by simp; omega)
    simpa [lput, Array.toList_setIfInBounds, Nat.add_assoc] using e
inductive PsR (ρ : Ren) : List (Nat × V) → List (Nat × Value) → Prop
  | nil : PsR ρ [] []
  | cons {i : Nat} {x : V} {v : Value} {l : List (Nat × V)} {l' : List (Nat × Value)} (hv : VR ρ x v) (hl : PsR ρ l l') : PsR ρ ((i, x) :: l) ((i, v) :: l')
theorem fillK_sound {place : Nat → Nat × Nat} {place' : Nat → Option (Nat × Nat)} (hp : ∀ i o s, place i = (o, s + 1) → place' i = some (o, s)) :
    ∀ {ps : List (Nat × V)} {vs : List (Nat × Value)} {c : V} {k : V → Bool} {cells : Array Value}, fillK place ps c k = true → PsR ρ ps vs → VRs ρ c cells.toList →
      ∃ c' cells', k c' = true ∧ VRs ρ c' cells'.toList ∧ fill place' cells vs = some cells' ∧ cells'.size = cells.size := by
  intro ps
  induction ps with
  | nil =>
    intro vs c k cells hk hr hc
    cases hr
    exact ⟨c, cells, hk, hc, rfl, rfl⟩
  | cons p ps ih =>
    intro vs c k cells hk hr hc
    cases hr with
    | @cons i x v _ l' hv hl =>
      obtain ⟨cv, hk2, hcv⟩ := cellsK_spec (show cellsK x (fun new => lenK new 0 fun n => ite1 (Nat.beq (place i).2 (Nat.succ n)) <| putK c (place i).1 new fun c' => fillK place ps c' k) = true from hk)
      have hcv := hcv ρ v hv
      obtain ⟨n, hk3, hn, _⟩ := lenK_spec hk2 (VRs_isC hcv)
      rw [Nat.zero_add] at hk3
      obtain ⟨e, hk4⟩ := ite1_spec hk3
      have e := beq_spec e
      obtain ⟨c', hk5, hc', hput, hfull⟩ := putK_spec hk4 (VRs_isC hc) (VRs_isC hcv)
      obtain ⟨h1, h2, h3⟩ := hput ρ _ _ hc.CR' hcv
      have h4 := hfull ρ _ _ hc hcv
      have hlen := hn ρ _ hcv
      have hpl := hp i (place i).1 n (by rw [show n + 1 = n.succ from rfl, ← e])
      have hsz : v.cells.toList.length = v.cells.size := by simp
      have hsz2 : cells.toList.length = cells.size := by simp
      have hft := foldl_put (place i).1 v.cells.toList 0 cells (by omega)
      obtain ⟨c2, cells2, g1, g2, g3, g4⟩ := ih (cells := (lput cells.toList (place i).1 v.cells.toList).toArray) hk5 hl (by simpa using h4)
      refine ⟨c2, cells2, g1, g2, ?_, by rw [g4, List.size_toArray, lput_length _ _ _ h2, hsz2]⟩
      simp only [fill, hpl]
      have hz1 : v.cells.size = n := by omega
      have hz2 : ¬ ((place i).1 + v.cells.size > cells.size) := by omega
      have hb : ¬ ((decide (v.cells.size ≠ n) || decide ((place i).1 + v.cells.size > cells.size)) = true) := by
        rw [Bool.or_eq_true]
        rintro (h | h)
        · exact (of_decide_eq_true h) hz1
        · exact hz2 (of_decide_eq_true h)
      rw [if_neg hb]
      rw [← g3]
      congr 1
      apply Array.ext'
      rw [Nat.add_zero] at hft
      show _ = lput cells.toList (place i).1 v.cells.toList
      rw [← hft, ← Array.foldl_toList]
      simp
theorem opBuild_sound {t : TypeId} {ps : List (Nat × V)} {vs : Array (Nat × Value)} {K : V → Bool} (hk : opBuild P t ps K = true) (hr : PsR ρ ps vs.toList) :
    ∃ y r, K y = true ∧ VR ρ y r ∧ (Instr.build t vs).run P w = .ok r w := by
  obtain ⟨hb, hk⟩ := ite1_spec hk
  cases hz : zeroC P t with
  | none => rw [hz] at hk; exact Bool.noConfusion hk
  | some c =>
    rw [hz] at hk
    unfold bltOk at hb
    cases hpl : places P t with
    | none => rw [hpl] at hb; simp at hb
    | some f =>
      have hzv : ∃ it z, P.info? t = some it ∧ it.zero = some z ∧ VRs ρ c z.cells.toList := by
        unfold zeroC at hz
        cases hi : P.info? t with
        | none => rw [hi] at hz; simp at hz
        | some it =>
          cases hzz : it.zero with
          | none => rw [hi] at hz; simp [hzz] at hz
          | some z =>
            obtain ⟨v, hv1, hv2⟩ := zeroC_spec (P := P) (t := t) (c := c) (by unfold zeroC; exact hz)
            refine ⟨it, z, rfl, hzz, ?_⟩
            have := hv1 default
            simp [zeroValue, run_info hi, hzz] at this
            rw [this]
            exact hv2 ρ
      obtain ⟨it, z, hi, hzz, hvz⟩ := hzv
      obtain ⟨c', cells', h1, h2, h3, _⟩ := fillK_sound (place := placeB P t) (place' := f) (fun i o s hp => by
        unfold placeB at hp
        rw [hpl] at hp
        cases hfi : f i with
        | none => simp [hfi] at hp
        | some q =>
          obtain ⟨o', s'⟩ := q
          simp [hfi] at hp
          obtain ⟨rfl, rfl⟩ := hp
          rfl) (cells := z.cells) hk hr hvz
      refine ⟨.a c', .agg cells', h1, by simp only [VR]; exact ⟨_, h2, rfl⟩, ?_⟩
      refine run_build w t vs cells' ?_
      unfold Program.built
      unfold places at hpl
      cases hu : P.underlying t with
      | none => rw [hu] at hpl; simp at hpl
      | some d =>
        rw [hu] at hpl
        cases d <;> simp at hpl
        case struct fs =>
          simp only [hi, hzz]
          cases hm : fs.toList.mapM (fun f => (P.info? f.type).map fun i => (f.offset, i.size)) with
          | none => rw [hm] at hpl; simp at hpl
          | some l =>
            rw [hm] at hpl
            simp at hpl
            subst hpl
            simpa using h3
        case array n e =>
          cases hie : P.info? e with
          | none => rw [hie] at hpl; simp at hpl
          | some ie =>
            rw [hie] at hpl
            simp at hpl
            subst hpl
            simp only [hi, hzz, hie]
            exact h3
end
end Go.Mx
