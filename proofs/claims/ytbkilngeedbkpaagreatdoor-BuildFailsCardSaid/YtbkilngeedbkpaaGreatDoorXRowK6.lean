/-
  A part of a small executor of the model, proved sound (20 of 33). No condition.
-/
import Derived.Test.YtbkilngeedbkpaaGreatDoorXMxG
import Derived.OpenShut
import Derived.LaidMore
import Derived.ProofKit
import Derived.Stop.Joined
import Derived.WideShapes
import Derived.Carry
import Derived.Test.YtbkilngeedbkpaaGreatDoorXMxQ
import Derived.ChangeSlices
import Derived.SliceStrings
namespace Go.Mx
noncomputable section
def tabV (k : IntKind) : List Int → V
  | [] => .nil
  | n :: r => .cons (.i k n) (tabV k r)
theorem CR_tabV (ρ : Ren) (k : IntKind) : ∀ l : List Int, CR ρ (tabV k l) (l.map fun n => Value.int k n)
  | [] => by simp [tabV, CR]
  | n :: r => by
    simp only [tabV, CR, List.map_cons]
    exact ⟨_, _, rfl, by simp [VR], CR_tabV ρ k r⟩
theorem ints_of_trod {P : Program} {w : World} {base : Nat} {sp : Nat → Bool} {held : Bool} {fuel t e n : Nat} {k : IntKind} {cs : List Value} {p : List MemPlace} {l : List Int}
    (ht : P.underlying t = some (.array n e)) (he : P.underlying e = some (.int k)) (hc : P.cellsOf e = 1) (hct : P.cellsOf t = n)
    (h : DataW.trod (fun _ => ()) P w base sp held fuel t cs = some (.agg (l.map fun x => .lit (.int k x)), p)) : cs = l.map fun x => Value.int k x := by
  obtain ⟨xs, m, _, hx, hlen, hn, hel⟩ := DataW.trod_array ht h
  simp only [Prod.mk.injEq, DataW.agg.injEq] at hx
  have hl : l.length = n := by
    have := congrArg List.length hx.1
    simpa [hn] using this
  rw [hct] at hlen
  apply List.ext_getElem?
  intro i
  by_cases hi : i < n
  · have h1 := hel i hi
    rw [hc, Nat.mul_one] at h1
    have hxi : xs[i]? = some xs[i] := List.getElem?_eq_getElem (by omega)
    rw [hxi] at h1
    obtain ⟨z, hz1, hz2, _⟩ := DataW.trod_int he h1
    have e1 : cs[i]? = some (.int k z) := by
      have := congrArg (·[0]?) hz1
      simpa [List.getElem?_take, List.getElem?_drop] using this
    have e2 : (l.map fun x => (DataW.lit (.int k x) : DataW Unit))[i]? = some (DataW.lit (.int k z)) := by
      rw [hx.1, List.getElem?_map, hxi, hz2]
      rfl
    rw [List.getElem?_map] at e2 ⊢
    rw [e1]
    cases hli : l[i]? with
    | none => rw [hli] at e2; cases e2
    | some y =>
      rw [hli] at e2
      simp only [Option.map_some, Option.some.injEq, DataW.lit.injEq, Lit.int.injEq] at e2
      simp [e2.2]
  · rw [List.getElem?_eq_none (by omega), List.getElem?_eq_none (by simp; omega)]
theorem table_of_laidVars {P : Program} {w : World} {name : String} {g t e n : Nat} {k : IntKind} {l : List Int} (hg : P.globalNamed name = some g) (hgt : (P.globals[g]?).map (·.type) = some t)
    (ht : P.underlying t = some (.array n e)) (he : P.underlying e = some (.int k)) (hc : P.cellsOf e = 1) (hct : P.cellsOf t = n) (hpos : 0 < n) :
    ∀ {L : List (String × DataW Unit)} {ps : List MemPlace}, DataW.LaidVars P w L ps → (name, DataW.agg (l.map fun x => .lit (.int k x))) ∈ L →
      (∀ b off, MemPlace.cell b off ∈ ps → ∃ c u, w.heap[b]? = some (.cells c u (0, 0))) → ∃ arr ty, w.heap[g]? = some (.cells arr ty (0, 0)) ∧ arr.toList = l.map fun x => Value.int k x
  | [], _, _, hm, _ => by cases hm
  | (nm, d) :: r, ps, h, hm, hb => by
    obtain ⟨g', t', cs, fuel, p, q, h1, h2, h3, h4, h5, rfl⟩ := h
    rcases List.mem_cons.1 hm with e1 | hm'
    · cases e1
      obtain rfl := Option.some.inj (hg.symm.trans h1)
      obtain rfl := Option.some.inj (hgt.symm.trans h2)
      have hcs := ints_of_trod ht he hc hct h4
      have hsz : 0 < cs.size := by
        obtain ⟨xs, m, _, _, hlen, _, _⟩ := DataW.trod_array ht h4
        rw [hct] at hlen
        have : cs.size = n := by simpa using hlen
        omega
      obtain ⟨c, u, hh⟩ := hb g 0 (by
        refine List.mem_append_left _ (List.mem_append_left _ ?_)
        simp only [MemPlace.row, List.mem_map, List.mem_range]
        exact ⟨0, hsz, by simp⟩)
      simp only [World.var?, hg, Option.bind_some, hh, Option.some.injEq] at h3
      subst h3
      exact ⟨_, _, hh, hcs⟩
    · exact table_of_laidVars hg hgt ht he hc hct hpos h5 hm' (fun b off hp => hb b off (List.mem_append_right _ hp))
theorem hasTable_of_laid {P : Program} {w : World} {name : String} {g t e n : Nat} {k : IntKind} {l : List Int} {L : List (String × DataW Unit)} (hL : laidMetH P L w) (hno : (L.all fun x => x.2.handleName?.isNone) = true)
    (hm : (name, DataW.agg (l.map fun x => .lit (.int k x))) ∈ L) (hg : P.globalNamed name = some g) (hgt : (P.globals[g]?).map (·.type) = some t)
    (ht : P.underlying t = some (.array n e)) (he : P.underlying e = some (.int k)) (hc : P.cellsOf e = 1) (hct : P.cellsOf t = n) (hpos : 0 < n) :
    HasTables [(g, tabV k l)] w := by
  rw [MakeChecks.laidMetH_plain _ _ _ hno] at hL
  obtain ⟨ps, h1, _, h3⟩ := hL
  obtain ⟨arr, ty, a1, a2⟩ := table_of_laidVars hg hgt ht he hc hct hpos h1 hm (fun b off hp => (h3 b off hp).1)
  intro p hp
  obtain rfl := List.mem_singleton.1 hp
  exact ⟨arr, ty, a1, by rw [a2]; exact CR_tabV _ _ _⟩
theorem Stays.keptBut {W W' : World} (h : Stays W W') (may : MemPlace → Prop) : W.keptBut W' may := by
  refine ⟨h.os, h.output, fun i hi => ?_⟩
  rw [h.heap i hi]
  have := World.keptBut_refl W may
  exact this.2.2 i hi
end
end Go.Mx
namespace Go.Mx
open Go.ChangeShapes Go.WideShapes Go.RowKit
noncomputable section
end
end Go.Mx
namespace Go.Mx
open Go.ChangeShapes Go.WideShapes Go.RowKit
noncomputable section
end
end Go.Mx
namespace Go.Mx
open Go.ChangeShapes Go.WideShapes Go.RowKit
noncomputable section
end
end Go.Mx
namespace Go.Mx
open Go.ChangeShapes Go.WideShapes Go.RowKit
noncomputable section
end
end Go.Mx
namespace Go.Mx
noncomputable section
variable {ρ : Ren}
end
end Go.Mx
