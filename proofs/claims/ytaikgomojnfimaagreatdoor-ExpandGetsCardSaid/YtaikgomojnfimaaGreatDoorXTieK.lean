/-
  A part of a small executor of the model, proved sound (29 of 30). No condition.
-/
import Derived.LaidByTextLater
import Derived.Lay
import Derived.KernelRfl
namespace Go.Mx
noncomputable section
def rowsP : List (Nat × Nat) → List MemPlace
  | [] => []
  | p :: r => MemPlace.row ⟨p.1, 0, none⟩ p.2 ++ rowsP r
theorem mem_rowsP {x : MemPlace} : ∀ {l : List (Nat × Nat)}, x ∈ rowsP l → x.block ∈ l.map (·.1)
  | [], h => by cases h
  | p :: r, h => by
    rcases List.mem_append.1 h with h | h
    · obtain ⟨i, _, rfl⟩ := MemPlace.mem_row.1 h
      simp [MemPlace.block]
    · exact List.mem_cons_of_mem _ (mem_rowsP h)
theorem rowsP_nodup : ∀ {l : List (Nat × Nat)}, (l.map (·.1)).Nodup → (rowsP l).Nodup
  | [], _ => List.nodup_nil
  | p :: r, h => by
    obtain ⟨h1, h2⟩ := List.nodup_cons.1 h
    refine List.nodup_append.2 ⟨rowP_nodup _ _, rowsP_nodup h2, fun x hx y hy e => ?_⟩
    subst e
    obtain ⟨i, _, rfl⟩ := MemPlace.mem_row.1 hx
    exact h1 (by simpa [MemPlace.block] using mem_rowsP hy)
theorem laid_by_places {P : Program} {w : World} {fuel : Nat} {names : List String} {l : List (Nat × Nat)} (hp : (DataW.laidRun P w fuel names).map (·.2) = some (rowsP l)) (hn : (l.map (·.1)).Nodup)
    (hr : laidRowsB P w (rowsP l) = true) : (DataW.laidRun P w fuel names).map (fun x => decide x.2.Nodup && laidRowsB P w x.2) = some true := by
  cases h : DataW.laidRun P w fuel names with
  | none => rw [h] at hp; cases hp
  | some x =>
    rw [h] at hp
    have e : x.2 = rowsP l := Option.some.inj hp
    simp only [Option.map_some, e, hr, decide_eq_true (rowsP_nodup hn), Bool.and_self]
end
end Go.Mx
