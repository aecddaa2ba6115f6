/-
  A part of a small executor of the model, proved sound (28 of 28). No condition.
-/
import Derived.JoinedOf
import Derived.KernelRfl
import Derived.LaidByTextLater
import Derived.Lay
import GoSem.ClaimGoes
namespace Go.Mx
noncomputable section
def closM (T : List (List Nat)) (n : Nat) : List Nat → Nat → List Nat → List Nat :=
  Nat.rec (motive := fun _ => List Nat → Nat → List Nat → List Nat) (fun _ _ acc => acc.reverse)
    (fun _ ih todo m acc => List.rec (motive := fun _ => List Nat) acc.reverse
      (fun f todo' _ => Bool.rec (motive := fun _ => List Nat) (ih ((T.getD f []) ++ todo') (Nat.lor m (Nat.shiftLeft 1 f)) (f :: acc)) (ih todo' m acc) (Nat.beq (Nat.land (Nat.shiftRight m f) 1) 1)) todo) n
theorem bit_iff (m f : Nat) : Nat.beq (Nat.land (Nat.shiftRight m f) 1) 1 = m.testBit f := by
  have h : Nat.land (Nat.shiftRight m f) 1 = (m >>> f) &&& 1 := rfl
  rw [h, Nat.and_one_is_mod, Nat.testBit_eq_decide_div_mod_eq, Nat.shiftRight_eq_div_pow]
  rcases Nat.mod_two_eq_zero_or_one (m / 2 ^ f) with e | e <;> rw [e] <;> rfl
theorem bit_set (m f g : Nat) : (Nat.lor m (Nat.shiftLeft 1 f)).testBit g = (m.testBit g || decide (f = g)) := by
  have h : Nat.lor m (Nat.shiftLeft 1 f) = m ||| (1 <<< f) := rfl
  rw [h, Nat.testBit_or, Nat.one_shiftLeft, Nat.testBit_two_pow]
theorem closM_eq (P : Program) {T : List (List Nat)} (hT : P.funcs.toList.map P.leadsTo = T) : ∀ (n : Nat) (todo seen : List Nat) (m : Nat), (∀ g, m.testBit g = seen.contains g) →
    closM T n todo m seen = P.closureVia n todo seen := by
  intro n
  induction n with
  | zero => intro todo seen m _; cases todo <;> rfl
  | succ n ih =>
    intro todo seen m hm
    cases todo with
    | nil => rfl
    | cons f todo =>
      show Bool.rec (motive := fun _ => List Nat) (closM T n ((T.getD f []) ++ todo) (Nat.lor m (Nat.shiftLeft 1 f)) (f :: seen)) (closM T n todo m seen) (Nat.beq (Nat.land (Nat.shiftRight m f) 1) 1) = _
      rw [bit_iff, hm f]
      unfold Program.closureVia
      cases hc : seen.contains f with
      | true => simpa using ih todo seen m hm
      | false =>
        simp only [Bool.false_eq_true, if_false]
        rw [ih]
        · congr 2
          rw [← hT, List.getD_eq_getElem?_getD, List.getElem?_map, Array.getElem?_toList]
          cases P.funcs[f]? <;> rfl
        · intro g
          rw [bit_set, hm g, List.contains_cons, Bool.or_comm]
          congr 1
          by_cases e : f = g
          · subst e; simp
          · have e' : ¬ g = f := fun x => e x.symm
            simp [e, e']
def closT (T : List (List Nat)) (f : Nat) : List Nat := closM T (1 + (T.map fun l => l.length + 1).sum) [f] 0 []
theorem closure_by_table (P : Program) {T : List (List Nat)} (hT : P.funcs.toList.map P.leadsTo = T) {f : Nat} {L : List Nat} (h : closT T f = L) : P.closure f = L := by
  rw [← h]
  unfold closT
  rw [closM_eq P hT _ _ _ _ (by intro g; simp)]
  unfold Program.closure
  congr 2
  rw [← hT, List.map_map]
  rfl
theorem map_parts {α β : Type} {g : α → β} {l : List α} {M : List β} (k : Nat) (h1 : (l.take k).map g = M.take k) (h2 : (l.drop k).map g = M.drop k) : l.map g = M := by
  rw [← List.take_append_drop k l, List.map_append, h1, h2, List.take_append_drop]
def dropP {α : Type} (k : Nat) (l : List α) (n : Nat) : List α := Nat.rec (motive := fun _ => List α) l (fun _ d => d.drop k) n
def flagAt (fn : Func) : Bool := fn.ours || fn.body.isNone || fn.name == "runtime.NumGoroutine"
def bareAt (fn : Func) : Bool := fn.body.isNone
def globsAt (fn : Func) : List Nat := fn.body.elim [] Code.globalsNamed
theorem filter_table {β : Type} (P : Program) (p : Func → Bool) (q : Func → Option β) {B : List Bool} (hB : P.funcs.toList.map p = B) (L : List Nat) :
    (L.filterMap fun i => (P.funcs[i]?).bind fun fn => if p fn then q fn else none) = (L.filter fun i => B.getD i false).filterMap fun i => (P.funcs[i]?).bind q := by
  rw [List.filterMap_filter]
  congr 1
  funext i
  rw [← hB, List.getD_eq_getElem?_getD, List.getElem?_map, Array.getElem?_toList]
  cases P.funcs[i]? <;> rfl
theorem inPlace_by_table (P : Program) {f : Nat} {L : List Nat} (hL : P.closure f = L) {B : List Bool} (hB : P.funcs.toList.map flagAt = B) {R : List String}
    (h : ((L.filter fun i => B.getD i false).filterMap fun i => (P.funcs[i]?).bind fun fn => some fn.name) = R) : P.inPlace f = R := by
  rw [← h, ← filter_table P flagAt _ hB]
  unfold Program.inPlace
  rw [hL]
  rfl
theorem flatMap_table (P : Program) {G : List (List Nat)} (hG : P.funcs.toList.map globsAt = G) (L : List Nat) :
    (L.flatMap fun g => ((P.funcs[g]?).bind (·.body)).elim [] Code.globalsNamed) = L.flatMap fun i => G.getD i [] := by
  congr 1
  funext i
  rw [← hG, List.getD_eq_getElem?_getD, List.getElem?_map, Array.getElem?_toList]
  cases P.funcs[i]? <;> rfl
theorem varsNamed_by_table (P : Program) {f : Nat} {L : List Nat} (hL : P.closure f = L) {G : List (List Nat)} (hG : P.funcs.toList.map globsAt = G) {B : List Bool} (hB : P.funcs.toList.map bareAt = B)
    {R : List String} (h : (((L.flatMap fun i => G.getD i []).eraseDups).filterMap (fun g => (P.globals[g]?).map (·.name)) ++ (L.filter fun i => B.getD i false).filterMap fun i => (P.funcs[i]?).bind fun fn => entryReads.lookup fn.name).eraseDups = R) : P.varsNamed f = R := by
  unfold Program.varsNamed
  rw [hL, ← h, flatMap_table P hG, ← filter_table P bareAt _ hB]
  rfl
theorem unfollowed_by_table (P : Program) {f : Nat} {L : List Nat} (hL : P.closure f = L) {g : Nat} (hg : L.contains g = true) {fn : Func} (hf : P.funcs[g]? = some fn) {c : Code} (hb : fn.body = some c) (hu : c.unfollowed = true) : P.unfollowed f = true := by
  unfold Program.unfollowed
  rw [hL, List.any_eq_true]
  exact ⟨g, List.contains_iff_mem.1 hg, by rw [hf]; simp [hb, hu]⟩
end
end Go.Mx
namespace Go.Mx
noncomputable section
def rowsP : List (Nat × Nat) → List MemPlace
  | [] => []
  | p :: r => MemPlace.row ⟨p.1, 0, none⟩ p.2 ++ rowsP r
theorem mem_rowsP {x : MemPlace} : ∀ {l : List (Nat × Nat)}, x ∈ rowsP l → x.block ∈ l.map (·.1)
  | [], h => by cases h
  | p :: r, h => by
    rcases List.mem_append.1 h with h | h
    · obtain ⟨i, _, rfl⟩ := MemPlace.mem_row.1 h
      simp [MemPlace.block]
    · exact List.mem_cons_of_mem _ (mem_rowsP h)
theorem rowsP_nodup : ∀ {l : List (Nat × Nat)}, (l.map (·.1)).Nodup → (rowsP l).Nodup
  | [], _ => List.nodup_nil
  | p :: r, h => by
    obtain ⟨h1, h2⟩ := List.nodup_cons.1 h
    refine List.nodup_append.2 ⟨rowP_nodup _ _, rowsP_nodup h2, fun x hx y hy e => ?_⟩
    subst e
    obtain ⟨i, _, rfl⟩ := MemPlace.mem_row.1 hx
    exact h1 (by simpa [MemPlace.block] using mem_rowsP hy)
theorem laid_by_places {P : Program} {w : World} {fuel : Nat} {names : List String} {l : List (Nat × Nat)} (hp : (DataW.laidRun P w fuel names).map (·.2) = some (rowsP l)) (hn : (l.map (·.1)).Nodup)
    (hr : laidRowsB P w (rowsP l) = true) : (DataW.laidRun P w fuel names).map (fun x => decide x.2.Nodup && laidRowsB P w x.2) = some true := by
  cases h : DataW.laidRun P w fuel names with
  | none => rw [h] at hp; cases hp
  | some x =>
    rw [h] at hp
    have e : x.2 = rowsP l := Option.some.inj hp
    simp only [Option.map_some, e, hr, decide_eq_true (rowsP_nodup hn), Bool.and_self]
end
end Go.Mx
namespace Go.Mx
noncomputable section
theorem all_parts {α : Type} {p : α → Bool} {l : List α} (k : Nat) (h1 : (l.take k).all p = true) (h2 : (l.drop k).all p = true) : l.all p = true := by
  rw [← List.take_append_drop k l, List.all_append, h1, h2]
  rfl
theorem goes_none {P : Program} (h : P.funcs.toList.all (fun fn => !fn.goes) = true) (f : FuncId) : P.goes f = false := by
  have hm : ∀ fn ∈ P.funcs.toList, fn.goes = false := fun fn hf => by simpa using List.all_eq_true.1 h fn hf
  have h1 : ((P.closure f).any fun g => (P.funcs[g]?).any Func.goes) = false := by
    rw [List.any_eq_false]
    intro g _
    cases e : P.funcs[g]? with
    | none => simp
    | some fn =>
      have := hm fn (by rw [Array.mem_toList_iff]; exact Array.mem_of_getElem? e)
      simp [this]
  have h2 : P.funcs.any Func.goes = false := by
    rw [← Array.any_toList, List.any_eq_false]
    intro fn hf
    simp [hm fn hf]
  unfold Program.goes
  rw [h1, h2]
  simp
theorem goesBy_none {P : Program} (h : P.funcs.toList.all (fun fn => !fn.goes) = true) {c : OpenClaim} (hs : c.start = .entering) : false = c.goesBy P := by
  unfold OpenClaim.goesBy Program.goesAt Program.goesFrom
  rw [hs]
  cases P.funcNamed c.func with
  | none => rfl
  | some f => simp [goes_none h f]
end
end Go.Mx
