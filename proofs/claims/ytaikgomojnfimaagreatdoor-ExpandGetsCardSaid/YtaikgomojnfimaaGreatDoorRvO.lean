/-
  Appends to a row of pairs.
-/
import Derived.Test.YtaikgomojnfimaaGreatDoorRvX
import Derived.BigQuiet
import Derived.Deep.QuietTactic
import Derived.Deep.RegionLaw
import Derived.Deep.RegionWith
import Derived.Deep.RegionHeld3
import Derived.RegionTactic
import Derived.WalkKit
import Derived.WalkSpells
import Derived.StillTactics
import Derived.LoopIn
import Derived.RowKit3
import Derived.Below
import Derived.OwnWalk
import Derived.KernelRfl
open Go Go.Mx Go.RowKit
namespace Go.Proofs.YtaikgomojnfimaaGreatDoor
set_option maxRecDepth 100000
noncomputable section
/-! appends to a row of pairs -/
theorem less_irr (l : List UInt8) : Op.bytesLess l l = false := by
  induction l with
  | nil => rfl
  | cons x l ih => simp [Op.bytesLess, ih]
def cellsP (xs : ML) : List Value := xs.flatMap fun x => [.string x.1, .string x.2]
theorem cellsP_len (xs : ML) : (cellsP xs).length = xs.length * 2 := by
  induction xs with
  | nil => rfl
  | cons x xs ih => simp only [cellsP, List.flatMap_cons, List.length_append, List.length_cons, List.length_nil] at ih ⊢; omega
theorem cellsP_app (a b : ML) : cellsP (a ++ b) = cellsP a ++ cellsP b := by simp [cellsP]
theorem cellsP_at : ∀ {xs : ML} {i : Nat} (h : i < xs.length), (cellsP xs)[i * 2]? = some (.string xs[i].1) ∧ (cellsP xs)[i * 2 + 1]? = some (.string xs[i].2)
  | [], _, h => absurd h (Nat.not_lt_zero _)
  | x :: xs, 0, _ => ⟨rfl, rfl⟩
  | x :: xs, i + 1, h => by
    have ih := cellsP_at (xs := xs) (i := i) (by simpa using h)
    have e : cellsP (x :: xs) = .string x.1 :: .string x.2 :: cellsP xs := rfl
    rw [e, show (i + 1) * 2 = i * 2 + 1 + 1 by omega, show i * 2 + 1 + 1 + 1 = (i * 2 + 1) + 1 + 1 by omega]
    simpa using ih
theorem pairs_cells {w : World} {g off : Nat} {L : ML} (h : ∀ i (h : i < L.length), w.cell? ⟨g, off + i * 2, none⟩ = some (.string L[i].1) ∧ w.cell? ⟨g, off + i * 2 + 1, none⟩ = some (.string L[i].2)) : ∀ j u, (cellsP L)[j]? = some u → w.cell? ((⟨g, off, none⟩ : Addr).add j) = some u := by
  intro j u hj
  have hjl : j < L.length * 2 := by
    have := (List.getElem?_eq_some_iff.1 hj).1
    rwa [cellsP_len] at this
  obtain ⟨i, hi | hi⟩ : ∃ i, j = i * 2 ∨ j = i * 2 + 1 := ⟨j / 2, by omega⟩
  · subst hi
    have hil : i < L.length := by omega
    rw [Addr.add_lit, (h i hil).1, ← (cellsP_at hil).1, hj]
  · subst hi
    have hil : i < L.length := by omega
    rw [Addr.add_lit, show off + (i * 2 + 1) = off + i * 2 + 1 by omega, (h i hil).2, ← (cellsP_at hil).2, hj]
theorem own_pairs {B : Nat} {w : World} {v : Value} {L : ML} (h : w.ownsRow B 49 2 v L.length (cellsP L)) : ∃ o c, v = .slice o L.length c ∧ PairsAt w o L ∧ L.length ≤ c := by
  rcases h.2 with ⟨e, e2⟩ | ⟨g, c, cur, rfl, r1, r2, r3, _⟩
  · exact ⟨none, 0, by rw [e, e2], .inl (List.eq_nil_of_length_eq_zero e2), by omega⟩
  · refine ⟨_, c, rfl, .inr ⟨g, 0, rfl, (Array.getElem?_eq_some_iff.1 r2).1, fun i hi => ?_⟩, r3⟩
    have h1 := h.cells (g := g) rfl (i * 2) _ (cellsP_at hi).1
    have h2 := h.cells (g := g) rfl (i * 2 + 1) _ (cellsP_at hi).2
    rw [Addr.add_lit] at h1 h2
    exact ⟨h1, by rw [show 0 + i * 2 + 1 = 0 + (i * 2 + 1) by omega]; exact h2⟩
theorem pr_info : (Tryz.prog.info? 49).map (fun i => (i.zero, i.size, i.bytes)) = some (some (.agg #[.string ⟨#[]⟩, .string ⟨#[]⟩]), 2, 32) := by kernel_rfl
theorem pr_ts : Tryz.prog.underlying 22 = some (.slice 49) := by kernel_rfl
theorem run_pairs_keep {w : World} {v : Value} {B n : Nat} {xs : List Value} (hown : w.ownsRow B 49 2 v n xs) (c : Nat) {ty : TypeId} : (Builtin.append_ #[22, 22] ty #[v, .slice none 0 c]).run Tryz.prog w = .ok v w := by
  obtain ⟨i0, hi, hz0, hz1, hz2⟩ := info_parts pr_info
  rcases hown.2 with ⟨rfl, rfl⟩ | ⟨g, cap, cur, rfl, _, _, h1, _⟩
  · simp [Builtin.append_, run_underlying pr_ts, sizeOf, typeInfo, hi, Builtin.lenOf, Builtin.firstCells]
  · simp [Builtin.append_, run_underlying pr_ts, sizeOf, typeInfo, hi, Builtin.lenOf, Builtin.firstCells, storeCells, h1]
theorem wp_append_pairs {o : Oper} {a : Act} {K : Act → World → Prop} {Q : Exit → Act → World → Prop} (s x : Operand) (ho : o.op = .call { callee := .builtin .append, args := #[s, x], argTypes := #[22, 22] })
    (w : World) (B : Nat) (v : Value) (xs : ML) (hs : a.eval s = v) (hown : w.ownsRow B 49 2 v xs.length (cellsP xs)) (L : ML) (n : Nat) (hn : L.length = n) (bo : Option Addr) (c : Nat) (hx : a.eval x = .slice bo n c) (hb : PairsAt w bo L) (hl : xs.length + n ≤ 1000000) (hB : B ≤ w.heap.size)
    (h : ∀ v' w', w'.ownsRow B 49 2 v' (xs ++ L).length (cellsP (xs ++ L)) → w.grownBy w' v.ownBlock → K (a.put o.dst v') w') : o.wp Tryz.prog a w K Q := by
  obtain ⟨i0, hi, hz0, hz1, hz2⟩ := info_parts pr_info
  have one : ∀ u ∈ cellsP L, u.oneCell' = true := by
    intro u hu
    obtain ⟨x, _, hx⟩ := List.mem_flatMap.1 hu
    rcases List.mem_cons.1 hx with rfl | hx
    · rfl
    · rcases List.mem_cons.1 hx with rfl | hx
      · rfl
      · cases hx
  have key : ∃ v' w', (Builtin.append_ #[22, 22] o.type #[v, .slice bo n c]).run Tryz.prog w = .ok v' w' ∧ w'.ownsRow B 49 2 v' (xs.length + n) (cellsP xs ++ cellsP L) ∧ w.grownBy w' v.ownBlock := by
    rcases hb with rfl | ⟨g, off, rfl, _, hc⟩
    · subst hn
      cases bo with
      | none => exact ⟨v, w, run_pairs_keep hown c, by simpa [cellsP] using hown, ⟨rfl, rfl, rfl, Nat.le_refl _, fun _ _ _ => rfl⟩⟩
      | some ad =>
        obtain ⟨v', w', e1, e2, e3, _⟩ := run_append_own (P := Tryz.prog) w B 22 o.type 49 i0 _ 2 32 pr_ts hi hz0 hz1 hz2 rfl (by decide) v xs.length _ hown ad 0 c [] rfl (by simp) (by simp) (by unfold maxLen; simp at hl; omega) (by simp at hl; omega) hB
        exact ⟨v', w', e1, e2, e3⟩
    · obtain ⟨v', w', e1, e2, e3, _⟩ := run_append_own (P := Tryz.prog) w B 22 o.type 49 i0 _ 2 32 pr_ts hi hz0 hz1 hz2 rfl (by decide) v xs.length _ hown ⟨g, off, none⟩ n c (cellsP L) (by rw [cellsP_len, hn]) (pairs_cells hc) one (by unfold maxLen; omega) (by omega) hB
      exact ⟨v', w', e1, e2, e3⟩
  obtain ⟨v', w', hr, e2, e3⟩ := key
  unfold Oper.wp execOp
  simp only [ho, resolve, invoke, builtin, Sem.run_bind, Sem.run_pure, Result.andThen_ok, List.map_toArray, List.map_cons, List.map_nil, hs, hx, hr]
  exact h v' w' (by rw [List.length_append, cellsP_app, hn]; exact e2) e3
theorem wpList_append_pairs {ops : Array Oper} {rest : List Oper} {o : Oper} {a : Act} {Q : Exit → Act → World → Prop} (hgd : o.guard = none) (s x : Operand) (ho : o.op = .call { callee := .builtin .append, args := #[s, x], argTypes := #[22, 22] })
    (w : World) (B : Nat) (v : Value) (xs : ML) (hs : a.eval s = v) (hown : w.ownsRow B 49 2 v xs.length (cellsP xs)) (L : ML) (n : Nat) (hn : L.length = n) (bo : Option Addr) (c : Nat) (hx : a.eval x = .slice bo n c) (hb : PairsAt w bo L) (hl : xs.length + n ≤ 1000000) (hB : B ≤ w.heap.size)
    (h : ∀ v' w', w'.ownsRow B 49 2 v' (xs ++ L).length (cellsP (xs ++ L)) → w.grownBy w' v.ownBlock → wpList Tryz.prog ops Q rest (a.put o.dst v') w') : wpList Tryz.prog ops Q (o :: rest) a w :=
  wpList_plain hgd fun _ hK => wp_append_pairs s x ho w B v xs hs hown L n hn bo c hx hb hl hB fun v' w' h1 h2 => hK _ _ (h v' w' h1 h2)
/-- a pair put among others -/
theorem look_app (A B : ML) (q : ByteArray) : look (A ++ B) q = match look A q with
    | some x => some x
    | none => look B q := by
  unfold look
  rw [List.find?_append]
  cases A.find? fun x => q == x.1 <;> rfl
theorem look_ins {L : ML} {key v : ByteArray} {k : Nat} (hno : ∀ j (h : j < L.length), j < k → (key == L[j].1) = false) (D : ML) (hD : D = L.drop k ∨ ∃ h : k < L.length, (key == L[k].1) = true ∧ D = L.drop (k + 1)) (q : ByteArray) : look ((L.take k ++ [(key, v)]) ++ D) q = if (q == key) = true then some v else look L q := by
  have hLk : look L q = match look (L.take k) q with
    | some x => some x
    | none => look (L.drop k) q := by
    rw [← look_app, List.take_append_drop]
  rw [look_app, look_app]
  by_cases hq : (q == key) = true
  · rw [if_pos hq]
    have e := ba_of hq
    subst e
    have h0 : look (L.take k) q = none := look_no fun j hj => by
      have hj2 : j < k ∧ j < L.length := by rw [List.length_take] at hj; omega
      rw [List.getElem_take]
      exact hno j hj2.2 hj2.1
    rw [h0]
    have h1 : look [(q, v)] q = some v := by simp [look, ba_refl]
    rw [h1]
  · rw [if_neg hq, hLk]
    have h1 : look [(key, v)] q = none := by
      have : (q == key) = false := by simpa using hq
      simp [look, this]
    cases look (L.take k) q with
    | some x => rfl
    | none =>
      rw [h1]
      rcases hD with rfl | ⟨hk, he, rfl⟩
      · rfl
      · show look (L.drop (k + 1)) q = look (L.drop k) q
        have e2 : L.drop k = L[k] :: L.drop (k + 1) := List.drop_eq_getElem_cons hk
        rw [e2]
        have e3 : (q == L[k].1) = false := by
          have := ba_of he
          rw [← this]
          simpa using hq
        unfold look
        simp only [List.find?, e3]
theorem PairsAt.take {w : World} {o : Option Addr} {L : ML} (h : PairsAt w o L) (k : Nat) : PairsAt w o (L.take k) := by
  rcases h with rfl | ⟨g, off, h1, h2, h3⟩
  · exact .inl (by simp)
  · refine .inr ⟨g, off, h1, h2, fun i hi => ?_⟩
    rw [List.length_take] at hi
    rw [List.getElem_take]
    exact h3 i (by omega)
theorem pairs_drop {w : World} {g off : Nat} {L : ML} (h : PairsAt w (some ⟨g, off, none⟩) L) (k : Nat) (o' : Nat) (ho : o' = off + k * 2 ∨ L.length ≤ k) : PairsAt w (some ⟨g, o', none⟩) (L.drop k) := by
  by_cases hk : L.length ≤ k
  · exact .inl (List.drop_eq_nil_of_le hk)
  · rcases h with rfl | ⟨g2, off2, h1, h2, h3⟩
    · exact .inl (by simp)
    · cases h1
      rcases ho with rfl | ho
      · refine .inr ⟨g, _, rfl, h2, fun i hi => ?_⟩
        rw [List.length_drop] at hi
        rw [List.getElem_drop]
        have := h3 (k + i) (by omega)
        rw [show off + k * 2 + i * 2 = off + (k + i) * 2 by omega]
        exact this
      · exact absurd ho hk
theorem own_pairs_alloc {B : Nat} {w : World} {v : Value} {n : Nat} {xs : List Value} (h : w.ownsRow B 49 2 v n xs) (ob : Obj) : (w.alloc ob).ownsRow B 49 2 v n xs := by
  refine ⟨h.1, ?_⟩
  rcases h.2 with hn | ⟨g, cap, cur, rfl, hb2, hg, rest⟩
  · exact .inl hn
  · exact .inr ⟨g, cap, cur, rfl, hb2, by rw [Go.heap_alloc_old _ _ (Array.getElem?_eq_some_iff.1 hg).1]; exact hg, rest⟩
theorem one_pair (w : World) (k v : ByteArray) : PairsAt (w.alloc (.cells #[.string k, .string v] 49)) (some ⟨w.heap.size, 0, none⟩) [(k, v)] := by
  refine .inr ⟨w.heap.size, 0, rfl, by simp, fun i hi => ?_⟩
  have : i = 0 := by simpa using hi
  subst this
  have h := heap_alloc_new w (.cells #[.string k, .string v] 49)
  exact ⟨by rw [cell_u h]; rfl, by rw [cell_u h]; rfl⟩
/-- what PutPair leaves -/
def PutSaid (w : World) (n : Nat) (L : ML) (key v : ByteArray) (e : Ending) (w' : World) : Prop := ∃ o' cap' L', e = .returned (.slice o' (List.length L') cap') ∧ PairsAt w' o' L' ∧ L'.length ≤ cap' ∧ (o' ≠ none) ∧ Below w.heap.size w w' ∧ (∀ q, look L' q = if (q == key) = true then some v else look L q) ∧ L'.length ≤ n + 1
theorem put_end {w w' : World} {B : Nat} {L : ML} {key v : ByteArray} {k tl : Nat} {x : Value} (hno : ∀ j (h : j < L.length), j < k → (key == L[j].1) = false) (hk : k ≤ L.length) (htl : tl = k ∨ (tl = k + 1 ∧ ∃ h : k < L.length, (key == L[k].1) = true)) (hb : Below w.heap.size w w') (hown : w'.ownsRow B 49 2 x ((L.take k ++ [(key, v)]) ++ L.drop tl).length (cellsP ((L.take k ++ [(key, v)]) ++ L.drop tl))) : PutSaid w L.length L key v (.returned x) w' := by
  obtain ⟨o, c, rfl, h1, h2⟩ := own_pairs hown
  refine ⟨o, c, _, rfl, h1, h2, fun e => ?_, hb, look_ins hno _ (by rcases htl with rfl | ⟨rfl, h, h3⟩; exact .inl rfl; exact .inr ⟨h, h3, rfl⟩), ?_⟩
  · rcases h1 with h1 | ⟨g, off, h1, _⟩
    · have := congrArg List.length h1
      simp at this
    · rw [h1] at e; cases e
  · simp only [List.length_append, List.length_take, List.length_cons, List.length_nil, List.length_drop]
    rcases htl with rfl | ⟨rfl, h, _⟩ <;> omega
theorem pairs_drop_if {w : World} {g off : Nat} {L : ML} (h : PairsAt w (some ⟨g, off, none⟩) L) (tl cap : Nat) (hc : L.length ≤ cap) : PairsAt w (if cap = tl then some ⟨g, off, none⟩ else some ⟨g, off + tl * 2, none⟩) (L.drop tl) := by
  split
  · exact pairs_drop h _ _ (.inr (by omega))
  · exact pairs_drop h _ _ (.inl rfl)
end
end Go.Proofs.YtaikgomojnfimaaGreatDoor
