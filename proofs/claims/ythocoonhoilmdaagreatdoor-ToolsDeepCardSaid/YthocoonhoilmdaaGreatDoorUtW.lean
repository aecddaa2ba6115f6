/-
  A utility that tells.
-/
import Derived.Test.YthocoonhoilmdaaGreatDoorWrF
import Derived.Test.YthocoonhoilmdaaGreatDoorCaO
import Derived.Lib.AppendStr
import Derived.Deep.RegionLaw
import Derived.Deep.RegionWith
import Derived.Deep.RegionHeld3
import Derived.RegionTactic
import Derived.WalkKit
import Derived.WalkSpells
import Derived.StillTactics
import Derived.LoopIn
import Derived.RowKit3
import Derived.Below
import Derived.OwnWalk
import Derived.KernelRfl
open Go Go.Mx Go.RowKit
namespace Go.Proofs.YthocoonhoilmdaaGreatDoor
set_option maxRecDepth 100000
noncomputable section
/-! a utility that tells -/
theorem run_append_keep {w : World} {v : Value} {B n : Nat} {xs : List Value} (hown : w.ownsRow B 5 1 v n xs) (c : Nat) {ty : TypeId} : (Builtin.append_ #[24, 24] ty #[v, .slice none 0 c]).run Tryz.prog w = .ok v w := by
  obtain ⟨i0, hi, hz0, hz1, hz2⟩ := info_parts (show (Tryz.prog.info? 5).map (fun i => (i.zero, i.size, i.bytes)) = some (some (.int .u8 0), 1, 1) by kernel_rfl)
  rcases hown.2 with ⟨rfl, rfl⟩ | ⟨g, cap, cur, rfl, _, _, h1, _⟩
  · exact app_nil0
  · simp [Builtin.append_, run_underlying gr_t28, sizeOf, typeInfo, hi, Builtin.lenOf, Builtin.firstCells, storeCells, h1]
theorem ut_u : Tryz.prog.underlying 9 = some .string := by kernel_rfl
theorem ut_i : (Tryz.prog.info? 5).map (fun i => (i.zero, i.size, i.bytes)) = some (some (.int .u8 0), 1, 1) := by kernel_rfl
/-- where what is appended to lies behind: where it lay, or in a new block -/
def NewB (w : World) (v v' : Value) : Prop := v'.ownBlock = v.ownBlock ∨ ∀ g, v'.ownBlock = some g → w.heap.size ≤ g
theorem new_data {w w' : World} {B n : Nat} {v v' : Value} {xs : List Value} (hown : w.ownsRow B 5 1 v n xs) (ad : Addr) (m c : Nat) (news : List Value) (hl : news.length = m) (hnews : ∀ j u, news[j]? = some u → w.cell? (ad.add j) = some u) (h1 : ∀ u ∈ news, u.oneCell' = true) (hle : n + m ≤ 1000000) {ty : TypeId}
    (hr : (Builtin.append_ #[24, 24] ty #[v, .slice (some ad) m c]).run Tryz.prog w = .ok v' w') : NewB w v v' := by
  obtain ⟨i0, hi, hz0, hz1, hz2⟩ := info_parts ut_i
  rcases hown.2 with ⟨rfl, rfl⟩ | ⟨g, cap, cur, rfl, hbg, hg, hnc, hcm, hcs, htake⟩
  · obtain ⟨v2, w2, hr2, ho2, _, _⟩ := run_append_own (P := Tryz.prog) w w.heap.size 24 ty 5 i0 _ 1 1 gr_t28 hi hz0 hz1 hz2 rfl (by decide) _ _ _ (World.ownsRow_nil w w.heap.size 5 1) ad m c news (by omega) hnews h1 (by unfold maxLen; omega) (by omega) (Nat.le_refl _)
    rw [hr2] at hr
    cases hr
    exact .inr fun g h => (ho2.lt g h).1
  · by_cases hroom : n + m ≤ cap
    · have := run_append_room (P := Tryz.prog) w 24 ty 5 i0 gr_t28 hi g n cap cur hg ad m c news (by rw [hz1]; omega) hnews h1 hroom (by rw [hz1]; omega)
      rw [this] at hr
      cases hr
      exact .inl rfl
    · have := run_append_grow (P := Tryz.prog) w 24 ty 5 i0 _ gr_t28 hi hz0 ⟨g, 0, none⟩ n cap xs (by rw [hz1]; exact hown.1) (hown.cells (g := g) rfl) ad m c news (by rw [hz1]; omega) hnews (by omega) (by omega) (growslice_fits (by omega) (by rw [hz2]; omega))
      rw [this] at hr
      cases hr
      exact .inr fun g2 h => by
        simp only [Value.ownBlock, Option.some.injEq] at h
        omega
theorem new_text {w w' : World} {B n : Nat} {v v' : Value} {xs : List Value} (hown : w.ownsRow B 5 1 v n xs) (s : ByteArray) (hle : n + s.size ≤ 1000000) {ty : TypeId}
    (hr : (Builtin.append_ #[24, 9] ty #[v, .string s]).run Tryz.prog w = .ok v' w') : NewB w v v' := by
  obtain ⟨i0, hi, hz0, hz1, hz2⟩ := info_parts ut_i
  rcases hown.2 with ⟨rfl, rfl⟩ | ⟨g, cap, cur, rfl, hbg, hg, hnc, hcm, hcs, htake⟩
  · obtain ⟨v2, w2, hr2, ho2, _, _⟩ := Lib.run_append_own_string (P := Tryz.prog) w w.heap.size 24 9 ty 5 i0 gr_t28 ut_u hi hz0 hz1 hz2 _ _ _ (World.ownsRow_nil w w.heap.size 5 1) s (by unfold maxLen; omega) (by omega) (Nat.le_refl _)
    rw [hr2] at hr
    cases hr
    exact .inr fun g h => (ho2.lt g h).1
  · by_cases hroom : n + s.size ≤ cap
    · have := Lib.run_append_room_string (P := Tryz.prog) w 24 9 ty 5 i0 gr_t28 ut_u hi hz1 g n cap cur hg s hroom (by omega)
      rw [this] at hr
      cases hr
      exact .inl rfl
    · have := Lib.run_append_grow_string (P := Tryz.prog) w 24 9 ty 5 i0 _ gr_t28 ut_u hi hz0 ⟨g, 0, none⟩ n cap xs (by rw [hz1]; exact hown.1) (hown.cells (g := g) rfl) s (by omega) (by omega) (growslice_fits (by omega) (by rw [hz2]; omega))
      rw [this] at hr
      cases hr
      exact .inr fun g2 h => by
        simp only [Value.ownBlock, Option.some.injEq] at h
        omega
theorem wp_append_data {o : Oper} {a : Act} {K : Act → World → Prop} {Q : Exit → Act → World → Prop} (s x : Operand) (ho : o.op = .call { callee := .builtin .append, args := #[s, x], argTypes := #[24, 24] })
    (w : World) (B : Nat) (v : Value) (xs : List UInt8) (hs : a.eval s = v) (hown : w.ownsRow B 5 1 v xs.length (xs.map Mx.byteV)) (L : List UInt8) (n : Nat) (hn : L.length = n) (bo : Option Addr) (c : Nat) (hx : a.eval x = .slice bo n c) (hb : BytesV w bo L) (hl : xs.length + n ≤ 1000000) (hB : B ≤ w.heap.size)
    (h : ∀ v' w', w'.ownsRow B 5 1 v' (xs ++ L).length ((xs ++ L).map Mx.byteV) → w.grownBy w' v.ownBlock → (v' = .slice none 0 0 ↔ v = .slice none 0 0 ∧ n = 0) → NewB w v v' → K (a.put o.dst v') w') : o.wp Tryz.prog a w K Q := by
  obtain ⟨i0, hi, hz0, hz1, hz2⟩ := info_parts ut_i
  have h' : ∀ v' w', w'.ownsRow B 5 1 v' (xs.length + n) (xs.map Mx.byteV ++ L.map Mx.byteV) → w.grownBy w' v.ownBlock → (v' = .slice none 0 0 ↔ v = .slice none 0 0 ∧ n = 0) → NewB w v v' → K (a.put o.dst v') w' := fun v' w' h1 => h v' w' (by rw [List.length_append, List.map_append, hn]; exact h1)
  have one : ∀ u ∈ L.map Mx.byteV, u.oneCell' = true := by intro u hu; obtain ⟨x, _, rfl⟩ := List.mem_map.1 hu; rfl
  have key : ∃ v' w', (Builtin.append_ #[24, 24] o.type #[v, .slice bo n c]).run Tryz.prog w = .ok v' w' ∧ w'.ownsRow B 5 1 v' (xs.length + n) (xs.map Mx.byteV ++ L.map Mx.byteV) ∧ w.grownBy w' v.ownBlock ∧ (v' = .slice none 0 0 ↔ v = .slice none 0 0 ∧ n = 0) ∧ NewB w v v' := by
    rcases hb with rfl | ⟨ab, ao, rfl, _, hc⟩
    · subst hn
      cases bo with
      | none => exact ⟨v, w, run_append_keep hown c, by simpa using hown, ⟨rfl, rfl, rfl, Nat.le_refl _, fun _ _ _ => rfl⟩, by simp, .inl rfl⟩
      | some ad =>
        obtain ⟨v', w', e1, e2, e3, e4⟩ := run_append_own (P := Tryz.prog) w B 24 o.type 5 i0 _ 1 1 gr_t28 hi hz0 hz1 hz2 rfl (by decide) v xs.length _ hown ad 0 c [] rfl (by simp) (by simp) (by unfold maxLen; simp at hl; omega) (by simp at hl; omega) hB
        exact ⟨v', w', e1, e2, e3, e4, new_data hown ad 0 c [] rfl (by simp) (by simp) hl e1⟩
    · obtain ⟨v', w', e1, e2, e3, e4⟩ := run_append_own (P := Tryz.prog) w B 24 o.type 5 i0 _ 1 1 gr_t28 hi hz0 hz1 hz2 rfl (by decide) v xs.length _ hown ⟨ab, ao, none⟩ n c (L.map Mx.byteV) (by rw [List.length_map, hn]; omega) hc one (by unfold maxLen; omega) (by omega) hB
      exact ⟨v', w', e1, e2, e3, e4, new_data hown ⟨ab, ao, none⟩ n c (L.map Mx.byteV) (by rw [List.length_map, hn]) hc one hl e1⟩
  obtain ⟨v', w', hr, e2, e3, e4, e5⟩ := key
  unfold Oper.wp execOp
  simp only [ho, resolve, invoke, builtin, Sem.run_bind, Sem.run_pure, Result.andThen_ok, List.map_toArray, List.map_cons, List.map_nil, hs, hx, hr]
  exact (h' v' w' e2 e3 e4 e5)
theorem wpList_append_data {ops : Array Oper} {rest : List Oper} {o : Oper} {a : Act} {Q : Exit → Act → World → Prop} (hgd : o.guard = none) (s x : Operand) (ho : o.op = .call { callee := .builtin .append, args := #[s, x], argTypes := #[24, 24] })
    (w : World) (B : Nat) (v : Value) (xs : List UInt8) (hs : a.eval s = v) (hown : w.ownsRow B 5 1 v xs.length (xs.map Mx.byteV)) (L : List UInt8) (n : Nat) (hn : L.length = n) (bo : Option Addr) (c : Nat) (hx : a.eval x = .slice bo n c) (hb : BytesV w bo L) (hl : xs.length + n ≤ 1000000) (hB : B ≤ w.heap.size)
    (h : ∀ v' w', w'.ownsRow B 5 1 v' (xs ++ L).length ((xs ++ L).map Mx.byteV) → w.grownBy w' v.ownBlock → (v' = .slice none 0 0 ↔ v = .slice none 0 0 ∧ n = 0) → NewB w v v' → wpList Tryz.prog ops Q rest (a.put o.dst v') w') : wpList Tryz.prog ops Q (o :: rest) a w :=
  wpList_plain hgd fun _ hK => wp_append_data s x ho w B v xs hs hown L n hn bo c hx hb hl hB fun v' w' h1 h2 h3 h4 => hK _ _ (h v' w' h1 h2 h3 h4)
theorem wp_append_said {o : Oper} {a : Act} {K : Act → World → Prop} {Q : Exit → Act → World → Prop} (s x : Operand) (ho : o.op = .call { callee := .builtin .append, args := #[s, x], argTypes := #[24, 9] })
    (w : World) (B : Nat) (v : Value) (xs : List UInt8) (hs : a.eval s = v) (hown : w.ownsRow B 5 1 v xs.length (xs.map Mx.byteV)) (t : ByteArray) (hx : a.eval x = .string t) (hl : xs.length + t.size ≤ 1000000) (hB : B ≤ w.heap.size)
    (h : ∀ v' w', w'.ownsRow B 5 1 v' (xs ++ t.data.toList).length ((xs ++ t.data.toList).map Mx.byteV) → w.grownBy w' v.ownBlock → (v' = .slice none 0 0 ↔ v = .slice none 0 0 ∧ t.size = 0) → NewB w v v' → K (a.put o.dst v') w') : o.wp Tryz.prog a w K Q := by
  obtain ⟨i0, hi, hz0, hz1, hz2⟩ := info_parts ut_i
  obtain ⟨v', w', hr, e2, e3, e4⟩ := Lib.run_append_own_string (P := Tryz.prog) w B 24 9 o.type 5 i0 gr_t28 ut_u hi hz0 hz1 hz2 v xs.length _ hown t (by unfold maxLen; omega) (by omega) hB
  unfold Oper.wp execOp
  simp only [ho, resolve, invoke, builtin, Sem.run_bind, Sem.run_pure, Result.andThen_ok, List.map_toArray, List.map_cons, List.map_nil, hs, hx, hr]
  exact (h v' w' (by rw [List.length_append, List.map_append]; exact e2) e3 e4 (new_text hown t hl hr))
theorem wpList_append_said {ops : Array Oper} {rest : List Oper} {o : Oper} {a : Act} {Q : Exit → Act → World → Prop} (hgd : o.guard = none) (s x : Operand) (ho : o.op = .call { callee := .builtin .append, args := #[s, x], argTypes := #[24, 9] })
    (w : World) (B : Nat) (v : Value) (xs : List UInt8) (hs : a.eval s = v) (hown : w.ownsRow B 5 1 v xs.length (xs.map Mx.byteV)) (t : ByteArray) (hx : a.eval x = .string t) (hl : xs.length + t.size ≤ 1000000) (hB : B ≤ w.heap.size)
    (h : ∀ v' w', w'.ownsRow B 5 1 v' (xs ++ t.data.toList).length ((xs ++ t.data.toList).map Mx.byteV) → w.grownBy w' v.ownBlock → (v' = .slice none 0 0 ↔ v = .slice none 0 0 ∧ t.size = 0) → NewB w v v' → wpList Tryz.prog ops Q rest (a.put o.dst v') w') : wpList Tryz.prog ops Q (o :: rest) a w :=
  wpList_plain hgd fun _ hK => wp_append_said s x ho w B v xs hs hown t hx hl hB fun v' w' h1 h2 h3 h4 => hK _ _ (h v' w' h1 h2 h3 h4)
/-- a utility's fields, and what it has told by now; what lies ahead of it stands as in w0 -/
structure US (w0 w : World) (ub : Nat) (F C N A I : Value) (s : Int) (ob lb : List UInt8) : Prop where
  ex : ∃ O G, w.heap[ub]? = some (.cells #[F, C, N, A, I, .int .i64 s, O, G] 59 (0, 0)) ∧ w.ownsRow (ub + 2) 5 1 O ob.length (ob.map Mx.byteV) ∧ w.ownsRow (ub + 2) 5 1 G lb.length (lb.map Mx.byteV) ∧ (O.ownBlock = none ∨ O.ownBlock ≠ G.ownBlock) ∧ (O = .slice none 0 0 ↔ ob = []) ∧ (G = .slice none 0 0 ↔ lb = [])
  box : w.heap[ub + 1]? = some (.cells #[.pointer (some ⟨ub, 0, none⟩)] 57 (0, 0))
  lt : ub + 1 < w.heap.size
  kept : Below ub w0 w
section
variable {w0 w : World} {ub : Nat} {F C N A I : Value} {s : Int} {ob lb : List UInt8}
theorem own_b {B : Nat} {w w' : World} {v : Value} {n : Nat} {xs : List Value} (h : w.ownsRow B 5 1 v n xs) (hb : Below w.heap.size w w') : w'.ownsRow B 5 1 v n xs := by
  refine ⟨h.1, ?_⟩
  rcases h.2 with hn | ⟨g, cap, cur, rfl, hb2, hg, rest⟩
  · exact .inl hn
  · exact .inr ⟨g, cap, cur, rfl, hb2, by rw [hb.block g (Array.getElem?_eq_some_iff.1 hg).1]; exact hg, rest⟩
theorem own_kept {B : Nat} {w w' : World} {v : Value} {n : Nat} {xs : List Value} {row : Option Nat} (h : w.ownsRow B 5 1 v n xs) (hg : w.grownBy w' row) (hne : v.ownBlock = none ∨ v.ownBlock ≠ row) : w'.ownsRow B 5 1 v n xs := by
  refine ⟨h.1, ?_⟩
  rcases h.2 with hn | ⟨g, cap, cur, rfl, hb2, hgg, rest⟩
  · exact .inl hn
  · exact .inr ⟨g, cap, cur, rfl, hb2, by rw [hg.block g (Array.getElem?_eq_some_iff.1 hgg).1 (by simpa [Value.ownBlock] using hne)]; exact hgg, rest⟩
theorem own_grown_ne {B : Nat} {w : World} {v v' u : Value} {k : Nat} {ys : List Value} (h : w.ownsRow B 5 1 u k ys) (hg : NewB w v v') (hne : v.ownBlock = none ∨ v.ownBlock ≠ u.ownBlock) : v'.ownBlock = none ∨ v'.ownBlock ≠ u.ownBlock := by
  rcases hg with hg | hg
  · rw [hg]; exact hne
  · cases e : v'.ownBlock with
    | none => exact .inl rfl
    | some g =>
      refine .inr fun e2 => ?_
      have h1 := hg g e
      have h2 := h.lt g e2.symm
      omega
theorem US.below {w' : World} (h : US w0 w ub F C N A I s ob lb) (hb : Below w.heap.size w w') : US w0 w' ub F C N A I s ob lb := by
  obtain ⟨O, G, h1, h2, h3, h4, h5, h6⟩ := h.ex
  exact ⟨⟨O, G, by rw [hb.block ub (by have := h.lt; omega)]; exact h1, own_b h2 hb, own_b h3 hb, h4, h5, h6⟩, by rw [hb.block _ h.lt]; exact h.box, Nat.lt_of_lt_of_le h.lt hb.size, h.kept.trans (hb.mono (by have := h.lt; omega))⟩
theorem own_set {B b i : Nat} {w : World} {u v : Value} {n : Nat} {xs : List Value} (h : w.ownsRow B 5 1 v n xs) (hb : b < B) : (w.setCell ⟨b, i, none⟩ u).ownsRow B 5 1 v n xs := ownsRow_setCell_below h (a := ⟨b, i, none⟩) hb u
theorem US.nf (h : US w0 w ub F C N A I s ob lb) {i : Nat} (hi : i < 8) : w.frozen? ⟨ub, i, none⟩ = false := by
  obtain ⟨O, G, h1, _⟩ := h.ex
  exact nf_free h1 free8 hi
/-- the status is set -/
theorem US.status (h : US w0 w ub F C N A I s ob lb) (k : Int) : US w0 (w.setCell ⟨ub, 5, none⟩ (.int .i64 k)) ub F C N A I k ob lb := by
  obtain ⟨O, G, h1, h2, h3, h4, h5, h6⟩ := h.ex
  exact ⟨⟨O, G, set_same h1, own_set h2 (by omega), own_set h3 (by omega), h4, h5, h6⟩, (set_other (by omega)).trans h.box, by rw [set_size]; exact h.lt, h.kept.setCell (p := ⟨ub, 5, none⟩) (Nat.le_refl ub) _⟩
/-- Out is written on -/
theorem US.out {O G v' : Value} {w' : World} {L : List UInt8} {n : Nat} (h : US w0 w ub F C N A I s ob lb) (h1 : w.heap[ub]? = some (.cells #[F, C, N, A, I, .int .i64 s, O, G] 59 (0, 0))) (h2 : w.ownsRow (ub + 2) 5 1 O ob.length (ob.map Mx.byteV)) (h3 : w.ownsRow (ub + 2) 5 1 G lb.length (lb.map Mx.byteV)) (h4 : O.ownBlock = none ∨ O.ownBlock ≠ G.ownBlock) (h5 : O = .slice none 0 0 ↔ ob = []) (h6 : G = .slice none 0 0 ↔ lb = [])
    (hn : L.length = n) (ho : w'.ownsRow (ub + 2) 5 1 v' (ob ++ L).length ((ob ++ L).map Mx.byteV)) (hg : w.grownBy w' O.ownBlock) (hv : v' = .slice none 0 0 ↔ O = .slice none 0 0 ∧ n = 0) (hnew : NewB w O v') : US w0 (w'.setCell ⟨ub, 6, none⟩ v') ub F C N A I s (ob ++ L) lb := by
  have hlt := h.lt
  have hu : w'.heap[ub]? = some (.cells #[F, C, N, A, I, .int .i64 s, O, G] 59 (0, 0)) := by
    rw [hg.block ub (by omega) fun e => ?_]
    · exact h1
    · have := (h2.lt ub e.symm).1
      omega
  have h3' : w'.ownsRow (ub + 2) 5 1 G lb.length (lb.map Mx.byteV) := own_kept h3 hg (by
    rcases h4 with h4 | h4
    · cases e : G.ownBlock with
      | none => exact .inl rfl
      | some g => exact .inr (by rw [h4]; simp)
    · exact .inr (Ne.symm h4))
  refine ⟨⟨v', G, set_same hu, own_set ho (by omega), own_set h3' (by omega), own_grown_ne h3 hnew h4, ?_, h6⟩, (set_other (by omega)).trans ((hg.block _ hlt fun e => by have := (h2.lt _ e.symm).1; omega).trans h.box), by rw [set_size]; exact Nat.lt_of_lt_of_le hlt hg.size, (h.kept.trans ⟨hg.os, hg.tape, hg.output, hg.size, fun k hk => hg.block k (by omega) (fun e => by have := (h2.lt k e.symm).1; omega)⟩).setCell (p := ⟨ub, 6, none⟩) (Nat.le_refl ub) _⟩
  rw [hv, h5]
  subst hn
  constructor
  · rintro ⟨rfl, e⟩
    rw [List.eq_nil_of_length_eq_zero e]
    rfl
  · intro e
    have := List.append_eq_nil_iff.1 e
    exact ⟨this.1, by rw [this.2]; rfl⟩
/-- Log is written on -/
theorem US.log {O G v' : Value} {w' : World} {L : List UInt8} {n : Nat} (h : US w0 w ub F C N A I s ob lb) (h1 : w.heap[ub]? = some (.cells #[F, C, N, A, I, .int .i64 s, O, G] 59 (0, 0))) (h2 : w.ownsRow (ub + 2) 5 1 O ob.length (ob.map Mx.byteV)) (h3 : w.ownsRow (ub + 2) 5 1 G lb.length (lb.map Mx.byteV)) (h4 : O.ownBlock = none ∨ O.ownBlock ≠ G.ownBlock) (h5 : O = .slice none 0 0 ↔ ob = []) (h6 : G = .slice none 0 0 ↔ lb = [])
    (hn : L.length = n) (ho : w'.ownsRow (ub + 2) 5 1 v' (lb ++ L).length ((lb ++ L).map Mx.byteV)) (hg : w.grownBy w' G.ownBlock) (hv : v' = .slice none 0 0 ↔ G = .slice none 0 0 ∧ n = 0) (hnew : NewB w G v') : US w0 (w'.setCell ⟨ub, 7, none⟩ v') ub F C N A I s ob (lb ++ L) := by
  have hlt := h.lt
  have hu : w'.heap[ub]? = some (.cells #[F, C, N, A, I, .int .i64 s, O, G] 59 (0, 0)) := by
    rw [hg.block ub (by omega) fun e => ?_]
    · exact h1
    · have := (h3.lt ub e.symm).1
      omega
  have h2' : w'.ownsRow (ub + 2) 5 1 O ob.length (ob.map Mx.byteV) := own_kept h2 hg h4
  have h4' : G.ownBlock = none ∨ G.ownBlock ≠ O.ownBlock := by
    rcases h4 with h4 | h4
    · cases e : G.ownBlock with
      | none => exact .inl rfl
      | some g => exact .inr (by rw [h4]; simp)
    · exact .inr (Ne.symm h4)
  have h7 := own_grown_ne h2 hnew h4'
  refine ⟨⟨O, v', set_same hu, own_set h2' (by omega), own_set ho (by omega), ?_, h5, ?_⟩, (set_other (by omega)).trans ((hg.block _ hlt fun e => by have := (h3.lt _ e.symm).1; omega).trans h.box), by rw [set_size]; exact Nat.lt_of_lt_of_le hlt hg.size, (h.kept.trans ⟨hg.os, hg.tape, hg.output, hg.size, fun k hk => hg.block k (by omega) (fun e => by have := (h3.lt k e.symm).1; omega)⟩).setCell (p := ⟨ub, 7, none⟩) (Nat.le_refl ub) _⟩
  · rcases h7 with h7 | h7
    · cases e : O.ownBlock with
      | none => exact .inl rfl
      | some g => exact .inr (by rw [h7]; simp)
    · exact .inr (Ne.symm h7)
  rw [hv, h6]
  subst hn
  constructor
  · rintro ⟨rfl, e⟩
    rw [List.eq_nil_of_length_eq_zero e]
    rfl
  · intro e
    have := List.append_eq_nil_iff.1 e
    exact ⟨this.1, by rw [this.2]; rfl⟩
end
/-- what is owned stands there -/
theorem own_data {B : Nat} {w : World} {v : Value} {xs : List UInt8} (h : w.ownsRow B 5 1 v xs.length (xs.map Mx.byteV)) (h0 : v = .slice none 0 0 ↔ xs = []) : ∃ o c, v = .slice o xs.length c ∧ DataAt B xs w o ∧ (o = none → c = 0) ∧ (∀ a, o = some a → a = ⟨a.block, 0, none⟩ ∧ xs.length ≤ c) := by
  by_cases e : xs = []
  · subst e
    have := h0.2 rfl
    exact ⟨none, 0, this, .inl ⟨rfl, rfl⟩, (fun _ => rfl), (fun a h => by cases h)⟩
  · rcases h.2 with ⟨e2, _⟩ | ⟨g, c, cur, rfl, r1, r2, r3, _⟩
    · exact absurd (h0.1 e2) e
    · exact ⟨_, _, rfl, .inr ⟨e, g, rfl, r1, (Array.getElem?_eq_some_iff.1 r2).1, fun j u hj => h.cells (g := g) rfl j u hj⟩, (fun h => by cases h), (fun a h => by cases h; exact ⟨rfl, r3⟩)⟩
theorem DataAt.set {B b i : Nat} {L : List UInt8} {w : World} {o : Option Addr} {v : Value} (h : DataAt B L w o) (hb : b < B) : DataAt B L (w.setCell ⟨b, i, none⟩ v) o := by
  rcases h with h | ⟨h0, g, h1, h2, h3, h4⟩
  · exact .inl h
  · refine .inr ⟨h0, g, h1, h2, by rw [set_size]; exact h3, fun j u hj => ?_⟩
    have := h4 j u hj
    rw [Addr.add_lit] at this ⊢
    unfold World.cell? at this ⊢
    rw [set_other (by show g ≠ b; omega)]
    exact this
theorem DataAt.bytesV {B : Nat} {L : List UInt8} {w : World} {o : Option Addr} (h : DataAt B L w o) : BytesV w o L := by
  rcases h with ⟨h, _⟩ | ⟨_, g, h1, _, h3, h4⟩
  · exact .inl h
  · exact .inr ⟨g, 0, h1, h3, h4⟩
end
end Go.Proofs.YthocoonhoilmdaaGreatDoor
