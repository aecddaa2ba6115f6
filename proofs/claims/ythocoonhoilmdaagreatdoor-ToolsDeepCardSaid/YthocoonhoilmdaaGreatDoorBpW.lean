/-
  What lies below a path: plain laws; path.Abs from a directory of names, walked.
-/
import Derived.Test.YthocoonhoilmdaaGreatDoorFbW
import Derived.Test.YthocoonhoilmdaaGreatDoorShD
import Derived.Test.YthocoonhoilmdaaGreatDoorXMxAL
import Derived.BigQuiet
import Derived.Deep.QuietTactic
import Derived.Laws.IdiomRangeMap
import Derived.Sort.OwnSorted
import Derived.Deep.RegionLaw
import Derived.Deep.RegionWith
import Derived.Deep.RegionHeld3
import Derived.RegionTactic
import Derived.WalkKit
import Derived.WalkSpells
import Derived.StillTactics
import Derived.LoopIn
import Derived.RowKit3
import Derived.Below
import Derived.OwnWalk
import Derived.KernelRfl
open Go Go.Mx Go.RowKit
namespace Go.Proofs.YthocoonhoilmdaaGreatDoor
set_option maxRecDepth 100000
noncomputable section
/-! what lies below a path: plain -/
/-- a text's tail behind so many bytes -/
def preB (front q : ByteArray) : Bool := Lib.hasPrefix q.data.toList front.data.toList
theorem hasPrefix_iff : ∀ {s p : List UInt8}, Lib.hasPrefix s p = true ↔ ∃ r, s = p ++ r := by
  intro s p
  show p.isPrefixOf s = true ↔ _
  rw [List.isPrefixOf_iff_prefix]
  exact ⟨fun ⟨r, h⟩ => ⟨r, h.symm⟩, fun ⟨r, h⟩ => ⟨r, h.symm⟩⟩
theorem Nodes.keys {L : List ByteArray} {n j : Nat} {T : TT} (h : Nodes L n T j) : T.map (·.1) = (List.range j).map fun k => pB (L.take (k + 1)) := by
  apply List.ext_getElem
  · simp [h.len]
  · intro i h1 h2
    simp only [List.getElem_map, List.getElem_range]
    exact (h.at' i (by simpa using h1)).1
/-- where a path goes on -/
theorem pL_on {L : List ByteArray} {i k : Nat} (hik : i ≤ k) (hk : k < L.length) : pL (L.take (k + 1)) = pL (L.take i) ++ 47 :: (L[i].data.toList ++ pL ((L.drop (i + 1)).take (k - i))) := by
  have e : L.take (k + 1) = L.take i ++ L[i] :: (L.drop (i + 1)).take (k - i) := by
    have e1 : L.take (k + 1) = L.take i ++ (L.drop i).take (k + 1 - i) := by rw [← List.take_add]; congr 1; omega
    rw [e1, List.drop_eq_getElem_cons (by omega), show k + 1 - i = (k - i) + 1 by omega, List.take_succ_cons]
  rw [e, pL_app, pL]
/-- the front of a path's nodes -/
def frontL (L : List ByteArray) (i : Nat) : ByteArray := pB (L.take i) ++ slB
theorem frontL_data (L : List ByteArray) (i : Nat) : (frontL L i).data.toList = pL (L.take i) ++ [47] := by
  unfold frontL
  rw [ByteArray.data_append, Array.toList_append, pB_data]
  rfl
theorem front_on {L : List ByteArray} {i k : Nat} (hk : k < L.length) (hi : i ≤ L.length) : preB (frontL L i) (pB (L.take (k + 1))) = decide (i ≤ k) := by
  unfold preB
  rw [frontL_data, pB_data]
  by_cases hik : i ≤ k
  · rw [decide_eq_true hik, hasPrefix_iff, pL_on hik hk]
    exact ⟨_, by rw [List.append_assoc]; rfl⟩
  · rw [decide_eq_false hik, Bool.eq_false_iff]
    intro h
    obtain ⟨r, hr⟩ := hasPrefix_iff.1 h
    have h1 := congrArg List.length hr
    simp only [List.length_append, List.length_cons, List.length_nil] at h1
    have h2 : (pL (L.take (k + 1))).length ≤ (pL (L.take i)).length := by
      rcases Nat.eq_or_lt_of_le (show k + 1 ≤ i by omega) with e | e
      · rw [e]; exact Nat.le_refl _
      · exact Nat.le_of_lt (pL_lt L e hi)
    omega
/-- the keys with a front -/
def lowT (T : TT) (front : ByteArray) : List ByteArray := (T.map (·.1)).filter (preB front)
theorem filter_ge (j i : Nat) : (List.range j).filter (fun k => decide (i ≤ k)) = (List.range (j - i)).map (i + ·) := by
  induction j with
  | zero => simp
  | succ j ih =>
    rw [List.range_succ, List.filter_append, ih]
    by_cases h : i ≤ j
    · rw [show j + 1 - i = (j - i) + 1 by omega, List.range_succ, List.map_append]
      simp [h, show i + (j - i) = j by omega]
    · rw [show j + 1 - i = 0 by omega, show j - i = 0 by omega]
      simp [h]
theorem Nodes.lowT_eq {L : List ByteArray} {n j : Nat} {T : TT} (h : Nodes L n T j) (hj : j ≤ L.length) {i : Nat} (hi : i ≤ L.length) : lowT T (frontL L i) = (List.range (j - i)).map fun k => pB (L.take (i + k + 1)) := by
  unfold lowT
  rw [h.keys, List.filter_map]
  have : (List.range j).filter (preB (frontL L i) ∘ fun k => pB (L.take (k + 1))) = (List.range j).filter fun k => decide (i ≤ k) := by
    apply List.filter_congr
    intro k hk
    rw [List.mem_range] at hk
    exact front_on (by omega) hi
  rw [this, filter_ge, List.map_map]
  rfl
/-- a name behind a front, if it is one -/
def nameF (front q : ByteArray) : Option ByteArray := if 47 ∈ (q.extract front.size q.size).data.toList then none else some (q.extract front.size q.size)
theorem ext_data (b : ByteArray) (k : Nat) : (b.extract k b.size).data.toList = b.data.toList.drop k := by
  rw [ByteArray.data_extract, Array.toList_extract, List.extract_eq_take_drop]
  exact List.take_of_length_le (by rw [List.length_drop, Array.length_toList]; exact Nat.le_refl _)
theorem size_data (b : ByteArray) : b.size = b.data.toList.length := by
  show b.data.size = _
  simp
theorem nameF_on {L : List ByteArray} (hL : ∀ x ∈ L, NameOk x) {i k : Nat} (hk : i + k < L.length) : nameF (frontL L i) (pB (L.take (i + k + 1))) = if k = 0 then some (L[i]'(by omega)) else none := by
  have e : ((pB (L.take (i + k + 1))).extract (frontL L i).size (pB (L.take (i + k + 1))).size).data.toList = L[i].data.toList ++ pL ((L.drop (i + 1)).take k) := by
    rw [ext_data, pB_data, pL_on (Nat.le_add_right i k) hk, size_data (frontL L i), frontL_data, show i + k - i = k by omega]
    rw [show pL (L.take i) ++ 47 :: (L[i].data.toList ++ pL ((L.drop (i + 1)).take k)) = (pL (L.take i) ++ [47]) ++ (L[i].data.toList ++ pL ((L.drop (i + 1)).take k)) by simp]
    rw [List.drop_left]
  unfold nameF
  rw [e]
  have hn := (hL L[i] (List.getElem_mem _)).sl
  by_cases h : k = 0
  · subst h
    rw [if_pos rfl, List.take_zero, pL, List.append_nil, if_neg hn]
    congr 1
    apply ba_ext
    rw [e, List.take_zero, pL, List.append_nil]
  · rw [if_neg h, if_pos]
    rw [List.mem_append]
    right
    have h0 : 0 < ((L.drop (i + 1)).take k).length := by rw [List.length_take, List.length_drop]; omega
    match (L.drop (i + 1)).take k, h0 with
    | s :: r, _ => exact List.mem_cons_self ..
/-- the names in a directory of a chain: one -/
theorem Nodes.names {L : List ByteArray} {n j : Nat} {T : TT} (h : Nodes L n T j) (hL : ∀ x ∈ L, NameOk x) (hj : j ≤ L.length) {i : Nat} (hi : i < j) : (lowT T (frontL L i)).filterMap (nameF (frontL L i)) = [L[i]'(by omega)] := by
  rw [h.lowT_eq hj (by omega), List.filterMap_map, show j - i = (j - i - 1) + 1 by omega, List.range_succ_eq_map, List.filterMap_cons, List.filterMap_map]
  have e0 : (nameF (frontL L i) ∘ fun k => pB (L.take (i + k + 1))) 0 = some (L[i]'(by omega)) := by
    show nameF (frontL L i) (pB (L.take (i + 0 + 1))) = _
    rw [nameF_on hL (i := i) (k := 0) (by omega), if_pos rfl]
  rw [e0]
  have e1 : (List.range (j - i - 1)).filterMap ((nameF (frontL L i) ∘ fun k => pB (L.take (i + k + 1))) ∘ Nat.succ) = [] := by
    rw [List.filterMap_eq_nil_iff]
    intro k hk
    rw [List.mem_range] at hk
    show nameF (frontL L i) (pB (L.take (i + (k + 1) + 1))) = none
    rw [nameF_on hL (i := i) (k := k + 1) (by omega), if_neg (by omega)]
  rw [e1]
theorem perm_one {l : List ByteArray} {a : ByteArray} (h : l.Perm [a]) : l = [a] := List.perm_singleton.1 h
/-! what has been handed out -/
def keyB (e : MapEntry) : ByteArray := match e.key with
  | .string s => s
  | _ => ⟨#[]⟩
theorem keys_of : ∀ (T : TT) (es : List MapEntry), es.map (fun e => (e.key, e.val)) = T.map entK → es.map keyB = T.map (·.1) ∧ ∀ e ∈ es, e.key = .string (keyB e)
  | [], [], _ => ⟨rfl, fun e h => by cases h⟩
  | [], _ :: _, h => by cases h
  | _ :: _, [], h => by cases h
  | x :: T, e :: es, h => by
    simp only [List.map_cons, List.cons.injEq] at h
    obtain ⟨h1, h2⟩ := h
    obtain ⟨a, b⟩ := keys_of T es h2
    have hk : e.key = .string x.1 := congrArg Prod.fst h1
    have hk2 : keyB e = x.1 := by unfold keyB; rw [hk]
    refine ⟨by rw [List.map_cons, List.map_cons, a, hk2], fun y hy => ?_⟩
    rcases List.mem_cons.1 hy with rfl | hy
    · rw [hk2]; exact hk
    · exact b y hy
/-- the keys handed out by now that have the front -/
def outS (es : Array MapEntry) (front : ByteArray) (seen : Array Nat) : List ByteArray := ((es.toList.filter fun x => seen.contains x.born).map keyB).filter (preB front)
theorem outS_none (es : Array MapEntry) (front : ByteArray) : outS es front #[] = [] := by
  unfold outS
  have : (es.toList.filter fun x => (#[] : Array Nat).contains x.born) = [] := by
    rw [List.filter_eq_nil_iff]
    intro x _
    simp
  rw [this]
  rfl
theorem seen_perm (seen : Array Nat) (e : MapEntry) (hs : seen.contains e.born = false) : ∀ (es : List MapEntry), (es.map (·.born)).Nodup → e ∈ es → (es.filter fun x => (seen.push e.born).contains x.born).Perm ((es.filter fun x => seen.contains x.born) ++ [e])
  | x :: l, hn, he => by
    have hn' : x.born ∉ l.map (·.born) ∧ (l.map (·.born)).Nodup := List.nodup_cons.1 hn
    rcases List.mem_cons.1 he with rfl | h
    · have e1 : (l.filter fun x => (seen.push e.born).contains x.born) = l.filter fun x => seen.contains x.born := by
        apply List.filter_congr
        intro y hy
        rw [contains_push]
        have : (y.born == e.born) = false := beq_eq_false_iff_ne.2 fun h => hn'.1 (by rw [← h]; exact List.mem_map.2 ⟨y, hy, rfl⟩)
        rw [this, Bool.or_false]
      rw [List.filter_cons_of_pos (by rw [contains_push, beq_self_eq_true, Bool.or_true]), List.filter_cons_of_neg (p := fun x : MapEntry => seen.contains x.born) (by rw [hs]; simp), e1]
      exact (List.perm_append_singleton _ _).symm
    · have ih := seen_perm seen e hs l hn'.2 h
      have hx : (x.born == e.born) = false := beq_eq_false_iff_ne.2 fun h2 => hn'.1 (by rw [h2]; exact List.mem_map.2 ⟨e, h, rfl⟩)
      have e2 : (seen.push e.born).contains x.born = seen.contains x.born := by rw [contains_push, hx, Bool.or_false]
      cases hc : seen.contains x.born with
      | true =>
        rw [List.filter_cons_of_pos (by rw [e2]; exact hc), List.filter_cons_of_pos (p := fun x : MapEntry => seen.contains x.born) hc]
        exact ih.cons _
      | false =>
        rw [List.filter_cons_of_neg (by rw [e2, hc]; simp), List.filter_cons_of_neg (p := fun x : MapEntry => seen.contains x.born) (by rw [hc]; simp)]
        exact ih
theorem outS_push {es : Array MapEntry} {front : ByteArray} {seen : Array Nat} {e : MapEntry} (he : e ∈ (leftOf es seen).toList) (hn : (es.toList.map (·.born)).Nodup) : (outS es front (seen.push e.born)).Perm (outS es front seen ++ if preB front (keyB e) = true then [keyB e] else []) := by
  have h1 := ((seen_perm seen e (mem_left he).2 es.toList hn (mem_left he).1).map keyB).filter (preB front)
  rw [List.map_append, List.filter_append] at h1
  refine h1.trans ?_
  unfold outS
  apply List.Perm.of_eq
  congr 1
  by_cases h : preB front (keyB e) = true
  · simp [h]
  · simp [h]
theorem outS_all {es : Array MapEntry} {front : ByteArray} {seen : Array Nat} {T : TT} (h : (leftOf es seen).size = 0) (hT : es.toList.map (fun e => (e.key, e.val)) = T.map entK) : outS es front seen = lowT T front := by
  unfold outS lowT
  rw [List.filter_eq_self.2 (all_seen es seen h), (keys_of T es.toList hT).1]
theorem outS_le (es : Array MapEntry) (front : ByteArray) (seen : Array Nat) : (outS es front seen).length ≤ es.size := by
  unfold outS
  refine Nat.le_trans (List.length_filter_le _ _) ?_
  rw [List.length_map]
  refine Nat.le_trans (List.length_filter_le _ _) ?_
  simp
/-! a range over a map, its iterator in any block -/
def setO (w : World) (b : Nat) (o : Obj) : World := { w with heap := w.heap.setIfInBounds b o }
theorem setO_same {w : World} {b : Nat} {o : Obj} (h : b < w.heap.size) : (setO w b o).heap[b]? = some o := by
  show (w.heap.setIfInBounds b _)[b]? = _
  rw [Array.getElem?_setIfInBounds, if_pos rfl, if_pos h]
theorem setO_other {w : World} {b j : Nat} {o : Obj} (h : j ≠ b) : (setO w b o).heap[j]? = w.heap[j]? := by
  show (w.heap.setIfInBounds b _)[j]? = _
  rw [Array.getElem?_setIfInBounds, if_neg (Ne.symm h)]
theorem setO_size {w : World} {b : Nat} {o : Obj} : (setO w b o).heap.size = w.heap.size := by
  show (w.heap.setIfInBounds b _).size = _
  simp
theorem next_at {P : Program} (w : World) (ty : TypeId) (it bm since c0 : Nat) (seen : Array Nat) (es : Array MapEntry) (clock : Nat) (hi : w.heap[it]? = some (.mapIter (some bm) since seen c0)) (hb : w.heap[bm]? = some (.map es clock)) (hold : ∀ x ∈ es.toList, x.born < since) (hsc : since ≤ c0) :
    ((leftOf es seen).size = 0 ∧ (Instr.next (.pointer (some ⟨it, 0, none⟩)) false ty).run P w = .ok (.tuple #[.bool false]) w) ∨
    ∃ e ∈ (leftOf es seen).toList, ∃ w1 : World, (w1.heap = w.heap ∧ w1.os = w.os ∧ w1.tape = w.tape ∧ w1.output = w.output) ∧ (Instr.next (.pointer (some ⟨it, 0, none⟩)) false ty).run P w = .ok (.tuple #[.bool true, e.key, e.val]) (setO w1 it (.mapIter (some bm) since (seen.push e.born) clock)) := by
  simp only [Instr.next, getObj, Sem.run_bind, Sem.run, hi, hb, Result.andThen, next_test_false seen es since c0 hold hsc, Bool.false_eq_true, if_false]
  unfold leftOf
  have hmem : ∀ x ∈ (Array.filter (fun e => !seen.contains e.born) es).toList, x.born < since := fun x hx => hold x (by simp at hx ⊢; exact hx.1)
  generalize Array.filter (fun e => !seen.contains e.born) es = L at hmem ⊢
  have e1 : L.filter (fun x => decide (x.born < since)) = L := Array.filter_eq_self.2 (fun x hx => by simpa using hmem x (by simpa using hx))
  have e2 : L.filter (fun x => decide (x.born ≥ since)) = #[] := by
    rw [Array.filter_eq_empty_iff]
    intro x hx
    have := hmem x (by simpa using hx)
    simp
    omega
  simp only [e1, e2, Array.append_empty]
  by_cases h0 : L.size = 0
  · left
    have : L = #[] := Array.eq_empty_of_size_eq_zero h0
    subst this
    refine ⟨rfl, ?_⟩
    simp [choose, Sem.run, Question.forced]
  · right
    have hne : L.isEmpty = false := by simp [Array.isEmpty, h0]
    simp only [hne, Bool.false_eq_true, if_false, Array.empty_append, Array.size_map]
    have hch : ∃ (j : Nat) (w1 : World), j < L.size ∧ (w1.heap = w.heap ∧ w1.os = w.os ∧ w1.tape = w.tape ∧ w1.output = w.output) ∧ (choose (Question.mapNext L.size)).run P w = .ok j w1 := by
      by_cases hf : L.size ≤ 1
      · exact ⟨0, w, by omega, ⟨rfl, rfl, rfl, rfl⟩, by simp [choose, Sem.run, Question.forced, hf]⟩
      · exact ⟨_, w.drew, Nat.mod_lt _ (by omega), ⟨rfl, rfl, rfl, rfl⟩, by
          simp only [choose, Sem.run, Question.forced, decide_eq_true_eq, hf, if_false, Question.cut]
          rfl⟩
    obtain ⟨j, w1, hj, hal, hrun⟩ := hch
    refine ⟨L[j], by simp, w1, hal, ?_⟩
    have hset : ∀ (o' : Obj), (setObj it o').run P w1 = .ok () (setO w1 it o') := fun o' => by
      simp only [setObj, Sem.run]
      rw [show w1.heap[it]? = w.heap[it]? by rw [hal.1], hi]
      rfl
    simp only [hrun, Array.getElem?_map, Array.getElem?_eq_getElem hj, Option.map_some, Sem.run_bind, hset, Result.andThen]
    rfl
theorem entry_at {P : Program} (w : World) (it bm since : Nat) (seen : Array Nat) (es : Array MapEntry) (clock : Nat) (e : MapEntry) (hi : w.heap[it]? = some (.mapIter (some bm) since (seen.push e.born) clock)) (hb : w.heap[bm]? = some (.map es clock)) (he : e ∈ es.toList) (hn : (es.toList.map (·.born)).Nodup) :
    (Instr.entry (.pointer (some ⟨it, 0, none⟩))).run P w = .ok (.tuple #[e.key, e.val]) w := by
  have hf : es.find? (·.born == e.born) = some e := by rw [← Array.find?_toList]; exact find_born e es.toList hn he
  simp only [Instr.entry, getObj, Sem.run_bind, Sem.run, hi, hb, Result.andThen, Array.back?_push, bne_self_eq_false, Bool.false_eq_true, if_false, hf]
  rfl
/-! the front -/
def frontF (p : ByteArray) : ByteArray := ⟨(Lib.trimSuffix p.data.toList slB.data.toList).toArray⟩ ++ slB
theorem front_root (L : List ByteArray) : frontF slB = frontL L 0 := by
  unfold frontF frontL
  congr 1
theorem pL_last {L : List ByteArray} (hL : ∀ x ∈ L, NameOk x) (h0 : L ≠ []) : Lib.hasSuffix (pL L) [47] = false := by
  rw [Bool.eq_false_iff]
  intro h
  have h1 : [(47 : UInt8)] <:+ pL L := List.isSuffixOf_iff_suffix.1 h
  obtain ⟨r, hr⟩ := h1
  obtain ⟨l, s, rfl⟩ : ∃ l s, L = l ++ [s] := ⟨L.dropLast, L.getLast h0, (List.dropLast_concat_getLast h0).symm⟩
  have hs := hL s (by simp)
  rw [pL_app] at hr
  have e : pL [s] = 47 :: s.data.toList := by simp [pL]
  have e2 : s.data.toList = s.data.toList.dropLast ++ [s.data.toList.getLast hs.ne] := (List.dropLast_concat_getLast hs.ne).symm
  rw [e, e2] at hr
  have hr2 : r ++ [47] = (pL l ++ 47 :: s.data.toList.dropLast) ++ [s.data.toList.getLast hs.ne] := by rw [hr]; simp
  have := (List.append_inj' hr2 rfl).2
  injection this with this
  exact hs.sl (by rw [this]; exact List.getLast_mem _)
theorem front_pB {L : List ByteArray} (hL : ∀ x ∈ L, NameOk x) {i : Nat} (hi1 : 1 ≤ i) (hi : i ≤ L.length) : frontF (pB (L.take i)) = frontL L i := by
  have hne : L.take i ≠ [] := fun e => by
    have h0 : (L.take i).length = 0 := by rw [e]; rfl
    rw [List.length_take] at h0
    omega
  unfold frontF frontL
  congr 1
  apply ba_ext
  rw [pB_data]
  show Lib.trimSuffix (pL (L.take i)) [47] = _
  unfold Lib.trimSuffix
  rw [pL_last (fun x hx => hL x (List.mem_of_mem_take hx)) hne]
  rfl
theorem lowT_none {L : List ByteArray} {n j : Nat} {T : TT} (h : Nodes L n T j) (hj : j ≤ L.length) {i : Nat} (hi : i ≤ L.length) (hji : j ≤ i) : lowT T (frontL L i) = [] := by
  rw [h.lowT_eq hj hi, Nat.sub_eq_zero_of_le hji]
  rfl
theorem lowT_len {L : List ByteArray} {n j : Nat} {T : TT} (h : Nodes L n T j) (hj : j ≤ L.length) {i : Nat} (hi : i ≤ L.length) : (lowT T (frontL L i)).length = j - i := by
  rw [h.lowT_eq hj hi, List.length_map, List.length_range]
theorem idxB_mem : ∀ {s : List UInt8} {c : UInt8}, c ∈ s → 0 ≤ Lib.indexByte s c
  | b :: s, c, h => by
    unfold Lib.indexByte
    by_cases hb : (b == c) = true
    · rw [if_pos hb]; exact Int.le_refl _
    · rw [if_neg hb]
      have hc : c ∈ s := by
        rcases List.mem_cons.1 h with h | h
        · exact absurd (by rw [h]; exact beq_self_eq_true b) hb
        · exact h
      have ih := idxB_mem hc
      rw [if_neg (by rw [beq_iff_eq]; omega)]
      omega
/-- a slice of texts that is owned -/
theorem own_shape {w : World} {B : Nat} {v : Value} {l : List ByteArray} (h : w.ownsRow B 9 1 v l.length (l.map Value.string)) : ∃ o cap, v = .slice o l.length cap ∧ l.length ≤ cap ∧ (o = none → l = [] ∧ v = .slice none 0 0) ∧ (∀ a, o = some a → a = ⟨a.block, 0, none⟩ ∧ B ≤ a.block ∧ a.block < w.heap.size) ∧ ∀ k (hk : k < l.length), ∃ g, o = some ⟨g, 0, none⟩ ∧ B ≤ g ∧ g < w.heap.size ∧ w.cell? ⟨g, k, none⟩ = some (.string l[k]) := by
  rcases h.2 with ⟨rfl, h0⟩ | ⟨g, cap, cur, rfl, r1, r2, r3, _⟩
  · have hl : l = [] := List.eq_nil_of_length_eq_zero h0
    subst hl
    exact ⟨none, 0, rfl, Nat.le_refl _, fun _ => ⟨rfl, rfl⟩, fun a h => (by cases h), fun k hk => absurd hk (Nat.not_lt_zero _)⟩
  · have hgl := (Array.getElem?_eq_some_iff.1 r2).1
    refine ⟨some ⟨g, 0, none⟩, cap, rfl, r3, fun h => (by cases h), fun a h => (by cases h; exact ⟨rfl, r1, hgl⟩), fun k hk => ⟨g, rfl, r1, hgl, ?_⟩⟩
    have h1 := h.cells (g := g) rfl k (.string l[k]) (by rw [List.getElem?_map, List.getElem?_eq_getElem hk]; rfl)
    rwa [Addr.add_lit, Nat.zero_add] at h1
theorem own_setO {w w2 : World} {B it size n : Nat} {e : TypeId} {v : Value} {xs : List Value} {ob : Obj} (h : w.ownsRow B e size v n xs) (hlt : it < B) (hw : w2.heap = w.heap) : (setO w2 it ob).ownsRow B e size v n xs := by
  refine ⟨h.1, ?_⟩
  rcases h.2 with hnl | ⟨g, cap, cur, e1, e2, e3, rest⟩
  · exact .inl hnl
  · exact .inr ⟨g, cap, cur, e1, e2, by rw [setO_other (by omega), hw]; exact e3, rest⟩
/-! the tree of a chain in a world -/
theorem FsB.same {w w' : World} {fb mb : Nat} {T : TT} {nodes bytes used clock : Int} (h : FsB w fb mb T nodes bytes used clock) (hf : w'.heap[fb]? = w.heap[fb]?) (hm : w'.heap[mb]? = w.heap[mb]?) : FsB w' fb mb T nodes bytes used clock := by
  obtain ⟨es, cl, h1, h2⟩ := h.is.mp
  obtain ⟨es', cl', g1, g2, g3⟩ := h.born
  exact ⟨⟨hf.trans h.is.fs, es, cl, hm.trans h1, h2⟩, es', cl', hm.trans g1, g2, g3⟩
/-- while it grows: nothing used, the clock is the number of nodes -/
def Grow (fb mb : Nat) (L : List ByteArray) (n j : Nat) (w : World) : Prop := ∃ T, FsB w fb mb T 30 100 0 j ∧ Nodes L n T j
/-- later: each file of one byte at the most, the counters of few steps -/
structure TreS (w : World) (fb mb : Nat) (L : List ByteArray) (n j : Nat) (T : TT) (used clock : Int) : Prop where
  fs : FsB w fb mb T 30 100 used clock
  nodes : Nodes L n T j
  sm : ∀ x ∈ T, x.2.2.1.2.1 ≤ 1
  u1 : (j : Int) - 100 ≤ used
  u2 : used ≤ 100
  c1 : 0 ≤ clock
  c2 : clock ≤ 100 - (j : Int)
def Tre (fb mb : Nat) (L : List ByteArray) (n j : Nat) (w : World) : Prop := ∃ T used clock, TreS w fb mb L n j T used clock
theorem Grow.tre {fb mb : Nat} {L : List ByteArray} {n j : Nat} {w : World} (h : Grow fb mb L n j w) (hjn : j ≤ n) (hj : j ≤ 20) : Tre fb mb L n j w := by
  obtain ⟨T, h1, h2⟩ := h
  refine ⟨T, 0, j, h1, h2, fun x hx => ?_, by omega, by omega, by omega, by omega⟩
  obtain ⟨i, hi, rfl⟩ := List.getElem_of_mem hx
  have h3 := (h2.at' i hi).2.2 (by have := h2.len; omega)
  rw [h3]
  exact Nat.zero_le _
theorem Grow.same {fb mb : Nat} {L : List ByteArray} {n j : Nat} (w w' : World) (hf : w'.heap[fb]? = w.heap[fb]?) (hm : w'.heap[mb]? = w.heap[mb]?) (h : Grow fb mb L n j w) : Grow fb mb L n j w' := by
  obtain ⟨T, h1, h2⟩ := h
  exact ⟨T, h1.same hf hm, h2⟩
theorem Tre.same {fb mb : Nat} {L : List ByteArray} {n j : Nat} (w w' : World) (hf : w'.heap[fb]? = w.heap[fb]?) (hm : w'.heap[mb]? = w.heap[mb]?) (h : Tre fb mb L n j w) : Tre fb mb L n j w' := by
  obtain ⟨T, u, c, h1⟩ := h
  exact ⟨T, u, c, h1.fs.same hf hm, h1.nodes, h1.sm, h1.u1, h1.u2, h1.c1, h1.c2⟩
theorem Grow.below {fb mb : Nat} {L : List ByteArray} {n j : Nat} {w w' : World} (h : Grow fb mb L n j w) (hb : Below w.heap.size w w') : Grow fb mb L n j w' := by
  obtain ⟨T, h1, h2⟩ := h
  exact ⟨T, h1.below hb, h2⟩
theorem TreS.below {w w' : World} {fb mb : Nat} {L : List ByteArray} {n j : Nat} {T : TT} {u c : Int} (h : TreS w fb mb L n j T u c) (hb : Below w.heap.size w w') : TreS w' fb mb L n j T u c := ⟨h.fs.below hb, h.nodes, h.sm, h.u1, h.u2, h.c1, h.c2⟩
theorem Tre.below {fb mb : Nat} {L : List ByteArray} {n j : Nat} {w w' : World} (h : Tre fb mb L n j w) (hb : Below w.heap.size w w') : Tre fb mb L n j w' := by
  obtain ⟨T, u, c, h1⟩ := h
  exact ⟨T, u, c, h1.below hb⟩
theorem Tre.size {fb mb : Nat} {L : List ByteArray} {n j : Nat} {w : World} (h : Tre fb mb L n j w) : fb < w.heap.size ∧ mb < w.heap.size := by
  obtain ⟨T, u, c, h1⟩ := h
  exact h1.fs.lt
theorem Grow.size {fb mb : Nat} {L : List ByteArray} {n j : Nat} {w : World} (h : Grow fb mb L n j w) : fb < w.heap.size ∧ mb < w.heap.size := by
  obtain ⟨T, h1, _⟩ := h
  exact h1.lt
theorem MaxIs.ne {w : World} {fb mb : Nat} {T : TT} {nodes bytes used clock : Int} (h : MaxIs w) (hF : FsB w fb mb T nodes bytes used clock) : 1 ≠ fb ∧ 1 ≠ mb := by
  obtain ⟨m, hm⟩ := h
  refine ⟨fun e => ?_, fun e => ?_⟩
  · rw [e, cell_u hF.is.fs] at hm
    cases hm
  · obtain ⟨es, cl, h1, _⟩ := hF.is.mp
    unfold World.cell? at hm
    rw [e, h1] at hm
    cases hm
/-! path.Abs from a directory of names -/
set_option maxHeartbeats 3200000 in
set_option maxRecDepth 100000 in
theorem parts_cwd (c p : ByteArray) (w : World) (hm : MaxIs w) (hsc : c.size ≤ 1100000) (hs : p.size ≤ 1100000) (hp : Lib.hasPrefix p.data.toList [47] ≠ true) :
    Calls Tryz.prog 42 #[.string c, .string p] w fun e w' => ∃ v, e = .returned v ∧ w'.ownsRow w.heap.size 9 1 v (outP (pcs c ++ pcs p)).length ((outP (pcs c ++ pcs p)).map Value.string) ∧ Below w.heap.size w w' := by
  obtain ⟨i0, hi, hz0, hz1, hz2⟩ := info_parts pa_info9
  have hlt0 := hm.lt
  obtain ⟨m, hmc⟩ := hm
  have hS := Tryz.strings_Split p slB m w (by omega) hmc (by decide)
  have hle := pcs_le p
  have hlen := pcs_len p
  change Calls Tryz.prog 80 #[.string p, .string slB] w (fun e w' => e = .returned (.slice (some ⟨w.heap.size, 0, none⟩) (Lib.countB p slB + 1) (Lib.countB p slB + 1)) ∧ w' = w.alloc (.cells ((pcs p).map Value.string).toArray 9)) at hS
  rw [← hlen] at hS
  obtain ⟨R0, hR0⟩ : ∃ r, r = outP (pcs c ++ pcs p) := ⟨_, rfl⟩
  rw [← hR0]
  have hall0 : R0 = outP (pcs c ++ pcs p) := hR0
  clear hR0
  obtain ⟨al, hal⟩ : ∃ l, l = pcs p := ⟨_, rfl⟩
  rw [← hal] at hS hle hall0
  clear hal hlen
  have hcs : ∀ j u, (al.map Value.string)[j]? = some u → (w.alloc (.cells (al.map Value.string).toArray 9)).cell? ((⟨w.heap.size, 0, none⟩ : Addr).add j) = some u := row_new w _ _
  have hb0 : Below w.heap.size w (w.alloc (.cells (al.map Value.string).toArray 9)) := (Below.refl _ _).alloc (Nat.le_refl _) _
  have hgl : w.heap.size < (w.alloc (.cells (al.map Value.string).toArray 9)).heap.size := by simp
  generalize w.alloc (.cells (al.map Value.string).toArray 9) = W1 at hS hcs hb0 hgl
  have hH : Calls Tryz.prog 39 #[.string p, .string slB] W1 fun e w' => e = .returned (.bool false) ∧ w' = W1 := (Tryz.strings_HasPrefix p slB W1).mono fun e w' h => ⟨by rw [h.1]; exact congrArg (fun b => Ending.returned (Value.bool b)) (by cases e : Lib.hasPrefix p.data.toList slB.data.toList with | false => rfl | true => exact absurd e hp), h.2⟩
  have hS2 := Tryz.strings_Split c slB m W1 (by omega) (by rw [hb0.cell (by exact hlt0)]; exact hmc) (by decide)
  have hlec := pcs_le c
  have hlenc := pcs_len c
  change Calls Tryz.prog 80 #[.string c, .string slB] W1 (fun e w' => e = .returned (.slice (some ⟨W1.heap.size, 0, none⟩) (Lib.countB c slB + 1) (Lib.countB c slB + 1)) ∧ w' = W1.alloc (.cells ((pcs c).map Value.string).toArray 9)) at hS2
  rw [← hlenc] at hS2
  have hpos : 0 < (pcs c).length := by omega
  obtain ⟨cl, hcl⟩ : ∃ l, l = pcs c := ⟨_, rfl⟩
  rw [← hcl] at hS2 hlec hall0 hpos
  clear hcl hlenc
  obtain ⟨W2, hW2⟩ : ∃ W2, W2 = W1.alloc (.cells (cl.map Value.string).toArray 9) := ⟨_, rfl⟩
  have hb2 : Below W1.heap.size W1 W2 := by rw [hW2]; exact (Below.refl _ _).alloc (Nat.le_refl _) _
  have hown2 : W2.ownsRow w.heap.size 9 1 (.slice (some ⟨W1.heap.size, 0, none⟩) cl.length cl.length) cl.length (cl.map Value.string) := by
    rw [hW2]
    exact ⟨by rw [List.length_map, Nat.mul_one], .inr ⟨W1.heap.size, cl.length, _, rfl, hb0.size, heap_alloc_new _ _, Nat.le_refl _, by unfold maxLen; omega, by simp, by rw [Nat.mul_one]; exact List.take_of_length_le (by simp)⟩⟩
  have hS2' : Calls Tryz.prog 80 #[.string c, .string slB] W1 fun e w' => e = .returned (.slice (some ⟨W1.heap.size, 0, none⟩) cl.length cl.length) ∧ w' = W2 := by rw [hW2]; exact hS2
  clear hS2 hW2 hp hmc
  have hcs2 : ∀ j u, (al.map Value.string)[j]? = some u → W2.cell? ((⟨w.heap.size, 0, none⟩ : Addr).add j) = some u := fun j u hj => by
    rw [hb2.cell (by rw [Addr.add_lit]; exact hgl)]
    exact hcs j u hj
  have hbw2 : Below w.heap.size w W2 := hb0.trans (hb2.mono hb0.size)
  go_enter Tryz.func42, Tryz.ntmps42
  go_wp2_with fail
  go_at_call 80
  refine hS.mono ?_
  rintro e w1 ⟨rfl, hw⟩
  subst hw
  go_wp2_with fail
  go_at_call 39
  refine hH.mono ?_
  rintro e w2 ⟨rfl, hw⟩
  subst hw
  go_wp2_with fail
  go_at_call 80
  refine hS2'.mono ?_
  rintro e w3 ⟨rfl, hw⟩
  subst hw
  go_wp2_with (at_builtin; refine wpList_append_own _ rfl _ _ 28 rfl w.heap.size 9 i0 _ 1 16 pa_t22 hi hz0 hz1 hz2 rfl (by decide) _ _ _ rfl (by exact hown2) ⟨w.heap.size, 0, none⟩ al.length al.length (al.map Value.string) rfl (by rw [List.length_map]; omega) hcs2 (by intro u hu; obtain ⟨x, _, rfl⟩ := List.mem_map.1 hu; rfl) (by unfold maxLen; omega) (by omega) hbw2.size ?_)
  intro v4 w4 hown4 hgrow4 hnil4
  have hb0 : Below w.heap.size w w4 := hbw2.grown hgrow4 hbw2.size (fun j hj => (hown2.lt j hj).1)
  have hown4 : w4.ownsRow w.heap.size 9 1 v4 (cl.length + al.length) ((cl ++ al).map Value.string) := by rw [List.map_append]; exact hown4
  obtain ⟨all, hald⟩ : ∃ l, l = cl ++ al := ⟨_, rfl⟩
  have hll : cl.length + al.length = all.length := by rw [hald, List.length_append]
  rw [← hald, hll] at hown4
  have hall : R0 = outP all := by rw [hald]; exact hall0
  clear hcs hcs2 hown2 hgrow4 hH hS hS2' hb2 hbw2 hall0 hald
  rcases hown4.2 with ⟨rfl, h0⟩ | ⟨g, cap, cur, rfl, r1, r2, r3, r4, r5, r6⟩
  · exact absurd h0 (by omega)
  have hgl : g < w4.heap.size := (Array.getElem?_eq_some_iff.1 r2).1
  have HC : Hid (∀ k (h : k < all.length), w4.cell? ⟨g, k, none⟩ = some (.string all[k])) := fun k h => by
    have h1 := hown4.cells (g := g) rfl k (.string all[k]) (by rw [List.getElem?_map, List.getElem?_eq_getElem h]; rfl)
    rwa [Addr.add_lit, Nat.zero_add] at h1
  clear hown4 hnil4 r1 r2 r5 r6
  go_wp2
  go_loopw [6, 20] (fun o i wr => ∃ k : Nat, k ≤ all.length ∧ i = .int .i64 k ∧ wr.ownsRow w4.heap.size 9 1 o (outP (all.take k)).length ((outP (all.take k)).map Value.string) ∧ Below w4.heap.size w4 wr) (fun _ i _ => all.length - (intOf i).toNat)
  case atStart => exact ⟨0, Nat.zero_le _, rfl, World.ownsRow_nil _ _ _ _, Below.refl _ _⟩
  case round =>
    obtain ⟨k, hk, rfl, hown, hbel⟩ := hrel
    have hOl := outP_le all k
    by_cases hlt : k < all.length
    · have hcx : wr.cell? ⟨g, k, none⟩ = some (.string all[k]) := (hbel.cell (by exact hgl)).trans (HC.out k hlt)
      obtain ⟨s, hsd⟩ : ∃ s, s = all[k] := ⟨_, rfl⟩
      have HS : Hid (outP (all.take (k + 1)) = stepP (outP (all.take k)) s) := by rw [hsd]; exact outP_snoc hlt
      rw [← hsd] at hcx
      clear hsd
      by_cases c1 : s.data.toList = []
      · have e0 := isE c1
        have HN : Hid (stepP (outP (all.take k)) s = outP (all.take k)) := if_pos (.inl c1)
        go_wp2
        go_roundw
        case rel => exact ⟨k + 1, by omega, by go_num, by rw [HS.out, HN.out]; exact hown, hbel⟩
        case measure => simp [intOf]; omega
      have e0 := isE' c1
      by_cases c2 : s.data.toList = [46]
      · have e1 := eqB c2
        have HN : Hid (stepP (outP (all.take k)) s = outP (all.take k)) := if_pos (.inr c2)
        go_wp2
        go_roundw
        case rel => exact ⟨k + 1, by omega, by go_num, by rw [HS.out, HN.out]; exact hown, hbel⟩
        case measure => simp [intOf]; omega
      have e1 := neB c2
      by_cases c3 : s.data.toList = [46, 46]
      · have e2 := eqB c3
        have HN : Hid (stepP (outP (all.take k)) s = (outP (all.take k)).take ((outP (all.take k)).length - 1)) := by unfold stepP; rw [if_neg (by rintro (h | h); exact c1 h; exact c2 h), if_pos c3]; exact rfl
        have hown0 := hown
        have HO := hown0
        rcases hown0.2 with ⟨rfl, h0⟩ | ⟨gg, cap, cur, rfl, r1, r2, r3, r4, r5, r6⟩
        · have hO : outP (all.take k) = [] := List.eq_nil_of_length_eq_zero h0
          rw [h0] at hown
          clear hown0 h0
          go_wp2
          go_roundw
          case rel => exact ⟨k + 1, by omega, by go_num, by rw [HS.out, HN.out, hO]; exact World.ownsRow_nil _ _ _ _, hbel⟩
          case measure => simp [intOf]; omega
        · obtain ⟨n, hn⟩ : ∃ n, n = (outP (all.take k)).length := ⟨_, rfl⟩
          have HT : Hid (wr.ownsRow w4.heap.size 9 1 (.slice (some ⟨gg, 0, none⟩) (n - 1) cap) (n - 1) (((outP (all.take k)).map Value.string).take (n - 1))) := own_take (by rw [← hn] at HO; exact HO) (by omega)
          rw [← hn] at r3 hOl ⊢
          have hmx : (max (0 : Int) ((n : Int) - 1)).toNat = n - 1 := by omega
          clear hown hown0 HO r2 r6 r5
          go_wp2
          go_roundw
          case rel => exact ⟨k + 1, by omega, by go_num, by rw [HS.out, HN.out, List.length_take, ← hn, List.map_take, Nat.min_eq_left (by omega)]; simp only [hmx]; exact HT.out, hbel⟩
          case measure => simp [intOf]; omega
      · have e2 := neB c3
        have HN : Hid (stepP (outP (all.take k)) s = outP (all.take k) ++ [s]) := by unfold stepP; rw [if_neg (by rintro (h | h); exact c1 h; exact c2 h), if_neg c3]; exact rfl
        go_wp2_with (at_builtin; refine wpList_append_own _ rfl _ _ 28 rfl w4.heap.size 9 i0 _ 1 16 pa_t22 hi hz0 hz1 hz2 rfl (by decide) _ _ _ rfl (by exact hown.alloc _) ⟨wr.heap.size, 0, none⟩ 1 1 [.string s] rfl rfl (row_new _ _ _) (by intro u hu; rw [List.mem_singleton] at hu; subst hu; rfl) (by unfold maxLen; omega) (by omega) (by have := hbel.size; simp; omega) ?_)
        intro v9 w9 hown2 hgrow2 _
        have hb2 : Below w4.heap.size w4 w9 := (hbel.alloc hbel.size _).grown hgrow2 (by have := hbel.size; simp; omega) (fun j hj => (hown.lt j hj).1)
        go_wp2
        go_roundw
        case rel => exact ⟨k + 1, by omega, by go_num, by rw [HS.out, HN.out, List.length_append, List.map_append]; exact hown2, hb2⟩
        case measure => simp [intOf]; omega
    · have hkl : k = all.length := by omega
      subst hkl
      rw [List.take_of_length_le (Nat.le_refl _)] at hown
      have hbw := hb0.trans (hbel.mono hb0.size)
      have hob := own_base hown hb0.size
      clear hown hbel
      go_wp2
      go_ret
      exact ⟨_, rfl, by rw [hall]; exact hob, hbw⟩
theorem joinB_size (l : List ByteArray) : (joinB l).size = (Lib.join (l.map (·.data.toList)) [47]).length + 1 := by
  unfold joinB
  rw [ByteArray.size_append, size_data ⟨#[47]⟩, size_data ⟨_⟩, List.toList_toArray, Nat.add_comm]
  rfl
theorem pcs_name {s : ByteArray} (h : NameOk s) : pcs s = [s] := by
  apply map_inj_ba
  rw [pcs_data, split_none h.sl]
  rfl
theorem outP_names {l : List ByteArray} {s : ByteArray} (hl : ∀ x ∈ l, NameOk x) (h0 : l ≠ []) (hs : NameOk s) : outP (pcs (pB l) ++ pcs s) = l ++ [s] := by
  match l, h0 with
  | x :: r, _ =>
    rw [pcs_pB hl, pcs_name hs]
    unfold outP
    rw [List.cons_append, List.foldl_cons]
    have : stepP [] ⟨#[]⟩ = [] := rfl
    rw [this, fold_names]
    · rfl
    · intro y hy
      rcases List.mem_append.1 hy with hy | hy
      · exact hl y hy
      · rw [List.mem_singleton.1 hy]; exact hs
set_option maxHeartbeats 1600000 in
set_option maxRecDepth 100000 in
theorem abs_at {L : List ByteArray} (hL : ∀ x ∈ L, NameOk x) (h9 : L.length ≤ 9) {i : Nat} (hi1 : 1 ≤ i) (hi : i < L.length) (w : World) (hm : MaxIs w) :
    Calls Tryz.prog 21 #[.string (pB (L.take i)), .string L[i]] w fun e w' => e = .returned (.tuple #[.string (pB (L.take (i + 1))), .int .i64 0]) ∧ Below w.heap.size w w' := by
  have hN := hL L[i] (List.getElem_mem hi)
  have hc1 : (pB (L.take i)).size ≤ 1000 := by
    have := pL_le (take_ok hL i)
    rw [pB_size]
    rw [List.length_take] at this
    omega
  have e0 := isE' hN.ne
  have hC1 : Calls Tryz.prog 41 #[.string (pB (L.take i)), .string ⟨#[0]⟩] w fun e w' => e = .returned (.bool false) ∧ w' = w := (Tryz.strings_Contains_one (pB (L.take i)) 0 w).mono fun e w' h => ⟨by rw [h.1, pB_data, idxB_none (pL_z (take_ok hL i))]; rfl, h.2⟩
  have hC2 : Calls Tryz.prog 41 #[.string L[i], .string ⟨#[0]⟩] w fun e w' => e = .returned (.bool false) ∧ w' = w := (Tryz.strings_Contains_one L[i] 0 w).mono fun e w' h => ⟨by rw [h.1, idxB_none hN.z]; rfl, h.2⟩
  have hne : L.take i ≠ [] := fun e => by
    have h0 : (L.take i).length = 0 := by rw [e]; rfl
    rw [List.length_take] at h0
    omega
  have hP := parts_cwd (pB (L.take i)) L[i] w hm (by omega) (by have := hN.le; omega) (by
    intro h
    obtain ⟨r, hr⟩ := hasPrefix_iff.1 h
    exact hN.sl (by rw [hr]; simp))
  rw [outP_names (take_ok hL i) hne hN] at hP
  have hl : L.take i ++ [L[i]] = L.take (i + 1) := (List.take_succ_eq_append_getElem hi).symm
  rw [hl] at hP
  have hle : (L.take (i + 1)).length ≤ 9 := by rw [List.length_take]; omega
  have hjl : joinB (L.take (i + 1)) = pB (L.take (i + 1)) := joinB_pB (take_ne hi)
  have hjs : (pB (L.take (i + 1))).size ≤ 189 := by
    have := pL_le (take_ok hL (i + 1))
    rw [pB_size]
    omega
  have hroom : (Lib.join ((L.take (i + 1)).map (·.data.toList)) [47]).length ≤ 2000000000000 := by
    have := congrArg ByteArray.size hjl
    rw [joinB_size] at this
    omega
  have hlong := long_no (take_ok hL (i + 1))
  obtain ⟨l, hll⟩ : ∃ l, l = L.take (i + 1) := ⟨_, rfl⟩
  rw [← hll] at hP hle hjl hroom hlong hjs ⊢
  clear hll
  obtain ⟨jb, hjb⟩ : ∃ j, j = pB l := ⟨_, rfl⟩
  rw [← hjb] at hjl hjs ⊢
  have hjs' : jb.size ≤ 200 := by omega
  clear hjs hjb
  obtain ⟨cw, hcw⟩ : ∃ c, c = pB (L.take i) := ⟨_, rfl⟩
  rw [← hcw] at hC1 hP hc1 ⊢
  clear hcw
  obtain ⟨nm, hnm⟩ : ∃ c, c = L[i] := ⟨_, rfl⟩
  rw [← hnm] at hC2 hP e0 ⊢
  clear hnm hN
  go_enter Tryz.func21, Tryz.ntmps21
  go_wp2_with fail
  go_at_call 41
  refine hC1.mono ?_
  rintro e w1 ⟨rfl, hw⟩
  subst hw
  go_wp2_with fail
  go_at_call 41
  refine hC2.mono ?_
  rintro e w2 ⟨rfl, hw⟩
  subst hw
  go_wp2_with fail
  go_at_call 42
  refine hP.mono ?_
  rintro e w3 ⟨v, rfl, hown, hb3⟩
  have hCF := cf_any hown (by omega)
  have hJ := join_any hown (by omega) hroom
  rw [hlong] at hCF
  rw [hjl] at hJ
  clear hP hC1 hC2 hroom hjl hlong
  go_wp2_with fail
  go_at_call 43
  refine hCF.mono ?_
  rintro e w4 ⟨rfl, hw⟩
  subst hw
  go_wp2_with fail
  go_at_call 45
  refine hJ.mono ?_
  rintro e w5 ⟨rfl, hb5⟩
  have hbw := hb3.trans (hb5.mono hb3.size)
  have hvl : v = .slice none 0 0 ∨ ∃ g cap, v = .slice (some ⟨g, 0, none⟩) l.length cap := by
    rcases hown.2 with ⟨h, _⟩ | ⟨g, cap, cur, h, _⟩
    · exact .inl h
    · exact .inr ⟨g, cap, h⟩
  have hle20 : l.length ≤ 20 := by omega
  clear hown hCF hJ hb3 hb5
  rcases hvl with rfl | ⟨g, cap, rfl⟩
  all_goals
    go_wp2
    go_ret2
    exact ⟨rfl, hbw⟩
end
end Go.Proofs.YthocoonhoilmdaaGreatDoor
