/-
  Names, the paths that they make, the tree of a chain; a directory is made, walked.
-/
import Derived.Test.YthocoonhoilmdaaGreatDoorWrF
import Derived.Test.YthocoonhoilmdaaGreatDoorXMxAL
import Derived.BigQuiet
import Derived.Deep.QuietTactic
import Derived.Lib.Split
import Derived.Lib.SplitLaws
import Derived.Lib.IndexBytes
import Derived.Lib.Join
import Derived.Deep.RegionLaw
import Derived.Deep.RegionWith
import Derived.Deep.RegionHeld3
import Derived.RegionTactic
import Derived.WalkKit
import Derived.WalkSpells
import Derived.StillTactics
import Derived.LoopIn
import Derived.RowKit3
import Derived.Below
import Derived.OwnWalk
import Derived.KernelRfl
open Go Go.Mx Go.RowKit
namespace Go.Proofs.YthocoonhoilmdaaGreatDoor
set_option maxRecDepth 100000
noncomputable section
/-! names, and the paths that they make -/
structure NameOk (s : ByteArray) : Prop where
  ne : s.data.toList ≠ []
  dot : s.data.toList.head? ≠ some 46
  sl : 47 ∉ s.data.toList
  z : 0 ∉ s.data.toList
  le : s.size ≤ 20
def pL : List ByteArray → List UInt8
  | [] => []
  | s :: r => 47 :: (s.data.toList ++ pL r)
def pB (l : List ByteArray) : ByteArray := ⟨(pL l).toArray⟩
theorem pB_data (l : List ByteArray) : (pB l).data.toList = pL l := by unfold pB; simp
theorem pL_app (a b : List ByteArray) : pL (a ++ b) = pL a ++ pL b := by
  induction a with
  | nil => rfl
  | cons s r ih => simp [pL, ih]
theorem ba_ext {a b : ByteArray} (h : a.data.toList = b.data.toList) : a = b := ByteArray.ext (Array.toList_inj.1 h)
theorem pB_app (a b : List ByteArray) : pB (a ++ b) = pB a ++ pB b := by
  apply ba_ext
  rw [pB_data, pL_app, ByteArray.data_append, Array.toList_append, pB_data, pB_data]
theorem pB_size (l : List ByteArray) : (pB l).size = (pL l).length := by
  show (pB l).data.size = _
  rw [← Array.length_toList, pB_data]
theorem pL_le {l : List ByteArray} (h : ∀ s ∈ l, NameOk s) : (pL l).length ≤ 21 * l.length := by
  induction l with
  | nil => exact Nat.le_refl _
  | cons s r ih =>
    have h1 := ih fun x hx => h x (List.mem_cons_of_mem _ hx)
    have h2 : s.data.toList.length ≤ 20 := (h s (List.mem_cons_self ..)).le
    simp only [pL, List.length_cons, List.length_append]
    omega
theorem pL_lt (l : List ByteArray) {i j : Nat} (hij : i < j) (hj : j ≤ l.length) : (pL (l.take i)).length < (pL (l.take j)).length := by
  have e : l.take j = l.take i ++ (l.drop i).take (j - i) := by
    rw [← List.take_add]
    congr 1
    omega
  rw [e, pL_app, List.length_append]
  have : 0 < ((l.drop i).take (j - i)).length := by rw [List.length_take, List.length_drop]; omega
  match (l.drop i).take (j - i), this with
  | s :: r, _ => simp [pL]
theorem pB_inj (l : List ByteArray) {i j : Nat} (hi : i ≤ l.length) (hj : j ≤ l.length) (h : pB (l.take i) = pB (l.take j)) : i = j := by
  have e := congrArg ByteArray.size h
  rw [pB_size, pB_size] at e
  rcases Nat.lt_trichotomy i j with h1 | h1 | h1
  · have := pL_lt l h1 hj; omega
  · exact h1
  · have := pL_lt l h1 hi; omega
/-! parts -/
theorem idxB_app : ∀ {s u : List UInt8}, 47 ∉ s → Lib.indexByte (s ++ 47 :: u) 47 = s.length
  | [], u, _ => rfl
  | b :: s, u, h => by
    have hb : (b == 47) = false := beq_eq_false_iff_ne.2 fun e => h (by rw [e]; exact List.mem_cons_self ..)
    have ih := idxB_app (s := s) (u := u) fun e => h (List.mem_cons_of_mem _ e)
    show Lib.indexByte (b :: (s ++ 47 :: u)) 47 = _
    unfold Lib.indexByte
    rw [if_neg (by rw [hb]; simp), ih, if_neg (by rw [beq_iff_eq]; omega)]
    simp
theorem idxB_none : ∀ {s : List UInt8} {c : UInt8}, c ∉ s → Lib.indexByte s c = -1
  | [], _, _ => rfl
  | b :: s, c, h => by
    have hb : (b == c) = false := beq_eq_false_iff_ne.2 fun e => h (by rw [e]; exact List.mem_cons_self ..)
    have ih := idxB_none (s := s) (c := c) fun e => h (List.mem_cons_of_mem _ e)
    unfold Lib.indexByte
    rw [if_neg (by rw [hb]; simp), ih]
    rfl
theorem split_app {s u : List UInt8} (h : 47 ∉ s) : Lib.split (s ++ 47 :: u) [47] = s :: Lib.split u [47] := by
  have hi : Lib.index (s ++ 47 :: u) [47] = (s.length : Nat) := by rw [Lib.index_one]; exact idxB_app h
  have hc := Lib.count_hit (s := s ++ 47 :: u) (sub := [47]) (by simp) hi
  have hd : (s ++ 47 :: u).drop (s.length + [(47 : UInt8)].length) = u := by
    rw [← List.drop_drop, List.drop_left]
    rfl
  rw [hd] at hc
  unfold Lib.split
  rw [hc, Nat.add_comm, Lib.splitK, if_neg (by rw [hi, beq_iff_eq]; omega), hi]
  rw [show ((s.length : Nat) : Int).toNat = s.length from rfl, hd, Nat.add_zero, List.take_left]
theorem split_none {s : List UInt8} (h : 47 ∉ s) : Lib.split s [47] = [s] := by
  have hi : Lib.index s [47] = -1 := by rw [Lib.index_one]; exact idxB_none h
  unfold Lib.split
  rw [Lib.count_miss hi]
  rfl
theorem pcs_data (p : ByteArray) : (pcs p).map (·.data.toList) = Lib.split p.data.toList [47] := Lib.splitB_data slB 0 _ p
theorem split_tail : ∀ {r : List ByteArray} {s : ByteArray}, NameOk s → (∀ x ∈ r, NameOk x) → Lib.split (s.data.toList ++ pL r) [47] = s.data.toList :: r.map (·.data.toList)
  | [], s, hs, _ => by rw [pL, List.append_nil]; exact split_none hs.sl
  | x :: r, s, hs, hr => by
    rw [pL, split_app hs.sl, split_tail (hr x (List.mem_cons_self ..)) fun y hy => hr y (List.mem_cons_of_mem _ hy)]
    rfl
theorem map_inj_ba : ∀ {a b : List ByteArray}, a.map (·.data.toList) = b.map (·.data.toList) → a = b
  | [], [], _ => rfl
  | [], _ :: _, h => by cases h
  | _ :: _, [], h => by cases h
  | x :: a, y :: b, h => by
    simp only [List.map_cons, List.cons.injEq] at h
    rw [ba_ext h.1, map_inj_ba h.2]
theorem pcs_pB {s : ByteArray} {r : List ByteArray} (h : ∀ x ∈ s :: r, NameOk x) : pcs (pB (s :: r)) = ⟨#[]⟩ :: s :: r := by
  apply map_inj_ba
  rw [pcs_data, pB_data, pL]
  have := split_app (s := []) (u := s.data.toList ++ pL r) (by simp)
  rw [List.nil_append] at this
  rw [this, split_tail (h s (List.mem_cons_self ..)) fun y hy => h y (List.mem_cons_of_mem _ hy)]
  rfl
theorem stepP_name {s : ByteArray} (h : NameOk s) (o : List ByteArray) : stepP o s = o ++ [s] := by
  unfold stepP
  rw [if_neg, if_neg]
  · intro e
    exact h.dot (by rw [e]; rfl)
  · rintro (e | e)
    · exact h.ne e
    · exact h.dot (by rw [e]; rfl)
theorem fold_names : ∀ (l o : List ByteArray), (∀ x ∈ l, NameOk x) → l.foldl stepP o = o ++ l
  | [], o, _ => by simp
  | s :: r, o, h => by
    rw [List.foldl_cons, stepP_name (h s (List.mem_cons_self ..)), fold_names r _ fun y hy => h y (List.mem_cons_of_mem _ hy)]
    simp
theorem partsP_pB {l : List ByteArray} (h : ∀ x ∈ l, NameOk x) (h0 : l ≠ []) : partsP (pB l) = l := by
  match l, h0 with
  | s :: r, _ =>
    unfold partsP allP outP
    rw [if_pos (by rw [pB_data]; rfl), pcs_pB h, List.foldl_cons]
    have : stepP [] ⟨#[]⟩ = [] := rfl
    rw [this, fold_names _ _ h]
    rfl
theorem tail_pL : ∀ r : List ByteArray, Lib.joinTail [47] (r.map (·.data.toList)) = pL r
  | [] => rfl
  | s :: r => by
    have := tail_pL r
    unfold Lib.joinTail at this ⊢
    rw [List.map_cons, List.map_cons, List.flatten_cons, this]
    rfl
theorem joinB_pB {l : List ByteArray} (h0 : l ≠ []) : joinB l = pB l := by
  match l, h0 with
  | s :: r, _ =>
    apply ba_ext
    unfold joinB
    rw [pB_data, ByteArray.data_append, Array.toList_append, List.map_cons, Lib.join_cons, tail_pL]
    rfl
theorem pL_z : ∀ {l : List ByteArray}, (∀ x ∈ l, NameOk x) → 0 ∉ pL l
  | [], _ => by simp [pL]
  | s :: r, h => by
    have h1 := (h s (List.mem_cons_self ..)).z
    have h2 := pL_z fun y hy => h y (List.mem_cons_of_mem _ hy)
    simp [pL, h1, h2]
theorem long_no {l : List ByteArray} (h : ∀ x ∈ l, NameOk x) : longF l = false := by
  unfold longF
  rw [List.any_eq_false]
  intro x hx
  have := (h x hx).le
  simp
  omega
theorem absF_pB {l : List ByteArray} (h : ∀ x ∈ l, NameOk x) (h0 : l ≠ []) (h9 : l.length ≤ 9) : absF (pB l) = (pB l, 0) := by
  unfold absF
  rw [if_neg, partsP_pB h h0, joinB_pB h0, if_pos]
  · refine ⟨long_no h, by omega, ?_⟩
    rw [pB_size]
    have := pL_le h
    omega
  · rw [pB_data]
    rintro (e | e)
    · match l, h0 with
      | s :: r, _ => simp [pL] at e
    · rw [idxB_none (pL_z h)] at e
      exact absurd e (by decide)
/-! the way -/
theorem slash_at : ∀ {l : List ByteArray}, (∀ x ∈ l, NameOk x) → ∀ i (_ : i < (pL l).length), (pL l).getD i 0 = 47 → ∃ j, j < l.length ∧ (pL l).take i = pL (l.take j)
  | [], _, i, hi, _ => by simp [pL] at hi
  | s :: r, h, i, hi, h47 => by
    by_cases h0 : i = 0
    · subst h0
      exact ⟨0, by simp, rfl⟩
    · obtain ⟨k, rfl⟩ : ∃ k, i = k + 1 := ⟨i - 1, by omega⟩
      have e1 : (pL (s :: r)).getD (k + 1) 0 = (s.data.toList ++ pL r).getD k 0 := rfl
      rw [e1] at h47
      by_cases hk : k < s.data.toList.length
      · exfalso
        rw [List.getD_eq_getElem?_getD, List.getElem?_append_left hk, List.getElem?_eq_getElem hk] at h47
        exact (h s (List.mem_cons_self ..)).sl (by
          have : s.data.toList[k] = 47 := h47
          rw [← this]
          exact List.getElem_mem hk)
      · have hk2 : k - s.data.toList.length < (pL r).length := by
          simp only [pL, List.length_cons, List.length_append] at hi
          omega
        have e2 : (pL r).getD (k - s.data.toList.length) 0 = 47 := by
          rw [← h47, List.getD_eq_getElem?_getD, List.getD_eq_getElem?_getD, List.getElem?_append_right (by omega)]
        obtain ⟨j, hj, e3⟩ := slash_at (fun y hy => h y (List.mem_cons_of_mem _ hy)) _ hk2 e2
        refine ⟨j + 1, by simp; omega, ?_⟩
        show (47 :: (s.data.toList ++ pL r)).take (k + 1) = pL (s :: r.take j)
        rw [List.take_succ_cons, List.take_append, List.take_of_length_le (by omega), e3]
        rfl
theorem wayF_ok {T : TT} {l : List ByteArray} (h : ∀ x ∈ l, NameOk x) (hd : ∀ j, 1 ≤ j → j < l.length → kindF T (pB (l.take j)) = 2) : wayF T (pB l) = 0 := by
  have key : ∀ f i, i + f = (pB l).size → wayFrom T (pB l) f i = 0 := by
    intro f
    induction f with
    | zero => intro i _; rfl
    | succ f ih =>
      intro i hi
      have ih1 := ih (i + 1) (by omega)
      unfold wayFrom
      split
      · exact ih1
      · rename_i hn
        have hn1 : ((pB l).data.toList.getD i 0).toNat = 47 := by
          by_cases e : ((pB l).data.toList.getD i 0).toNat = 47
          · exact e
          · exact absurd (.inl e) hn
        have hn2 : i ≠ 0 := fun e => hn (.inr e)
        rw [pB_size] at hi
        rw [pB_data] at hn1
        obtain ⟨j, hj, e3⟩ := slash_at h i (by omega) (by
          have : (pL l).getD i 0 = UInt8.ofNat 47 := by rw [← hn1]; simp
          exact this)
        have e4 : (pB l).extract 0 i = pB (l.take j) := by
          apply ba_ext
          rw [Lib.extract_from_zero, pB_data, pB_data, e3]
        have hj1 : 1 ≤ j := by
          rcases Nat.eq_zero_or_pos j with e | e
          · subst e
            have h0 : ((pL l).take i).length = 0 := by rw [e3]; rfl
            rw [List.length_take] at h0
            omega
          · exact e
        rw [e4, hd j hj1 hj, if_neg (by decide), if_neg (by decide)]
        exact ih1
  exact key _ 0 (by omega)
theorem pB_root {l : List ByteArray} (h : ∀ x ∈ l, NameOk x) (h0 : l ≠ []) : (pB l).data.toList ≠ [47] := by
  match l, h0 with
  | s :: r, _ =>
    rw [pB_data]
    intro e
    have h1 := (h s (List.mem_cons_self ..)).ne
    simp only [pL, List.cons.injEq, true_and] at e
    exact h1 (List.append_eq_nil_iff.1 e).1
/-! the tree of a chain -/
/-- the first j of the chain's paths are there; those of the first n are directories -/
structure Nodes (L : List ByteArray) (n : Nat) (T : TT) (j : Nat) : Prop where
  len : T.length = j
  at' : ∀ i (h : i < T.length), T[i].1 = pB (L.take (i + 1)) ∧ T[i].2.1 = decide (i < n) ∧ (i < n → T[i].2.2.1 = (none, 0, 0))
theorem ba_beq {a b : ByteArray} : (a == b) = true ↔ a = b := by
  constructor
  · intro h
    obtain ⟨a⟩ := a
    obtain ⟨b⟩ := b
    have h2 : (a == b) = true := h
    rw [eq_of_beq h2]
  · intro h
    subst h
    obtain ⟨a⟩ := a
    show (a == a) = true
    exact beq_self_eq_true a
theorem Nodes.find {L : List ByteArray} {n j : Nat} {T : TT} (h : Nodes L n T j) (hj : j ≤ L.length) {k : Nat} (hk : k < j) : findT T (pB (L.take (k + 1))) = some (T[k]'(by rw [h.len]; exact hk)).2 := by
  have hkT : k < T.length := by rw [h.len]; exact hk
  unfold findT
  have : T.find? (fun x => pB (L.take (k + 1)) == x.1) = some T[k] := by
    rw [List.find?_eq_some_iff_getElem]
    refine ⟨ba_beq.2 (h.at' k hkT).1.symm, k, hkT, rfl, fun i hi => ?_⟩
    have : (pB (L.take (k + 1)) == T[i].1) = false := by
      rw [Bool.eq_false_iff]
      intro e
      have e2 := ba_beq.1 e
      rw [(h.at' i (by omega)).1] at e2
      have := pB_inj L (by omega) (by omega) e2
      omega
    rw [this]
    rfl
  rw [this]
  rfl
theorem Nodes.gone {L : List ByteArray} {n j : Nat} {T : TT} (h : Nodes L n T j) (_hj : j ≤ L.length) {k : Nat} (hk : j ≤ k) (hkL : k < L.length) : findT T (pB (L.take (k + 1))) = none := by
  unfold findT
  have : T.find? (fun x => pB (L.take (k + 1)) == x.1) = none := by
    rw [List.find?_eq_none]
    intro x hx e
    obtain ⟨i, hi, rfl⟩ := List.getElem_of_mem hx
    have e2 := ba_beq.1 e
    rw [(h.at' i hi).1] at e2
    have := h.len
    have := pB_inj L (by omega) (by omega) e2
    omega
  rw [this]
  rfl
theorem take_ne {L : List ByteArray} {k : Nat} (hk : k < L.length) : L.take (k + 1) ≠ [] := fun e => by
  have h0 : (L.take (k + 1)).length = 0 := by rw [e]; rfl
  rw [List.length_take] at h0
  omega
theorem take_ok {L : List ByteArray} (h : ∀ x ∈ L, NameOk x) (k : Nat) : ∀ x ∈ L.take k, NameOk x := fun x hx => h x (List.mem_of_mem_take hx)
theorem Nodes.kind {L : List ByteArray} {n j : Nat} {T : TT} (h : Nodes L n T j) (hL : ∀ x ∈ L, NameOk x) (hj : j ≤ L.length) {k : Nat} (hk : k < L.length) : kindF T (pB (L.take (k + 1))) = if k < j then if k < n then 2 else 1 else 0 := by
  unfold kindF
  rw [if_neg (pB_root (take_ok hL _) (take_ne hk))]
  by_cases hkj : k < j
  · rw [h.find hj hkj, if_pos hkj]
    have hkT : k < T.length := by rw [h.len]; exact hkj
    have := (h.at' k hkT).2.1
    generalize T[k].2 = y at this
    obtain ⟨d, x, t⟩ := y
    simp only at this
    subst this
    simp
  · rw [h.gone hj (by omega) hk, if_neg hkj]
theorem Nodes.fabs {L : List ByteArray} {n j : Nat} {T : TT} (h : Nodes L n T j) (hL : ∀ x ∈ L, NameOk x) (hj : j ≤ L.length) (h9 : L.length ≤ 9) {k : Nat} (hk : k < L.length) (hkj : k ≤ j) (hkn : k ≤ n) : fabsF T (pB (L.take (k + 1))) = (pB (L.take (k + 1)), 0) := by
  have hl : (L.take (k + 1)).length = k + 1 := by rw [List.length_take]; omega
  unfold fabsF
  rw [absF_pB (take_ok hL _) (take_ne hk) (by omega), if_neg (fun h => h rfl), wayF_ok (take_ok hL _) fun i h1 h2 => ?_]
  · rfl
  · rw [hl] at h2
    obtain ⟨i', rfl⟩ : ∃ i', i = i' + 1 := ⟨i - 1, by omega⟩
    rw [List.take_take, Nat.min_eq_left (by omega), h.kind hL hj (by omega), if_pos (by omega), if_pos (by omega)]
theorem Nodes.Kind {L : List ByteArray} {n j : Nat} {T : TT} (h : Nodes L n T j) (hL : ∀ x ∈ L, NameOk x) (hj : j ≤ L.length) (h9 : L.length ≤ 9) {k : Nat} (hk : k < L.length) (hkj : k ≤ j) (hkn : k ≤ n) : KindF T (pB (L.take (k + 1))) = if k < j then if k < n then 2 else 1 else 0 := by
  unfold KindF
  rw [h.fabs hL hj h9 hk hkj hkn, if_neg (fun h => h rfl)]
  exact h.kind hL hj hk
theorem Nodes.found {L : List ByteArray} {n j : Nat} {T : TT} (h : Nodes L n T j) (hL : ∀ x ∈ L, NameOk x) (hj : j ≤ L.length) (h9 : L.length ≤ 9) {k : Nat} (hk : k < L.length) (hkj : k ≤ j) (hkn : k ≤ n) : foundF T (pB (L.take (k + 1))) = (pB (L.take (k + 1)), if k < j then 0 else 6) := by
  unfold foundF
  rw [h.fabs hL hj h9 hk hkj hkn, h.kind hL hj hk]
  by_cases h1 : k < j
  · rw [if_pos h1, if_pos h1, if_neg]
    rintro ⟨_, h2⟩
    by_cases h3 : k < n
    · rw [if_pos h3] at h2; exact absurd h2 (by decide)
    · rw [if_neg h3] at h2; exact absurd h2 (by decide)
  · rw [if_neg h1, if_neg h1, if_pos ⟨rfl, rfl⟩]
theorem Nodes.push {L : List ByteArray} {n j : Nat} {T : TT} (h : Nodes L n T j) {d : Bool} {x : Option Addr × Nat × Nat} {t : Int} (hd : d = decide (j < n)) (hx : j < n → x = (none, 0, 0)) : Nodes L n (T ++ [(pB (L.take (j + 1)), (d, x, t))]) (j + 1) := by
  refine ⟨by rw [List.length_append, h.len]; rfl, fun i hi => ?_⟩
  by_cases hij : i < T.length
  · rw [List.getElem_append_left hij]
    exact h.at' i hij
  · have : i = j := by rw [List.length_append, h.len] at hi; rw [h.len] at hij; simp at hi; omega
    subst this
    rw [List.getElem_append_right (by omega)]
    simp [h.len, hd]
    exact hx
theorem Nodes.pop {L : List ByteArray} {n j : Nat} {T : TT} (h : Nodes L n T (j + 1)) : Nodes L n (T.take j) j := by
  refine ⟨by rw [List.length_take, h.len]; omega, fun i hi => ?_⟩
  rw [List.length_take] at hi
  rw [List.getElem_take]
  exact h.at' i (by omega)
theorem Nodes.nil (L : List ByteArray) (n : Nat) : Nodes L n [] 0 := ⟨rfl, fun _ hi => absurd hi (Nat.not_lt_zero _)⟩
/-! a file system whose entries' stamps are in order: put, Mkdir, Write -/
/-- no two entries bear one stamp, and all are elder than the clock -/
def Born (w : World) (mb : Nat) : Prop := ∃ es cl, w.heap[mb]? = some (.map es cl) ∧ (es.toList.map (·.born)).Nodup ∧ ∀ x ∈ es.toList, x.born < cl
theorem Born.at {w : World} {mb cl : Nat} {es : Array MapEntry} (h : Born w mb) (hm : w.heap[mb]? = some (.map es cl)) : (es.toList.map (·.born)).Nodup ∧ ∀ x ∈ es.toList, x.born < cl := by
  obtain ⟨es', cl', h1, h2, h3⟩ := h
  rw [hm] at h1
  cases h1
  exact ⟨h2, h3⟩
theorem Born.below {w w' : World} {mb : Nat} (h : Born w mb) (hb : Below w.heap.size w w') : Born w' mb := by
  obtain ⟨es, cl, h1, h2, h3⟩ := h
  exact ⟨es, cl, by rw [hb.block mb (Array.getElem?_eq_some_iff.1 h1).1]; exact h1, h2, h3⟩
theorem born_push {w : World} {mb cl : Nat} {es : Array MapEntry} {k v : Value} (hm : w.heap[mb]? = some (.map (es.push { key := k, val := v, born := cl }) (cl + 1))) (h1 : (es.toList.map (·.born)).Nodup) (h2 : ∀ x ∈ es.toList, x.born < cl) : Born w mb := by
  refine ⟨_, _, hm, ?_, fun x hx => ?_⟩
  · rw [Array.toList_push, List.map_append, List.nodup_append]
    refine ⟨h1, by simp, fun a ha b hb e => ?_⟩
    obtain ⟨x, hx, rfl⟩ := List.mem_map.1 ha
    simp only [List.map_cons, List.map_nil, List.mem_singleton] at hb
    have := h2 x hx
    omega
  · rw [Array.toList_push] at hx
    rcases List.mem_append.1 hx with hx | hx
    · have := h2 x hx; omega
    · rw [List.mem_singleton.1 hx]; exact Nat.lt_succ_self _
set_option maxHeartbeats 1600000 in
set_option maxRecDepth 100000 in
theorem put_bn {w : World} {fb mb : Nat} {T : TT} {nodes bytes used clock : Int} (h : FsIs w fb mb T nodes bytes used clock) (hB : Born w mb) (k : ByteArray) (hk : findT T k = none) (d : Bool) (o : Option Addr) (n cap : Nat) (t0 : Int) (hc0 : 0 ≤ clock) (hc1 : clock ≤ 1000000) :
    Calls Tryz.prog 16 #[.pointer (some ⟨fb, 0, none⟩), .string k, .agg #[.bool d, .slice o n cap, .int .i64 t0]] w fun e w' => e = .returned (.tuple #[]) ∧ FsIs w' fb mb (T ++ [(k, (d, (o, n, cap), clock + 1))]) nodes bytes used (clock + 1) ∧ But2 w w' fb mb ∧ Born w' mb := by
  obtain ⟨es, cl, hm, hT⟩ := h.mp
  obtain ⟨hb1, hb2⟩ := hB.at hm
  clear hB
  have hlm : mb < w.heap.size := (Array.getElem?_eq_some_iff.1 hm).1
  have hlf : fb < w.heap.size := (Array.getElem?_eq_some_iff.1 h.fs).1
  have hne : fb ≠ mb := fun e => by
    have := h.fs
    rw [e, hm] at this
    cases this
  have c0 : w.cell? ⟨fb, 0, none⟩ = some (.map (some mb)) := by rw [cell_u h.fs]; rfl
  have c4 : w.cell? ⟨fb, 4, none⟩ = some (.int .i64 clock) := by rw [cell_u h.fs]; rfl
  have n4 : w.frozen? ⟨fb, 4, none⟩ = false := nf_free (n := 5) h.fs (fun i _ hc => by rcases hc with ⟨_, h⟩; rcases h with h | h <;> simp at h) (by omega)
  have hfs := h.fs
  clear h
  obtain ⟨w1, hw1⟩ : ∃ w1, w1 = (w.setCell ⟨fb, 4, none⟩ (.int .i64 (clock + 1))).alloc (.cells #[.bool d, .slice o n cap, .int .i64 (clock + 1)] 48) := ⟨_, rfl⟩
  have hz1 : w1.heap.size = w.heap.size + 1 := by rw [hw1]; simp
  have hm1 : w1.heap[mb]? = some (.map es cl) := by rw [hw1, Go.heap_alloc_old _ _ (by rw [set_size]; exact hlm), set_other (Ne.symm hne)]; exact hm
  have hf1 : w1.heap[fb]? = some (.cells #[.map (some mb), .int .i64 nodes, .int .i64 bytes, .int .i64 used, .int .i64 (clock + 1)] 43 (0, 0)) := by rw [hw1, Go.heap_alloc_old _ _ (by rw [set_size]; exact hlf)]; exact set_same hfs
  have hn1 : w1.heap[w.heap.size]? = some (.cells #[.bool d, .slice o n cap, .int .i64 (clock + 1)] 48) := by
    have := heap_alloc_new (w.setCell ⟨fb, 4, none⟩ (.int .i64 (clock + 1))) (.cells #[.bool d, .slice o n cap, .int .i64 (clock + 1)] 48)
    rw [set_size] at this
    rw [hw1]
    exact this
  have hk1 : ∀ j, j < w.heap.size → j ≠ fb → w1.heap[j]? = w.heap[j]? := fun j h1 h2 => by rw [hw1, Go.heap_alloc_old _ _ (by rw [set_size]; exact h1), set_other h2]
  have ho1 : w1.os = w.os ∧ w1.tape = w.tape ∧ w1.output = w.output := by rw [hw1]; exact ⟨rfl, rfl, rfl⟩
  have d0 : w1.cell? ⟨fb, 0, none⟩ = some (.map (some mb)) := by rw [cell_u hf1]; rfl
  have e0 : w1.cell? ⟨w.heap.size, 0, none⟩ = some (.bool d) := by rw [cell_u hn1]; rfl
  have e1 : w1.cell? ⟨w.heap.size, 1, none⟩ = some (.slice o n cap) := by rw [cell_u hn1]; rfl
  have e2 : w1.cell? ⟨w.heap.size, 2, none⟩ = some (.int .i64 (clock + 1)) := by rw [cell_u hn1]; rfl
  have hu := run_put_new (w := w1.drew) (k := k) (v := .agg #[.bool d, .slice o n cap, .int .i64 (clock + 1)]) hm1 hT hk
  have hsm : ∀ b i, b ≠ mb → (setMap w1.drew mb (es.push { key := .string k, val := .agg #[.bool d, .slice o n cap, .int .i64 (clock + 1)], born := cl }) (cl + 1)).cell? ⟨b, i, none⟩ = w1.cell? ⟨b, i, none⟩ := fun b i hb => by
    unfold World.cell?
    rw [setMap_other hb]
    rfl
  have s0 := (hsm fb 0 hne).trans d0
  have s1 := (hsm w.heap.size 0 (by omega)).trans e0
  have s2 := (hsm w.heap.size 1 (by omega)).trans e1
  have s3 := (hsm w.heap.size 2 (by omega)).trans e2
  clear hsm
  have HE : Hid (FsIs (setMap w1.drew mb (es.push { key := .string k, val := .agg #[.bool d, .slice o n cap, .int .i64 (clock + 1)], born := cl }) (cl + 1)) fb mb (T ++ [(k, (d, (o, n, cap), clock + 1))]) nodes bytes used (clock + 1) ∧ But2 w (setMap w1.drew mb (es.push { key := .string k, val := .agg #[.bool d, .slice o n cap, .int .i64 (clock + 1)], born := cl }) (cl + 1)) fb mb ∧ Born (setMap w1.drew mb (es.push { key := .string k, val := .agg #[.bool d, .slice o n cap, .int .i64 (clock + 1)], born := cl }) (cl + 1)) mb) := by
    refine ⟨⟨?_, _, _, setMap_same (by show mb < w1.heap.size; omega), ?_⟩, ⟨?_, ho1.1, ho1.2.1, ho1.2.2, fun j h1 h2 h3 => ?_⟩, born_push (setMap_same (by show mb < w1.heap.size; omega)) hb1 hb2⟩
    · rw [setMap_other hne]
      exact hf1
    · rw [Array.toList_push, List.map_append, List.map_append, hT]
      rfl
    · rw [setMap_size]
      show w.heap.size ≤ w1.heap.size
      omega
    · rw [setMap_other h3]
      exact hk1 j h1 h2
  clear hm hT hk hfs hm1 hf1 hn1 hk1 ho1 hb1 hb2
  go_enter Tryz.func16, Tryz.ntmps16
  go_wp2_with fail
  rw [← hw1]
  clear hw1
  go_region_held3 (fun w' => w'.cell? ⟨fb, 0, none⟩ = some (.map (some mb)) ∧ w'.cell? ⟨w.heap.size, 0, none⟩ = some (.bool d) ∧ w'.cell? ⟨w.heap.size, 1, none⟩ = some (.slice o n cap) ∧ w'.cell? ⟨w.heap.size, 2, none⟩ = some (.int .i64 (clock + 1)))
    (first | exact ⟨d0, e0, e1, e2⟩ | exact ⟨s0, s1, s2, s3⟩)
    (fail)
  all_goals
    go_end0
    exact ⟨rfl, HE.out⟩
set_option maxHeartbeats 1600000 in
set_option maxRecDepth 100000 in
theorem write_bn {w : World} {fb mb : Nat} {T : TT} {nodes bytes used clock : Int} (h : FsIs w fb mb T nodes bytes used clock) (hB : Born w mb) (hmx : MaxIs w) (p q : ByteArray) (hp : p.size ≤ 1100000) (ha : fabsF T p = (q, 0)) (hq : kindF T q = 0) (hT : findT T q = none) (hTl : T.length ≤ 1000000)
    (bo : Option Addr) (bn bc : Nat) (hbn : bn ≤ 1000000) (hu : 0 ≤ used) (hu2 : used ≤ 1000000) (hc0 : 0 ≤ clock) (hc1 : clock ≤ 1000000) (hr1 : (T.length : Int) + 1 ≤ nodes) (hr2 : used + (bn : Int) ≤ bytes) (D : World → Option Addr → Prop)
    (hcat : ∀ w1, Below w.heap.size w w1 → CatSaid (w1.setCell ⟨fb, 3, none⟩ (.int .i64 (used + bn))) bo bn bc D) :
    Calls Tryz.prog 8 #[.pointer (some ⟨fb, 0, none⟩), .string p, .slice bo bn bc, .bool false] w fun e w' => e = .returned (.int .i64 0) ∧ ∃ w5 o c, D w5 o ∧ FsIs w' fb mb (T ++ [(q, (false, (o, bn, c), clock + 1))]) nodes bytes (used + bn) (clock + 1) ∧ But2 w5 w' fb mb ∧ Born w' mb ∧ w.heap.size ≤ w5.heap.size ∧ w5.os = w.os ∧ w5.tape = w.tape ∧ w5.output = w.output ∧ ∀ j, j < w.heap.size → j ≠ fb → w5.heap[j]? = w.heap[j]? := by
  have hA : Hid (Calls Tryz.prog 13 #[.pointer (some ⟨fb, 0, none⟩), .string p] w fun e w' => e = .returned (.tuple #[.string q, .int .i64 0]) ∧ Below w.heap.size w w') := by
    have := fabs_any (T := T) ⟨h.tree, hmx⟩ p hp
    rw [ha] at this
    exact this
  have hK : Hid (∀ w', Below w.heap.size w w' → Calls Tryz.prog 14 #[.pointer (some ⟨fb, 0, none⟩), .string q] w' fun e w'' => e = .returned (.int .i64 0) ∧ Below w'.heap.size w' w'') := fun w' hb => by
    have := kind_any (h.tree.below hb) q
    rw [hq] at this
    exact this
  have hF : Hid (∀ w', Below w.heap.size w w' → FsIs w' fb mb T nodes bytes used clock) := fun w' hb => h.below hb
  have hC : Hid (∀ w1, Below w.heap.size w w1 → CatSaid (w1.setCell ⟨fb, 3, none⟩ (.int .i64 (used + bn))) bo bn bc D) := hcat
  have k2 : IntKind.i64.wrap (used + (bn : Int)) = used + (bn : Int) := by rw [IntKind.wrap_i64]; omega
  have hlf : fb < w.heap.size := (Array.getElem?_eq_some_iff.1 h.fs).1
  have HBN : Hid (∀ w5 : World, (∀ j, j < w.heap.size → j ≠ fb → w5.heap[j]? = w.heap[j]?) → Born w5 mb) := fun w5 hk => by
    obtain ⟨es, cl, g1, g2, g3⟩ := hB
    refine ⟨es, cl, ?_, g2, g3⟩
    rw [hk mb (Array.getElem?_eq_some_iff.1 g1).1 fun e => ?_]
    · exact g1
    · have := h.fs
      rw [← e, g1] at this
      cases this
  clear h hcat ha hq hB
  go_enter Tryz.func8, Tryz.ntmps8
  go_wp2_with fail
  go_at_call 13
  refine hA.out.mono ?_
  rintro e w1 ⟨rfl, hb1⟩
  clear hA
  go_wp2_with fail
  go_at_call 14
  refine (hK.out w1 hb1).mono ?_
  rintro e w2 ⟨rfl, hb12⟩
  have hb2 := hb1.trans (hb12.mono hb1.size)
  clear hK
  have h2 := hF.out w2 hb2
  obtain ⟨mb', hc0', hl⟩ := look_T h2.tree
  have e0 : mb' = mb := by
    rw [cell_u h2.fs] at hc0'
    injection hc0' with e
    injection e with e
    injection e with e
    exact e.symm
  subst e0
  have hl1 := hl w2 rfl q false
  rw [hT] at hl1
  change (Instr.lookup 41 (.map (some mb')) (.string q) false).run Tryz.prog w2 = .ok (.agg #[.bool false, .slice none 0 0, .int .i64 0]) w2 at hl1
  clear hl
  have hfd := fld1 w2 false none 0 0 0
  go_wp2_with fail
  go_at_call 15
  have hrm := room_any h2 1 bn hTl (by omega) (by omega) (by omega) (by omega) (by omega) (by omega)
  rw [decide_eq_true hr1, decide_eq_true hr2] at hrm
  refine hrm.mono ?_
  rintro e w3 ⟨rfl, hb23⟩
  have hb3 := hb2.trans (hb23.mono hb2.size)
  clear hrm hl1 hfd h2
  have h3 := hF.out w3 hb3
  have c3 : w3.cell? ⟨fb, 3, none⟩ = some (.int .i64 used) := by rw [cell_u h3.fs]; rfl
  have n3 : w3.frozen? ⟨fb, 3, none⟩ = false := nf_free (n := 5) h3.fs (fun i _ hc => by rcases hc with ⟨_, h⟩; rcases h with h | h <;> simp at h) (by omega)
  have h3s := h3.take (used + bn)
  have hC3 := hC.out w3 hb3
  clear hF hC h3
  go_wp2_with fail
  go_at_call 17
  have hb4 : Below (w3.setCell ⟨fb, 3, none⟩ (.int .i64 (used + bn))).heap.size (w3.setCell ⟨fb, 3, none⟩ (.int .i64 (used + bn))) ((w3.setCell ⟨fb, 3, none⟩ (.int .i64 (used + bn))).alloc (.cells #[.slice none 0 0, .slice bo bn bc] 24)) := (Below.refl _ _).alloc (Nat.le_refl _) _
  have hg4 : ((w3.setCell ⟨fb, 3, none⟩ (.int .i64 (used + bn))).alloc (.cells #[.slice none 0 0, .slice bo bn bc] 24)).heap[w3.heap.size]? = some (.cells #[.slice none 0 0, .slice bo bn bc] 24) := by
    have := heap_alloc_new (w3.setCell ⟨fb, 3, none⟩ (.int .i64 (used + bn))) (.cells #[.slice none 0 0, .slice bo bn bc] 24)
    rw [set_size] at this
    exact this
  refine (hC3 _ hb4 _ hg4).mono ?_
  rintro e w5 ⟨o, c, rfl, hb45, hD⟩
  have hb5 := hb4.trans (hb45.mono hb4.size)
  have hf5 := h3s.below hb5
  have hz5 := hb5.size
  rw [set_size] at hz5
  have hz3 := hb3.size
  have hk5 : Hid (∀ j, j < w.heap.size → j ≠ fb → w5.heap[j]? = w.heap[j]?) := fun j h1 h2 => (hb5.block j (by rw [set_size]; omega)).trans ((set_other h2).trans (hb3.block j h1))
  have ho5 : Hid (w5.os = w.os ∧ w5.tape = w.tape ∧ w5.output = w.output) := ⟨hb5.os.trans hb3.os, hb5.tape.trans hb3.tape, hb5.output.trans hb3.output⟩
  clear hC3 hb4 hg4 hb45 hb5 h3s c3 n3 hb3 hb23
  go_wp2_with fail
  go_at_call 16
  have hB5 := HBN.out w5 hk5.out
  clear HBN
  refine (put_bn hf5 hB5 q hT false o bn c 0 hc0 hc1).mono ?_
  rintro e w6 ⟨rfl, hF6, hB6, hN6⟩
  go_wp2
  go_ret
  exact ⟨rfl, w5, o, c, hD, hF6, hB6, hN6, by omega, ho5.out.1, ho5.out.2.1, ho5.out.2.2, hk5.out⟩
/-- a file system whose cells, map and stamps are known -/
structure FsB (w : World) (fb mb : Nat) (T : TT) (nodes bytes used clock : Int) : Prop where
  is : FsIs w fb mb T nodes bytes used clock
  born : Born w mb
theorem FsB.below {w w' : World} {fb mb : Nat} {T : TT} {nodes bytes used clock : Int} (h : FsB w fb mb T nodes bytes used clock) (hb : Below w.heap.size w w') : FsB w' fb mb T nodes bytes used clock := ⟨h.is.below hb, h.born.below hb⟩
theorem FsB.env {w : World} {fb mb : Nat} {T : TT} {nodes bytes used clock : Int} (h : FsB w fb mb T nodes bytes used clock) (hm : MaxIs w) : Env w fb 0 T := ⟨h.is.tree, hm⟩
theorem FsB.lt {w : World} {fb mb : Nat} {T : TT} {nodes bytes used clock : Int} (h : FsB w fb mb T nodes bytes used clock) : fb < w.heap.size ∧ mb < w.heap.size := by
  obtain ⟨es, cl, h1, _⟩ := h.is.mp
  exact ⟨(Array.getElem?_eq_some_iff.1 h.is.fs).1, (Array.getElem?_eq_some_iff.1 h1).1⟩
theorem But2.refl (w : World) (fb mb : Nat) : But2 w w fb mb := ⟨Nat.le_refl _, rfl, rfl, rfl, fun _ _ _ _ => rfl⟩
theorem But2.trans {w w1 w2 : World} {fb mb : Nat} (h : But2 w w1 fb mb) (h2 : But2 w1 w2 fb mb) : But2 w w2 fb mb :=
  ⟨Nat.le_trans h.size h2.size, h2.os.trans h.os, h2.tape.trans h.tape, h2.output.trans h.output, fun j h3 h4 h5 => (h2.kept j (Nat.lt_of_lt_of_le h3 h.size) h4 h5).trans (h.kept j h3 h4 h5)⟩
theorem But2.of {w w' : World} (fb mb : Nat) (h : Below w.heap.size w w') : But2 w w' fb mb := ⟨h.size, h.os, h.tape, h.output, fun j h1 _ _ => h.block j h1⟩
theorem MaxIs.but {w w' : World} {fb mb : Nat} (h : MaxIs w) (hb : But2 w w' fb mb) (hf : 1 ≠ fb) (hm : 1 ≠ mb) : MaxIs w' := by
  obtain ⟨m, g⟩ := h
  refine ⟨m, ?_⟩
  have hlt : 1 < w.heap.size := World.block_lt_of_cell? w _ g
  unfold World.cell? at g ⊢
  rw [hb.kept _ hlt hf hm]
  exact g
set_option maxHeartbeats 1600000 in
set_option maxRecDepth 100000 in
theorem mkdir_new {w : World} {fb mb : Nat} {T : TT} {nodes bytes used clock : Int} (h : FsB w fb mb T nodes bytes used clock) (hmx : MaxIs w) (p q : ByteArray) (hp : p.size ≤ 1100000) (ha : fabsF T p = (q, 0)) (hq : kindF T q = 0) (hT : findT T q = none) (hTl : T.length ≤ 1000000)
    (hu : 0 ≤ used) (hu2 : used ≤ 1000000) (hc0 : 0 ≤ clock) (hc1 : clock ≤ 1000000) (hr1 : (T.length : Int) + 1 ≤ nodes) (hr2 : used + 0 ≤ bytes) :
    Calls Tryz.prog 60 #[.pointer (some ⟨fb, 0, none⟩), .string p] w fun e w' => e = .returned (.int .i64 0) ∧ FsB w' fb mb (T ++ [(q, (true, (none, 0, 0), clock + 1))]) nodes bytes used (clock + 1) ∧ But2 w w' fb mb := by
  have hA : Hid (Calls Tryz.prog 13 #[.pointer (some ⟨fb, 0, none⟩), .string p] w fun e w' => e = .returned (.tuple #[.string q, .int .i64 0]) ∧ Below w.heap.size w w') := by
    have := fabs_any (T := T) (h.env hmx) p hp
    rw [ha] at this
    exact this
  have hK : Hid (∀ w', Below w.heap.size w w' → Calls Tryz.prog 14 #[.pointer (some ⟨fb, 0, none⟩), .string q] w' fun e w'' => e = .returned (.int .i64 0) ∧ Below w'.heap.size w' w'') := fun w' hb => by
    have := kind_any (h.is.tree.below hb) q
    rw [hq] at this
    exact this
  have hF : Hid (∀ w', Below w.heap.size w w' → FsB w' fb mb T nodes bytes used clock) := fun w' hb => h.below hb
  clear h ha hq
  go_enter Tryz.func60, Tryz.ntmps60
  go_wp2_with fail
  go_at_call 13
  refine hA.out.mono ?_
  rintro e w1 ⟨rfl, hb1⟩
  clear hA
  go_wp2_with fail
  go_at_call 14
  refine (hK.out w1 hb1).mono ?_
  rintro e w2 ⟨rfl, hb12⟩
  have hb2 := hb1.trans (hb12.mono hb1.size)
  clear hK
  have h2 := hF.out w2 hb2
  have hrm := room_any h2.is 1 0 hTl (by omega) (by omega) (by omega) (by omega) (by omega) (by omega)
  rw [decide_eq_true hr1, decide_eq_true hr2] at hrm
  clear h2
  go_wp2_with fail
  go_at_call 15
  refine hrm.mono ?_
  rintro e w3 ⟨rfl, hb23⟩
  have hb3 := hb2.trans (hb23.mono hb2.size)
  have h3 := hF.out w3 hb3
  have hP := put_bn h3.is h3.born q hT true none 0 0 0 hc0 hc1
  clear hrm hF h3 hb23
  go_wp2_with fail
  go_at_call 16
  refine hP.mono ?_
  rintro e w6 ⟨rfl, hF6, hB6, hN6⟩
  go_wp2
  go_ret
  exact ⟨rfl, ⟨hF6, hN6⟩, (But2.of fb mb hb3).trans hB6⟩
set_option maxHeartbeats 1600000 in
set_option maxRecDepth 100000 in
theorem mkdir_there {w : World} {fb mb : Nat} {T : TT} {nodes bytes used clock : Int} (h : FsB w fb mb T nodes bytes used clock) (hmx : MaxIs w) (p q : ByteArray) (hp : p.size ≤ 1100000) (ha : fabsF T p = (q, 0)) (hq : kindF T q = 2) :
    Calls Tryz.prog 60 #[.pointer (some ⟨fb, 0, none⟩), .string p] w fun e w' => e = .returned (.int .i64 12) ∧ Below w.heap.size w w' := by
  have hA : Hid (Calls Tryz.prog 13 #[.pointer (some ⟨fb, 0, none⟩), .string p] w fun e w' => e = .returned (.tuple #[.string q, .int .i64 0]) ∧ Below w.heap.size w w') := by
    have := fabs_any (T := T) (h.env hmx) p hp
    rw [ha] at this
    exact this
  have hK : Hid (∀ w', Below w.heap.size w w' → Calls Tryz.prog 14 #[.pointer (some ⟨fb, 0, none⟩), .string q] w' fun e w'' => e = .returned (.int .i64 2) ∧ Below w'.heap.size w' w'') := fun w' hb => by
    have := kind_any (h.is.tree.below hb) q
    rw [hq] at this
    exact this
  clear h ha hq
  go_enter Tryz.func60, Tryz.ntmps60
  go_wp2_with fail
  go_at_call 13
  refine hA.out.mono ?_
  rintro e w1 ⟨rfl, hb1⟩
  clear hA
  go_wp2_with fail
  go_at_call 14
  refine (hK.out w1 hb1).mono ?_
  rintro e w2 ⟨rfl, hb12⟩
  have hb2 := hb1.trans (hb12.mono hb1.size)
  clear hK
  go_wp2
  go_ret
  exact ⟨rfl, hb2⟩
end
end Go.Proofs.YthocoonhoilmdaaGreatDoor
