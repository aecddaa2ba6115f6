/-
  The directories on the way to a path; mkdir with its closure, walked.
-/
import Derived.Test.YthocoonhoilmdaaGreatDoorRvW
import Derived.Test.YthocoonhoilmdaaGreatDoorUdW
import Derived.Test.YthocoonhoilmdaaGreatDoorXMxAL
import Derived.BigQuiet
import Derived.Deep.QuietTactic
import Derived.Deep.RegionLaw
import Derived.Deep.RegionWith
import Derived.Deep.RegionHeld3
import Derived.RegionTactic
import Derived.WalkKit
import Derived.WalkSpells
import Derived.StillTactics
import Derived.LoopIn
import Derived.RowKit3
import Derived.Below
import Derived.OwnWalk
import Derived.KernelRfl
open Go Go.Mx Go.RowKit
namespace Go.Proofs.YthocoonhoilmdaaGreatDoor
set_option maxRecDepth 100000
noncomputable section
/-! the directories on the way to a path, and mkdir: plain -/
def wayU (p : List UInt8) (i : Nat) : List (List UInt8) := ((List.range i).filter fun k => decide (1 ≤ k ∧ p.getD k 0 = 47)).map fun k => p.take k
def wayB (p : ByteArray) : List ByteArray := (wayU p.data.toList p.size).map fun x => ⟨x.toArray⟩
theorem wayU_succ (p : List UInt8) (i : Nat) : wayU p (i + 1) = wayU p i ++ if 1 ≤ i ∧ p.getD i 0 = 47 then [p.take i] else [] := by
  unfold wayU
  rw [List.range_succ, List.filter_append, List.map_append]
  congr 1
  by_cases h : 1 ≤ i ∧ p.getD i 0 = 47
  · rw [if_pos h, List.filter_cons_of_pos (p := fun k => decide (1 ≤ k ∧ p.getD k 0 = 47)) (decide_eq_true h)]
    rfl
  · rw [if_neg h, List.filter_cons_of_neg (p := fun k => decide (1 ≤ k ∧ p.getD k 0 = 47)) (fun e => h (of_decide_eq_true e))]
    rfl
theorem wayU_le (p : List UInt8) (i : Nat) : (wayU p i).length ≤ i := by
  unfold wayU
  rw [List.length_map]
  refine Nat.le_trans (List.length_filter_le _ _) ?_
  rw [List.length_range]
  exact Nat.le_refl _
theorem wayU_no {p : List UInt8} {a : Nat} : ∀ {b : Nat}, (∀ k, a ≤ k → k < a + b → p.getD k 0 ≠ 47) → wayU p (a + b) = wayU p a
  | 0, _ => rfl
  | b + 1, h => by
    rw [← Nat.add_assoc, wayU_succ, if_neg (fun e => h (a + b) (by omega) (by omega) e.2), List.append_nil]
    exact wayU_no fun k h1 h2 => h k h1 (by omega)
theorem wayU_app (p q : List UInt8) : ∀ i, i ≤ p.length → wayU (p ++ q) i = wayU p i
  | 0, _ => rfl
  | i + 1, h => by
    have e1 : (p ++ q).getD i 0 = p.getD i 0 := by rw [List.getD_eq_getElem?_getD, List.getD_eq_getElem?_getD, List.getElem?_append_left (by omega)]
    have e2 : (p ++ q).take i = p.take i := by rw [List.take_append_of_le_length (by omega)]
    rw [wayU_succ, wayU_succ, wayU_app p q i (by omega), e1, e2]
theorem wayU_chain {L : List ByteArray} (hL : ∀ x ∈ L, NameOk x) : ∀ m, m ≤ L.length → wayU (pL (L.take m)) (pL (L.take m)).length = (List.range (m - 1)).map fun k => pL (L.take (k + 1))
  | 0, _ => rfl
  | m + 1, h => by
    have e : pL (L.take (m + 1)) = pL (L.take m) ++ 47 :: L[m].data.toList := by
      rw [List.take_succ_eq_append_getElem (by omega), pL_app]
      simp [pL]
    have hs := (hL L[m] (List.getElem_mem _)).sl
    rw [e]
    have hlen : (pL (L.take m) ++ 47 :: L[m].data.toList).length = (pL (L.take m)).length + 1 + L[m].data.toList.length := by
      rw [List.length_append, List.length_cons]; omega
    rw [hlen, wayU_no fun k h1 h2 => ?_]
    · rw [wayU_succ, wayU_app _ _ _ (Nat.le_refl _), wayU_chain hL m (by omega)]
      have e3 : (pL (L.take m) ++ 47 :: L[m].data.toList).getD (pL (L.take m)).length 0 = 47 := by
        rw [List.getD_eq_getElem?_getD, List.getElem?_append_right (Nat.le_refl _), Nat.sub_self]
        rfl
      have e4 : (pL (L.take m) ++ 47 :: L[m].data.toList).take (pL (L.take m)).length = pL (L.take m) := List.take_left
      rw [e3, e4]
      cases m with
      | zero => rw [if_neg (by simp [pL])]; rfl
      | succ m =>
        have hpos := pL_lt L (i := 0) (j := m + 1) (by omega) (by omega)
        rw [if_pos ⟨by omega, rfl⟩, Nat.add_sub_cancel, Nat.add_sub_cancel, List.range_succ, List.map_append]
        rfl
    · rw [List.getD_eq_getElem?_getD, List.getElem?_append_right (by omega)]
      obtain ⟨d, hd⟩ : ∃ d, k - (pL (L.take m)).length = d + 1 := ⟨k - (pL (L.take m)).length - 1, by omega⟩
      rw [hd, List.getElem?_cons_succ]
      have hdl : d < L[m].data.toList.length := by omega
      rw [List.getElem?_eq_getElem hdl]
      intro e5
      exact hs (by
        have e6 : L[m].data.toList[d] = 47 := e5
        rw [← e6]
        exact List.getElem_mem _)
theorem wayB_chain {L : List ByteArray} (hL : ∀ x ∈ L, NameOk x) {m : Nat} (hm1 : 1 ≤ m) (hm : m ≤ L.length) : wayB (pB (L.take m)) ++ [pB (L.take m)] = (List.range m).map fun k => pB (L.take (k + 1)) := by
  obtain ⟨m', rfl⟩ : ∃ m', m = m' + 1 := ⟨m - 1, by omega⟩
  unfold wayB
  rw [pB_data, pB_size, wayU_chain hL (m' + 1) hm, Nat.add_sub_cancel, List.map_map, List.range_succ, List.map_append]
  rfl
set_option maxHeartbeats 1600000 in
set_option maxRecDepth 100000 in
theorem ways_any (p : ByteArray) (hp : p.size ≤ 1000) (w : World) :
    Calls Tryz.prog 92 #[.string p] w fun e w' => ∃ v : Value, e = .returned v ∧ w'.ownsRow w.heap.size 9 1 v (wayB p).length ((wayB p).map Value.string) ∧ Below w.heap.size w w' := by
  obtain ⟨i0, hi, hz0, hz1, hz2⟩ := info_parts pa_info9
  obtain ⟨out, hout⟩ : ∃ out : Nat → List ByteArray, out = fun i => (wayU p.data.toList i).map fun x => ⟨x.toArray⟩ := ⟨_, rfl⟩
  have hsz : p.data.toList.length = p.size := (size_data p).symm
  have HU : Hid (∀ i (h : i < p.size), 1 ≤ i → (p[i] = 47 → out (i + 1) = out i ++ [p.extract 0 i]) ∧ (p[i] ≠ 47 → out (i + 1) = out i)) := fun i h h1 => by
    have e1 : p.data.toList.getD i 0 = p[i] := by
      rw [List.getD_eq_getElem?_getD, List.getElem?_eq_getElem (by omega)]
      rfl
    rw [hout]
    simp only [wayU_succ, e1]
    refine ⟨fun e => ?_, fun e => ?_⟩
    · rw [if_pos ⟨h1, e⟩, List.map_append]
      congr 1
      simp only [List.map_cons, List.map_nil]
      congr 1
      apply ba_ext
      rw [Lib.extract_from_zero]
    · rw [if_neg (fun h => e h.2), List.append_nil]
  have HZ : Hid (out 1 = [] ∧ out p.size = wayB p ∧ ∀ i, i ≤ p.size → (out i).length ≤ 1000) := by
    rw [hout]
    refine ⟨rfl, rfl, fun i h => ?_⟩
    simp only [List.length_map]
    have := wayU_le p.data.toList i
    omega
  have h1 := HZ.out.1
  clear hout hsz
  go_enter Tryz.func92, Tryz.ntmps92
  go_wp2
  go_loopw [3, 4] (fun o i wr => ∃ k : Nat, 1 ≤ k ∧ (k ≤ p.size ∨ k = 1) ∧ i = .int .i64 k ∧ wr.ownsRow w.heap.size 9 1 o (out k).length ((out k).map Value.string) ∧ Below w.heap.size w wr) (fun _ i _ => p.size - (intOf i).toNat)
  case atStart => exact ⟨1, Nat.le_refl _, .inr rfl, rfl, by rw [h1]; exact World.ownsRow_nil _ _ _ _, Below.refl _ _⟩
  case round =>
    obtain ⟨k, hk1, hk, rfl, hown, hbel⟩ := hrel
    by_cases hlt : k < p.size
    · have hOl := HZ.out.2.2 k (by omega)
      obtain ⟨hu1, hu2⟩ := HU.out k hlt hk1
      by_cases hc : p[k] = 47
      · have HN : Hid (out (k + 1) = out k ++ [p.extract 0 k]) := hu1 hc
        have hc' : (p[k].toNat : Int) = 47 := by rw [hc]; rfl
        obtain ⟨y, hy⟩ : ∃ y, y = p.extract 0 k := ⟨_, rfl⟩
        have hy' : p.extract 0 k = y := hy.symm
        rw [hy'] at HN
        clear hu1 hu2 hy hc
        go_wp2_with (at_builtin; refine wpList_append_own _ rfl _ _ 28 rfl w.heap.size 9 i0 _ 1 16 pa_t22 hi hz0 hz1 hz2 rfl (by decide) _ _ _ rfl (by exact hown.alloc _) ⟨wr.heap.size, 0, none⟩ 1 1 [.string y] rfl rfl (row_new _ _ _) (by intro u hu; rw [List.mem_singleton] at hu; subst hu; rfl) (by unfold maxLen; omega) (by omega) (by have := hbel.size; simp; omega) ?_)
        intro v9 w9 hown9 hgrow9 _
        have hb9 : Below w.heap.size w w9 := (hbel.alloc hbel.size _).grown hgrow9 (by have := hbel.size; simp; omega) (fun j hj => (hown.lt j hj).1)
        go_wp2
        go_roundw
        case rel => exact ⟨k + 1, by omega, .inl (by omega), by go_num, by rw [HN.out, List.length_append, List.map_append]; exact hown9, hb9⟩
        case measure => simp [intOf]; omega
      · have HN : Hid (out (k + 1) = out k) := hu2 hc
        have hc' : ¬ (p[k].toNat : Int) = 47 := fun e => hc (by
          apply UInt8.toNat_inj.1
          show p[k].toNat = 47
          omega)
        clear hu1 hu2 hc
        go_wp2
        go_roundw
        case rel => exact ⟨k + 1, by omega, .inl (by omega), by go_num, by rw [HN.out]; exact hown, hbel⟩
        case measure => simp [intOf]; omega
    · have hE : out k = wayB p := by
        rcases hk with h | h
        · have : k = p.size := by omega
          rw [this]
          exact HZ.out.2.1
        · subst h
          have h2 : p.size = 0 ∨ p.size = 1 := by omega
          rcases h2 with h2 | h2
          · rw [← HZ.out.2.1, h1, h2]
            have := HZ.out.2.1
            rw [h2] at this
            rw [this]
            unfold wayB
            rw [h2]
            rfl
          · rw [← HZ.out.2.1, h2]
      rw [hE] at hown
      clear hE
      go_wp2
      go_ret
      exact ⟨_, rfl, hown, hbel⟩
/-! mkdir, walked -/
theorem But2.cell {w w' : World} {fb mb b i : Nat} (h : But2 w w' fb mb) (hb : b < w.heap.size) (h1 : b ≠ fb) (h2 : b ≠ mb) : w'.cell? ⟨b, i, none⟩ = w.cell? ⟨b, i, none⟩ := by
  unfold World.cell?
  rw [h.kept b hb h1 h2]
theorem But2.sm {X w w' : World} {fb mb : Nat} (hX : Sm X w) (h : But2 X w' fb mb) : But2 w w' fb mb :=
  ⟨by rw [← hX.1]; exact h.size, h.os.trans hX.2.1, h.tape.trans hX.2.2.1, h.output.trans hX.2.2.2, fun j h1 h2 h3 => by rw [← hX.1]; exact h.kept j (by rw [hX.1]; exact h1) h2 h3⟩
theorem Sm.cell {X w : World} (hX : Sm X w) (a : Addr) : X.cell? a = w.cell? a := by
  unfold World.cell?
  rw [hX.1]
theorem Sm.max {X w : World} (hX : Sm X w) (h : MaxIs w) : MaxIs X := by
  obtain ⟨m, hm⟩ := h
  exact ⟨m, (hX.cell _).trans hm⟩
theorem Sm.grow {X w : World} {fb mb : Nat} {L : List ByteArray} {n j : Nat} (hX : Sm X w) (h : Grow fb mb L n j w) : Grow fb mb L n j X := Grow.same w X (by rw [hX.1]) (by rw [hX.1]) h
theorem Sm.tre {X w : World} {fb mb : Nat} {L : List ByteArray} {n j : Nat} (hX : Sm X w) (h : Tre fb mb L n j w) : Tre fb mb L n j X := Tre.same w X (by rw [hX.1]) (by rw [hX.1]) h
theorem Sm.refl (w : World) : Sm w w := ⟨rfl, rfl, rfl, rfl⟩
theorem Sm.drew (w : World) : Sm w.drew w := ⟨rfl, rfl, rfl, rfl⟩
theorem Sm.below {X w w' : World} (hX : Sm X w) (h : Below X.heap.size X w') : Below w.heap.size w w' :=
  ⟨h.os.trans hX.2.1, h.tape.trans hX.2.2.1, h.output.trans hX.2.2.2, by rw [← hX.1]; exact h.size, fun k hk => by rw [← hX.1]; exact h.block k (by rw [hX.1]; exact hk)⟩
theorem Grow.max {w w' : World} {fb mb : Nat} {L : List ByteArray} {n j : Nat} (h : Grow fb mb L n j w) (hm : MaxIs w) (hb : But2 w w' fb mb) : MaxIs w' := by
  obtain ⟨T, hF, _⟩ := h
  exact hm.but hb (hm.ne hF).1 (hm.ne hF).2
theorem Tre.max {w w' : World} {fb mb : Nat} {L : List ByteArray} {n j : Nat} (h : Tre fb mb L n j w) (hm : MaxIs w) (hb : But2 w w' fb mb) : MaxIs w' := by
  obtain ⟨T, u, c, hS⟩ := h
  exact hm.but hb (hm.ne hS.fs).1 (hm.ne hS.fs).2
theorem pB_small {L : List ByteArray} (hL : ∀ x ∈ L, NameOk x) (h9 : L.length ≤ 9) (k : Nat) : (pB (L.take k)).size ≤ 189 := by
  have := pL_le (take_ok hL k)
  rw [pB_size]
  rw [List.length_take] at this
  omega
theorem mk_next {w : World} {fb mb : Nat} {L : List ByteArray} {m k : Nat} (hG : Grow fb mb L m k w) (hkm : k < m) (hmx : MaxIs w) (hL : ∀ x ∈ L, NameOk x) (hmL : m ≤ L.length) (h9 : L.length ≤ 9) :
    Calls Tryz.prog 60 #[.pointer (some ⟨fb, 0, none⟩), .string (pB (L.take (k + 1)))] w fun e w' => e = .returned (.int .i64 0) ∧ Grow fb mb L m (k + 1) w' ∧ But2 w w' fb mb := by
  obtain ⟨T, hF, N⟩ := hG
  have hlen := N.len
  have hk := N.kind hL (by omega) (show k < L.length by omega)
  rw [if_neg (Nat.lt_irrefl k)] at hk
  refine (mkdir_new hF hmx _ _ (by have := pB_small hL h9 (k + 1); omega) (N.fabs hL (by omega) h9 (by omega) (Nat.le_refl k) (by omega)) hk (N.gone (by omega) (Nat.le_refl k) (by omega)) (by omega) (by omega) (by omega) (by omega) (by omega) (by omega) (by omega)).mono ?_
  rintro e w' ⟨rfl, h1, h2⟩
  refine ⟨rfl, ⟨_, h1, ?_⟩, h2⟩
  exact N.push (by rw [decide_eq_true hkm]) fun _ => rfl
theorem mk_old {w : World} {fb mb : Nat} {L : List ByteArray} {m k j : Nat} (hG : Grow fb mb L m j w) (hkj : k < j) (hjm : j ≤ m) (hmx : MaxIs w) (hL : ∀ x ∈ L, NameOk x) (hmL : m ≤ L.length) (h9 : L.length ≤ 9) :
    Calls Tryz.prog 60 #[.pointer (some ⟨fb, 0, none⟩), .string (pB (L.take (k + 1)))] w fun e w' => e = .returned (.int .i64 12) ∧ Below w.heap.size w w' := by
  obtain ⟨T, hF, N⟩ := hG
  have hk := N.kind hL (by omega) (show k < L.length by omega)
  rw [if_pos hkj, if_pos (by omega)] at hk
  exact mkdir_there hF hmx _ _ (by have := pB_small hL h9 (k + 1); omega) (N.fabs hL (by omega) h9 (by omega) (by omega) (by omega)) hk
theorem kind_grow {w : World} {fb mb : Nat} {L : List ByteArray} {m k j : Nat} (hG : Grow fb mb L m j w) (hkj : k ≤ j) (hkm : k < m) (hjm : j ≤ m) (hmx : MaxIs w) (hL : ∀ x ∈ L, NameOk x) (hmL : m ≤ L.length) (h9 : L.length ≤ 9) :
    Calls Tryz.prog 90 #[.pointer (some ⟨fb, 0, none⟩), .string (pB (L.take (k + 1)))] w fun e w' => e = .returned (.int .i64 (if k < j then 2 else 0)) ∧ Below w.heap.size w w' := by
  obtain ⟨T, hF, N⟩ := hG
  have h1 := Kind_any (hF.env hmx) (pB (L.take (k + 1))) (by have := pB_small hL h9 (k + 1); omega)
  rw [N.Kind hL (by omega) h9 (by omega) hkj (by omega), if_pos hkm] at h1
  exact h1
set_option maxHeartbeats 3200000 in
set_option maxRecDepth 100000 in
theorem above_any {w : World} {ub fb mb : Nat} {L : List ByteArray} {m j : Nat} (c0 : w.cell? ⟨ub, 0, none⟩ = some (.pointer (some ⟨fb, 0, none⟩))) (hubf : ub ≠ fb) (hubm : ub ≠ mb) (hG : Grow fb mb L m j w) (hjm : j ≤ m) (hmx : MaxIs w) (hL : ∀ x ∈ L, NameOk x) (hm1 : 1 ≤ m) (hmL : m ≤ L.length) (h9 : L.length ≤ 9) :
    Calls Tryz.prog 61 #[.pointer (some ⟨ub, 0, none⟩), .string (pB (L.take m))] w fun e w' => e = .returned (.int .i64 0) ∧ Grow fb mb L m m w' ∧ But2 w w' fb mb := by
  obtain ⟨i0, hi, hz0, hz1, hz2⟩ := info_parts pa_info9
  have hW := ways_any (pB (L.take m)) (by have := pB_small hL h9 m; omega) w
  have hql := wayB_chain hL hm1 hmL
  have hgs := hG.size
  have hul : ub < w.heap.size := World.block_lt_of_cell? w _ c0
  obtain ⟨p, hp⟩ : ∃ p, p = pB (L.take m) := ⟨_, rfl⟩
  rw [← hp] at hW hql ⊢
  clear hp
  obtain ⟨wl, hwl⟩ : ∃ wl, wl = wayB p := ⟨_, rfl⟩
  rw [← hwl] at hW hql
  clear hwl
  have hwll : wl.length ≤ 9 := by
    have := congrArg List.length hql
    simp only [List.length_append, List.length_cons, List.length_nil, List.length_map, List.length_range] at this
    omega
  have HG : Hid (∀ w', Below w.heap.size w w' → Grow fb mb L m j w' ∧ MaxIs w') := fun w' hb => ⟨hG.below hb, hmx.below hmx.lt hb⟩
  clear hG hmx
  go_enter Tryz.func61, Tryz.ntmps61
  go_wp2_with fail
  go_at_call 92
  refine hW.mono ?_
  rintro e w1 ⟨v, rfl, hown, hb1⟩
  have hz1' := hb1.size
  clear hW
  go_wp2_with (at_builtin; refine wpList_append_own _ rfl _ _ 28 rfl w.heap.size 9 i0 _ 1 16 pa_t22 hi hz0 hz1 hz2 rfl (by decide) v wl.length _ rfl (by exact hown.alloc _) ⟨w1.heap.size, 0, none⟩ 1 1 [.string p] rfl rfl (row_new _ _ _) (by intro u hu; rw [List.mem_singleton] at hu; subst hu; rfl) (by unfold maxLen; omega) (by omega) (by simp; omega) ?_)
  intro v2 w2 hown2 hgrow2 _
  have hb2 : Below w.heap.size w w2 := (hb1.alloc hb1.size _).grown hgrow2 (by simp; omega) (fun j hj => (hown.lt j hj).1)
  have hown3 : w2.ownsRow w.heap.size 9 1 v2 ((List.range m).map fun k => pB (L.take (k + 1))).length (((List.range m).map fun k => pB (L.take (k + 1))).map Value.string) := by
    rw [← hql, List.length_append, List.map_append]
    exact hown2
  obtain ⟨o, cap, rfl, hcap, -, -, hO⟩ := own_shape hown3
  have hlen : ((List.range m).map fun k => pB (L.take (k + 1))).length = m := by simp
  have HO : Hid (∀ k, k < m → ∃ g, o = some ⟨g, 0, none⟩ ∧ w.heap.size ≤ g ∧ g < w2.heap.size ∧ w2.cell? ⟨g, k, none⟩ = some (.string (pB (L.take (k + 1))))) := fun k hk => by
    obtain ⟨g, h1, h2, h3, h4⟩ := hO k (by rw [hlen]; exact hk)
    exact ⟨g, h1, h2, h3, by rw [h4]; simp⟩
  rw [hlen] at hcap ⊢
  have hG2 := (HG.out w2 hb2).1
  have c2 : w2.cell? ⟨ub, 0, none⟩ = some (.pointer (some ⟨fb, 0, none⟩)) := (hb2.cell (by exact hul)).trans c0
  have hz2' := hb2.size
  have HB : Hid (Below w.heap.size w w2 ∧ MaxIs w2 ∧ Grow fb mb L m j w2) := ⟨hb2, (HG.out w2 hb2).2, hG2⟩
  clear hown hown2 hown3 hgrow2 hO hlen hb2 hb1 hql HG c0 hG2
  have HL : Hid (∀ x ∈ L, NameOk x) := hL
  clear hL
  go_wp2
  go_loopw [14] (fun i wr => ∃ k : Nat, k ≤ m ∧ i = .int .i64 k ∧ Grow fb mb L m (max j k) wr ∧ But2 w2 wr fb mb) (fun i _ => m - (intOf i).toNat)
  case atStart => exact ⟨0, Nat.zero_le _, rfl, by rw [Nat.max_eq_left (Nat.zero_le _)]; exact HB.out.2.2, But2.refl _ _ _⟩
  case round =>
    obtain ⟨k, hk, rfl, hg, hbt⟩ := hrel
    by_cases hlt : k < m
    · obtain ⟨g, rfl, hg1, hg2, hc0⟩ := HO.out k hlt
      have hcx : wr.cell? ⟨g, k, none⟩ = some (.string (pB (L.take (k + 1)))) := (hbt.cell hg2 (by omega) (by omega)).trans hc0
      have cu : wr.cell? ⟨ub, 0, none⟩ = some (.pointer (some ⟨fb, 0, none⟩)) := (hbt.cell (by omega) hubf hubm).trans c2
      have hmr : MaxIs wr := HB.out.2.2.max HB.out.2.1 hbt
      have hKd := kind_grow hg (by omega) hlt (by omega) hmr HL.out hmL h9
      have hgz := hg.size
      by_cases hkj : k < j
      · rw [if_pos (by omega)] at hKd
        have e : max j (k + 1) = max j k := by omega
        have HG2 : Hid (∀ w', Below wr.heap.size wr w' → Grow fb mb L m (max j (k + 1)) w' ∧ But2 w2 w' fb mb) := fun w' hb => ⟨by rw [e]; exact hg.below hb, hbt.trans (But2.of fb mb hb)⟩
        obtain ⟨q, hq⟩ : ∃ q, q = pB (L.take (k + 1)) := ⟨_, rfl⟩
        rw [← hq] at hcx hKd
        clear hq hc0 hg hbt hmr e
        go_wp2_with fail
        go_at_call 90
        refine hKd.mono ?_
        rintro e w3 ⟨rfl, hb3⟩
        have h3 := HG2.out w3 hb3
        go_wp2
        go_roundw
        case rel => exact ⟨k + 1, by omega, by go_num, h3.1, h3.2⟩
        case measure => simp [intOf]; omega
      · have e : max j k = k := by omega
        have e2 : max j (k + 1) = k + 1 := by omega
        rw [e] at hg hKd
        rw [if_neg (Nat.lt_irrefl k)] at hKd
        have HM : Hid (∀ w', Below wr.heap.size wr w' → (Calls Tryz.prog 60 #[.pointer (some ⟨fb, 0, none⟩), .string (pB (L.take (k + 1)))] w' fun e w'' => e = .returned (.int .i64 0) ∧ Grow fb mb L m (max j (k + 1)) w'' ∧ But2 w2 w'' fb mb) ∧ w'.cell? ⟨ub, 0, none⟩ = some (.pointer (some ⟨fb, 0, none⟩))) := fun w' hb => by
          refine ⟨?_, (hb.cell (by exact World.block_lt_of_cell? wr _ cu)).trans cu⟩
          refine (mk_next (hg.below hb) hlt (hmr.below hmr.lt hb) HL.out hmL h9).mono ?_
          rintro e w'' ⟨h1, h2, h3⟩
          exact ⟨h1, by rw [e2]; exact h2, (hbt.trans (But2.of fb mb hb)).trans h3⟩
        obtain ⟨q, hq⟩ : ∃ q, q = pB (L.take (k + 1)) := ⟨_, rfl⟩
        rw [← hq] at hcx hKd HM
        clear hq hc0 hg hbt hmr e e2
        go_wp2_with fail
        go_at_call 90
        refine hKd.mono ?_
        rintro e w3 ⟨rfl, hb3⟩
        obtain ⟨hM3, c3⟩ := HM.out w3 hb3
        clear HM hKd
        go_wp2_with fail
        go_at_call 60
        refine hM3.mono ?_
        rintro e w4 ⟨rfl, h4, h5⟩
        go_wp2
        go_roundw
        case rel => exact ⟨k + 1, by omega, by go_num, h4, h5⟩
        case measure => simp [intOf]; omega
    · have hkm : k = m := by omega
      subst hkm
      rw [Nat.max_eq_right hjm] at hg
      have hbt2 := (But2.of fb mb HB.out.1).trans hbt
      clear HO HB HL hbt
      go_wp2
      go_ret
      exact ⟨rfl, hg, hbt2⟩
/-! mkdir's closure, each, mkdir -/
set_option maxHeartbeats 1600000 in
set_option maxRecDepth 100000 in
theorem mk1_p {w : World} {ub hb fb mb : Nat} {L : List ByteArray} {m j : Nat} (x : ByteArray) (cu : w.cell? ⟨ub + 1, 0, none⟩ = some (.pointer (some ⟨ub, 0, none⟩))) (ch : w.cell? ⟨hb, 0, none⟩ = some (.func (.func 61) #[.pointer (some ⟨ub, 0, none⟩)] #[])) (c0 : w.cell? ⟨ub, 0, none⟩ = some (.pointer (some ⟨fb, 0, none⟩))) (hf : fb < ub) (hm : mb < ub) (hG : Grow fb mb L m j w) (hjm : j ≤ m) (hmx : MaxIs w) (hL : ∀ x ∈ L, NameOk x) (hm1 : 1 ≤ m) (hmL : m ≤ L.length) (h9 : L.length ≤ 9) :
    Calls Tryz.prog 62 #[.string x, .string (pB (L.take m)), .pointer (some ⟨ub + 1, 0, none⟩), .pointer (some ⟨hb, 0, none⟩)] w fun e w' => e = .returned (.tuple #[]) ∧ Grow fb mb L m m w' ∧ But2 w w' fb mb := by
  have hul : ub + 1 < w.heap.size := World.block_lt_of_cell? w _ cu
  have HA : Hid (∀ X, Sm X w → Calls Tryz.prog 61 #[.pointer (some ⟨ub, 0, none⟩), .string (pB (L.take m))] X fun e w' => e = .returned (.int .i64 0) ∧ w'.cell? ⟨ub + 1, 0, none⟩ = some (.pointer (some ⟨ub, 0, none⟩)) ∧ Grow fb mb L m m w' ∧ But2 w w' fb mb) := fun X hX => by
    refine (above_any (by rw [hX.cell]; exact c0) (by omega) (by omega) (hX.grow hG) hjm (hX.max hmx) hL hm1 hmL h9).mono ?_
    rintro e w' ⟨h1, h2, h3⟩
    have h4 := But2.sm hX h3
    exact ⟨h1, (h4.cell hul (by omega) (by omega)).trans cu, h2, h4⟩
  clear hG hmx hL c0
  obtain ⟨p, hp⟩ : ∃ p, p = pB (L.take m) := ⟨_, rfl⟩
  rw [← hp] at HA ⊢
  clear hp
  go_enter Tryz.func62, Tryz.ntmps62
  go_wp2_with fail
  go_region_law
    (first
      | (go_simp; go_at_call 61; refine (HA.out _ (by first | exact Sm.refl _ | exact Sm.drew _)).mono ?_; rintro e w1 ⟨rfl, d1, hG1, hk1⟩; dsimp only)
      | (go_simp; go_at_call 54; refine (may_any _ _ _).mono ?_; rintro e w2 ⟨rfl, hw2⟩; subst hw2; dsimp only))
  all_goals
    go_end0
    exact ⟨rfl, hG1, hk1⟩
theorem Sm.to {X w : World} (hX : Sm X w) : Below w.heap.size w X := ⟨hX.2.1, hX.2.2.1, hX.2.2.2, by rw [hX.1]; exact Nat.le_refl _, fun k _ => by rw [hX.1]⟩
set_option maxHeartbeats 1600000 in
set_option maxRecDepth 100000 in
theorem mk1_there {w : World} {ub hb fb mb : Nat} {L : List ByteArray} {m : Nat} {C A I : Value} {nm : ByteArray} (x : ByteArray) (hx : x.size ≤ 1000) (hnm : nm.size ≤ 10) (h : US w w ub (.pointer (some ⟨fb, 0, none⟩)) C (.string nm) A I 0 [] []) (ch : w.cell? ⟨hb, 0, none⟩ = some (.func (.func 60) #[.pointer (some ⟨fb, 0, none⟩)] #[])) (hG : Grow fb mb L m m w) (hmx : MaxIs w) (hL : ∀ x ∈ L, NameOk x) (hm1 : 1 ≤ m) (hmL : m ≤ L.length) (h9 : L.length ≤ 9) :
    Calls Tryz.prog 62 #[.string x, .string (pB (L.take m)), .pointer (some ⟨ub + 1, 0, none⟩), .pointer (some ⟨hb, 0, none⟩)] w fun e w' => e = .returned (.tuple #[]) ∧ ∃ lb, US w w' ub (.pointer (some ⟨fb, 0, none⟩)) C (.string nm) A I 1 [] lb := by
  have cu : w.cell? ⟨ub + 1, 0, none⟩ = some (.pointer (some ⟨ub, 0, none⟩)) := by rw [cell_u h.box]; rfl
  have hul : ub + 1 < w.heap.size := World.block_lt_of_cell? w _ cu
  obtain ⟨m', rfl⟩ : ∃ m', m = m' + 1 := ⟨m - 1, by omega⟩
  have HA : Hid (∀ X, Sm X w → Calls Tryz.prog 60 #[.pointer (some ⟨fb, 0, none⟩), .string (pB (L.take (m' + 1)))] X fun e w' => e = .returned (.int .i64 12) ∧ w'.cell? ⟨ub + 1, 0, none⟩ = some (.pointer (some ⟨ub, 0, none⟩)) ∧ Below w.heap.size w w') := fun X hX => by
    refine (mk_old (hX.grow hG) (Nat.lt_succ_self m') (Nat.le_refl _) (hX.max hmx) hL hmL h9).mono ?_
    rintro e w' ⟨h1, h2⟩
    have h3 := Sm.below hX h2
    exact ⟨h1, (h3.cell (by exact hul)).trans cu, h3⟩
  have HY : Hid (∀ w1, Below w.heap.size w w1 → ∀ Y, Sm Y w1 → Calls Tryz.prog 54 #[.pointer (some ⟨ub, 0, none⟩), .string x, .int .i64 12] Y fun e w' => e = .returned (.bool false) ∧ ∃ lb, US w w' ub (.pointer (some ⟨fb, 0, none⟩)) C (.string nm) A I 1 [] lb) := fun w1 hb Y hY => by
    refine (may_err ((h.below hb).below hY.to) x err12 hnm hx (by simp)).mono ?_
    rintro e w' ⟨h1, h2⟩
    exact ⟨h1, _, h2⟩
  clear hG hmx hL h
  obtain ⟨p, hp⟩ : ∃ p, p = pB (L.take (m' + 1)) := ⟨_, rfl⟩
  rw [← hp] at HA ⊢
  clear hp
  go_enter Tryz.func62, Tryz.ntmps62
  go_wp2_with fail
  go_region_law
    (first
      | (go_simp; go_at_call 60; refine (HA.out _ (by first | exact Sm.refl _ | exact Sm.drew _)).mono ?_; rintro e w1 ⟨rfl, d1, hb1⟩; dsimp only)
      | (go_simp; go_at_call 54; refine (HY.out _ hb1 _ (by first | exact Sm.refl _ | exact Sm.drew _)).mono ?_; rintro e w2 ⟨rfl, lb, hU⟩; dsimp only))
  all_goals
    go_end0
    exact ⟨rfl, lb, hU⟩
set_option maxHeartbeats 1600000 in
set_option maxRecDepth 100000 in
theorem each_mk {w : World} {ub : Nat} {Q : World → Prop} (c1 : w.cell? ⟨ub, 1, none⟩ = some (.string slB)) (hm : MaxIs w) (x p : ByteArray) (hs : x.size ≤ 1100000) (hx : absF x = (p, 0)) (g off cap : Nat) (hg : w.cell? ⟨g, off, none⟩ = some (.string x)) (A B : Value)
    (hK : ∀ w1, Below w.heap.size w w1 → Calls Tryz.prog 62 #[.string x, .string p, A, B] w1 fun e w' => e = .returned (.tuple #[]) ∧ Q w') :
    Calls Tryz.prog 51 #[.pointer (some ⟨ub, 0, none⟩), .slice (some ⟨g, off, none⟩) 1 cap, .func (.func 62) #[] #[A, B]] w fun e w' => e = .returned (.tuple #[]) ∧ Q w' := by
  have HK : Hid (∀ w1, Below w.heap.size w w1 → Calls Tryz.prog 62 #[.string x, .string p, A, B] w1 fun e w' => e = .returned (.tuple #[]) ∧ Q w') := hK
  have HA : Hid (Calls Tryz.prog 87 #[.pointer (some ⟨ub, 0, none⟩), .string x] w fun e w' => e = .returned (.tuple #[.string p, .bool true]) ∧ Below w.heap.size w w') := abs_ok c1 hm x p hs hx
  clear hK c1 hm
  go_enter Tryz.func51, Tryz.ntmps51
  go_wp2
  go_loopw [12] (fun i wr => (i = .int .i64 0 ∧ wr = w) ∨ (i = .int .i64 1 ∧ Q wr)) (fun i _ => 1 - (intOf i).toNat)
  case atStart => exact .inl ⟨rfl, rfl⟩
  case round =>
    obtain ⟨rfl, rfl⟩ | ⟨rfl, hQ⟩ := hrel
    · go_wp2_with fail
      go_at_call 87
      refine HA.out.mono ?_
      rintro e w1 ⟨rfl, hb1⟩
      go_wp2_with fail
      go_at_call 62
      refine (HK.out w1 hb1).mono ?_
      rintro e w2 ⟨rfl, hQ⟩
      go_wp2
      go_roundw
      case rel => exact .inr ⟨rfl, hQ⟩
      case measure => simp [intOf]
    · go_wp2
      go_end0
      exact ⟨rfl, hQ⟩
end
end Go.Proofs.YthocoonhoilmdaaGreatDoor
