/-
  What lies below a path, the names in a directory, all nodes, walked.
-/
import Derived.Test.YthocoonhoilmdaaGreatDoorBpW
import Derived.Test.YthocoonhoilmdaaGreatDoorXMxAL
import Derived.BigQuiet
import Derived.Deep.QuietTactic
import Derived.Deep.RegionLaw
import Derived.Deep.RegionWith
import Derived.Deep.RegionHeld3
import Derived.RegionTactic
import Derived.WalkKit
import Derived.WalkSpells
import Derived.StillTactics
import Derived.LoopIn
import Derived.RowKit3
import Derived.Below
import Derived.OwnWalk
import Derived.KernelRfl
open Go Go.Mx Go.RowKit
namespace Go.Proofs.YthocoonhoilmdaaGreatDoor
set_option maxRecDepth 100000
noncomputable section
/-! what lies below a path, walked -/
open Go.Sort (Holds grow putRow)
set_option maxHeartbeats 3200000 in
set_option maxRecDepth 100000 in
theorem below_any {w : World} {fb mb : Nat} {T : TT} {nodes bytes used clock : Int} (h : FsB w fb mb T nodes bytes used clock) (p : ByteArray) (hp : p.size ≤ 1000) (hTl : T.length ≤ 100) :
    Calls Tryz.prog 20 #[.pointer (some ⟨fb, 0, none⟩), .string p] w fun e w' => ∃ (v : Value) (l : List ByteArray), e = .returned v ∧ w'.ownsRow w.heap.size 9 1 v l.length (l.map Value.string) ∧ l.Perm (lowT T (frontF p)) ∧ Below w.heap.size w w' := by
  obtain ⟨i0, hi, hz0, hz1, hz2⟩ := info_parts pa_info9
  obtain ⟨es, cl, hm, hT⟩ := h.is.mp
  obtain ⟨hn, hold⟩ := h.born.at hm
  have hes : es.size ≤ 100 := by
    have := congrArg List.length hT
    simp only [List.length_map, Array.length_toList] at this
    omega
  have hkeys := (keys_of T es.toList hT).2
  have c0 : w.cell? ⟨fb, 0, none⟩ = some (.map (some mb)) := by rw [cell_u h.is.fs]; rfl
  have hlm : mb < w.heap.size := (Array.getElem?_eq_some_iff.1 hm).1
  have hTX := Tryz.strings_TrimSuffix p slB w (by omega)
  obtain ⟨t, ht⟩ : ∃ t : ByteArray, t = ⟨(Lib.trimSuffix p.data.toList slB.data.toList).toArray⟩ := ⟨_, rfl⟩
  have hts : t.size ≤ 1000 := by
    rw [ht]
    show (Lib.trimSuffix p.data.toList slB.data.toList).toArray.size ≤ 1000
    rw [List.size_toArray]
    have : (Lib.trimSuffix p.data.toList slB.data.toList).length ≤ p.data.toList.length := by
      unfold Lib.trimSuffix
      split
      · rw [List.length_take]; omega
      · exact Nat.le_refl _
    have h2 : p.data.toList.length = p.size := (size_data p).symm
    omega
  rw [← ht] at hTX
  have hfr : frontF p = t ++ slB := by unfold frontF; rw [← ht]
  rw [hfr]
  clear ht hfr
  have hrg := run_range_map (P := Tryz.prog) w 41 9 48 mb es cl v_tM hm
  obtain ⟨W1, hW1⟩ : ∃ W1, W1 = w.alloc (.mapIter (some mb) cl #[] cl) := ⟨_, rfl⟩
  have hit1 : W1.heap[w.heap.size]? = some (.mapIter (some mb) cl #[] cl) := by rw [hW1]; exact heap_alloc_new _ _
  have hb1 : Below w.heap.size w W1 := by rw [hW1]; exact (Below.refl _ _).alloc (Nat.le_refl _) _
  rw [← hW1] at hrg
  obtain ⟨it, hitd⟩ : ∃ it, it = w.heap.size := ⟨_, rfl⟩
  rw [← hitd] at hrg hit1 hb1 hlm ⊢
  have HE : Hid ((∀ (seen : Array Nat), (leftOf es seen).size = 0 → outS es (t ++ slB) seen = lowT T (t ++ slB))) := fun seen h0 => outS_all h0 hT
  have HM : Hid (∀ wr, Below it w wr → wr.heap[mb]? = some (.map es cl)) := fun wr hb => (hb.block mb hlm).trans hm
  have HN : Hid ((es.toList.map (·.born)).Nodup ∧ ∀ x ∈ es.toList, x.born < cl) := ⟨hn, hold⟩
  have HL : Hid (∀ seen, (outS es (t ++ slB) seen).length ≤ 100) := fun seen => Nat.le_trans (outS_le _ _ _) hes
  clear h hT hW1 hm hitd hn hold hes
  go_enter Tryz.func20, Tryz.ntmps20
  go_wp2_with fail
  go_at_call 38
  refine hTX.mono ?_
  rintro e w1 ⟨rfl, hw⟩
  subst hw
  go_wp2
  go_loopw [6] (fun o wr => ∃ (seen : Array Nat) (l : List ByteArray), wr.heap[it]? = some (.mapIter (some mb) cl seen cl) ∧ wr.ownsRow (it + 1) 9 1 o l.length (l.map Value.string) ∧ l.Perm (outS es (t ++ slB) seen) ∧ Below it w1 wr) (fun _ wr => (leftOf es (wr.iterSeen it)).size)
  case atStart => exact ⟨#[], [], hit1, World.ownsRow_nil _ _ _ _, by rw [outS_none], hb1⟩
  case round =>
    obtain ⟨seen, l, hit, hown, hperm, hbel⟩ := hrel
    have hmr := HM.out wr hbel
    have hll : l.length ≤ 100 := by rw [hperm.length_eq]; exact HL.out seen
    have hitl : it < wr.heap.size := (Array.getElem?_eq_some_iff.1 hit).1
    rcases next_at (P := Tryz.prog) wr 0 it mb cl cl seen es cl hit hmr HN.out.2 (Nat.le_refl _) with ⟨h0, hrun⟩ | ⟨e, he, w2, hw2, hrun⟩
    · have hnx : ∀ ty, (Instr.next (.pointer (some ⟨it, 0, none⟩)) false ty).run Tryz.prog wr = .ok (.tuple #[.bool false]) wr := fun _ => hrun
      have hP : l.Perm (lowT T (t ++ slB)) := by rw [← HE.out seen h0]; exact hperm
      clear hrun hperm hit hmr
      rcases hown.2 with ⟨rfl, hl0⟩ | ⟨g, cap, cur, rfl, r1, r2, r3, r4, r5, r6⟩
      · have hl : l = [] := List.eq_nil_of_length_eq_zero hl0
        subst hl
        clear hown
        go_wp2_with fail
        go_at_call 40
        refine (Tryz.slices_Sort_string_none none 0 wr).mono ?_
        rintro e w3 ⟨rfl, hw3⟩
        subst hw3
        go_wp2
        go_ret
        exact ⟨_, [], rfl, World.ownsRow_nil _ _ _ _, hP, hbel⟩
      · have hmap : l.map Value.string = (l.map (·.data.toList)).map encStr := by
          rw [List.map_map]
          apply List.map_congr_left
          intro x _
          show Value.string x = Value.string ⟨x.data.toList.toArray⟩
          rw [Array.toArray_toList]
        have hlen : (l.map (·.data.toList)).length = l.length := List.length_map ..
        have hHo : Holds encStr wr g 0 (l.map (·.data.toList)).toArray := holds_of_block r2 (by rw [hlen, ← hmap]; simpa using r6)
        have hS := Tryz.slices_Sort_string g 0 cap (l.map (·.data.toList)) wr hHo (Array.getElem?_eq_some_iff.1 r2).1 (by rw [hlen]; omega)
        rw [hlen] at hS
        have HS : Hid (∀ (n : Nat) (os : Array Obj), ∃ l' : List ByteArray, (grow (putRow encStr (Sort.ahead wr n) g 0 ((l.map (·.data.toList)).mergeSort fun x y => decide (x ≤ y)).toArray) os).ownsRow (it + 1) 9 1 (.slice (some ⟨g, 0, none⟩) l.length cap) l'.length (l'.map Value.string) ∧ l'.Perm (lowT T (t ++ slB)) ∧ Below it w1 (grow (putRow encStr (Sort.ahead wr n) g 0 ((l.map (·.data.toList)).mergeSort fun x y => decide (x ≤ y)).toArray) os)) := fun n os => by
          obtain ⟨ts, hts⟩ : ∃ ts, ts = (l.map (·.data.toList)).mergeSort fun x y => decide (x ≤ y) := ⟨_, rfl⟩
          rw [← hts]
          have hpt : ts.Perm (l.map (·.data.toList)) := by rw [hts]; exact List.mergeSort_perm _ _
          have htl : ts.length = l.length := by rw [hpt.length_eq, hlen]
          refine ⟨ts.map fun x => ⟨x.toArray⟩, ?_, ?_, ?_⟩
          · have h1 := ownsRow_sorted (n := n) (os := os) (ss := l.map (·.data.toList)) (ts := ts) (by rw [htl, hlen]) r1 r2 (by rw [hlen]; exact r3) r4 r5
            rw [hlen] at h1
            rw [List.length_map, htl, List.map_map]
            exact h1
          · have h2 := hpt.map fun x => (⟨x.toArray⟩ : ByteArray)
            rw [List.map_map] at h2
            have h3 : l.map ((fun x => (⟨x.toArray⟩ : ByteArray)) ∘ fun x => x.data.toList) = l := by
              refine Eq.trans (List.map_congr_left (g := id) fun x _ => ?_) (List.map_id l)
              show (⟨x.data.toList.toArray⟩ : ByteArray) = x
              rw [Array.toArray_toList]
            rw [h3] at h2
            exact h2.trans hP
          · exact hbel.grown (grownBy_sorted _) (by omega) (fun j hj => by
              simp only [Option.some.injEq] at hj
              omega)
        clear hHo hown r2 r4 r5 r6 hmap hlen hP hbel
        go_wp2_with fail
        go_at_call 40
        refine hS.mono ?_
        rintro e w3 ⟨rfl, n, os, hw3⟩
        obtain ⟨l', x1, x2, x3⟩ := HS.out n os
        rw [← hw3] at x1 x3
        clear hw3 HS hS
        have hl' : l'.length = l.length := by
          rcases x1.2 with ⟨e, _⟩ | ⟨_, _, _, e, _⟩
          · cases e
          · injection e with _ e _
            exact e.symm
        go_wp2
        go_ret
        exact ⟨_, l', rfl, own_base x1 (by omega), x2, x3⟩
    · obtain ⟨k, hk⟩ : ∃ k, k = keyB e := ⟨_, rfl⟩
      have hek := hkeys e (mem_left he).1
      rw [← hk] at hek
      rw [hek] at hrun
      have hnx : ∀ ty, (Instr.next (.pointer (some ⟨it, 0, none⟩)) false ty).run Tryz.prog wr = .ok (.tuple #[.bool true, .string k, e.val]) (setO w2 it (.mapIter (some mb) cl (seen.push e.born) cl)) := fun _ => hrun
      have hw2l : it < w2.heap.size := by rw [hw2.1]; exact hitl
      have hne : mb ≠ it := by omega
      have hen := entry_at (P := Tryz.prog) (setO w2 it (.mapIter (some mb) cl (seen.push e.born) cl)) it mb cl seen es cl e (setO_same hw2l) ((setO_other hne).trans (by rw [hw2.1]; exact hmr)) (mem_left he).1 HN.out.1
      rw [hek] at hen
      have HQ : Hid ((leftOf es (seen.push e.born)).size < (leftOf es (wr.iterSeen it)).size ∧ (l ++ if preB (t ++ slB) k = true then [k] else []).Perm (outS es (t ++ slB) (seen.push e.born))) := by
        refine ⟨?_, ?_⟩
        · have : wr.iterSeen it = seen := by unfold World.iterSeen; rw [hit]
          rw [this]
          exact left_shrinks es seen e he
        · rw [hk]
          exact (hperm.append_right _).trans (outS_push he HN.out.1).symm
      have hown3 := own_setO (ob := .mapIter (some mb) cl (seen.push e.born) cl) hown (Nat.lt_succ_self it) hw2.1
      have hb3 : Below it w1 (setO w2 it (.mapIter (some mb) cl (seen.push e.born) cl)) := ⟨hw2.2.1.trans hbel.os, hw2.2.2.1.trans hbel.tape, hw2.2.2.2.trans hbel.output, by rw [setO_size, hw2.1]; exact hbel.size, fun j hj => by rw [setO_other (by omega), hw2.1]; exact hbel.block j hj⟩
      have hit3 : (setO w2 it (.mapIter (some mb) cl (seen.push e.born) cl)).heap[it]? = some (.mapIter (some mb) cl (seen.push e.born) cl) := setO_same hw2l
      have hsz3 : it < (setO w2 it (.mapIter (some mb) cl (seen.push e.born) cl)).heap.size := by rw [setO_size]; exact hw2l
      obtain ⟨ev, hev⟩ : ∃ ev, ev = e.val := ⟨_, rfl⟩
      obtain ⟨bn, hbn⟩ : ∃ bn, bn = e.born := ⟨_, rfl⟩
      rw [← hev] at hnx hen
      rw [← hbn] at hnx hen hown3 hb3 hit3 HQ hsz3
      clear hev hbn hek hrun he hk hw2 hw2l hown hbel hperm hit hmr hitl
      generalize setO w2 it (.mapIter (some mb) cl (seen.push bn) cl) = W3 at hnx hen hown3 hb3 hit3 hsz3
      have hH := Tryz.strings_HasPrefix k (t ++ slB) W3
      by_cases hpr : preB (t ++ slB) k = true
      · have hH' : Calls Tryz.prog 39 #[.string k, .string (t ++ slB)] W3 fun e w' => e = .returned (.bool true) ∧ w' = W3 := hH.mono fun e w' h => ⟨by rw [h.1]; exact congrArg (fun b => Ending.returned (Value.bool b)) hpr, h.2⟩
        rw [if_pos hpr] at HQ
        clear hH hpr
        go_wp2_with fail
        go_at_call 39
        refine hH'.mono ?_
        rintro e4 w4 ⟨rfl, hw4⟩
        subst hw4
        clear hnx hen hH'
        go_wp2_with (at_builtin; refine wpList_append_own _ rfl _ _ 28 rfl (it + 1) 9 i0 _ 1 16 pa_t22 hi hz0 hz1 hz2 rfl (by decide) _ _ _ rfl (by exact hown3.alloc _) ⟨w4.heap.size, 0, none⟩ 1 1 [.string k] rfl rfl (row_new _ _ _) (by intro u hu; rw [List.mem_singleton] at hu; subst hu; rfl) (by unfold maxLen; omega) (by omega) (by simp; omega) ?_)
        intro v9 w9 hown9 hgrow9 _
        have hb9 : Below it w1 w9 := (hb3.alloc (by have := hb3.size; omega) _).grown hgrow9 (by have := hb3.size; simp; omega) (fun j hj => by have := (hown3.lt j hj).1; omega)
        have hit9 : w9.heap[it]? = some (.mapIter (some mb) cl (seen.push bn) cl) := by
          rw [hgrow9.block it (by simp; omega) fun h => by have := (hown3.lt it h.symm).1; omega]
          rw [Go.heap_alloc_old _ _ hsz3]
          exact hit3
        clear hgrow9
        go_wp2
        go_roundw
        case rel => exact ⟨seen.push bn, l ++ [k], hit9, by rw [List.length_append, List.map_append]; exact hown9, HQ.out.2, hb9⟩
        case measure =>
          have : w9.iterSeen it = seen.push bn := by unfold World.iterSeen; rw [hit9]
          rw [this]
          exact HQ.out.1
      · have hH' : Calls Tryz.prog 39 #[.string k, .string (t ++ slB)] W3 fun e w' => e = .returned (.bool false) ∧ w' = W3 := hH.mono fun e w' h => ⟨by rw [h.1]; exact congrArg (fun b => Ending.returned (Value.bool b)) (by cases e : preB (t ++ slB) k with | false => exact e | true => exact absurd e hpr), h.2⟩
        rw [if_neg hpr, List.append_nil] at HQ
        clear hH hpr
        go_wp2_with fail
        go_at_call 39
        refine hH'.mono ?_
        rintro e4 w4 ⟨rfl, hw4⟩
        subst hw4
        clear hnx hen hH'
        go_wp2
        go_roundw
        case rel => exact ⟨seen.push bn, l, hit3, hown3, HQ.out.2, hb3⟩
        case measure =>
          have : w4.iterSeen it = seen.push bn := by unfold World.iterSeen; rw [hit3]
          rw [this]
          exact HQ.out.1
/-! the names in a directory, walked -/
set_option maxHeartbeats 3200000 in
set_option maxRecDepth 100000 in
theorem names_any {w : World} {fb mb : Nat} {T : TT} {nodes bytes used clock : Int} (h : FsB w fb mb T nodes bytes used clock) (p : ByteArray) (hp : p.size ≤ 1000) (hTl : T.length ≤ 100) :
    Calls Tryz.prog 93 #[.pointer (some ⟨fb, 0, none⟩), .string p] w fun e w' => ∃ (v : Value) (l : List ByteArray), e = .returned v ∧ w'.ownsRow w.heap.size 9 1 v l.length (l.map Value.string) ∧ l.Perm ((lowT T (frontF p)).filterMap (nameF (frontF p))) ∧ Below w.heap.size w w' := by
  obtain ⟨i0, hi, hz0, hz1, hz2⟩ := info_parts pa_info9
  have hB := below_any h p hp hTl
  have hTX := Tryz.strings_TrimSuffix p slB w (by omega)
  obtain ⟨t, ht⟩ : ∃ t : ByteArray, t = ⟨(Lib.trimSuffix p.data.toList slB.data.toList).toArray⟩ := ⟨_, rfl⟩
  have hts : t.size ≤ 1000 := by
    rw [ht]
    show (Lib.trimSuffix p.data.toList slB.data.toList).toArray.size ≤ 1000
    rw [List.size_toArray]
    have : (Lib.trimSuffix p.data.toList slB.data.toList).length ≤ p.data.toList.length := by
      unfold Lib.trimSuffix
      split
      · rw [List.length_take]; omega
      · exact Nat.le_refl _
    have h2 : p.data.toList.length = p.size := (size_data p).symm
    omega
  rw [← ht] at hTX
  have hfr : frontF p = t ++ slB := by unfold frontF; rw [← ht]
  obtain ⟨fr, hfd⟩ : ∃ fr, fr = t ++ slB := ⟨_, rfl⟩
  have hfr' : t ++ (⟨#[47]⟩ : ByteArray) = fr := hfd.symm
  rw [← hfd] at hfr
  rw [hfr] at hB ⊢
  have HLL : Hid ((lowT T fr).length ≤ 100 ∧ ∀ q ∈ lowT T fr, fr.size ≤ q.size) := by
    refine ⟨?_, fun q hq => ?_⟩
    · refine Nat.le_trans (List.length_filter_le _ _) ?_
      rw [List.length_map]
      exact hTl
    · have hq2 := (List.mem_filter.1 hq).2
      obtain ⟨r, hr⟩ := hasPrefix_iff.1 hq2
      rw [size_data, size_data, hr, List.length_append]
      omega
  have hfs0 : fr.size ≤ 1001 := by rw [hfd, ByteArray.size_append]; exact Nat.add_le_add_right hts 1
  obtain ⟨fz, hfs⟩ : ∃ fz, fr.size = fz := ⟨_, rfl⟩
  rw [hfs] at hfs0 HLL
  clear ht hfr h hfd
  go_enter Tryz.func93, Tryz.ntmps93
  go_wp2_with fail
  go_at_call 38
  refine hTX.mono ?_
  rintro e w1 ⟨rfl, hw⟩
  subst hw
  go_wp2_with fail
  go_at_call 20
  refine hB.mono ?_
  rintro e w2 ⟨v, l, rfl, hown, hperm, hb2⟩
  obtain ⟨o, cap, rfl, hcap, -, -, hO⟩ := own_shape hown
  have hl1 : l.length ≤ 100 := by rw [hperm.length_eq]; exact HLL.out.1
  have HS : Hid (∀ k (hk : k < l.length), fz ≤ l[k].size) := fun k hk => HLL.out.2 _ (hperm.mem_iff.1 (List.getElem_mem hk))
  have HO : Hid (∀ k (hk : k < l.length), ∃ g, o = some ⟨g, 0, none⟩ ∧ w1.heap.size ≤ g ∧ g < w2.heap.size ∧ w2.cell? ⟨g, k, none⟩ = some (.string l[k])) := hO
  have HP : Hid (l.Perm (lowT T fr)) := hperm
  clear hown hO hperm hB hTX HLL
  obtain ⟨out, hout⟩ : ∃ out : Nat → List ByteArray, out = fun k => (l.take k).filterMap (nameF fr) := ⟨_, rfl⟩
  have HU : Hid (∀ k (hk : k < l.length), out (k + 1) = out k ++ (nameF fr l[k]).toList) := fun k hk => by
    rw [hout]
    simp only
    rw [List.take_succ_eq_append_getElem hk, List.filterMap_append]
    have e1 : ∀ x : ByteArray, [x].filterMap (nameF fr) = (nameF fr x).toList := fun x => by
      simp only [List.filterMap_cons, List.filterMap_nil]
      cases nameF fr x <;> rfl
    rw [e1]
  have HZ : Hid (out 0 = [] ∧ (out l.length).Perm ((lowT T fr).filterMap (nameF fr)) ∧ ∀ k, (out k).length ≤ 100) := by
    rw [hout]
    refine ⟨rfl, ?_, fun k => ?_⟩
    · show ((l.take l.length).filterMap (nameF fr)).Perm _
      rw [List.take_length]
      exact HP.out.filterMap _
    · refine Nat.le_trans (List.length_filterMap_le _ _) ?_
      rw [List.length_take]
      omega
  have h00 := HZ.out.1
  clear hout HP
  go_wp2
  go_loopw [6, 17] (fun o2 i wr => ∃ k : Nat, k ≤ l.length ∧ i = .int .i64 k ∧ wr.ownsRow w2.heap.size 9 1 o2 (out k).length ((out k).map Value.string) ∧ Below w2.heap.size w2 wr) (fun _ i _ => l.length - (intOf i).toNat)
  case atStart => exact ⟨0, Nat.zero_le _, rfl, by rw [h00]; exact World.ownsRow_nil _ _ _ _, Below.refl _ _⟩
  case round =>
    obtain ⟨k, hk, rfl, hown, hbel⟩ := hrel
    have hOl := HZ.out.2.2 k
    by_cases hlt : k < l.length
    · obtain ⟨g, rfl, hg1, hg2, hc0⟩ := HO.out k hlt
      have hcx : wr.cell? ⟨g, k, none⟩ = some (.string l[k]) := (hbel.cell (by exact hg2)).trans hc0
      have hsz := HS.out k hlt
      have hu := HU.out k hlt
      obtain ⟨s, hsd⟩ : ∃ s, s = l[k] := ⟨_, rfl⟩
      rw [← hsd] at hcx hsz hu
      clear hsd hc0
      obtain ⟨y, hy⟩ : ∃ y, y = s.extract fz s.size := ⟨_, rfl⟩
      have hy' : s.extract fz s.size = y := hy.symm
      have hys : y.size ≤ s.size := by rw [hy]; exact extract_le _ _ _
      have hCn := Tryz.strings_Contains_one y 47 wr
      by_cases hc : 47 ∈ (y).data.toList
      · have hN : nameF fr s = none := by unfold nameF; rw [hfs, hy', if_pos hc]
        rw [hN] at hu
        have hu2 : Hid (out (k + 1) = out k) := by show _ = _; rw [hu]; simp
        have hC2 : Calls Tryz.prog 41 #[.string (y), .string ⟨#[47]⟩] wr fun e w' => e = .returned (.bool true) ∧ w' = wr := hCn.mono fun e w' h => ⟨by rw [h.1, decide_eq_true (idxB_mem hc)], h.2⟩
        clear hN hu hCn hc hy
        go_wp2_with fail
        go_at_call 41
        refine hC2.mono ?_
        rintro e4 w4 ⟨rfl, hw4⟩
        subst hw4
        go_wp2
        go_roundw
        case rel => exact ⟨k + 1, by omega, by go_num, by rw [hu2.out]; exact hown, hbel⟩
        case measure => simp [intOf]; omega
      · have hN : nameF fr s = some (y) := by unfold nameF; rw [hfs, hy', if_neg hc]
        rw [hN] at hu
        have hu2 : Hid (out (k + 1) = out k ++ [y]) := hu
        have hC2 : Calls Tryz.prog 41 #[.string (y), .string ⟨#[47]⟩] wr fun e w' => e = .returned (.bool false) ∧ w' = wr := hCn.mono fun e w' h => ⟨by rw [h.1, idxB_none hc]; rfl, h.2⟩
        clear hN hu hCn hc hy
        go_wp2_with fail
        go_at_call 41
        refine hC2.mono ?_
        rintro e4 w4 ⟨rfl, hw4⟩
        subst hw4
        clear hC2
        go_wp2_with (at_builtin; refine wpList_append_own _ rfl _ _ 28 rfl w2.heap.size 9 i0 _ 1 16 pa_t22 hi hz0 hz1 hz2 rfl (by decide) _ _ _ rfl (by exact hown.alloc _) ⟨w4.heap.size, 0, none⟩ 1 1 [.string (y)] rfl rfl (row_new _ _ _) (by intro u hu; rw [List.mem_singleton] at hu; subst hu; rfl) (by unfold maxLen; omega) (by omega) (by have := hbel.size; simp; omega) ?_)
        intro v9 w9 hown9 hgrow9 _
        have hb9 : Below w2.heap.size w2 w9 := (hbel.alloc hbel.size _).grown hgrow9 (by have := hbel.size; simp; omega) (fun j hj => (hown.lt j hj).1)
        go_wp2
        go_roundw
        case rel => exact ⟨k + 1, by omega, by go_num, by rw [hu2.out, List.length_append, List.map_append]; exact hown9, hb9⟩
        case measure => simp [intOf]; omega
    · have hkl : k = l.length := by omega
      subst hkl
      have hz2 := hb2.size
      go_wp2
      go_ret
      exact ⟨_, _, rfl, own_base hown hz2, HZ.out.2.1, hb2.trans (hbel.mono hz2)⟩
/-! the names in a directory of a chain, and all nodes -/
set_option maxHeartbeats 1600000 in
set_option maxRecDepth 100000 in
theorem list_dir {w : World} {fb mb : Nat} {T : TT} {nodes bytes used clock : Int} (h : FsB w fb mb T nodes bytes used clock) (hmx : MaxIs w) {L : List ByteArray} {n j : Nat} (N : Nodes L n T j) (hL : ∀ x ∈ L, NameOk x) (hj : j ≤ L.length) (h9 : L.length ≤ 9) {k : Nat} (hkj : k + 1 < j) (hkn : k < n) :
    Calls Tryz.prog 64 #[.pointer (some ⟨fb, 0, none⟩), .string (pB (L.take (k + 1)))] w fun e w' => ∃ g c, e = .returned (.tuple #[.slice (some ⟨g, 0, none⟩) 1 c, .int .i64 0]) ∧ w'.cell? ⟨g, 0, none⟩ = some (.string (L[k + 1]'(by omega))) ∧ g < w'.heap.size ∧ w.heap.size ≤ g ∧ Below w.heap.size w w' := by
  have hpz : (pB (L.take (k + 1))).size ≤ 1000 := by
    have := pL_le (take_ok hL (k + 1))
    rw [pB_size]
    rw [List.length_take] at this
    omega
  have hTl : T.length ≤ 100 := by rw [N.len]; omega
  have hfo : foundF T (pB (L.take (k + 1))) = (pB (L.take (k + 1)), 0) := by rw [N.found hL hj h9 (by omega) (by omega) (by omega), if_pos (by omega)]
  have hkd : kindF T (pB (L.take (k + 1))) = 2 := by rw [N.kind hL hj (by omega), if_pos (by omega), if_pos hkn]
  have hA : Hid (Calls Tryz.prog 88 #[.pointer (some ⟨fb, 0, none⟩), .string (pB (L.take (k + 1)))] w fun e w' => e = .returned (.tuple #[.string (pB (L.take (k + 1))), .int .i64 0]) ∧ Below w.heap.size w w') := by
    have := found_any (h.env hmx) (pB (L.take (k + 1))) (by omega)
    rw [hfo] at this
    exact this
  have hK : Hid (∀ w', Below w.heap.size w w' → Calls Tryz.prog 14 #[.pointer (some ⟨fb, 0, none⟩), .string (pB (L.take (k + 1)))] w' fun e w'' => e = .returned (.int .i64 2) ∧ Below w'.heap.size w' w'') := fun w' hb => by
    have := kind_any (h.is.tree.below hb) (pB (L.take (k + 1)))
    rw [hkd] at this
    exact this
  have hN : Hid (∀ w', Below w.heap.size w w' → Calls Tryz.prog 93 #[.pointer (some ⟨fb, 0, none⟩), .string (pB (L.take (k + 1)))] w' fun e w'' => ∃ (v : Value) (l : List ByteArray), e = .returned v ∧ w''.ownsRow w'.heap.size 9 1 v l.length (l.map Value.string) ∧ l = [L[k + 1]'(by omega)] ∧ Below w'.heap.size w' w'') := fun w' hb => by
    refine (names_any (h.below hb) (pB (L.take (k + 1))) hpz hTl).mono ?_
    rintro e w'' ⟨v, l, e1, e2, e3, e4⟩
    refine ⟨v, l, e1, e2, ?_, e4⟩
    rw [front_pB hL (by omega) (by omega), N.names hL hj hkj] at e3
    exact perm_one e3
  obtain ⟨x, hx⟩ : ∃ x, x = L[k + 1]'(by omega) := ⟨_, rfl⟩
  rw [← hx] at hN ⊢
  obtain ⟨p, hp⟩ : ∃ p, p = pB (L.take (k + 1)) := ⟨_, rfl⟩
  rw [← hp] at hA hK hN ⊢
  clear hfo hkd h hx hp hpz
  go_enter Tryz.func64, Tryz.ntmps64
  go_wp2_with fail
  go_at_call 88
  refine hA.out.mono ?_
  rintro e w1 ⟨rfl, hb1⟩
  have hK1 := hK.out w1 hb1
  go_wp2_with fail
  go_at_call 14
  refine hK1.mono ?_
  rintro e w2 ⟨rfl, hb12⟩
  have hb2 := hb1.trans (hb12.mono hb1.size)
  have hN2 := hN.out w2 hb2
  clear hK1 hK hN hA
  go_wp2_with fail
  go_at_call 93
  refine hN2.mono ?_
  rintro e w3 ⟨v, l, rfl, hown, rfl, hb3⟩
  obtain ⟨o, cap, rfl, -, -, -, hO⟩ := own_shape hown
  obtain ⟨g, rfl, hg1, hg2, hc⟩ := hO 0 (by simp)
  have hz2 := hb2.size
  clear hN2 hO hown
  go_wp2
  go_ret2
  exact ⟨g, cap, rfl, hc, hg2, by omega, hb2.trans (hb3.mono hz2)⟩
theorem et_u : Tryz.prog.underlying 37 = some (.slice 63) := by kernel_rfl
theorem et_i : (Tryz.prog.info? 63).map (fun i => (i.zero, i.size, i.bytes)) = some (some (.agg #[.string ByteArray.empty, .bool false, .slice none 0 0, .int .i64 0]), 4, 56) := by kernel_rfl
def Sm (X W : World) : Prop := X.heap = W.heap ∧ X.os = W.os ∧ X.tape = W.tape ∧ X.output = W.output
set_option maxHeartbeats 3200000 in
set_option maxRecDepth 100000 in
theorem all_any {w : World} {fb mb : Nat} {T : TT} {nodes bytes used clock : Int} (h : FsB w fb mb T nodes bytes used clock) (hTl : T.length ≤ 100) (hnil : ∀ k x, findT T k = some x → x.2.1 = (none, 0, 0)) (m : Nat) (hm : (lowT T (frontF slB)).length = m) :
    Calls Tryz.prog 11 #[.pointer (some ⟨fb, 0, none⟩)] w fun e w' => ∃ o c, e = .returned (.slice o m c) ∧ Below w.heap.size w w' := by
  obtain ⟨i0, hi, hz0, hz1, hz2⟩ := info_parts et_i
  have hB := below_any h slB (by decide) hTl
  have hm100 : m ≤ 100 := by
    rw [← hm]
    refine Nat.le_trans (List.length_filter_le _ _) ?_
    rw [List.length_map]
    exact hTl
  have HK : Hid (∀ w' q, Below w.heap.size w w' → w'.cell? ⟨fb, 0, none⟩ = some (.map (some mb)) ∧ ∃ d t, (Instr.lookup 41 (.map (some mb)) (.string q) false).run Tryz.prog w' = .ok (.agg #[.bool d, .slice none 0 0, .int .i64 t]) w') := fun w' q hb => by
    obtain ⟨mb', d, o, n', c, g1, g2, g3⟩ := look_ok (h.is.tree.below hb) q
    have e0 : mb' = mb := by
      rw [cell_u (h.is.below hb).fs] at g1
      injection g1 with e
      injection e with e
      injection e with e
      exact e.symm
    subst e0
    refine ⟨g1, d, timeT T q, ?_⟩
    have e1 : ((findT T q).map (·.2.1)).getD (none, 0, 0) = (none, 0, 0) := by
      cases e : findT T q with
      | none => rfl
      | some x => exact hnil q x e
    rw [e1] at g3
    injection g3 with a1 a2
    injection a2 with a2 a3
    subst a1 a2 a3
    exact g2
  clear h hnil
  go_enter Tryz.func11, Tryz.ntmps11
  go_wp2_with fail
  go_at_call 20
  refine hB.mono ?_
  rintro e w2 ⟨v, l, rfl, hown, hperm, hb2⟩
  have hlm : l.length = m := by rw [hperm.length_eq, hm]
  obtain ⟨o, cap, rfl, hcap, -, -, hO⟩ := own_shape hown
  have HO : Hid (∀ k (hk : k < l.length), ∃ g, o = some ⟨g, 0, none⟩ ∧ w.heap.size ≤ g ∧ g < w2.heap.size ∧ w2.cell? ⟨g, k, none⟩ = some (.string l[k])) := hO
  rw [hlm] at hcap ⊢
  have HLM : Hid (l.length = m) := hlm
  clear hown hO hperm hB hm hlm
  go_wp2
  go_loopw [3, 10] (fun o2 i wr => ∃ (k : Nat) (xs : List Value), k ≤ m ∧ i = .int .i64 k ∧ wr.ownsRow w2.heap.size 63 4 o2 k xs ∧ (∃ o3 c3, o2 = .slice o3 k c3) ∧ Below w2.heap.size w2 wr) (fun _ i _ => m - (intOf i).toNat)
  case atStart => exact ⟨0, [], Nat.zero_le _, rfl, World.ownsRow_nil _ _ _ _, ⟨none, 0, rfl⟩, Below.refl _ _⟩
  case round =>
    obtain ⟨k, xs, hk, rfl, hown, ⟨o3, c3, rfl⟩, hbel⟩ := hrel
    by_cases hlt : k < m
    · obtain ⟨g, rfl, hg1, hg2, hc0⟩ := HO.out k (by rw [HLM.out]; exact hlt)
      have hcx : wr.cell? ⟨g, k, none⟩ = some (.string (l[k]'(by rw [HLM.out]; exact hlt))) := (hbel.cell (by exact hg2)).trans hc0
      obtain ⟨q, hq⟩ : ∃ q, q = l[k]'(by rw [HLM.out]; exact hlt) := ⟨_, rfl⟩
      rw [← hq] at hcx
      obtain ⟨hf0, d, t, hlk⟩ := HK.out wr q (hb2.trans (hbel.mono hb2.size))
      have HS : Hid (∀ (X : World) (ob1 : Obj) (cs : List Value) (e2 : TypeId), Sm X ((wr.alloc ob1).alloc (.cells cs.toArray e2)) → X.ownsRow w2.heap.size 63 4 (.slice o3 k c3) k xs ∧ w2.heap.size ≤ X.heap.size ∧ (∀ j u, cs[j]? = some u → X.cell? ((⟨wr.heap.size + 1, 0, none⟩ : Addr).add j) = some u) ∧ ∀ w9, X.grownBy w9 (Value.slice o3 k c3).ownBlock → Below w2.heap.size w2 w9) := fun X ob1 cs e2 hX => by
        have hz := hbel.size
        have h1 : Below w2.heap.size w2 ((wr.alloc ob1).alloc (.cells cs.toArray e2)) := (hbel.alloc hbel.size _).alloc (by simp; omega) _
        have h2 : Below w2.heap.size w2 X := ⟨hX.2.1.trans h1.os, hX.2.2.1.trans h1.tape, hX.2.2.2.trans h1.output, by rw [hX.1]; exact h1.size, fun j hj => by rw [hX.1]; exact h1.block j hj⟩
        have h3 : ((wr.alloc ob1).alloc (.cells cs.toArray e2)).ownsRow w2.heap.size 63 4 (.slice o3 k c3) k xs := (hown.alloc _).alloc _
        refine ⟨⟨h3.1, ?_⟩, h2.size, fun j u hj => ?_, fun w9 hg => h2.grown hg h2.size (fun j hj => (hown.lt j hj).1)⟩
        · rcases h3.2 with hnl | ⟨g, cap, cur, e1, e2, e3, rest⟩
          · exact .inl hnl
          · exact .inr ⟨g, cap, cur, e1, e2, by rw [hX.1]; exact e3, rest⟩
        · have h4 := row_new (wr.alloc ob1) cs e2 j u hj
          have e : (wr.alloc ob1).heap.size = wr.heap.size + 1 := by simp
          rw [e] at h4
          have h5 : X.cell? ((⟨wr.heap.size + 1, 0, none⟩ : Addr).add j) = ((wr.alloc ob1).alloc (.cells cs.toArray e2)).cell? ((⟨wr.heap.size + 1, 0, none⟩ : Addr).add j) := by
            unfold World.cell?
            rw [hX.1]
          rw [h5]
          exact h4
      clear hc0 hq hown hbel
      go_wp2_with fail
      go_region_law
        (first
          | (go_simp; go_at_call 19; refine (Tryz.bytes_Clone_nil _ _ _).mono ?_; rintro e4 w4 ⟨rfl, hw4⟩; subst hw4; dsimp only)
          | (rw [if_pos (by rfl)]; refine wp_append_own _ _ _ 37 rfl w2.heap.size 63 i0 _ 4 56 et_u hi hz0 hz1 hz2 rfl (by decide) (.slice o3 k c3) k xs rfl (HS.out _ _ [.string q, .bool d, .slice none 0 0, .int .i64 t] 63 (by exact ⟨rfl, rfl, rfl, rfl⟩)).1 ⟨wr.heap.size + 1, 0, none⟩ 1 1 [.string q, .bool d, .slice none 0 0, .int .i64 t] rfl rfl (HS.out _ _ [.string q, .bool d, .slice none 0 0, .int .i64 t] 63 (by exact ⟨rfl, rfl, rfl, rfl⟩)).2.2.1 (by intro u hu; simp only [List.mem_cons, List.not_mem_nil, or_false] at hu; rcases hu with rfl | rfl | rfl | rfl <;> rfl) (by unfold maxLen; omega) (by omega) (HS.out _ _ [.string q, .bool d, .slice none 0 0, .int .i64 t] 63 (by exact ⟨rfl, rfl, rfl, rfl⟩)).2.1 ?_; intro v9 w9 hown9 hgrow9 _;
             have hb9 : Below w2.heap.size w2 w9 := (HS.out _ _ [.string q, .bool d, .slice none 0 0, .int .i64 t] 63 (by exact ⟨rfl, rfl, rfl, rfl⟩)).2.2.2 w9 hgrow9;
             obtain ⟨o5, c5, rfl⟩ : ∃ o5 c5, v9 = .slice o5 (k + 1) c5 := (by rcases hown9.2 with ⟨e, h0⟩ | ⟨g5, cc, _, e, _⟩; exact absurd h0 (by omega); exact ⟨_, _, e⟩); clear hgrow9))
      all_goals
        go_wp2
        go_roundw
        case rel => exact ⟨k + 1, _, by omega, by go_num, hown9, ⟨_, _, rfl⟩, hb9⟩
        case measure => simp [intOf]; omega
    · have hkl : k = m := by omega
      subst hkl
      go_wp2
      go_ret
      exact ⟨_, _, rfl, hb2.trans (hbel.mono hb2.size)⟩
end
end Go.Proofs.YthocoonhoilmdaaGreatDoor
