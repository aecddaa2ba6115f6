/-
  What glob.Quote, glob.Items and glob.Plain tell of a text that has none of four bytes.
-/
import Derived.Test.YtdkpggfooahnnaaGreatDoorProg
import Derived.WalkKit
import Derived.WalkSpells
import Derived.StillTactics
import Derived.LoopIn
import Derived.RowKit3
import Derived.Below
import Derived.Lib.BufSteps
import Derived.Lib.ConvBytes
import Derived.Lib.BufferRead
open Go Go.RowKit
namespace Go.Proofs.YtdkpggfooahnnaaGreatDoor
theorem q_info5 : (Tryz.prog.info? 5).map (fun i => (i.zero, i.size, i.bytes)) = some (some (.int .u8 0), 1, 1) := by kernel_rfl
theorem q_t9 : Tryz.prog.underlying 9 = some .string := by kernel_rfl
theorem q_t22 : Tryz.prog.underlying 23 = some (.slice 5) := by kernel_rfl
theorem q_t5 : Tryz.prog.underlying 5 = some (.int .u8) := by kernel_rfl
/-- no byte by which a pattern means more -/
def noSp (s : ByteArray) : Prop := ∀ c ∈ s.data.toList, c.toNat ≠ 42 ∧ c.toNat ≠ 63 ∧ c.toNat ≠ 91 ∧ c.toNat ≠ 92
def bCells (s : ByteArray) (k : Nat) : List Value := (s.data.toList.take k).map fun b => Value.int .u8 b.toNat
theorem getD_mem (s : ByteArray) (k : Nat) (h : k < s.size) : s.data.toList.getD k 0 ∈ s.data.toList := by
  have hl : s.data.toList.length = s.size := rfl
  rw [List.getD, List.getElem?_eq_getElem (by omega)]
  exact List.getElem_mem _
theorem bCells_snoc (s : ByteArray) (k : Nat) (h : k < s.size) : bCells s (k + 1) = bCells s k ++ [.int .u8 ((s.data.toList.getD k 0).toNat : Int)] := by
  have hl : s.data.toList.length = s.size := rfl
  unfold bCells
  rw [List.take_succ_eq_append_getElem (by omega), List.map_append, List.getD, List.getElem?_eq_getElem (by omega)]
  rfl
theorem buf_text {w W0 : World} {B : Nat} {v : Value} (s : ByteArray) (h : Lib.OwnBuf B 5 v s.size (bCells s s.size) W0 w) : (convert 23 9 v).run Tryz.prog w = .ok (.string s) w := by
  obtain ⟨ho, _, _⟩ := h
  have ho' := ho
  have hl : s.data.toList.length = s.size := rfl
  obtain ⟨_, hc⟩ := ho
  rcases hc with ⟨rfl, h0⟩ | ⟨g, cap, cur, fz, rfl, _⟩
  · have hs : s = ⟨#[]⟩ := by
      apply ByteArray.ext
      apply Array.toList_inj.1
      exact List.eq_nil_of_length_eq_zero (by omega)
    subst hs
    exact Lib.run_convert_nil_bytes w 23 9 5 0 q_t22 q_t5 q_t9
  · have hcells := ho'.cells (g := g) rfl
    have e : (⟨s.data.toList.toArray⟩ : ByteArray) = s := by apply ByteArray.ext; simp
    have := run_convert_bytes_back (P := Tryz.prog) w 23 9 5 ⟨g, 0, none⟩ cap s.data.toList q_t22 q_t5 q_t9 (fun j hj => hcells j _ (by
      unfold bCells
      rw [List.take_of_length_le (by omega)]
      simp [List.getElem?_eq_getElem hj]))
    rw [e, hl] at this
    exact this
set_option maxHeartbeats 1600000 in
set_option maxRecDepth 100000 in
theorem quote_any (s : ByteArray) (w : World) (hs : s.size ≤ 1000000) (hsp : noSp s) : Calls Tryz.prog 407 #[.string s] w fun e w' => e = .returned (.string s) ∧ Below w.heap.size w w' := by
  obtain ⟨i0, hi, hz0, hz1, hz2⟩ := info_parts q_info5
  have hcv := Lib.run_convert_string_bytes (P := Tryz.prog) w 9 23 5 s q_t9 q_t22 q_t5
  have hN := Lib.bytesWorld_size w 5 s
  have hcell : ∀ j, j < s.size → (Lib.bytesWorld w 5 s).cell? ⟨w.heap.size, j, none⟩ = some (.int .u8 (s.data.toList.getD j 0).toNat) := fun j hj => Lib.bytesWorld_cell w 5 s j hj
  have hbel : Below w.heap.size w (Lib.bytesWorld w 5 s) := ⟨rfl, rfl, rfl, by rw [hN]; omega, fun j hj => Lib.bytesWorld_at_old w 5 s j hj⟩
  go_enter Tryz.func407, Tryz.ntmps407
  go_wp2
  obtain ⟨W1, hW1⟩ : ∃ W1, W1 = Lib.bytesWorld w 5 s := ⟨_, rfl⟩
  rw [← hW1] at hN hcell hbel
  have HC : Hid (∀ j, j < s.size → W1.cell? ⟨w.heap.size, j, none⟩ = some (.int .u8 (s.data.toList.getD j 0).toNat)) := hcell
  try rw [hcv]
  try simp only [Result.andThen]
  try rw [Oper.upon_value]
  rw [← hW1]
  clear hcv hcell hW1
  go_wp2
  go_loopw [3, 9] (fun v i wr => ∃ k : Nat, k ≤ s.size ∧ i = .int .i64 k ∧ Lib.OwnBuf (w.heap.size + 1) 5 v k (bCells s k) W1 wr) (fun _ i _ => s.size - (intOf i).toNat)
  case atStart => exact ⟨0, Nat.zero_le _, rfl, World.ownsRowF_nil _ _ _ _, Below.refl _ _, by rw [hN]; exact Nat.le_refl _⟩
  case round =>
    obtain ⟨k, hk, rfl, hbuf⟩ := hrel
    by_cases hlt : k < s.size
    · obtain ⟨c, hc⟩ : ∃ c : Nat, c = (s.data.toList.getD k 0).toNat := ⟨_, rfl⟩
      have hcx : wr.cell? ⟨w.heap.size, k, none⟩ = some (.int .u8 (c : Int)) := by rw [hc]; exact (hbuf.2.1.cell (by show w.heap.size < _; omega)).trans (HC.out k hlt)
      have hp := hsp _ (getD_mem s k hlt)
      rw [← hc] at hp
      have h42 : (c : Int) ≠ 42 := by have := hp.1; omega
      have h63 : (c : Int) ≠ 63 := by have := hp.2.1; omega
      have h91 : (c : Int) ≠ 91 := by have := hp.2.2.1; omega
      have h92 : (c : Int) ≠ 92 := by have := hp.2.2.2; omega
      have HS : Hid (bCells s (k + 1) = bCells s k ++ [.int .u8 (c : Int)]) := by rw [hc]; exact bCells_snoc s k hlt
      have b42 : ((c : Int) == 42) = false := by simpa using h42
      have b63 : ((c : Int) == 63) = false := by simpa using h63
      have b91 : ((c : Int) == 91) = false := by simpa using h91
      have b92 : ((c : Int) == 92) = false := by simpa using h92
      clear hp hsp hc h42 h63 h91 h92
      go_wp2_with (at_builtin; refine Lib.wpList_append_byte rfl _ _ 23 rfl (w.heap.size + 1) 5 i0 q_t22 hi hz0 hz1 hz2 _ k _ rfl W1 wr (c : Int) (by exact hbuf) rfl (by omega) ?_; intro v1 w1 hb1)
      go_roundw
      case rel => exact ⟨k + 1, by omega, by go_num, by rw [HS.out]; assumption⟩
      case measure => simp [intOf]; omega
    · have hkl : k = s.size := by omega
      subst hkl
      have htx := buf_text s hbuf
      go_wp2
      go_ret
      exact ⟨rfl, hbel.trans (hbuf.2.1.mono (by omega))⟩
def itemL (a1 a2 a3 a4 : Nat) (b : UInt8) : List Value := [.bool false, .int .u64 a1, .int .u64 a2, .int .u64 a3, .int .u64 a4, .bool true, .int .u8 b.toNat, .bool false]
/-- these are the cells of the items of these bytes -/
inductive IsIt : List UInt8 → List Value → Prop where
  | nil : IsIt [] []
  | snoc {l : List UInt8} {xs : List Value} (b : UInt8) (a1 a2 a3 a4 : Nat) (h : IsIt l xs) : IsIt (l ++ [b]) (xs ++ itemL a1 a2 a3 a4 b)
theorem IsIt.len {l : List UInt8} {xs : List Value} (h : IsIt l xs) : xs.length = l.length * 8 := by
  induction h with
  | nil => rfl
  | snoc b a1 a2 a3 a4 h ih => rw [List.length_append, List.length_append, ih, Nat.add_mul]; rfl
theorem IsIt.at_ {l : List UInt8} {xs : List Value} (h : IsIt l xs) : ∀ (j : Nat) (c : UInt8), l[j]? = some c → ∃ a1 a2 a3 a4, ∀ i, i < 8 → xs[j * 8 + i]? = (itemL a1 a2 a3 a4 c)[i]? := by
  induction h with
  | nil => intro j c h; simp at h
  | snoc b a1 a2 a3 a4 h ih =>
    rename_i l xs
    intro j c hj
    have hl := h.len
    by_cases hlt : j < l.length
    · rw [List.getElem?_append_left hlt] at hj
      obtain ⟨b1, b2, b3, b4, hb⟩ := ih j c hj
      exact ⟨b1, b2, b3, b4, fun i hi => by rw [List.getElem?_append_left (by omega)]; exact hb i hi⟩
    · have hjl : j = l.length := by
        have := (List.getElem?_eq_some_iff.1 hj).1
        simp at this
        omega
      subst hjl
      simp at hj
      subst hj
      exact ⟨a1, a2, a3, a4, fun i hi => by rw [List.getElem?_append_right (by omega), hl]; congr 1; omega⟩
theorem q_info30 : (Tryz.prog.info? 452).map (fun i => (i.zero, i.size, i.bytes)) = some (some (.agg #[.bool false, .int .u64 0, .int .u64 0, .int .u64 0, .int .u64 0, .bool false, .int .u8 0, .bool false]), 8, 48) := by kernel_rfl
theorem q_t24 : Tryz.prog.underlying 447 = some (.slice 452) := by kernel_rfl
theorem row_new (w : World) (cs : List Value) (e : TypeId) : ∀ j u, cs[j]? = some u → (w.alloc (.cells cs.toArray e)).cell? ((⟨w.heap.size, 0, none⟩ : Addr).add j) = some u := by
  intro j u hj
  have hadd : (⟨w.heap.size, 0, none⟩ : Addr).add j = ⟨w.heap.size, j, none⟩ := by unfold Addr.add; split <;> simp_all
  rw [hadd, World.cell?_alloc_at _ _ _ _ rfl]
  simpa using hj
theorem take_snoc2 (s : ByteArray) (k : Nat) (h : k < s.size) : s.data.toList.take (k + 1) = s.data.toList.take k ++ [s[k]] := by
  rw [List.take_succ_eq_append_getElem (by simpa using h)]; rfl
theorem item_one (a1 a2 a3 a4 : Nat) (b : UInt8) : ∀ u ∈ itemL a1 a2 a3 a4 b, u.oneCell' = true := by
  intro u hu
  simp only [itemL, List.mem_cons, List.not_mem_nil, or_false] at hu
  rcases hu with rfl | rfl | rfl | rfl | rfl | rfl | rfl | rfl <;> rfl
def single_said (P : Program) (f : Nat) : Prop := ∀ (c : UInt8) (w : World), Calls P f #[.int .u8 c.toNat] w fun e w' => ∃ a1 a2 a3 a4 : Nat, e = .returned (.agg #[.bool false, .int .u64 a1, .int .u64 a2, .int .u64 a3, .int .u64 a4, .bool true, .int .u8 c.toNat, .bool false]) ∧ Below w.heap.size w w'
set_option maxHeartbeats 1600000 in
set_option maxRecDepth 100000 in
theorem items_any (hsing : single_said Tryz.prog 454) (s : ByteArray) (w : World) (hs : s.size ≤ 1000000) (hsp : noSp s) :
    Calls Tryz.prog 408 #[.string s] w fun e w' => ∃ v xs, e = .returned v ∧ w'.ownsRow w.heap.size 452 8 v s.size xs ∧ Below w.heap.size w w' ∧ IsIt s.data.toList xs := by
  obtain ⟨i0, hi, hz0, hz1, hz2⟩ := info_parts q_info30
  go_enter Tryz.func408, Tryz.ntmps408
  go_wp2
  go_loopw [3, 4] (fun v i wr => ∃ (k : Nat) (xs : List Value), k ≤ s.size ∧ i = .int .i64 k ∧ wr.ownsRow w.heap.size 452 8 v k xs ∧ Below w.heap.size w wr ∧ IsIt (s.data.toList.take k) xs) (fun _ i _ => s.size - (intOf i).toNat)
  case atStart => exact ⟨0, [], Nat.zero_le _, rfl, World.ownsRow_nil _ _ _ _, Below.refl _ _, by simpa using IsIt.nil⟩
  case round =>
    obtain ⟨k, xs, hk, rfl, hown, hbel, hit⟩ := hrel
    by_cases hlt : k < s.size
    · have hp := hsp s[k] (Array.mem_toList_iff.2 (Array.getElem_mem _))
      have h42 : (s[k].toNat : Int) ≠ 42 := by have := hp.1; omega
      have h63 : (s[k].toNat : Int) ≠ 63 := by have := hp.2.1; omega
      have h91 : (s[k].toNat : Int) ≠ 91 := by have := hp.2.2.1; omega
      have h92 : (s[k].toNat : Int) ≠ 92 := by have := hp.2.2.2; omega
      have HS : Hid (s.data.toList.take (k + 1) = s.data.toList.take k ++ [s[k]]) := take_snoc2 s k hlt
      clear hp hsp
      go_wp2_with fail
      go_at_call 454
      refine (hsing s[k] _).mono ?_
      rintro e w1 ⟨a1, a2, a3, a4, rfl, hst⟩
      have hown1 : w1.ownsRow w.heap.size 452 8 u3 k xs := hown.kept (row := none) ⟨hst.os, hst.tape, hst.output, hst.size, fun j hj _ => hst.block j hj⟩ (Classical.em _)
      have hbel1 : Below w.heap.size w w1 := hbel.trans (hst.mono hbel.size)
      go_wp2_with (at_builtin; refine wpList_append_own _ rfl _ _ 447 rfl w.heap.size 452 i0 _ 8 48 q_t24 hi hz0 hz1 hz2 rfl (by decide) _ k xs rfl (by exact hown1.alloc _) ⟨w1.heap.size, 0, none⟩ 1 1 (itemL a1 a2 a3 a4 s[k]) rfl rfl (row_new _ _ _) (item_one _ _ _ _ _) (by unfold maxLen; omega) (by omega) (by have := hbel1.size; simp; omega) ?_)
      intro v2 w2 hown2 hgrow2 _
      have hb2 : Below w.heap.size w w2 := (hbel1.alloc hbel1.size _).grown hgrow2 (by have := hbel1.size; simp; omega) (fun j hj => (hown1.lt j hj).1)
      go_wp2
      go_roundw
      case rel => exact ⟨k + 1, xs ++ itemL a1 a2 a3 a4 s[k], by omega, by go_num, hown2, hb2, by rw [HS.out]; exact IsIt.snoc _ _ _ _ _ hit⟩
      case measure => simp [intOf]; omega
    · have hkl : k = s.size := by omega
      subst hkl
      go_wp2
      go_ret
      exact ⟨_, xs, rfl, hown, hbel, by
        have hl : s.data.toList.length = s.size := rfl
        rw [List.take_of_length_le (by omega)] at hit
        exact hit⟩
set_option maxHeartbeats 1600000 in
set_option maxRecDepth 100000 in
theorem plain_any (hsing : single_said Tryz.prog 454) (s : ByteArray) (w : World) (hs : s.size ≤ 1000000) (hsp : noSp s) :
    Calls Tryz.prog 359 #[.string s] w fun e w' => e = .returned (.tuple #[.string s, .bool true]) ∧ Below w.heap.size w w' := by
  obtain ⟨i0, hi, hz0, hz1, hz2⟩ := info_parts q_info5
  have hIt := items_any hsing s w hs hsp
  go_enter Tryz.func359, Tryz.ntmps359
  go_wp2_with fail
  go_at_call 408
  refine hIt.mono ?_
  rintro e w1 ⟨v, xs, rfl, hown, hbel, hit⟩
  have hl : s.data.toList.length = s.size := rfl
  have hown0 := hown
  rcases hown.2 with ⟨rfl, h0⟩ | ⟨g, cap, cur, rfl, hg, hh, hnc, hcm, hcs, htake⟩
  · have hse : s = ⟨#[]⟩ := by
      apply ByteArray.ext
      apply Array.toList_inj.1
      exact List.eq_nil_of_length_eq_zero (by omega)
    subst hse
    have hcv := Lib.run_convert_nil_bytes (P := Tryz.prog) w1 23 9 5 0 q_t22 q_t5 q_t9
    clear hown hown0 hit hsing hIt
    go_wp2
    refine wp_loop_rounds 1 ?_
    rw [rounds_succ]
    go_wp2
    go_ret2
    exact ⟨rfl, hbel⟩
  · have hcell : ∀ j u, xs[j]? = some u → w1.cell? ⟨g, j, none⟩ = some u := fun j u hj => by
      have h1 := hown0.cells (g := g) rfl j u hj
      have hadd : (⟨g, 0, none⟩ : Addr).add j = ⟨g, j, none⟩ := by unfold Addr.add; split <;> simp_all
      rw [hadd] at h1
      exact h1
    have hgl : g < w1.heap.size := (Array.getElem?_eq_some_iff.1 hh).1
    have HC : Hid (∀ j u, xs[j]? = some u → w1.cell? ⟨g, j, none⟩ = some u) := hcell
    have HI : Hid (IsIt s.data.toList xs) := hit
    clear hcell hit hown hown0 hh hsing hIt htake hcs
    go_wp2
    go_loopw [4, 10] (fun b i wr => ∃ k : Nat, k ≤ s.size ∧ i = .int .i64 k ∧ Lib.OwnBuf w1.heap.size 5 b k (bCells s k) w1 wr) (fun _ i _ => s.size - (intOf i).toNat)
    case atStart => exact ⟨0, Nat.zero_le _, rfl, World.ownsRowF_nil _ _ _ _, Below.refl _ _, Nat.le_refl _⟩
    case round =>
      obtain ⟨k, hk, rfl, hbuf⟩ := hrel
      by_cases hlt : k < s.size
      · obtain ⟨c, hc⟩ : ∃ c : UInt8, s.data.toList[k]? = some c := ⟨_, List.getElem?_eq_getElem (by omega)⟩
        obtain ⟨a1, a2, a3, a4, hit⟩ := HI.out.at_ k c hc
        have hcx : ∀ i u, i < 8 → (itemL a1 a2 a3 a4 c)[i]? = some u → wr.cell? ⟨g, k * 8 + i, none⟩ = some u := fun i u hi hu => (hbuf.2.1.cell (by exact hgl)).trans (HC.out _ u ((hit i hi).trans hu))
        have c0 : wr.cell? ⟨g, k * 8, none⟩ = some (.bool false) := hcx 0 _ (by omega) rfl
        have c1 := hcx 1 _ (by omega) rfl
        have c2 := hcx 2 _ (by omega) rfl
        have c3 := hcx 3 _ (by omega) rfl
        have c4 := hcx 4 _ (by omega) rfl
        have c5 := hcx 5 _ (by omega) rfl
        have c6 := hcx 6 _ (by omega) rfl
        have c7 := hcx 7 _ (by omega) rfl
        have HS : Hid (bCells s (k + 1) = bCells s k ++ [.int .u8 (c.toNat : Int)]) := by
          have h1 := bCells_snoc s k hlt
          rw [List.getD, hc] at h1
          exact h1
        clear hcx hit hc
        go_wp2_with (at_builtin; refine Lib.wpList_append_byte rfl _ _ 23 rfl w1.heap.size 5 i0 q_t22 hi hz0 hz1 hz2 _ k _ rfl w1 _ (c.toNat : Int) (by exact hbuf.alloc _) (by show Value.slice (some ⟨wr.heap.size + 1, 0, none⟩) 1 1 = _; simp) (by omega) ?_; intro v2 w2 hb2)
        go_roundw
        case rel => exact ⟨k + 1, by omega, by go_num, by rw [HS.out]; assumption⟩
        case measure => simp [intOf]; omega
      · have hkl : k = s.size := by omega
        subst hkl
        have htx := buf_text s hbuf
        go_wp2
        go_ret2
        exact ⟨rfl, hbel.trans (hbuf.2.1.mono hbel.size)⟩
end Go.Proofs.YtdkpggfooahnnaaGreatDoor
