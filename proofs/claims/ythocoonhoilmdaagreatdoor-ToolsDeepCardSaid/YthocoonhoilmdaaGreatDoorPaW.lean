/-
  What path.Abs tells of any path, walked.
-/
import Derived.Test.YthocoonhoilmdaaGreatDoorProg
import Derived.Test.YthocoonhoilmdaaGreatDoorShW
import Derived.WalkKit
import Derived.WalkSpells
import Derived.StillTactics
import Derived.LoopIn
import Derived.RowKit3
import Derived.Below
import Derived.OwnWalk
import Derived.KernelRfl
open Go Go.RowKit
namespace Go.Proofs.YthocoonhoilmdaaGreatDoor
theorem pa_info9 : (Tryz.prog.info? 9).map (fun i => (i.zero, i.size, i.bytes)) = some (some (.string ByteArray.empty), 1, 16) := by kernel_rfl
theorem pa_t22 : Tryz.prog.underlying 28 = some (.slice 9) := by kernel_rfl
def slB : ByteArray := ⟨#[47]⟩
def pcs (p : ByteArray) : List ByteArray := Lib.splitB slB 0 (Lib.countB p slB) p
def stepP (out : List ByteArray) (s : ByteArray) : List ByteArray := if s.data.toList = [] ∨ s.data.toList = [46] then out else if s.data.toList = [46, 46] then out.take (out.length - 1) else out ++ [s]
def allP (p : ByteArray) : List ByteArray := if Lib.hasPrefix p.data.toList [47] = true then pcs p else [⟨#[]⟩, ⟨#[]⟩] ++ pcs p
def outP (l : List ByteArray) : List ByteArray := l.foldl stepP []
def partsP (p : ByteArray) : List ByteArray := outP (allP p)
/-- internal/bytealg.MaxLen holds an int -/
def MaxIs (w : World) : Prop := ∃ m, w.cell? ⟨1, 0, none⟩ = some (.int .i64 m)
theorem MaxIs.below {w w' : World} {B : Nat} (h : MaxIs w) (hB : 1 < B) (hb : Below B w w') : MaxIs w' := by
  obtain ⟨m, hm⟩ := h
  exact ⟨m, by rw [hb.cell (by exact hB)]; exact hm⟩
theorem MaxIs.lt {w : World} (h : MaxIs w) : 1 < w.heap.size := by
  obtain ⟨m, hm⟩ := h
  exact World.block_lt_of_cell? w _ hm
theorem pcs_len (p : ByteArray) : (pcs p).length = Lib.countB p slB + 1 := by
  exact Lib.splitB_all slB (by decide) 0 _ p rfl
theorem pcs_le (p : ByteArray) : (pcs p).length ≤ p.size + 1 := by
  have := Lib.countB_le slB (by decide) p.size p (Nat.le_refl _)
  rw [pcs_len]
  omega
theorem outP_snoc {l : List ByteArray} {k : Nat} (h : k < l.length) : outP (l.take (k + 1)) = stepP (outP (l.take k)) l[k] := by
  unfold outP
  rw [List.take_succ_eq_append_getElem h, List.foldl_append]
  rfl
theorem stepP_le (o : List ByteArray) (s : ByteArray) : (stepP o s).length ≤ o.length + 1 := by
  unfold stepP
  split
  · omega
  · split
    · rw [List.length_take]; omega
    · rw [List.length_append]; simp
theorem outP_le (l : List ByteArray) : ∀ k, (outP (l.take k)).length ≤ k := by
  intro k
  induction k with
  | zero => simp [outP]
  | succ k ih =>
    by_cases h : k < l.length
    · rw [outP_snoc h]
      have := stepP_le (outP (l.take k)) l[k]
      omega
    · rw [List.take_of_length_le (by omega)]
      rw [List.take_of_length_le (by omega)] at ih
      omega
theorem own_base {w : World} {B B' e n : Nat} {v : Value} {xs : List Value} (h : w.ownsRow B e 1 v n xs) (hB : B' ≤ B) : w.ownsRow B' e 1 v n xs := by
  refine ⟨h.1, ?_⟩
  rcases h.2 with h2 | ⟨g, cap, cur, h1, h2, h3⟩
  · exact .inl h2
  · exact .inr ⟨g, cap, cur, h1, by omega, h3⟩
theorem own_take {w : World} {B e n m cap : Nat} {a : Addr} {xs : List Value} (h : w.ownsRow B e 1 (.slice (some a) n cap) n xs) (hm : m ≤ n) : w.ownsRow B e 1 (.slice (some a) m cap) m (xs.take m) := by
  refine ⟨by rw [List.length_take, h.1]; omega, ?_⟩
  rcases h.2 with ⟨h2, _⟩ | ⟨g, cap', cur, h1, h2, h3, h4, h5, h6, h7⟩
  · cases h2
  · refine .inr ⟨g, cap', cur, by cases h1; rfl, h2, h3, by omega, h5, h6, ?_⟩
    rw [← h7, List.take_take]
    congr 1
    omega
theorem row_new (w : World) (cs : List Value) (e : TypeId) : ∀ j u, cs[j]? = some u → (w.alloc (.cells cs.toArray e)).cell? ((⟨w.heap.size, 0, none⟩ : Addr).add j) = some u := by
  intro j u hj
  have hadd : (⟨w.heap.size, 0, none⟩ : Addr).add j = ⟨w.heap.size, j, none⟩ := by unfold Addr.add; split <;> simp_all
  rw [hadd, World.cell?_alloc_at _ _ _ _ rfl]
  simpa using hj
theorem isE {s : ByteArray} (h : s.data.toList = []) : s.toList.isEmpty = true := by rw [Lib.toList_data, h]; rfl
theorem isE' {s : ByteArray} (h : s.data.toList ≠ []) : s.toList.isEmpty = false := by
  rw [Lib.toList_data]
  cases e : s.data.toList with
  | nil => exact absurd e h
  | cons a l => rfl
theorem eqB {s : ByteArray} {c : List UInt8} (h : s.data.toList = c) : (s.toList == c) = true := by rw [Lib.toList_data, h]; exact beq_self_eq_true c
theorem neB {s : ByteArray} {c : List UInt8} (h : s.data.toList ≠ c) : (s.toList == c) = false := by rw [Lib.toList_data]; exact beq_eq_false_iff_ne.2 h
theorem map_cells {W : World} {g off : Nat} {l : List ByteArray} (h : ∀ j u, (l.map Value.string)[j]? = some u → W.cell? ⟨g, off + j, none⟩ = some u) {k : Nat} (hk : k < l.length) : W.cell? ⟨g, off + k, none⟩ = some (.string l[k]) :=
  h k _ (by rw [List.getElem?_map, List.getElem?_eq_getElem hk]; rfl)
theorem new_cells (w : World) (l : List ByteArray) (e : TypeId) {k : Nat} (hk : k < l.length) : (w.alloc (.cells (l.map Value.string).toArray e)).cell? ⟨w.heap.size, k, none⟩ = some (.string l[k]) := by
  rw [World.cell?_alloc_at _ _ _ _ rfl]
  simp [hk]
set_option maxHeartbeats 3200000 in
set_option maxRecDepth 100000 in
theorem parts_abs (p : ByteArray) (w : World) (hm : MaxIs w) (hs : p.size ≤ 1100000) (hp : Lib.hasPrefix p.data.toList [47] = true) :
    Calls Tryz.prog 42 #[.string slB, .string p] w fun e w' => ∃ v, e = .returned v ∧ w'.ownsRow w.heap.size 9 1 v (partsP p).length ((partsP p).map Value.string) ∧ Below w.heap.size w w' := by
  obtain ⟨i0, hi, hz0, hz1, hz2⟩ := info_parts pa_info9
  obtain ⟨m, hmc⟩ := hm
  have hS := Tryz.strings_Split p slB m w (by omega) hmc (by decide)
  have hall : partsP p = outP (pcs p) := by unfold partsP allP; rw [if_pos hp]
  have hle := pcs_le p
  have hlen := pcs_len p
  change Calls Tryz.prog 80 #[.string p, .string slB] w (fun e w' => e = .returned (.slice (some ⟨w.heap.size, 0, none⟩) (Lib.countB p slB + 1) (Lib.countB p slB + 1)) ∧ w' = w.alloc (.cells ((pcs p).map Value.string).toArray 9)) at hS
  rw [← hlen] at hS
  obtain ⟨all, hal⟩ : ∃ l, l = pcs p := ⟨_, rfl⟩
  rw [← hal] at hS hle hall
  clear hal hlen
  have hcs : ∀ k (h : k < all.length), (w.alloc (.cells (all.map Value.string).toArray 9)).cell? ⟨w.heap.size, k, none⟩ = some (.string all[k]) := fun k h => new_cells w all 9 h
  have hb0 : Below w.heap.size w (w.alloc (.cells (all.map Value.string).toArray 9)) := (Below.refl _ _).alloc (Nat.le_refl _) _
  have hgl : w.heap.size < (w.alloc (.cells (all.map Value.string).toArray 9)).heap.size := by simp
  generalize w.alloc (.cells (all.map Value.string).toArray 9) = W1 at hS hcs hb0 hgl
  have HC : Hid (∀ k (h : k < all.length), W1.cell? ⟨w.heap.size, k, none⟩ = some (.string all[k])) := hcs
  have hH : Calls Tryz.prog 39 #[.string p, .string slB] W1 fun e w' => e = .returned (.bool true) ∧ w' = W1 := (Tryz.strings_HasPrefix p slB W1).mono fun e w' h => ⟨by rw [h.1]; exact congrArg (fun b => Ending.returned (Value.bool b)) hp, h.2⟩
  clear hcs hp
  go_enter Tryz.func42, Tryz.ntmps42
  go_wp2_with fail
  go_at_call 80
  refine hS.mono ?_
  rintro e w1 ⟨rfl, hw⟩
  subst hw
  go_wp2_with fail
  go_at_call 39
  refine hH.mono ?_
  rintro e w2 ⟨rfl, hw⟩
  subst hw
  go_wp2
  go_loopw [6, 20] (fun o i wr => ∃ k : Nat, k ≤ all.length ∧ i = .int .i64 k ∧ wr.ownsRow w2.heap.size 9 1 o (outP (all.take k)).length ((outP (all.take k)).map Value.string) ∧ Below w2.heap.size w2 wr) (fun _ i _ => all.length - (intOf i).toNat)
  case atStart => exact ⟨0, Nat.zero_le _, rfl, World.ownsRow_nil _ _ _ _, Below.refl _ _⟩
  case round =>
    obtain ⟨k, hk, rfl, hown, hbel⟩ := hrel
    have hOl := outP_le all k
    by_cases hlt : k < all.length
    · have hcx : wr.cell? ⟨w.heap.size, k, none⟩ = some (.string all[k]) := (hbel.cell (by exact hgl)).trans (HC.out k hlt)
      obtain ⟨s, hsd⟩ : ∃ s, s = all[k] := ⟨_, rfl⟩
      have HS : Hid (outP (all.take (k + 1)) = stepP (outP (all.take k)) s) := by rw [hsd]; exact outP_snoc hlt
      rw [← hsd] at hcx
      clear hsd
      by_cases c1 : s.data.toList = []
      · have e0 := isE c1
        have HN : Hid (stepP (outP (all.take k)) s = outP (all.take k)) := if_pos (.inl c1)
        go_wp2
        go_roundw
        case rel => exact ⟨k + 1, by omega, by go_num, by rw [HS.out, HN.out]; exact hown, hbel⟩
        case measure => simp [intOf]; omega
      have e0 := isE' c1
      by_cases c2 : s.data.toList = [46]
      · have e1 := eqB c2
        have HN : Hid (stepP (outP (all.take k)) s = outP (all.take k)) := if_pos (.inr c2)
        go_wp2
        go_roundw
        case rel => exact ⟨k + 1, by omega, by go_num, by rw [HS.out, HN.out]; exact hown, hbel⟩
        case measure => simp [intOf]; omega
      have e1 := neB c2
      by_cases c3 : s.data.toList = [46, 46]
      · have e2 := eqB c3
        have HN : Hid (stepP (outP (all.take k)) s = (outP (all.take k)).take ((outP (all.take k)).length - 1)) := by unfold stepP; rw [if_neg (by rintro (h | h); exact c1 h; exact c2 h), if_pos c3]; exact rfl
        have hown0 := hown
        have HO := hown0
        rcases hown0.2 with ⟨rfl, h0⟩ | ⟨gg, cap, cur, rfl, r1, r2, r3, r4, r5, r6⟩
        · have hO : outP (all.take k) = [] := List.eq_nil_of_length_eq_zero h0
          rw [h0] at hown
          clear hown0 h0
          go_wp2
          go_roundw
          case rel => exact ⟨k + 1, by omega, by go_num, by rw [HS.out, HN.out, hO]; exact World.ownsRow_nil _ _ _ _, hbel⟩
          case measure => simp [intOf]; omega
        · obtain ⟨n, hn⟩ : ∃ n, n = (outP (all.take k)).length := ⟨_, rfl⟩
          have HT : Hid (wr.ownsRow w2.heap.size 9 1 (.slice (some ⟨gg, 0, none⟩) (n - 1) cap) (n - 1) (((outP (all.take k)).map Value.string).take (n - 1))) := own_take (by rw [← hn] at HO; exact HO) (by omega)
          rw [← hn] at r3 hOl ⊢
          have hmx : (max (0 : Int) ((n : Int) - 1)).toNat = n - 1 := by omega
          clear hown hown0 HO r2 r6 r5
          go_wp2
          go_roundw
          case rel => exact ⟨k + 1, by omega, by go_num, by rw [HS.out, HN.out, List.length_take, ← hn, List.map_take, Nat.min_eq_left (by omega)]; simp only [hmx]; exact HT.out, hbel⟩
          case measure => simp [intOf]; omega
      · have e2 := neB c3
        have HN : Hid (stepP (outP (all.take k)) s = outP (all.take k) ++ [s]) := by unfold stepP; rw [if_neg (by rintro (h | h); exact c1 h; exact c2 h), if_neg c3]; exact rfl
        go_wp2_with (at_builtin; refine wpList_append_own _ rfl _ _ 28 rfl w2.heap.size 9 i0 _ 1 16 pa_t22 hi hz0 hz1 hz2 rfl (by decide) _ _ _ rfl (by exact hown.alloc _) ⟨wr.heap.size, 0, none⟩ 1 1 [.string s] rfl rfl (row_new _ _ _) (by intro u hu; rw [List.mem_singleton] at hu; subst hu; rfl) (by unfold maxLen; omega) (by omega) (by have := hbel.size; simp; omega) ?_)
        intro v9 w9 hown2 hgrow2 _
        have hb2 : Below w2.heap.size w2 w9 := (hbel.alloc hbel.size _).grown hgrow2 (by have := hbel.size; simp; omega) (fun j hj => (hown.lt j hj).1)
        go_wp2
        go_roundw
        case rel => exact ⟨k + 1, by omega, by go_num, by rw [HS.out, HN.out, List.length_append, List.map_append]; exact hown2, hb2⟩
        case measure => simp [intOf]; omega
    · have hkl : k = all.length := by omega
      subst hkl
      rw [List.take_of_length_le (Nat.le_refl _)] at hown
      have hbw := hb0.trans (hbel.mono hb0.size)
      have hob := own_base hown hb0.size
      clear hown hbel
      go_wp2
      go_ret
      exact ⟨_, rfl, by rw [hall]; exact hob, hbw⟩
set_option maxHeartbeats 3200000 in
set_option maxRecDepth 100000 in
theorem parts_rel (p : ByteArray) (w : World) (hm : MaxIs w) (hs : p.size ≤ 1100000) (hp : Lib.hasPrefix p.data.toList [47] ≠ true) :
    Calls Tryz.prog 42 #[.string slB, .string p] w fun e w' => ∃ v, e = .returned v ∧ w'.ownsRow w.heap.size 9 1 v (partsP p).length ((partsP p).map Value.string) ∧ Below w.heap.size w w' := by
  obtain ⟨i0, hi, hz0, hz1, hz2⟩ := info_parts pa_info9
  have hlt0 := hm.lt
  obtain ⟨m, hmc⟩ := hm
  have hS := Tryz.strings_Split p slB m w (by omega) hmc (by decide)
  have hle := pcs_le p
  have hlen := pcs_len p
  change Calls Tryz.prog 80 #[.string p, .string slB] w (fun e w' => e = .returned (.slice (some ⟨w.heap.size, 0, none⟩) (Lib.countB p slB + 1) (Lib.countB p slB + 1)) ∧ w' = w.alloc (.cells ((pcs p).map Value.string).toArray 9)) at hS
  rw [← hlen] at hS
  have hall0 : partsP p = outP ([⟨#[]⟩, ⟨#[]⟩] ++ pcs p) := by unfold partsP allP; rw [if_neg hp]
  obtain ⟨al, hal⟩ : ∃ l, l = pcs p := ⟨_, rfl⟩
  rw [← hal] at hS hle hall0
  clear hal hlen
  have hcs : ∀ j u, (al.map Value.string)[j]? = some u → (w.alloc (.cells (al.map Value.string).toArray 9)).cell? ((⟨w.heap.size, 0, none⟩ : Addr).add j) = some u := row_new w _ _
  have hb0 : Below w.heap.size w (w.alloc (.cells (al.map Value.string).toArray 9)) := (Below.refl _ _).alloc (Nat.le_refl _) _
  have hgl : w.heap.size < (w.alloc (.cells (al.map Value.string).toArray 9)).heap.size := by simp
  generalize w.alloc (.cells (al.map Value.string).toArray 9) = W1 at hS hcs hb0 hgl
  have hH : Calls Tryz.prog 39 #[.string p, .string slB] W1 fun e w' => e = .returned (.bool false) ∧ w' = W1 := (Tryz.strings_HasPrefix p slB W1).mono fun e w' h => ⟨by rw [h.1]; exact congrArg (fun b => Ending.returned (Value.bool b)) (by cases e : Lib.hasPrefix p.data.toList slB.data.toList with | false => rfl | true => exact absurd e hp), h.2⟩
  have hS2 := Tryz.strings_Split slB slB m W1 (by decide) (by rw [hb0.cell (by exact hlt0)]; exact hmc) (by decide)
  rw [show Lib.countB slB slB = 1 from by decide +kernel, show Lib.splitB slB 0 1 slB = [⟨#[]⟩, ⟨#[]⟩] from by decide +kernel] at hS2
  obtain ⟨W2, hW2⟩ : ∃ W2, W2 = W1.alloc (.cells (([⟨#[]⟩, ⟨#[]⟩] : List ByteArray).map Value.string).toArray 9) := ⟨_, rfl⟩
  have hb2 : Below W1.heap.size W1 W2 := by rw [hW2]; exact (Below.refl _ _).alloc (Nat.le_refl _) _
  have hown2 : W2.ownsRow w.heap.size 9 1 (.slice (some ⟨W1.heap.size, 0, none⟩) 2 2) 2 (([⟨#[]⟩, ⟨#[]⟩] : List ByteArray).map Value.string) := by
    rw [hW2]
    exact ⟨rfl, .inr ⟨W1.heap.size, 2, _, rfl, hb0.size, heap_alloc_new _ _, Nat.le_refl _, by unfold maxLen; omega, rfl, rfl⟩⟩
  have hS2' : Calls Tryz.prog 80 #[.string slB, .string slB] W1 fun e w' => e = .returned (.slice (some ⟨W1.heap.size, 0, none⟩) 2 2) ∧ w' = W2 := by rw [hW2]; exact hS2
  clear hS2 hW2 hp hmc
  have hcs2 : ∀ j u, (al.map Value.string)[j]? = some u → W2.cell? ((⟨w.heap.size, 0, none⟩ : Addr).add j) = some u := fun j u hj => by
    rw [hb2.cell (by rw [Addr.add_lit]; exact hgl)]
    exact hcs j u hj
  have hbw2 : Below w.heap.size w W2 := hb0.trans (hb2.mono hb0.size)
  go_enter Tryz.func42, Tryz.ntmps42
  go_wp2_with fail
  go_at_call 80
  refine hS.mono ?_
  rintro e w1 ⟨rfl, hw⟩
  subst hw
  go_wp2_with fail
  go_at_call 39
  refine hH.mono ?_
  rintro e w2 ⟨rfl, hw⟩
  subst hw
  go_wp2_with fail
  go_at_call 80
  refine hS2'.mono ?_
  rintro e w3 ⟨rfl, hw⟩
  subst hw
  go_wp2_with (at_builtin; refine wpList_append_own _ rfl _ _ 28 rfl w.heap.size 9 i0 _ 1 16 pa_t22 hi hz0 hz1 hz2 rfl (by decide) _ _ _ rfl (by exact hown2) ⟨w.heap.size, 0, none⟩ al.length al.length (al.map Value.string) rfl (by rw [List.length_map]; omega) hcs2 (by intro u hu; obtain ⟨x, _, rfl⟩ := List.mem_map.1 hu; rfl) (by unfold maxLen; omega) (by omega) hbw2.size ?_)
  intro v4 w4 hown4 hgrow4 hnil4
  have hb0 : Below w.heap.size w w4 := hbw2.grown hgrow4 hbw2.size (fun j hj => (hown2.lt j hj).1)
  have hown4 : w4.ownsRow w.heap.size 9 1 v4 (2 + al.length) ((([⟨#[]⟩, ⟨#[]⟩] : List ByteArray) ++ al).map Value.string) := hown4
  obtain ⟨all, hald⟩ : ∃ l, l = ([⟨#[]⟩, ⟨#[]⟩] : List ByteArray) ++ al := ⟨_, rfl⟩
  have hll : 2 + al.length = all.length := by rw [hald, List.length_append]; rfl
  rw [← hald, hll] at hown4
  have hall : partsP p = outP all := by rw [hald]; exact hall0
  clear hcs hcs2 hown2 hgrow4 hH hS hS2' hb2 hbw2 hall0 hald
  rcases hown4.2 with ⟨rfl, h0⟩ | ⟨g, cap, cur, rfl, r1, r2, r3, r4, r5, r6⟩
  · exact absurd h0 (by omega)
  have hgl : g < w4.heap.size := (Array.getElem?_eq_some_iff.1 r2).1
  have HC : Hid (∀ k (h : k < all.length), w4.cell? ⟨g, k, none⟩ = some (.string all[k])) := fun k h => by
    have h1 := hown4.cells (g := g) rfl k (.string all[k]) (by rw [List.getElem?_map, List.getElem?_eq_getElem h]; rfl)
    rwa [Addr.add_lit, Nat.zero_add] at h1
  clear hown4 hnil4 r1 r2 r5 r6
  go_wp2
  go_loopw [6, 20] (fun o i wr => ∃ k : Nat, k ≤ all.length ∧ i = .int .i64 k ∧ wr.ownsRow w4.heap.size 9 1 o (outP (all.take k)).length ((outP (all.take k)).map Value.string) ∧ Below w4.heap.size w4 wr) (fun _ i _ => all.length - (intOf i).toNat)
  case atStart => exact ⟨0, Nat.zero_le _, rfl, World.ownsRow_nil _ _ _ _, Below.refl _ _⟩
  case round =>
    obtain ⟨k, hk, rfl, hown, hbel⟩ := hrel
    have hOl := outP_le all k
    by_cases hlt : k < all.length
    · have hcx : wr.cell? ⟨g, k, none⟩ = some (.string all[k]) := (hbel.cell (by exact hgl)).trans (HC.out k hlt)
      obtain ⟨s, hsd⟩ : ∃ s, s = all[k] := ⟨_, rfl⟩
      have HS : Hid (outP (all.take (k + 1)) = stepP (outP (all.take k)) s) := by rw [hsd]; exact outP_snoc hlt
      rw [← hsd] at hcx
      clear hsd
      by_cases c1 : s.data.toList = []
      · have e0 := isE c1
        have HN : Hid (stepP (outP (all.take k)) s = outP (all.take k)) := if_pos (.inl c1)
        go_wp2
        go_roundw
        case rel => exact ⟨k + 1, by omega, by go_num, by rw [HS.out, HN.out]; exact hown, hbel⟩
        case measure => simp [intOf]; omega
      have e0 := isE' c1
      by_cases c2 : s.data.toList = [46]
      · have e1 := eqB c2
        have HN : Hid (stepP (outP (all.take k)) s = outP (all.take k)) := if_pos (.inr c2)
        go_wp2
        go_roundw
        case rel => exact ⟨k + 1, by omega, by go_num, by rw [HS.out, HN.out]; exact hown, hbel⟩
        case measure => simp [intOf]; omega
      have e1 := neB c2
      by_cases c3 : s.data.toList = [46, 46]
      · have e2 := eqB c3
        have HN : Hid (stepP (outP (all.take k)) s = (outP (all.take k)).take ((outP (all.take k)).length - 1)) := by unfold stepP; rw [if_neg (by rintro (h | h); exact c1 h; exact c2 h), if_pos c3]; exact rfl
        have hown0 := hown
        have HO := hown0
        rcases hown0.2 with ⟨rfl, h0⟩ | ⟨gg, cap, cur, rfl, r1, r2, r3, r4, r5, r6⟩
        · have hO : outP (all.take k) = [] := List.eq_nil_of_length_eq_zero h0
          rw [h0] at hown
          clear hown0 h0
          go_wp2
          go_roundw
          case rel => exact ⟨k + 1, by omega, by go_num, by rw [HS.out, HN.out, hO]; exact World.ownsRow_nil _ _ _ _, hbel⟩
          case measure => simp [intOf]; omega
        · obtain ⟨n, hn⟩ : ∃ n, n = (outP (all.take k)).length := ⟨_, rfl⟩
          have HT : Hid (wr.ownsRow w4.heap.size 9 1 (.slice (some ⟨gg, 0, none⟩) (n - 1) cap) (n - 1) (((outP (all.take k)).map Value.string).take (n - 1))) := own_take (by rw [← hn] at HO; exact HO) (by omega)
          rw [← hn] at r3 hOl ⊢
          have hmx : (max (0 : Int) ((n : Int) - 1)).toNat = n - 1 := by omega
          clear hown hown0 HO r2 r6 r5
          go_wp2
          go_roundw
          case rel => exact ⟨k + 1, by omega, by go_num, by rw [HS.out, HN.out, List.length_take, ← hn, List.map_take, Nat.min_eq_left (by omega)]; simp only [hmx]; exact HT.out, hbel⟩
          case measure => simp [intOf]; omega
      · have e2 := neB c3
        have HN : Hid (stepP (outP (all.take k)) s = outP (all.take k) ++ [s]) := by unfold stepP; rw [if_neg (by rintro (h | h); exact c1 h; exact c2 h), if_neg c3]; exact rfl
        go_wp2_with (at_builtin; refine wpList_append_own _ rfl _ _ 28 rfl w4.heap.size 9 i0 _ 1 16 pa_t22 hi hz0 hz1 hz2 rfl (by decide) _ _ _ rfl (by exact hown.alloc _) ⟨wr.heap.size, 0, none⟩ 1 1 [.string s] rfl rfl (row_new _ _ _) (by intro u hu; rw [List.mem_singleton] at hu; subst hu; rfl) (by unfold maxLen; omega) (by omega) (by have := hbel.size; simp; omega) ?_)
        intro v9 w9 hown2 hgrow2 _
        have hb2 : Below w4.heap.size w4 w9 := (hbel.alloc hbel.size _).grown hgrow2 (by have := hbel.size; simp; omega) (fun j hj => (hown.lt j hj).1)
        go_wp2
        go_roundw
        case rel => exact ⟨k + 1, by omega, by go_num, by rw [HS.out, HN.out, List.length_append, List.map_append]; exact hown2, hb2⟩
        case measure => simp [intOf]; omega
    · have hkl : k = all.length := by omega
      subst hkl
      rw [List.take_of_length_le (Nat.le_refl _)] at hown
      have hbw := hb0.trans (hbel.mono hb0.size)
      have hob := own_base hown hb0.size
      clear hown hbel
      go_wp2
      go_ret
      exact ⟨_, rfl, by rw [hall]; exact hob, hbw⟩
theorem parts_any (p : ByteArray) (w : World) (hm : MaxIs w) (hs : p.size ≤ 1100000) :
    Calls Tryz.prog 42 #[.string slB, .string p] w fun e w' => ∃ v, e = .returned v ∧ w'.ownsRow w.heap.size 9 1 v (partsP p).length ((partsP p).map Value.string) ∧ Below w.heap.size w w' := by
  by_cases hp : Lib.hasPrefix p.data.toList [47] = true
  · exact parts_abs p w hm hs hp
  · exact parts_rel p w hm hs hp
def longF (l : List ByteArray) : Bool := l.any fun s => decide ((60 : Int) < (s.size : Int))
def joinB (l : List ByteArray) : ByteArray := ⟨#[47]⟩ ++ ⟨(Lib.join (l.map (·.data.toList)) [47]).toArray⟩
def absF (p : ByteArray) : ByteArray × Int :=
  if p.data.toList = [] ∨ 0 ≤ Lib.indexByte p.data.toList 0 then (⟨#[]⟩, 1)
  else if longF (partsP p) = false ∧ (partsP p).length ≤ 20 ∧ (joinB (partsP p)).size ≤ 200 then (joinB (partsP p), 0) else (⟨#[]⟩, 3)
theorem extract_le (s : ByteArray) (a b : Nat) : (s.extract a b).size ≤ s.size := by
  rw [ByteArray.size_extract]
  omega
theorem splitB_mem : ∀ (k : Nat) (s x : ByteArray), x ∈ Lib.splitB slB 0 k s → x.size ≤ s.size
  | 0, s, x, h => by rw [Lib.splitB_zero] at h; rw [List.mem_singleton.1 h]; exact Nat.le_refl _
  | k + 1, s, x, h => by
    unfold Lib.splitB at h
    split at h
    · rw [List.mem_singleton.1 h]; exact Nat.le_refl _
    · rcases List.mem_cons.1 h with rfl | h
      · exact extract_le _ _ _
      · exact Nat.le_trans (splitB_mem k _ x h) (extract_le _ _ _)
theorem stepP_mem {o : List ByteArray} {s x : ByteArray} (h : x ∈ stepP o s) : x ∈ o ∨ x = s := by
  unfold stepP at h
  split at h
  · exact .inl h
  · split at h
    · exact .inl (List.mem_of_mem_take h)
    · rcases List.mem_append.1 h with h | h
      · exact .inl h
      · exact .inr (List.mem_singleton.1 h)
theorem foldP_mem {x : ByteArray} : ∀ (l o : List ByteArray), x ∈ l.foldl stepP o → x ∈ o ∨ x ∈ l
  | [], _, h => .inl h
  | s :: l, o, h => by
    rcases foldP_mem l _ h with h | h
    · rcases stepP_mem h with h | h
      · exact .inl h
      · exact .inr (h ▸ List.mem_cons_self ..)
    · exact .inr (List.mem_cons_of_mem _ h)
theorem partsP_mem {p x : ByteArray} (h : x ∈ partsP p) : x.size ≤ p.size := by
  rcases foldP_mem _ _ h with h | h
  · cases h
  · unfold allP at h
    split at h
    · exact splitB_mem _ _ _ h
    · rcases List.mem_append.1 h with h | h
      · simp only [List.mem_cons, List.not_mem_nil, or_false, or_self] at h
        rw [h]
        exact Nat.zero_le _
      · exact splitB_mem _ _ _ h
theorem partsP_le (p : ByteArray) : (partsP p).length ≤ p.size + 3 := by
  have h1 := outP_le (allP p) (allP p).length
  rw [List.take_of_length_le (Nat.le_refl _)] at h1
  have h2 := pcs_le p
  have h3 : (allP p).length ≤ p.size + 3 := by
    unfold allP
    split
    · omega
    · rw [List.length_append]; simp; omega
  exact Nat.le_trans h1 h3
theorem join_len {M : Nat} : ∀ (l : List ByteArray), (∀ s ∈ l, s.size ≤ M) → (Lib.join (l.map (·.data.toList)) [47]).length ≤ l.length * (M + 1)
  | [], _ => by simp [Lib.join, List.intercalate]
  | [x], h => by
    have := h x (List.mem_cons_self ..)
    have e : x.data.toList.length = x.size := rfl
    rw [List.map_cons, List.map_nil, Lib.join_one, e]
    simp; omega
  | x :: y :: r, h => by
    have h1 := h x (List.mem_cons_self ..)
    have ih := join_len (y :: r) (fun s hs => h s (List.mem_cons_of_mem _ hs))
    have e : x.data.toList.length = x.size := rfl
    have e2 : Lib.join ((x :: y :: r).map (·.data.toList)) [47] = x.data.toList ++ ([47] ++ Lib.join ((y :: r).map (·.data.toList)) [47]) := by simp [Lib.join, List.intercalate]
    have e3 : (x :: y :: r).length = (y :: r).length + 1 := rfl
    rw [e2, List.length_append, List.length_append, e, e3, Nat.add_mul]
    simp only [List.length_cons, List.length_nil] at ih ⊢
    omega
theorem joinB_room (p : ByteArray) (hs : p.size ≤ 1100000) : (Lib.join ((partsP p).map (·.data.toList)) [47]).length ≤ 2000000000000 := by
  have h1 := join_len (M := p.size) (partsP p) (fun s hm => partsP_mem hm)
  have h2 := partsP_le p
  have h3 : (partsP p).length * (p.size + 1) ≤ 1100003 * 1100001 := Nat.mul_le_mul (by omega) (by omega)
  omega
theorem cl_any (s : ByteArray) (w : World) : Calls Tryz.prog 44 #[.string s] w fun e w' => e = .returned (.bool (decide ((60 : Int) < (s.size : Int)))) ∧ w' = w := by
  go_enter Tryz.func44, Tryz.ntmps44
  go_wp2
  go_ret
  exact ⟨rfl, rfl⟩
set_option maxHeartbeats 1600000 in
set_option maxRecDepth 100000 in
theorem idx_some (g cap : Nat) (l : List ByteArray) (w : World) (hn : l.length ≤ 2000000) (hc : ∀ k (h : k < l.length), w.cell? ⟨g, k, none⟩ = some (.string l[k])) :
    Calls Tryz.prog 81 #[.slice (some ⟨g, 0, none⟩) l.length cap, .func (.func 44) #[] #[]] w fun e w' => (∃ i : Int, e = .returned (.int .i64 i) ∧ decide (0 ≤ i) = longF l) ∧ w' = w := by
  have HC : Hid (∀ k (h : k < l.length), w.cell? ⟨g, k, none⟩ = some (.string l[k])) := hc
  clear hc
  go_enter Tryz.func81, Tryz.ntmps81
  go_wp2
  go_loopw [5, 8] (fun _ i wr => ∃ k : Nat, k ≤ l.length ∧ i = .int .i64 k ∧ longF (l.take k) = false ∧ wr = w) (fun _ i _ => l.length - (intOf i).toNat)
  case atStart => exact ⟨0, Nat.zero_le _, rfl, rfl, rfl⟩
  case round =>
    obtain ⟨k, hk, rfl, hlong, hwr⟩ := hrel
    subst hwr
    by_cases hlt : k < l.length
    · have hcx := HC.out k hlt
      have hs0 : longF (l.take (k + 1)) = (longF (l.take k) || decide ((60 : Int) < (l[k].size : Int))) := by
        unfold longF
        rw [List.take_succ_eq_append_getElem hlt, List.any_append]
        simp
      have HS : Hid (longF (l.take (k + 1)) = (longF (l.take k) || decide ((60 : Int) < (l[k].size : Int)))) := hs0
      clear hs0
      have HM : Hid (decide ((60 : Int) < (l[k].size : Int)) = true → longF l = true) := fun h => List.any_eq_true.2 ⟨_, List.getElem_mem hlt, h⟩
      obtain ⟨s, hsd⟩ : ∃ s, s = l[k] := ⟨_, rfl⟩
      rw [← hsd] at hcx HS HM
      clear hsd
      rw [hlong] at HS
      cases hb : decide ((60 : Int) < (s.size : Int)) with
      | true =>
        have hcl : Calls Tryz.prog 44 #[.string s] wr fun e w' => e = .returned (.bool true) ∧ w' = wr := by rw [← hb]; exact cl_any s wr
        go_wp2_with fail
        go_at_call 44
        refine hcl.mono ?_
        rintro e w1 ⟨rfl, hw1⟩
        subst hw1
        go_wp2
        go_ret
        exact ⟨⟨k, rfl, by rw [HM.out hb]; simp⟩, rfl⟩
      | false =>
        have hcl : Calls Tryz.prog 44 #[.string s] wr fun e w' => e = .returned (.bool false) ∧ w' = wr := by rw [← hb]; exact cl_any s wr
        go_wp2_with fail
        go_at_call 44
        refine hcl.mono ?_
        rintro e w1 ⟨rfl, hw1⟩
        subst hw1
        go_wp2
        go_roundw
        case rel => exact ⟨k + 1, by omega, by go_num, by rw [HS.out, hb]; rfl, by first | trivial | rfl⟩
        case measure => simp [intOf]; omega
    · have hkl : k = l.length := by omega
      subst hkl
      rw [List.take_of_length_le (Nat.le_refl _)] at hlong
      go_wp2
      go_ret
      exact ⟨⟨-1, rfl, by rw [hlong]; rfl⟩, rfl⟩
theorem idx_none (w : World) : Calls Tryz.prog 81 #[.slice none 0 0, .func (.func 44) #[] #[]] w fun e w' => (∃ i : Int, e = .returned (.int .i64 i) ∧ decide (0 ≤ i) = longF []) ∧ w' = w := by
  go_enter Tryz.func81, Tryz.ntmps81
  go_wp2
  refine wp_loop_rounds 1 ?_
  rw [rounds_succ]
  go_wp2
  go_ret
  exact ⟨⟨-1, rfl, rfl⟩, rfl⟩
theorem own_cells {w : World} {B g cap : Nat} {l : List ByteArray} (h : w.ownsRow B 9 1 (.slice (some ⟨g, 0, none⟩) l.length cap) l.length (l.map Value.string)) : ∀ (j : Nat) x, l[j]? = some x → w.cell? ⟨g, 0 + j, none⟩ = some (.string x) := fun j x hx => by
  have h1 := h.cells (g := g) rfl j (.string x) (by rw [List.getElem?_map, hx]; rfl)
  rwa [Addr.add_lit] at h1
theorem cf_any {w : World} {B : Nat} {v : Value} {l : List ByteArray} (hown : w.ownsRow B 9 1 v l.length (l.map Value.string)) (hn : l.length ≤ 2000000) :
    Calls Tryz.prog 43 #[v, .func (.func 44) #[] #[]] w fun e w' => e = .returned (.bool (longF l)) ∧ w' = w := by
  have key : Calls Tryz.prog 81 #[v, .func (.func 44) #[] #[]] w fun e w' => (∃ i : Int, e = .returned (.int .i64 i) ∧ decide (0 ≤ i) = longF l) ∧ w' = w := by
    rcases hown.2 with ⟨rfl, h0⟩ | ⟨g, cap, cur, rfl, _⟩
    · obtain rfl := List.eq_nil_of_length_eq_zero h0
      exact idx_none w
    · refine idx_some g cap l w hn fun k h => ?_
      have h1 := own_cells hown k l[k] (List.getElem?_eq_getElem h)
      rwa [Nat.zero_add] at h1
  clear hown
  go_enter Tryz.func43, Tryz.ntmps43
  go_wp2_with fail
  go_at_call 81
  refine key.mono ?_
  rintro e w1 ⟨⟨i, rfl, hi⟩, hw⟩
  subst hw
  go_wp2
  go_ret
  exact ⟨by rw [← hi]; rfl, rfl⟩
theorem join_any {w : World} {B : Nat} {v : Value} {l : List ByteArray} (hown : w.ownsRow B 9 1 v l.length (l.map Value.string)) (hn : l.length ≤ 2000000) (hr : (Lib.join (l.map (·.data.toList)) [47]).length ≤ 2000000000000) :
    Calls Tryz.prog 45 #[v] w fun e w' => e = .returned (.string (joinB l)) ∧ Below w.heap.size w w' := by
  have key : Calls Tryz.prog 47 #[v, .string slB] w fun e w' => e = .returned (.string ⟨(Lib.join (l.map (·.data.toList)) [47]).toArray⟩) ∧ Below w.heap.size w w' := by
    have ho := hown
    rcases ho.2 with ⟨rfl, h0⟩ | ⟨g, cap, cur, rfl, h1, h2, h3, h4, h5, h6⟩
    · obtain rfl := List.eq_nil_of_length_eq_zero h0
      exact (Tryz.strings_Join_none none 0 slB w).mono fun e w' ⟨he, hw⟩ => ⟨he, hw ▸ Below.refl _ _⟩
    · exact Tryz.strings_Join g 0 cap l slB w (own_cells hown) (Array.getElem?_eq_some_iff.1 h2).1 (by omega) h3 (by exact Nat.le_trans hr (by omega))
  clear hown
  obtain ⟨t, ht⟩ : ∃ t : ByteArray, t = ⟨(Lib.join (l.map (·.data.toList)) [47]).toArray⟩ := ⟨_, rfl⟩
  have hts : t.size ≤ 2000000000000 := by rw [ht]; simpa [ByteArray.size] using hr
  have hJ : Hid (joinB l = slB ++ t) := by rw [ht]; exact rfl
  rw [← ht] at key
  clear ht hr
  go_enter Tryz.func45, Tryz.ntmps45
  go_wp2_with fail
  go_at_call 47
  refine key.mono ?_
  rintro e w1 ⟨rfl, hb⟩
  go_wp2
  go_ret
  exact ⟨by rw [hJ.out]; rfl, hb⟩
set_option maxHeartbeats 1600000 in
set_option maxRecDepth 100000 in
theorem abs_any (p : ByteArray) (w : World) (hm : MaxIs w) (hs : p.size ≤ 1100000) :
    Calls Tryz.prog 21 #[.string slB, .string p] w fun e w' => e = .returned (.tuple #[.string (absF p).1, .int .i64 (absF p).2]) ∧ Below w.heap.size w w' := by
  by_cases c1 : p.data.toList = []
  · have e0 := isE c1
    have hF : absF p = (⟨#[]⟩, 1) := if_pos (.inl c1)
    rw [hF]
    clear hF
    go_enter Tryz.func21, Tryz.ntmps21
    go_wp2
    go_ret2
    exact ⟨rfl, Below.refl _ _⟩
  have e0 := isE' c1
  have hC1 : Calls Tryz.prog 41 #[.string slB, .string ⟨#[0]⟩] w fun e w' => e = .returned (.bool false) ∧ w' = w := (Tryz.strings_Contains_one slB 0 w).mono fun e w' h => ⟨by rw [h.1, show decide (0 ≤ Lib.indexByte slB.data.toList 0) = false by decide], h.2⟩
  by_cases c2 : 0 ≤ Lib.indexByte p.data.toList 0
  · have hF : absF p = (⟨#[]⟩, 1) := if_pos (.inr c2)
    have hC2 : Calls Tryz.prog 41 #[.string p, .string ⟨#[0]⟩] w fun e w' => e = .returned (.bool true) ∧ w' = w := (Tryz.strings_Contains_one p 0 w).mono fun e w' h => ⟨by rw [h.1, decide_eq_true c2], h.2⟩
    rw [hF]
    clear hF c2
    go_enter Tryz.func21, Tryz.ntmps21
    go_wp2_with fail
    go_at_call 41
    refine hC1.mono ?_
    rintro e w1 ⟨rfl, hw⟩
    subst hw
    go_wp2_with fail
    go_at_call 41
    refine hC2.mono ?_
    rintro e w2 ⟨rfl, hw⟩
    subst hw
    go_wp2
    go_ret2
    exact ⟨rfl, Below.refl _ _⟩
  have hC2 : Calls Tryz.prog 41 #[.string p, .string ⟨#[0]⟩] w fun e w' => e = .returned (.bool false) ∧ w' = w := (Tryz.strings_Contains_one p 0 w).mono fun e w' h => ⟨by rw [h.1, decide_eq_false c2], h.2⟩
  have hP := parts_any p w hm hs
  have hle := partsP_le p
  have hroom := joinB_room p hs
  have hF0 : absF p = if longF (partsP p) = false ∧ (partsP p).length ≤ 20 ∧ (joinB (partsP p)).size ≤ 200 then (joinB (partsP p), 0) else (⟨#[]⟩, 3) := if_neg (by rintro (h | h); exact c1 h; exact c2 h)
  obtain ⟨l, hl⟩ : ∃ l, l = partsP p := ⟨_, rfl⟩
  rw [← hl] at hP hle hroom hF0
  clear hl
  obtain ⟨jb, hjb⟩ : ∃ j, j = joinB l := ⟨_, rfl⟩
  obtain ⟨lf, hlf⟩ : ∃ b, b = longF l := ⟨_, rfl⟩
  have hjs : jb.size ≤ 2000000000001 := by rw [hjb]; unfold joinB; simp only [ByteArray.size_append]; simp [ByteArray.size] at hroom ⊢; omega
  obtain ⟨r, hr⟩ : ∃ r, r = absF p := ⟨_, rfl⟩
  rw [← hr] at hF0 ⊢
  rw [← hjb, ← hlf] at hF0
  have hR : Hid (r = if lf = false ∧ l.length ≤ 20 ∧ jb.size ≤ 200 then (jb, 0) else (⟨#[]⟩, 3)) := hF0
  clear hF0 hr c2
  go_enter Tryz.func21, Tryz.ntmps21
  go_wp2_with fail
  go_at_call 41
  refine hC1.mono ?_
  rintro e w1 ⟨rfl, hw⟩
  subst hw
  go_wp2_with fail
  go_at_call 41
  refine hC2.mono ?_
  rintro e w2 ⟨rfl, hw⟩
  subst hw
  go_wp2_with fail
  go_at_call 42
  refine hP.mono ?_
  rintro e w3 ⟨v, rfl, hown, hb3⟩
  have hCF := cf_any hown (by omega)
  have hJ := join_any hown (by omega) hroom
  rw [← hlf] at hCF
  rw [← hjb] at hJ
  clear hP hC1 hC2 hroom hjb hlf
  go_wp2_with fail
  go_at_call 43
  refine hCF.mono ?_
  rintro e w4 ⟨rfl, hw⟩
  subst hw
  go_wp2_with fail
  go_at_call 45
  refine hJ.mono ?_
  rintro e w5 ⟨rfl, hb5⟩
  have hbw := hb3.trans (hb5.mono hb3.size)
  have hvl : v = .slice none 0 0 ∨ ∃ g cap, v = .slice (some ⟨g, 0, none⟩) l.length cap := by
    rcases hown.2 with ⟨h, _⟩ | ⟨g, cap, cur, h, _⟩
    · exact .inl h
    · exact .inr ⟨g, cap, h⟩
  have hl0 : v = .slice none 0 0 → l.length = 0 := by
    intro h
    rcases hown.2 with ⟨_, h0⟩ | ⟨g, cap, cur, h2, _⟩
    · exact h0
    · rw [h] at h2; cases h2
  clear hown hCF hJ hb3 hb5
  cases lf with
  | true =>
    go_wp2
    go_ret2
    exact ⟨by rw [hR.out]; rfl, hbw⟩
  | false =>
    by_cases c3 : jb.size ≤ 200
    · rcases hvl with rfl | ⟨g, cap, rfl⟩
      · have h0 := hl0 rfl
        have hr2 : r = (jb, 0) := by rw [hR.out, if_pos ⟨rfl, by omega, c3⟩]
        subst hr2
        clear hR hl0 h0 hle
        go_wp2
        go_ret2
        exact ⟨rfl, hbw⟩
      · by_cases c4 : l.length ≤ 20
        · have hr2 : r = (jb, 0) := by rw [hR.out, if_pos ⟨rfl, c4, c3⟩]
          subst hr2
          clear hR hl0
          go_wp2
          go_ret2
          exact ⟨rfl, hbw⟩
        · have hr2 : r = (⟨#[]⟩, 3) := by rw [hR.out, if_neg (fun h => c4 h.2.1)]
          subst hr2
          clear hR hl0
          go_wp2
          go_ret2
          exact ⟨rfl, hbw⟩
    · have hr2 : r = (⟨#[]⟩, 3) := by rw [hR.out, if_neg (fun h => c3 h.2.2)]
      subst hr2
      clear hR
      rcases hvl with rfl | ⟨g, cap, rfl⟩
      all_goals
        clear hl0
        go_wp2
        all_goals
          go_ret2
          exact ⟨rfl, hbw⟩
end Go.Proofs.YthocoonhoilmdaaGreatDoor
