/-
  A part of a small executor of the model, proved sound (21 of 28). No condition.
-/
import Derived.Test.YthocoonhoilmdaaGreatDoorXMxG
import Derived.OpenShut
import Derived.LaidMore
import Derived.ProofKit
import Derived.Stop.Joined
import Derived.WideShapes
import Derived.Carry
import Derived.Test.YthocoonhoilmdaaGreatDoorXMxQ
import Derived.ChangeSlices
import Derived.SliceStrings
namespace Go.Mx
noncomputable section
def tabV (k : IntKind) : List Int → V
  | [] => .nil
  | n :: r => .cons (.i k n) (tabV k r)
theorem CR_tabV (ρ : Ren) (k : IntKind) : ∀ l : List Int, CR ρ (tabV k l) (l.map fun n => Value.int k n)
  | [] => by simp [tabV, CR]
  | n :: r => by
    simp only [tabV, CR, List.map_cons]
    exact ⟨_, _, rfl, by simp [VR], CR_tabV ρ k r⟩
theorem ints_of_trod {P : Program} {w : World} {base : Nat} {sp : Nat → Bool} {held : Bool} {fuel t e n : Nat} {k : IntKind} {cs : List Value} {p : List MemPlace} {l : List Int}
    (ht : P.underlying t = some (.array n e)) (he : P.underlying e = some (.int k)) (hc : P.cellsOf e = 1) (hct : P.cellsOf t = n)
    (h : DataW.trod (fun _ => ()) P w base sp held fuel t cs = some (.agg (l.map fun x => .lit (.int k x)), p)) : cs = l.map fun x => Value.int k x := by
  obtain ⟨xs, m, _, hx, hlen, hn, hel⟩ := DataW.trod_array ht h
  simp only [Prod.mk.injEq, DataW.agg.injEq] at hx
  have hl : l.length = n := by
    have := congrArg List.length hx.1
    simpa [hn] using this
  rw [hct] at hlen
  apply List.ext_getElem?
  intro i
  by_cases hi : i < n
  · have h1 := hel i hi
    rw [hc, Nat.mul_one] at h1
    have hxi : xs[i]? = some xs[i] := List.getElem?_eq_getElem (by omega)
    rw [hxi] at h1
    obtain ⟨z, hz1, hz2, _⟩ := DataW.trod_int he h1
    have e1 : cs[i]? = some (.int k z) := by
      have := congrArg (·[0]?) hz1
      simpa [List.getElem?_take, List.getElem?_drop] using this
    have e2 : (l.map fun x => (DataW.lit (.int k x) : DataW Unit))[i]? = some (DataW.lit (.int k z)) := by
      rw [hx.1, List.getElem?_map, hxi, hz2]
      rfl
    rw [List.getElem?_map] at e2 ⊢
    rw [e1]
    cases hli : l[i]? with
    | none => rw [hli] at e2; cases e2
    | some y =>
      rw [hli] at e2
      simp only [Option.map_some, Option.some.injEq, DataW.lit.injEq, Lit.int.injEq] at e2
      simp [e2.2]
  · rw [List.getElem?_eq_none (by omega), List.getElem?_eq_none (by simp; omega)]
theorem table_of_laidVars {P : Program} {w : World} {name : String} {g t e n : Nat} {k : IntKind} {l : List Int} (hg : P.globalNamed name = some g) (hgt : (P.globals[g]?).map (·.type) = some t)
    (ht : P.underlying t = some (.array n e)) (he : P.underlying e = some (.int k)) (hc : P.cellsOf e = 1) (hct : P.cellsOf t = n) (hpos : 0 < n) :
    ∀ {L : List (String × DataW Unit)} {ps : List MemPlace}, DataW.LaidVars P w L ps → (name, DataW.agg (l.map fun x => .lit (.int k x))) ∈ L →
      (∀ b off, MemPlace.cell b off ∈ ps → ∃ c u, w.heap[b]? = some (.cells c u (0, 0))) → ∃ arr ty, w.heap[g]? = some (.cells arr ty (0, 0)) ∧ arr.toList = l.map fun x => Value.int k x
  | [], _, _, hm, _ => by cases hm
  | (nm, d) :: r, ps, h, hm, hb => by
    obtain ⟨g', t', cs, fuel, p, q, h1, h2, h3, h4, h5, rfl⟩ := h
    rcases List.mem_cons.1 hm with e1 | hm'
    · cases e1
      obtain rfl := Option.some.inj (hg.symm.trans h1)
      obtain rfl := Option.some.inj (hgt.symm.trans h2)
      have hcs := ints_of_trod ht he hc hct h4
      have hsz : 0 < cs.size := by
        obtain ⟨xs, m, _, _, hlen, _, _⟩ := DataW.trod_array ht h4
        rw [hct] at hlen
        have : cs.size = n := by simpa using hlen
        omega
      obtain ⟨c, u, hh⟩ := hb g 0 (by
        refine List.mem_append_left _ (List.mem_append_left _ ?_)
        simp only [MemPlace.row, List.mem_map, List.mem_range]
        exact ⟨0, hsz, by simp⟩)
      simp only [World.var?, hg, Option.bind_some, hh, Option.some.injEq] at h3
      subst h3
      exact ⟨_, _, hh, hcs⟩
    · exact table_of_laidVars hg hgt ht he hc hct hpos h5 hm' (fun b off hp => hb b off (List.mem_append_right _ hp))
theorem hasTable_of_laid {P : Program} {w : World} {name : String} {g t e n : Nat} {k : IntKind} {l : List Int} {L : List (String × DataW Unit)} (hL : laidMetH P L w) (hno : (L.all fun x => x.2.handleName?.isNone) = true)
    (hm : (name, DataW.agg (l.map fun x => .lit (.int k x))) ∈ L) (hg : P.globalNamed name = some g) (hgt : (P.globals[g]?).map (·.type) = some t)
    (ht : P.underlying t = some (.array n e)) (he : P.underlying e = some (.int k)) (hc : P.cellsOf e = 1) (hct : P.cellsOf t = n) (hpos : 0 < n) :
    HasTables [(g, tabV k l)] w := by
  rw [MakeChecks.laidMetH_plain _ _ _ hno] at hL
  obtain ⟨ps, h1, _, h3⟩ := hL
  obtain ⟨arr, ty, a1, a2⟩ := table_of_laidVars hg hgt ht he hc hct hpos h1 hm (fun b off hp => (h3 b off hp).1)
  intro p hp
  obtain rfl := List.mem_singleton.1 hp
  exact ⟨arr, ty, a1, by rw [a2]; exact CR_tabV _ _ _⟩
theorem Stays.keptBut {W W' : World} (h : Stays W W') (may : MemPlace → Prop) : W.keptBut W' may := by
  refine ⟨h.os, h.output, fun i hi => ?_⟩
  rw [h.heap i hi]
  have := World.keptBut_refl W may
  exact this.2.2 i hi
end
end Go.Mx
namespace Go.Mx
open Go.ChangeShapes Go.WideShapes Go.RowKit
noncomputable section
def boolsV : List Bool → V
  | [] => .nil
  | b :: r => .cons (.b b) (boolsV r)
theorem VRs_boolsV (ρ : Ren) : ∀ l : List Bool, VRs ρ (boolsV l) (l.map Value.bool)
  | [] => by simp [boolsV, VRs]
  | b :: r => by
    simp only [boolsV, VRs, List.map_cons]
    exact ⟨_, _, rfl, by simp [VR], VRs_boolsV ρ r⟩
theorem VR_boolsV (ρ : Ren) (l : List Bool) : VR ρ (.a (boolsV l)) (.agg ⟨l.map Value.bool⟩) := by
  simp only [VR]
  exact ⟨_, VRs_boolsV ρ l, rfl⟩
def boolsB (P : Program) (t n : Nat) : Bool :=
  match P.underlying t with
  | some (.struct fs) => fs.size == n && P.cellsOf t == n && (List.range n).all fun i =>
    match fs[i]? with
    | some f => f.offset == i && (match P.underlying f.type with | some .bool => true | _ => false) && P.cellsOf f.type == 1
    | none => false
  | _ => false
def boolAt (x : Option Value) : Bool :=
  match x with
  | some (Value.bool b) => b
  | _ => false
theorem open_bools {H : Type} {enc : TypeId × Value → H} {P : Program} {W : World} {r : Reach} {b0 base : Nat} {sp : Nat → Bool} {held : Bool} {t n : Nat} {v : Value} {d : DataW H} {ps : List MemPlace} (h : boolsB P t n = true) (hval : Value.okWide P W r b0 t v)
    (hd : DataW.Trod enc P W base sp held t v d ps) : ∃ l : List Bool, l.length = n ∧ v = .agg ⟨l.map Value.bool⟩ ∧ ps = [] := by
  unfold boolsB at h
  split at h
  · rename_i fs ht
    simp only [Bool.and_eq_true, beq_iff_eq, List.all_eq_true, List.mem_range] at h
    obtain ⟨⟨h1, h2⟩, h3⟩ := h
    obtain ⟨cs, rfl, hcs⟩ := okWide_struct ht hval
    obtain ⟨fuel, hd⟩ := hd
    obtain ⟨xs, m, _, hx0, hlen, hxs, hel⟩ := DataW.trod_struct ht hd
    have e : ∀ i, i < n → (∃ b, cs.toList[i]? = some (.bool b)) ∧ ∀ x, xs[i]? = some x → x.2 = [] := by
      intro i hi
      have h4 := h3 i hi
      cases hf : fs[i]? with
      | none => rw [hf] at h4; cases h4
      | some f =>
        rw [hf] at h4
        simp only [Bool.and_eq_true, beq_iff_eq] at h4
        obtain ⟨⟨h5, h6⟩, h7⟩ := h4
        split at h6
        · rename_i hb
          have h8 := hel i f hf
          rw [h5, h7] at h8
          have hx : xs[i]? = some xs[i] := List.getElem?_eq_getElem (by omega)
          rw [hx] at h8
          obtain ⟨b, hb1, hb2⟩ := DataW.trod_bool hb h8
          refine ⟨⟨b, ?_⟩, fun x hx2 => ?_⟩
          · have := congrArg (·[0]?) hb1
            simpa [List.getElem?_take, List.getElem?_drop, Value.cells] using this
          · rw [hx] at hx2
            cases hx2
            rw [hb2]
        · cases h6
    refine ⟨(List.range n).map fun i => boolAt (cs.toList[i]?), by simp, ?_, ?_⟩
    rotate_left
    · simp only [Prod.mk.injEq] at hx0
      rw [hx0.2, List.flatMap_eq_nil_iff]
      intro x hx
      obtain ⟨i, hi⟩ := List.mem_iff_getElem?.1 hx
      have hlt : i < xs.length := (List.getElem?_eq_some_iff.1 hi).1
      exact (e i (by omega)).2 x hi
    congr 1
    apply Array.ext'
    apply List.ext_getElem?
    intro i
    by_cases hi : i < n
    · obtain ⟨b, hb⟩ := (e i hi).1
      rw [hb]
      have hb' : cs[i]? = some (.bool b) := by rw [← Array.getElem?_toList]; exact hb
      simp [hi, hb', boolAt]
    · rw [List.getElem?_eq_none (by simp; omega), List.getElem?_eq_none (by simp; omega)]
  · cases h
theorem six {l : List Bool} (h : l.length = 6) : ∃ a b c d e f, l = [a, b, c, d, e, f] := by
  match l, h with
  | [a, b, c, d, e, f], _ => exact ⟨a, b, c, d, e, f, rfl⟩
theorem Stays.below {W W' : World} (h : Stays W W') : Below W.heap.size W W' := ⟨h.os, h.tape, h.output, h.size, h.heap⟩
end
end Go.Mx
namespace Go.Mx
open Go.ChangeShapes Go.WideShapes Go.RowKit
noncomputable section
theorem cell_of_cells {W : World} {a : Addr} {i : Nat} {y : Value} (h : W.cells? 0 (a.add (i * 1)) 1 = some [y]) : W.cell? (a.add i) = some y := by
  unfold World.cells? at h
  rw [if_pos (Nat.zero_le _)] at h
  have e0 : (a.add (i * 1)).add 0 = a.add i := by simp [Addr.add]
  simp only [List.range_succ, List.range_zero, List.nil_append, List.mapM_cons, List.mapM_nil, e0] at h
  cases hc : W.cell? (a.add i) with
  | none => simp [hc] at h
  | some c => simp [hc] at h; rw [h]
theorem open_boolslice {H : Type} {enc : TypeId × Value → H} {P : Program} {W : World} {t e : Nat} {v : Value} {d : DataW H} {ps : List MemPlace} (ht : P.underlying t = some (.slice e)) (he : P.underlying e = some .bool) (hc : P.cellsOf e = 1)
    (hval : ∃ a len cap, v = .slice a len cap) (hd : DataW.Trod enc P W 0 (fun _ => true) true t v d ps) :
    v = .slice none 0 0 ∨ (∃ A c, v = .slice (some A) 0 c) ∨
      ∃ b off len cap arr ty fz, ∃ l : List Bool, v = .slice (some ⟨b, off, none⟩) len cap ∧ 0 < len ∧ len ≤ cap ∧ W.heap[b]? = some (.cells arr ty fz) ∧ off + cap ≤ arr.size ∧ l.length = len ∧ (arr.toList.drop off).take len = l.map Value.bool := by
  obtain ⟨a0, len0, cap0, rfl⟩ := hval
  obtain ⟨fuel, hd⟩ := hd
  rcases DataW.trod_slice ht hd with ⟨h, _⟩ | ⟨a, len, cap, elems, rest, m, _, hcs, _, _, hle, _, hlen, hel, hsp, _⟩
  · left
    simpa [Value.cells] using h
  · have hv : (Value.slice a0 len0 cap0) = .slice (some a) len cap := by simpa [Value.cells] using hcs
    rw [hv]
    right
    by_cases h0 : len = 0
    · subst h0
      exact .inl ⟨a, cap, rfl⟩
    · refine .inr ?_
      obtain ⟨hrl, hre⟩ := hsp rfl
      have one : ∀ (i : Nat) (x : Option (DataW H × List MemPlace)), (W.cells? 0 (a.add (i * P.cellsOf e)) (P.cellsOf e)).bind (DataW.trod enc P W 0 (fun _ => true) true m e) = x → x.isSome = true → ∃ bb, W.cell? (a.add i) = some (.bool bb) := by
        intro i x h hx
        rw [hc] at h
        cases hcc : W.cells? 0 (a.add (i * 1)) 1 with
        | none => rw [hcc] at h; rw [← h] at hx; cases hx
        | some cs =>
          rw [hcc] at h
          simp only [Option.bind_some] at h
          cases x with
          | none => cases hx
          | some x =>
            obtain ⟨bb, rfl, _⟩ := DataW.trod_bool he h
            exact ⟨bb, cell_of_cells hcc⟩
      have all : ∀ i, i < cap → ∃ bb, W.cell? (a.add i) = some (.bool bb) := by
        intro i hi
        by_cases h1 : i < len
        · exact one i _ (hel i h1) (by rw [List.getElem?_eq_getElem (by omega)]; rfl)
        · have := hre (i - len) (by omega)
          rw [show len + (i - len) = i by omega] at this
          exact one i _ this (by rw [List.getElem?_eq_getElem (by omega)]; rfl)
      obtain ⟨b0, hb0⟩ := all 0 (by omega)
      have hadd : ∀ i, a.spot = none → a.add i = ⟨a.block, a.off + i, none⟩ := by
        intro i hs
        obtain ⟨ab, ao, as⟩ := a
        simp only at hs
        subst hs
        simp [Addr.add]
      have hspot : a.spot = none := by
        have h1 := hb0
        have h2 : a.add 0 = a := by simp [Addr.add]
        rw [h2] at h1
        unfold World.cell? at h1
        split at h1
        · cases hs : a.spot with
          | none => rfl
          | some s => simp [hs] at h1
        · cases h1
      obtain ⟨arr, ty, fz, hblk⟩ : ∃ arr ty fz, W.heap[a.block]? = some (.cells arr ty fz) := by
        have h1 := hb0
        rw [hadd 0 hspot] at h1
        unfold World.cell? at h1
        split at h1
        · rename_i c u f hh
          exact ⟨c, u, f, hh⟩
        · cases h1
      have hget : ∀ i, i < cap → ∃ bb, arr[a.off + i]? = some (.bool bb) := by
        intro i hi
        obtain ⟨bb, hbb⟩ := all i hi
        rw [hadd i hspot] at hbb
        simp only [World.cell?, hblk] at hbb
        exact ⟨bb, by simpa using hbb⟩
      have hsize : a.off + cap ≤ arr.size := by
        obtain ⟨bb, hbb⟩ := hget (cap - 1) (by omega)
        have := (Array.getElem?_eq_some_iff.1 hbb).1
        omega
      refine ⟨a.block, a.off, len, cap, arr, ty, fz, (List.range len).map fun i => boolAt (arr[a.off + i]?), ?_, Nat.pos_of_ne_zero h0, hle, hblk, hsize, by simp, ?_⟩
      · obtain ⟨ab, ao, as⟩ := a
        simp only at hspot
        subst hspot
        rfl
      · apply List.ext_getElem?
        intro i
        by_cases hi : i < len
        · obtain ⟨bb, hbb⟩ := hget i (by omega)
          rw [List.getElem?_take_of_lt hi, List.getElem?_drop, Array.getElem?_toList, hbb]
          simp [hi, hbb, boolAt]
        · rw [List.getElem?_eq_none (by simp; omega), List.getElem?_eq_none (by simp; omega)]
theorem cells_of_laid {P : Program} {w : World} {name : String} {g t e n : Nat} {k : IntKind} {l : List Int} {L : List (String × DataW Unit)} (hL : laidMetH P L w) (hno : (L.all fun x => x.2.handleName?.isNone) = true)
    (hm : (name, DataW.agg (l.map fun x => .lit (.int k x))) ∈ L) (hg : P.globalNamed name = some g) (hgt : (P.globals[g]?).map (·.type) = some t)
    (ht : P.underlying t = some (.array n e)) (he : P.underlying e = some (.int k)) (hc : P.cellsOf e = 1) (hct : P.cellsOf t = n) (hpos : 0 < n) :
    ∃ arr ty, w.heap[g]? = some (.cells arr ty (0, 0)) ∧ arr.toList = l.map fun x => Value.int k x := by
  rw [MakeChecks.laidMetH_plain _ _ _ hno] at hL
  obtain ⟨ps, h1, _, h3⟩ := hL
  exact table_of_laidVars hg hgt ht he hc hct hpos h1 hm (fun b off hp => (h3 b off hp).1)
theorem CR_boolsV {ρ : Ren} {l : List Bool} {vs : List Value} (h : vs.take l.length = l.map Value.bool) : CR ρ (boolsV l) vs := by
  rw [← List.take_append_drop l.length vs, h]
  exact (VRs_boolsV ρ l).CR _
theorem plain_boolsV : ∀ l : List Bool, plainC (boolsV l) = true
  | [] => rfl
  | _b :: r => plain_boolsV r
theorem bools_apart {W : World} {g b off : Nat} {arr arr' : Array Value} {ty ty' : Nat} {fz fz' : Nat × Nat} {k : IntKind} {l : List Bool} {z : List Int} (h1 : W.heap[g]? = some (.cells arr' ty' fz')) (h2 : arr'.toList = z.map fun x => Value.int k x)
    (h3 : W.heap[b]? = some (.cells arr ty fz)) (h4 : (arr.toList.drop off).take l.length = l.map Value.bool) (h0 : 0 < l.length) : g ≠ b := by
  intro e
  subst e
  rw [h1] at h3
  cases h3
  rw [h2] at h4
  match l, h0, h4 with
  | x :: r, _, h4 =>
    have h5 := congrArg (·[0]?) h4
    simp at h5
end
end Go.Mx
namespace Go.Mx
open Go.ChangeShapes Go.WideShapes Go.RowKit
noncomputable section
theorem open_byteslice {H : Type} {enc : TypeId × Value → H} {P : Program} {W : World} {t e : Nat} {v : Value} {d : DataW H} {ps : List MemPlace} (ht : P.underlying t = some (.slice e)) (he : P.underlying e = some (.int .u8)) (hc : P.cellsOf e = 1)
    (hval : ∃ a len cap, v = .slice a len cap) (hd : DataW.Trod enc P W 0 (fun _ => true) true t v d ps) :
    v = .slice none 0 0 ∨ (∃ A c, v = .slice (some A) 0 c) ∨
      ∃ b off len cap arr ty fz, ∃ l : List UInt8, v = .slice (some ⟨b, off, none⟩) len cap ∧ 0 < len ∧ len ≤ cap ∧ cap ≤ maxLen ∧ W.heap[b]? = some (.cells arr ty fz) ∧ off + cap ≤ arr.size ∧ l.length = len ∧ (arr.toList.drop off).take len = l.map byteV := by
  obtain ⟨a0, len0, cap0, rfl⟩ := hval
  obtain ⟨fuel, hd⟩ := hd
  rcases open_ints ht he hc hd with ⟨h, _⟩ | ⟨a, len, cap, zs, hcs, _, hle, hmax, hlen, _, hel, hwf⟩
  · left
    simpa [Value.cells] using h
  · have hv : (Value.slice a0 len0 cap0) = .slice (some a) len cap := by simpa [Value.cells] using hcs
    rw [hv]
    right
    by_cases h0 : len = 0
    · subst h0
      exact .inl ⟨a, cap, rfl⟩
    · refine .inr ?_
      rw [if_pos rfl] at hlen
      have all : ∀ i, i < cap → ∃ c : UInt8, W.cell? (a.add i) = some (byteV c) := by
        intro i hi
        have hi' : i < zs.length := by omega
        have h1 := hel i hi'
        have h2 := hwf (zs.getD i 0) (by rw [List.getD_eq_getElem?_getD, List.getElem?_eq_getElem hi']; exact List.getElem_mem hi')
        generalize zs.getD i 0 = z at h1 h2
        have h3 : 0 ≤ z ∧ z ≤ 255 := by
          have h3 : (decide ((IntKind.u8).min ≤ z) && decide (z ≤ (IntKind.u8).max)) = true := h2
          rw [Bool.and_eq_true] at h3
          exact ⟨of_decide_eq_true h3.1, of_decide_eq_true h3.2⟩
        refine ⟨UInt8.ofNat z.toNat, ?_⟩
        rw [h1]
        have h4 : (UInt8.ofNat z.toNat).toNat = z.toNat := by rw [UInt8.toNat_ofNat']; omega
        have h5 : ((UInt8.ofNat z.toNat).toNat : Int) = z := by rw [h4]; omega
        show some (Value.int .u8 z) = some (Value.int .u8 ((UInt8.ofNat z.toNat).toNat : Int))
        rw [h5]
      obtain ⟨b0, hb0⟩ := all 0 (by omega)
      have hadd : ∀ i, a.spot = none → a.add i = ⟨a.block, a.off + i, none⟩ := by
        intro i hs
        obtain ⟨ab, ao, as⟩ := a
        simp only at hs
        subst hs
        simp [Addr.add]
      have hspot : a.spot = none := by
        have h1 := hb0
        have h2 : a.add 0 = a := by simp [Addr.add]
        rw [h2] at h1
        unfold World.cell? at h1
        split at h1
        · cases hs : a.spot with
          | none => rfl
          | some s => simp [hs] at h1
        · cases h1
      obtain ⟨arr, ty, fz, hblk⟩ : ∃ arr ty fz, W.heap[a.block]? = some (.cells arr ty fz) := by
        have h1 := hb0
        rw [hadd 0 hspot] at h1
        unfold World.cell? at h1
        split at h1
        · rename_i c u f hh
          exact ⟨c, u, f, hh⟩
        · cases h1
      have hget : ∀ i, i < cap → ∃ c : UInt8, arr[a.off + i]? = some (byteV c) := by
        intro i hi
        obtain ⟨c, hcc⟩ := all i hi
        rw [hadd i hspot] at hcc
        simp only [World.cell?, hblk] at hcc
        exact ⟨c, by simpa using hcc⟩
      have hsize : a.off + cap ≤ arr.size := by
        obtain ⟨c, hcc⟩ := hget (cap - 1) (by omega)
        have := (Array.getElem?_eq_some_iff.1 hcc).1
        omega
      have hl : ∀ n, n ≤ cap → ∃ l : List UInt8, l.length = n ∧ (arr.toList.drop a.off).take n = l.map byteV := by
        intro n
        induction n with
        | zero => intro _; exact ⟨[], rfl, by simp⟩
        | succ n ih =>
          intro hn
          obtain ⟨l, h1, h2⟩ := ih (by omega)
          obtain ⟨c, hcc⟩ := hget n (by omega)
          refine ⟨l ++ [c], by simp [h1], ?_⟩
          rw [List.take_add_one, h2, List.getElem?_drop, Array.getElem?_toList, hcc]
          simp
      obtain ⟨l, hl1, hl2⟩ := hl len hle
      refine ⟨a.block, a.off, len, cap, arr, ty, fz, l, ?_, Nat.pos_of_ne_zero h0, hle, hmax, hblk, hsize, hl1, hl2⟩
      obtain ⟨ab, ao, as⟩ := a
      simp only at hspot
      subst hspot
      rfl
end
end Go.Mx
namespace Go.Mx
open Go.ChangeShapes Go.WideShapes Go.RowKit
noncomputable section
theorem row_of_cells {W : World} {a : Addr} {cap : Nat} {f : Nat → Value} (h0 : 0 < cap) (all : ∀ i, i < cap → W.cell? (a.add i) = some (f i)) :
    a.spot = none ∧ ∃ arr ty fz, W.heap[a.block]? = some (.cells arr ty fz) ∧ a.off + cap ≤ arr.size ∧ ∀ i, i < cap → arr[a.off + i]? = some (f i) := by
  have hb0 := all 0 h0
  have hadd : ∀ i, a.spot = none → a.add i = ⟨a.block, a.off + i, none⟩ := by
    intro i hs
    obtain ⟨ab, ao, as⟩ := a
    simp only at hs
    subst hs
    simp [Addr.add]
  have hspot : a.spot = none := by
    have h1 := hb0
    have h2 : a.add 0 = a := by simp [Addr.add]
    rw [h2] at h1
    unfold World.cell? at h1
    split at h1
    · cases hs : a.spot with
      | none => rfl
      | some s => simp [hs] at h1
    · cases h1
  refine ⟨hspot, ?_⟩
  obtain ⟨arr, ty, fz, hblk⟩ : ∃ arr ty fz, W.heap[a.block]? = some (.cells arr ty fz) := by
    have h1 := hb0
    rw [hadd 0 hspot] at h1
    unfold World.cell? at h1
    split at h1
    · rename_i c u f hh
      exact ⟨c, u, f, hh⟩
    · cases h1
  have hget : ∀ i, i < cap → arr[a.off + i]? = some (f i) := by
    intro i hi
    have hcc := all i hi
    rw [hadd i hspot] at hcc
    simp only [World.cell?, hblk] at hcc
    simpa using hcc
  refine ⟨arr, ty, fz, hblk, ?_, hget⟩
  have := (Array.getElem?_eq_some_iff.1 (hget (cap - 1) (by omega))).1
  omega
theorem open_strslice {H : Type} {encH : TypeId × Value → H} {P : Program} {W : World} {t e : Nat} {v : Value} {d : DataW H} {ps : List MemPlace} (ht : P.underlying t = some (.slice e)) (he : P.underlying e = some .string) (hc : P.cellsOf e = 1)
    (hval : ∃ a len cap, v = .slice a len cap) (hd : DataW.Trod encH P W 0 (fun _ => true) true t v d ps) :
    v = .slice none 0 0 ∨ (∃ A c, v = .slice (some A) 0 c) ∨
      ∃ b off cap arr ty fz, ∃ l : List ByteArray, v = .slice (some ⟨b, off, none⟩) l.length cap ∧ 0 < l.length ∧ l.length ≤ cap ∧ W.heap[b]? = some (.cells arr ty fz) ∧ off + cap ≤ arr.size ∧ (arr.toList.drop off).take l.length = l.map Value.string ∧ ∀ s ∈ l, s.size ≤ 9223372036854775807 := by
  obtain ⟨a0, len0, cap0, rfl⟩ := hval
  obtain ⟨fuel, hd⟩ := hd
  rcases open_strings ht he hc hd with ⟨h, _⟩ | ⟨a, len, cap, ss, hcs, _, hle, _, hlen, _, hel, hwf⟩
  · left
    simpa [Value.cells] using h
  · have hv : (Value.slice a0 len0 cap0) = .slice (some a) len cap := by simpa [Value.cells] using hcs
    rw [hv]
    right
    by_cases h0 : len = 0
    · subst h0
      exact .inl ⟨a, cap, rfl⟩
    · refine .inr ?_
      rw [if_pos rfl] at hlen
      obtain ⟨hspot, arr, ty, fz, hblk, hsz, hget⟩ := row_of_cells (f := fun i => .string (ss.getD i ByteArray.empty)) (show 0 < cap by omega) (fun i hi => hel i (by omega))
      have hl : (ss.take len).length = len := by rw [List.length_take]; omega
      refine ⟨a.block, a.off, cap, arr, ty, fz, ss.take len, ?_, by omega, by omega, hblk, hsz, ?_, fun s hs => hwf s (List.mem_of_mem_take hs)⟩
      · rw [hl]
        obtain ⟨ab, ao, as⟩ := a
        simp only at hspot
        subst hspot
        rfl
      · rw [hl]
        apply List.ext_getElem?
        intro i
        by_cases hi : i < len
        · rw [List.getElem?_take_of_lt hi, List.getElem?_drop, Array.getElem?_toList, hget i (by omega), List.getElem?_map, List.getElem?_take_of_lt hi, List.getElem?_eq_getElem (by omega)]
          simp [List.getD, List.getElem?_eq_getElem (show i < ss.length by omega)]
        · rw [List.getElem?_eq_none (by simp; omega), List.getElem?_eq_none (by simp; omega)]
end
end Go.Mx
namespace Go.Mx
noncomputable section
variable {ρ : Ren}
end
end Go.Mx
