/-
  A part of a small executor of the model, proved sound (21 of 34). No condition.
-/
import Derived.Test.YtoflpofblogmcaaGreatDoorXMxG
import Derived.OpenShut
import Derived.LaidMore
import Derived.ProofKit
import Derived.Stop.Joined
import Derived.WideShapes
import Derived.Carry
import Derived.Test.YtoflpofblogmcaaGreatDoorXMxQ
import Derived.ChangeSlices
import Derived.SliceStrings
namespace Go.Mx
noncomputable section
def tabV (k : IntKind) : List Int → V
  | [] => .nil
  | n :: r => .cons (.i k n) (tabV k r)
theorem CR_tabV (ρ : Ren) (k : IntKind) : ∀ l : List Int, CR ρ (tabV k l) (l.map fun n => Value.int k n)
  | [] => by simp [tabV, CR]
  | n :: r => by
    simp only [tabV, CR, List.map_cons]
    exact ⟨_, _, rfl, by simp [VR], CR_tabV ρ k r⟩
theorem ints_of_trod {P : Program} {w : World} {base : Nat} {sp : Nat → Bool} {held : Bool} {fuel t e n : Nat} {k : IntKind} {cs : List Value} {p : List MemPlace} {l : List Int}
    (ht : P.underlying t = some (.array n e)) (he : P.underlying e = some (.int k)) (hc : P.cellsOf e = 1) (hct : P.cellsOf t = n)
    (h : DataW.trod (fun _ => ()) P w base sp held fuel t cs = some (.agg (l.map fun x => .lit (.int k x)), p)) : cs = l.map fun x => Value.int k x := by
  obtain ⟨xs, m, _, hx, hlen, hn, hel⟩ := DataW.trod_array ht h
  simp only [Prod.mk.injEq, DataW.agg.injEq] at hx
  have hl : l.length = n := by
    have := congrArg List.length hx.1
    simpa [hn] using this
  rw [hct] at hlen
  apply List.ext_getElem?
  intro i
  by_cases hi : i < n
  · have h1 := hel i hi
    rw [hc, Nat.mul_one] at h1
    have hxi : xs[i]? = some xs[i] := List.getElem?_eq_getElem (by omega)
    rw [hxi] at h1
    obtain ⟨z, hz1, hz2, _⟩ := DataW.trod_int he h1
    have e1 : cs[i]? = some (.int k z) := by
      have := congrArg (·[0]?) hz1
      simpa [List.getElem?_take, List.getElem?_drop] using this
    have e2 : (l.map fun x => (DataW.lit (.int k x) : DataW Unit))[i]? = some (DataW.lit (.int k z)) := by
      rw [hx.1, List.getElem?_map, hxi, hz2]
      rfl
    rw [List.getElem?_map] at e2 ⊢
    rw [e1]
    cases hli : l[i]? with
    | none => rw [hli] at e2; cases e2
    | some y =>
      rw [hli] at e2
      simp only [Option.map_some, Option.some.injEq, DataW.lit.injEq, Lit.int.injEq] at e2
      simp [e2.2]
  · rw [List.getElem?_eq_none (by omega), List.getElem?_eq_none (by simp; omega)]
theorem table_of_laidVars {P : Program} {w : World} {name : String} {g t e n : Nat} {k : IntKind} {l : List Int} (hg : P.globalNamed name = some g) (hgt : (P.globals[g]?).map (·.type) = some t)
    (ht : P.underlying t = some (.array n e)) (he : P.underlying e = some (.int k)) (hc : P.cellsOf e = 1) (hct : P.cellsOf t = n) (hpos : 0 < n) :
    ∀ {L : List (String × DataW Unit)} {ps : List MemPlace}, DataW.LaidVars P w L ps → (name, DataW.agg (l.map fun x => .lit (.int k x))) ∈ L →
      (∀ b off, MemPlace.cell b off ∈ ps → ∃ c u, w.heap[b]? = some (.cells c u (0, 0))) → ∃ arr ty, w.heap[g]? = some (.cells arr ty (0, 0)) ∧ arr.toList = l.map fun x => Value.int k x
  | [], _, _, hm, _ => by cases hm
  | (nm, d) :: r, ps, h, hm, hb => by
    obtain ⟨g', t', cs, fuel, p, q, h1, h2, h3, h4, h5, rfl⟩ := h
    rcases List.mem_cons.1 hm with e1 | hm'
    · cases e1
      obtain rfl := Option.some.inj (hg.symm.trans h1)
      obtain rfl := Option.some.inj (hgt.symm.trans h2)
      have hcs := ints_of_trod ht he hc hct h4
      have hsz : 0 < cs.size := by
        obtain ⟨xs, m, _, _, hlen, _, _⟩ := DataW.trod_array ht h4
        rw [hct] at hlen
        have : cs.size = n := by simpa using hlen
        omega
      obtain ⟨c, u, hh⟩ := hb g 0 (by
        refine List.mem_append_left _ (List.mem_append_left _ ?_)
        simp only [MemPlace.row, List.mem_map, List.mem_range]
        exact ⟨0, hsz, by simp⟩)
      simp only [World.var?, hg, Option.bind_some, hh, Option.some.injEq] at h3
      subst h3
      exact ⟨_, _, hh, hcs⟩
    · exact table_of_laidVars hg hgt ht he hc hct hpos h5 hm' (fun b off hp => hb b off (List.mem_append_right _ hp))
theorem hasTable_of_laid {P : Program} {w : World} {name : String} {g t e n : Nat} {k : IntKind} {l : List Int} {L : List (String × DataW Unit)} (hL : laidMetH P L w) (hno : (L.all fun x => x.2.handleName?.isNone) = true)
    (hm : (name, DataW.agg (l.map fun x => .lit (.int k x))) ∈ L) (hg : P.globalNamed name = some g) (hgt : (P.globals[g]?).map (·.type) = some t)
    (ht : P.underlying t = some (.array n e)) (he : P.underlying e = some (.int k)) (hc : P.cellsOf e = 1) (hct : P.cellsOf t = n) (hpos : 0 < n) :
    HasTables [(g, tabV k l)] w := by
  rw [MakeChecks.laidMetH_plain _ _ _ hno] at hL
  obtain ⟨ps, h1, _, h3⟩ := hL
  obtain ⟨arr, ty, a1, a2⟩ := table_of_laidVars hg hgt ht he hc hct hpos h1 hm (fun b off hp => (h3 b off hp).1)
  intro p hp
  obtain rfl := List.mem_singleton.1 hp
  exact ⟨arr, ty, a1, by rw [a2]; exact CR_tabV _ _ _⟩
theorem Stays.keptBut {W W' : World} (h : Stays W W') (may : MemPlace → Prop) : W.keptBut W' may := by
  refine ⟨h.os, h.output, fun i hi => ?_⟩
  rw [h.heap i hi]
  have := World.keptBut_refl W may
  exact this.2.2 i hi
end
end Go.Mx
namespace Go.Mx
open Go.ChangeShapes Go.WideShapes Go.RowKit
noncomputable section
def boolsV : List Bool → V
  | [] => .nil
  | b :: r => .cons (.b b) (boolsV r)
theorem VRs_boolsV (ρ : Ren) : ∀ l : List Bool, VRs ρ (boolsV l) (l.map Value.bool)
  | [] => by simp [boolsV, VRs]
  | b :: r => by
    simp only [boolsV, VRs, List.map_cons]
    exact ⟨_, _, rfl, by simp [VR], VRs_boolsV ρ r⟩
theorem VR_boolsV (ρ : Ren) (l : List Bool) : VR ρ (.a (boolsV l)) (.agg ⟨l.map Value.bool⟩) := by
  simp only [VR]
  exact ⟨_, VRs_boolsV ρ l, rfl⟩
def boolsB (P : Program) (t n : Nat) : Bool :=
  match P.underlying t with
  | some (.struct fs) => fs.size == n && P.cellsOf t == n && (List.range n).all fun i =>
    match fs[i]? with
    | some f => f.offset == i && (match P.underlying f.type with | some .bool => true | _ => false) && P.cellsOf f.type == 1
    | none => false
  | _ => false
def boolAt (x : Option Value) : Bool :=
  match x with
  | some (Value.bool b) => b
  | _ => false
theorem open_bools {H : Type} {enc : TypeId × Value → H} {P : Program} {W : World} {r : Reach} {b0 base : Nat} {sp : Nat → Bool} {held : Bool} {t n : Nat} {v : Value} {d : DataW H} {ps : List MemPlace} (h : boolsB P t n = true) (hval : Value.okWide P W r b0 t v)
    (hd : DataW.Trod enc P W base sp held t v d ps) : ∃ l : List Bool, l.length = n ∧ v = .agg ⟨l.map Value.bool⟩ ∧ ps = [] := by
  unfold boolsB at h
  split at h
  · rename_i fs ht
    simp only [Bool.and_eq_true, beq_iff_eq, List.all_eq_true, List.mem_range] at h
    obtain ⟨⟨h1, h2⟩, h3⟩ := h
    obtain ⟨cs, rfl, hcs⟩ := okWide_struct ht hval
    obtain ⟨fuel, hd⟩ := hd
    obtain ⟨xs, m, _, hx0, hlen, hxs, hel⟩ := DataW.trod_struct ht hd
    have e : ∀ i, i < n → (∃ b, cs.toList[i]? = some (.bool b)) ∧ ∀ x, xs[i]? = some x → x.2 = [] := by
      intro i hi
      have h4 := h3 i hi
      cases hf : fs[i]? with
      | none => rw [hf] at h4; cases h4
      | some f =>
        rw [hf] at h4
        simp only [Bool.and_eq_true, beq_iff_eq] at h4
        obtain ⟨⟨h5, h6⟩, h7⟩ := h4
        split at h6
        · rename_i hb
          have h8 := hel i f hf
          rw [h5, h7] at h8
          have hx : xs[i]? = some xs[i] := List.getElem?_eq_getElem (by omega)
          rw [hx] at h8
          obtain ⟨b, hb1, hb2⟩ := DataW.trod_bool hb h8
          refine ⟨⟨b, ?_⟩, fun x hx2 => ?_⟩
          · have := congrArg (·[0]?) hb1
            simpa [List.getElem?_take, List.getElem?_drop, Value.cells] using this
          · rw [hx] at hx2
            cases hx2
            rw [hb2]
        · cases h6
    refine ⟨(List.range n).map fun i => boolAt (cs.toList[i]?), by simp, ?_, ?_⟩
    rotate_left
    · simp only [Prod.mk.injEq] at hx0
      rw [hx0.2, List.flatMap_eq_nil_iff]
      intro x hx
      obtain ⟨i, hi⟩ := List.mem_iff_getElem?.1 hx
      have hlt : i < xs.length := (List.getElem?_eq_some_iff.1 hi).1
      exact (e i (by omega)).2 x hi
    congr 1
    apply Array.ext'
    apply List.ext_getElem?
    intro i
    by_cases hi : i < n
    · obtain ⟨b, hb⟩ := (e i hi).1
      rw [hb]
      have hb' : cs[i]? = some (.bool b) := by rw [← Array.getElem?_toList]; exact hb
      simp [hi, hb', boolAt]
    · rw [List.getElem?_eq_none (by simp; omega), List.getElem?_eq_none (by simp; omega)]
  · cases h
theorem six {l : List Bool} (h : l.length = 6) : ∃ a b c d e f, l = [a, b, c, d, e, f] := by
  match l, h with
  | [a, b, c, d, e, f], _ => exact ⟨a, b, c, d, e, f, rfl⟩
theorem Stays.below {W W' : World} (h : Stays W W') : Below W.heap.size W W' := ⟨h.os, h.tape, h.output, h.size, h.heap⟩
end
end Go.Mx
namespace Go.Mx
open Go.ChangeShapes Go.WideShapes Go.RowKit
noncomputable section
theorem cell_of_cells {W : World} {a : Addr} {i : Nat} {y : Value} (h : W.cells? 0 (a.add (i * 1)) 1 = some [y]) : W.cell? (a.add i) = some y := by
  unfold World.cells? at h
  rw [if_pos (Nat.zero_le _)] at h
  have e0 : (a.add (i * 1)).add 0 = a.add i := by simp [Addr.add]
  simp only [List.range_succ, List.range_zero, List.nil_append, List.mapM_cons, List.mapM_nil, e0] at h
  cases hc : W.cell? (a.add i) with
  | none => simp [hc] at h
  | some c => simp [hc] at h; rw [h]
theorem open_boolslice {H : Type} {enc : TypeId × Value → H} {P : Program} {W : World} {t e : Nat} {v : Value} {d : DataW H} {ps : List MemPlace} (ht : P.underlying t = some (.slice e)) (he : P.underlying e = some .bool) (hc : P.cellsOf e = 1)
    (hval : ∃ a len cap, v = .slice a len cap) (hd : DataW.Trod enc P W 0 (fun _ => true) true t v d ps) :
    v = .slice none 0 0 ∨ (∃ A c, v = .slice (some A) 0 c) ∨
      ∃ b off len cap arr ty fz, ∃ l : List Bool, v = .slice (some ⟨b, off, none⟩) len cap ∧ 0 < len ∧ len ≤ cap ∧ W.heap[b]? = some (.cells arr ty fz) ∧ off + cap ≤ arr.size ∧ l.length = len ∧ (arr.toList.drop off).take len = l.map Value.bool := by
  obtain ⟨a0, len0, cap0, rfl⟩ := hval
  obtain ⟨fuel, hd⟩ := hd
  rcases DataW.trod_slice ht hd with ⟨h, _⟩ | ⟨a, len, cap, elems, rest, m, _, hcs, _, _, hle, _, hlen, hel, hsp, _⟩
  · left
    simpa [Value.cells] using h
  · have hv : (Value.slice a0 len0 cap0) = .slice (some a) len cap := by simpa [Value.cells] using hcs
    rw [hv]
    right
    by_cases h0 : len = 0
    · subst h0
      exact .inl ⟨a, cap, rfl⟩
    · refine .inr ?_
      obtain ⟨hrl, hre⟩ := hsp rfl
      have one : ∀ (i : Nat) (x : Option (DataW H × List MemPlace)), (W.cells? 0 (a.add (i * P.cellsOf e)) (P.cellsOf e)).bind (DataW.trod enc P W 0 (fun _ => true) true m e) = x → x.isSome = true → ∃ bb, W.cell? (a.add i) = some (.bool bb) := by
        intro i x h hx
        rw [hc] at h
        cases hcc : W.cells? 0 (a.add (i * 1)) 1 with
        | none => rw [hcc] at h; rw [← h] at hx; cases hx
        | some cs =>
          rw [hcc] at h
          simp only [Option.bind_some] at h
          cases x with
          | none => cases hx
          | some x =>
            obtain ⟨bb, rfl, _⟩ := DataW.trod_bool he h
            exact ⟨bb, cell_of_cells hcc⟩
      have all : ∀ i, i < cap → ∃ bb, W.cell? (a.add i) = some (.bool bb) := by
        intro i hi
        by_cases h1 : i < len
        · exact one i _ (hel i h1) (by rw [List.getElem?_eq_getElem (by omega)]; rfl)
        · have := hre (i - len) (by omega)
          rw [show len + (i - len) = i by omega] at this
          exact one i _ this (by rw [List.getElem?_eq_getElem (by omega)]; rfl)
      obtain ⟨b0, hb0⟩ := all 0 (by omega)
      have hadd : ∀ i, a.spot = none → a.add i = ⟨a.block, a.off + i, none⟩ := by
        intro i hs
        obtain ⟨ab, ao, as⟩ := a
        simp only at hs
        subst hs
        simp [Addr.add]
      have hspot : a.spot = none := by
        have h1 := hb0
        have h2 : a.add 0 = a := by simp [Addr.add]
        rw [h2] at h1
        unfold World.cell? at h1
        split at h1
        · cases hs : a.spot with
          | none => rfl
          | some s => simp [hs] at h1
        · cases h1
      obtain ⟨arr, ty, fz, hblk⟩ : ∃ arr ty fz, W.heap[a.block]? = some (.cells arr ty fz) := by
        have h1 := hb0
        rw [hadd 0 hspot] at h1
        unfold World.cell? at h1
        split at h1
        · rename_i c u f hh
          exact ⟨c, u, f, hh⟩
        · cases h1
      have hget : ∀ i, i < cap → ∃ bb, arr[a.off + i]? = some (.bool bb) := by
        intro i hi
        obtain ⟨bb, hbb⟩ := all i hi
        rw [hadd i hspot] at hbb
        simp only [World.cell?, hblk] at hbb
        exact ⟨bb, by simpa using hbb⟩
      have hsize : a.off + cap ≤ arr.size := by
        obtain ⟨bb, hbb⟩ := hget (cap - 1) (by omega)
        have := (Array.getElem?_eq_some_iff.1 hbb).1
        omega
      refine ⟨a.block, a.off, len, cap, arr, ty, fz, (List.range len).map fun i => boolAt (arr[a.off + i]?), ?_, Nat.pos_of_ne_zero h0, hle, hblk, hsize, by simp, ?_⟩
      · obtain ⟨ab, ao, as⟩ := a
        simp only at hspot
        subst hspot
        rfl
      · apply List.ext_getElem?
        intro i
        by_cases hi : i < len
        · obtain ⟨bb, hbb⟩ := hget i (by omega)
          rw [List.getElem?_take_of_lt hi, List.getElem?_drop, Array.getElem?_toList, hbb]
          simp [hi, hbb, boolAt]
        · rw [List.getElem?_eq_none (by simp; omega), List.getElem?_eq_none (by simp; omega)]
theorem cells_of_laid {P : Program} {w : World} {name : String} {g t e n : Nat} {k : IntKind} {l : List Int} {L : List (String × DataW Unit)} (hL : laidMetH P L w) (hno : (L.all fun x => x.2.handleName?.isNone) = true)
    (hm : (name, DataW.agg (l.map fun x => .lit (.int k x))) ∈ L) (hg : P.globalNamed name = some g) (hgt : (P.globals[g]?).map (·.type) = some t)
    (ht : P.underlying t = some (.array n e)) (he : P.underlying e = some (.int k)) (hc : P.cellsOf e = 1) (hct : P.cellsOf t = n) (hpos : 0 < n) :
    ∃ arr ty, w.heap[g]? = some (.cells arr ty (0, 0)) ∧ arr.toList = l.map fun x => Value.int k x := by
  rw [MakeChecks.laidMetH_plain _ _ _ hno] at hL
  obtain ⟨ps, h1, _, h3⟩ := hL
  exact table_of_laidVars hg hgt ht he hc hct hpos h1 hm (fun b off hp => (h3 b off hp).1)
theorem CR_boolsV {ρ : Ren} {l : List Bool} {vs : List Value} (h : vs.take l.length = l.map Value.bool) : CR ρ (boolsV l) vs := by
  rw [← List.take_append_drop l.length vs, h]
  exact (VRs_boolsV ρ l).CR _
theorem plain_boolsV : ∀ l : List Bool, plainC (boolsV l) = true
  | [] => rfl
  | _b :: r => plain_boolsV r
theorem bools_apart {W : World} {g b off : Nat} {arr arr' : Array Value} {ty ty' : Nat} {fz fz' : Nat × Nat} {k : IntKind} {l : List Bool} {z : List Int} (h1 : W.heap[g]? = some (.cells arr' ty' fz')) (h2 : arr'.toList = z.map fun x => Value.int k x)
    (h3 : W.heap[b]? = some (.cells arr ty fz)) (h4 : (arr.toList.drop off).take l.length = l.map Value.bool) (h0 : 0 < l.length) : g ≠ b := by
  intro e
  subst e
  rw [h1] at h3
  cases h3
  rw [h2] at h4
  match l, h0, h4 with
  | x :: r, _, h4 =>
    have h5 := congrArg (·[0]?) h4
    simp at h5
end
end Go.Mx
namespace Go.Mx
open Go.ChangeShapes Go.WideShapes Go.RowKit
noncomputable section
theorem open_byteslice {H : Type} {enc : TypeId × Value → H} {P : Program} {W : World} {t e : Nat} {v : Value} {d : DataW H} {ps : List MemPlace} (ht : P.underlying t = some (.slice e)) (he : P.underlying e = some (.int .u8)) (hc : P.cellsOf e = 1)
    (hval : ∃ a len cap, v = .slice a len cap) (hd : DataW.Trod enc P W 0 (fun _ => true) true t v d ps) :
    v = .slice none 0 0 ∨ (∃ A c, v = .slice (some A) 0 c) ∨
      ∃ b off len cap arr ty fz, ∃ l : List UInt8, v = .slice (some ⟨b, off, none⟩) len cap ∧ 0 < len ∧ len ≤ cap ∧ cap ≤ maxLen ∧ W.heap[b]? = some (.cells arr ty fz) ∧ off + cap ≤ arr.size ∧ l.length = len ∧ (arr.toList.drop off).take len = l.map byteV := by
  obtain ⟨a0, len0, cap0, rfl⟩ := hval
  obtain ⟨fuel, hd⟩ := hd
  rcases open_ints ht he hc hd with ⟨h, _⟩ | ⟨a, len, cap, zs, hcs, _, hle, hmax, hlen, _, hel, hwf⟩
  · left
    simpa [Value.cells] using h
  · have hv : (Value.slice a0 len0 cap0) = .slice (some a) len cap := by simpa [Value.cells] using hcs
    rw [hv]
    right
    by_cases h0 : len = 0
    · subst h0
      exact .inl ⟨a, cap, rfl⟩
    · refine .inr ?_
      rw [if_pos rfl] at hlen
      have all : ∀ i, i < cap → ∃ c : UInt8, W.cell? (a.add i) = some (byteV c) := by
        intro i hi
        have hi' : i < zs.length := by omega
        have h1 := hel i hi'
        have h2 := hwf (zs.getD i 0) (by rw [List.getD_eq_getElem?_getD, List.getElem?_eq_getElem hi']; exact List.getElem_mem hi')
        generalize zs.getD i 0 = z at h1 h2
        have h3 : 0 ≤ z ∧ z ≤ 255 := by
          have h3 : (decide ((IntKind.u8).min ≤ z) && decide (z ≤ (IntKind.u8).max)) = true := h2
          rw [Bool.and_eq_true] at h3
          exact ⟨of_decide_eq_true h3.1, of_decide_eq_true h3.2⟩
        refine ⟨UInt8.ofNat z.toNat, ?_⟩
        rw [h1]
        have h4 : (UInt8.ofNat z.toNat).toNat = z.toNat := by rw [UInt8.toNat_ofNat']; omega
        have h5 : ((UInt8.ofNat z.toNat).toNat : Int) = z := by rw [h4]; omega
        show some (Value.int .u8 z) = some (Value.int .u8 ((UInt8.ofNat z.toNat).toNat : Int))
        rw [h5]
      obtain ⟨b0, hb0⟩ := all 0 (by omega)
      have hadd : ∀ i, a.spot = none → a.add i = ⟨a.block, a.off + i, none⟩ := by
        intro i hs
        obtain ⟨ab, ao, as⟩ := a
        simp only at hs
        subst hs
        simp [Addr.add]
      have hspot : a.spot = none := by
        have h1 := hb0
        have h2 : a.add 0 = a := by simp [Addr.add]
        rw [h2] at h1
        unfold World.cell? at h1
        split at h1
        · cases hs : a.spot with
          | none => rfl
          | some s => simp [hs] at h1
        · cases h1
      obtain ⟨arr, ty, fz, hblk⟩ : ∃ arr ty fz, W.heap[a.block]? = some (.cells arr ty fz) := by
        have h1 := hb0
        rw [hadd 0 hspot] at h1
        unfold World.cell? at h1
        split at h1
        · rename_i c u f hh
          exact ⟨c, u, f, hh⟩
        · cases h1
      have hget : ∀ i, i < cap → ∃ c : UInt8, arr[a.off + i]? = some (byteV c) := by
        intro i hi
        obtain ⟨c, hcc⟩ := all i hi
        rw [hadd i hspot] at hcc
        simp only [World.cell?, hblk] at hcc
        exact ⟨c, by simpa using hcc⟩
      have hsize : a.off + cap ≤ arr.size := by
        obtain ⟨c, hcc⟩ := hget (cap - 1) (by omega)
        have := (Array.getElem?_eq_some_iff.1 hcc).1
        omega
      have hl : ∀ n, n ≤ cap → ∃ l : List UInt8, l.length = n ∧ (arr.toList.drop a.off).take n = l.map byteV := by
        intro n
        induction n with
        | zero => intro _; exact ⟨[], rfl, by simp⟩
        | succ n ih =>
          intro hn
          obtain ⟨l, h1, h2⟩ := ih (by omega)
          obtain ⟨c, hcc⟩ := hget n (by omega)
          refine ⟨l ++ [c], by simp [h1], ?_⟩
          rw [List.take_add_one, h2, List.getElem?_drop, Array.getElem?_toList, hcc]
          simp
      obtain ⟨l, hl1, hl2⟩ := hl len hle
      refine ⟨a.block, a.off, len, cap, arr, ty, fz, l, ?_, Nat.pos_of_ne_zero h0, hle, hmax, hblk, hsize, hl1, hl2⟩
      obtain ⟨ab, ao, as⟩ := a
      simp only at hspot
      subst hspot
      rfl
def bytesP (ng lo hi : Nat) : V := .cons (.o 1 (.m 0) (ng + 1) lo hi) .nil
def bytesA (ng lo hi : Nat) : V := .o 3 (bytesP ng lo hi) ng 0 0
def bytesO (ng lo hi ty : Nat) : O := .r (bytesP ng lo hi) ty false
def bytesR (ng b off sz : Nat) (l : List UInt8) : Ren := fun i => if i = ng then some ⟨b, off, sz⟩ else if i = ng + 1 then some ⟨0, enc l, 0⟩ else none
theorem tbN_zero (i : Nat) : tbN 0 i = false := by
  show Nat.beq (Nat.land (Nat.shiftRight 0 i) 1) 1 = false
  have : Nat.land (Nat.shiftRight 0 i) 1 = 0 := by
    show (0 >>> i) &&& 1 = 0
    simp
  rw [this]
  rfl
theorem bytesP_R {ng b off sz lo hi : Nat} {l : List UInt8} (h : lo ≤ l.length ∧ l.length ≤ hi) : RR (bytesR ng b off sz l) (bytesP ng lo hi) l := by
  unfold bytesP
  simp only [RR, PR]
  exact ⟨l, [], .inl ⟨trivial, ⟨0, enc l, 0⟩, by simp [bytesR], rfl, h.1, h.2, fun c _ => tbN_zero _, trivial⟩, rfl, by simp⟩
theorem bytesP_L {ng b off sz lo hi : Nat} {l : List UInt8} (h : lo ≤ l.length ∧ l.length ≤ hi) : LR (bytesR ng b off sz l) (bytesP ng lo hi) (l.length : Int) := by
  unfold bytesP
  simp only [LR, MR]
  exact ⟨l.length, 0, .inl ⟨trivial, ⟨0, enc l, 0⟩, l, by simp [bytesR], rfl, h.1, h.2, rfl⟩, rfl, by simp⟩
theorem bytesA_V {ng b off sz lo hi cap : Nat} {l : List UInt8} (h : lo ≤ l.length ∧ l.length ≤ hi) (h1 : l.length ≤ cap) (h2 : off + cap ≤ sz) : VR (bytesR ng b off sz l) (bytesA ng lo hi) (.slice (some ⟨b, off, none⟩) l.length cap) := by
  unfold bytesA
  simp only [VR, OV]
  exact .inl (.inr (.inr (.inl ⟨trivial, ⟨b, off, sz⟩, l.length, cap, by simp [bytesR], bytesP_L h, h1, h2, rfl⟩)))
theorem bytes_ob {ng b off lo hi cap ty : Nat} {l : List UInt8} {W : World} {arr : Array Value} {fz : Nat × Nat} (h : lo ≤ l.length ∧ l.length ≤ hi) (hblk : W.heap[b]? = some (.cells arr ty fz)) (h1 : l.length ≤ cap) (h2 : off + cap ≤ arr.size)
    (hcs : (arr.toList.drop off).take l.length = l.map byteV) :
    ∀ i, (gt O.none i (putO [(ng, bytesO ng lo hi ty)] .leaf)).live → (ng ≤ i ∧ i < ng + 2 ∧ ¬ (gt O.none i (putO [(ng, bytesO ng lo hi ty)] .leaf)).wr) ∧
      ∀ L, bytesR ng b off arr.size l i = some L → ∃ o, W.heap[L.blk]? = some o ∧ OR (bytesR ng b off arr.size l) L (gt O.none i (putO [(ng, bytesO ng lo hi ty)] .leaf)) o := by
  intro i hlv
  have e : gt O.none i (putO [(ng, bytesO ng lo hi ty)] (.leaf : T O)) = if i = ng then bytesO ng lo hi ty else O.none := by
    show gt O.none i (st O.none (bytesO ng lo hi ty) ng .leaf) = _
    by_cases hin : i = ng
    · subst hin
      rw [gt_st_same, if_pos rfl]
    · rw [gt_st_ne _ _ (Ne.symm hin), gt_leaf, if_neg hin]
  rw [e] at hlv ⊢
  by_cases hin : i = ng
  · subst hin
    rw [if_pos rfl]
    refine ⟨⟨Nat.le_refl _, by omega, fun hw => Bool.noConfusion (show false = true from hw)⟩, fun L hL => ?_⟩
    have : L = ⟨b, off, arr.size⟩ := by simpa [bytesR, eq_comm] using hL
    subst this
    exact ⟨_, hblk, arr, fz, l, rfl, rfl, (fun hf => by cases hf), by show off + l.length ≤ arr.size; omega, bytesP_R h, hcs⟩
  · rw [if_neg hin] at hlv
    exact hlv.elim
theorem bytesR_in {ng b off sz : Nat} {l : List UInt8} : ∀ i L, bytesR ng b off sz l i = some L → ng ≤ i ∧ i < ng + 2 := by
  intro i L h
  unfold bytesR at h
  split at h
  · omega
  · split at h
    · omega
    · cases h
end
end Go.Mx
namespace Go.Mx
open Go.ChangeShapes Go.WideShapes Go.RowKit
noncomputable section
def joinR (k : Nat) (a b : Ren) : Ren := fun i => if i < k then a i else b i
theorem joinR_left {k : Nat} {a b : Ren} (h : ∀ i L, a i = some L → i < k) : Ren.le a (joinR k a b) := fun i L e => by
  show (if i < k then a i else b i) = _
  rw [if_pos (h i L e), e]
theorem joinR_right {k : Nat} {a b : Ren} (h : ∀ i L, b i = some L → k ≤ i) : Ren.le b (joinR k a b) := fun i L e => by
  have := h i L e
  show (if i < k then a i else b i) = _
  rw [if_neg (by omega), e]
theorem bytes_cases {H : Type} {encH : TypeId × Value → H} {P : Program} {W : World} {t e : Nat} {v : Value} {d : DataW H} {ps : List MemPlace} (ng hi : Nat) (ht : P.underlying t = some (.slice e)) (he : P.underlying e = some (.int .u8)) (hc : P.cellsOf e = 1)
    (hval : ∃ a len cap, v = .slice a len cap) (hd : DataW.Trod encH P W 0 (fun _ => true) true t v d ps) :
    ∃ (ρ : Ren) (ty : Nat) (x : V) (lo' hi' : Nat), (∀ i L, ρ i = some L → ng ≤ i ∧ i < ng + 2) ∧ VR ρ x v ∧ (∀ L, ρ ng = some L → ∃ o, W.heap[L.blk]? = some o ∧ OR ρ L (bytesO ng lo' hi' ty) o) ∧
      ((lo' = 1 ∧ hi' = hi ∧ (x = .sn ∨ x = .se ∨ x = bytesA ng 1 hi)) ∨ (lo' = hi + 1 ∧ hi' = 9223372036854775807 ∧ x = bytesA ng (hi + 1) 9223372036854775807)) := by
  rcases open_byteslice ht he hc hval hd with rfl | ⟨A, c, rfl⟩ | ⟨b, off, len, cap, arr, ty, fz, l, rfl, h1, hle, hmax, hblk, hsz, hll, hcs⟩
  · exact ⟨fun _ => none, 0, .sn, 1, hi, (fun _ _ h => by cases h), by simp [VR], (fun _ h => by cases h), .inl ⟨rfl, rfl, .inl rfl⟩⟩
  · exact ⟨fun _ => none, 0, .se, 1, hi, (fun _ _ h => by cases h), by simp [VR], (fun _ h => by cases h), .inl ⟨rfl, rfl, .inr (.inl rfl)⟩⟩
  · subst hll
    have hmx : cap ≤ 9223372036854775807 := hmax
    have ob : ∀ lo' hi', (lo' ≤ l.length ∧ l.length ≤ hi') → ∀ L, bytesR ng b off arr.size l ng = some L → ∃ o, W.heap[L.blk]? = some o ∧ OR (bytesR ng b off arr.size l) L (bytesO ng lo' hi' ty) o := fun lo' hi' h L hL => by
      have : L = ⟨b, off, arr.size⟩ := by simpa [bytesR, eq_comm] using hL
      subst this
      exact ⟨_, hblk, arr, fz, l, rfl, rfl, (fun hf => by cases hf), by show off + l.length ≤ arr.size; omega, bytesP_R h, hcs⟩
    by_cases hbig : l.length ≤ hi
    · exact ⟨bytesR ng b off arr.size l, ty, bytesA ng 1 hi, 1, hi, bytesR_in, bytesA_V ⟨h1, hbig⟩ hle hsz, ob 1 hi ⟨h1, hbig⟩, .inl ⟨rfl, rfl, .inr (.inr rfl)⟩⟩
    · have h2 : hi + 1 ≤ l.length ∧ l.length ≤ 9223372036854775807 := ⟨by omega, by omega⟩
      exact ⟨bytesR ng b off arr.size l, ty, _, _, _, bytesR_in, bytesA_V h2 hle hsz, ob _ _ h2, .inr ⟨rfl, rfl, rfl⟩⟩
theorem gt_put2 {i j k : Nat} {a b : O} (h : i ≠ j) : gt O.none k (putO [(i, a), (j, b)] (.leaf : T O)) = if k = i then a else if k = j then b else O.none := by
  show gt O.none k (st O.none a i (st O.none b j .leaf)) = _
  by_cases h1 : k = i
  · subst h1
    rw [gt_st_same, if_pos rfl]
  · rw [gt_st_ne _ _ (Ne.symm h1), if_neg h1]
    by_cases h2 : k = j
    · subst h2
      rw [gt_st_same, if_pos rfl]
    · rw [gt_st_ne _ _ (Ne.symm h2), gt_leaf, if_neg h2]
theorem bytes2_ob {W : World} {ng lo1 hi1 ty1 lo2 hi2 ty2 : Nat} {ρ1 ρ2 : Ren} (i1 : ∀ i L, ρ1 i = some L → ng ≤ i ∧ i < ng + 2) (i2 : ∀ i L, ρ2 i = some L → ng + 2 ≤ i ∧ i < ng + 2 + 2)
    (o1 : ∀ L, ρ1 ng = some L → ∃ o, W.heap[L.blk]? = some o ∧ OR ρ1 L (bytesO ng lo1 hi1 ty1) o) (o2 : ∀ L, ρ2 (ng + 2) = some L → ∃ o, W.heap[L.blk]? = some o ∧ OR ρ2 L (bytesO (ng + 2) lo2 hi2 ty2) o) :
    ∀ i, (gt O.none i (putO [(ng, bytesO ng lo1 hi1 ty1), (ng + 2, bytesO (ng + 2) lo2 hi2 ty2)] .leaf)).live →
      (ng ≤ i ∧ i < ng + 4 ∧ ¬ (gt O.none i (putO [(ng, bytesO ng lo1 hi1 ty1), (ng + 2, bytesO (ng + 2) lo2 hi2 ty2)] .leaf)).wr) ∧
      ∀ L, joinR (ng + 2) ρ1 ρ2 i = some L → ∃ o, W.heap[L.blk]? = some o ∧ OR (joinR (ng + 2) ρ1 ρ2) L (gt O.none i (putO [(ng, bytesO ng lo1 hi1 ty1), (ng + 2, bytesO (ng + 2) lo2 hi2 ty2)] .leaf)) o := by
  intro i hlv
  rw [gt_put2 (by omega)] at hlv ⊢
  have w : ∀ n lo hi ty, ¬ (bytesO n lo hi ty).wr := fun n lo hi ty hw => Bool.noConfusion (show false = true from hw)
  by_cases h1 : i = ng
  · subst h1
    rw [if_pos rfl]
    refine ⟨⟨Nat.le_refl _, by omega, w _ _ _ _⟩, fun L hL => ?_⟩
    have e : ρ1 i = some L := by
      have : i < i + 2 := by omega
      simpa [joinR, this] using hL
    obtain ⟨o, g1, g2⟩ := o1 L e
    exact ⟨o, g1, g2.mono (joinR_left fun j M hj => (i1 j M hj).2)⟩
  · rw [if_neg h1] at hlv ⊢
    by_cases h2 : i = ng + 2
    · subst h2
      rw [if_pos rfl]
      refine ⟨⟨by omega, by omega, w _ _ _ _⟩, fun L hL => ?_⟩
      have e : ρ2 (ng + 2) = some L := by simpa [joinR] using hL
      obtain ⟨o, g1, g2⟩ := o2 L e
      exact ⟨o, g1, g2.mono (joinR_right fun j M hj => (i2 j M hj).1)⟩
    · rw [if_neg h2] at hlv
      exact hlv.elim
theorem bytes2_in {ng : Nat} {ρ1 ρ2 : Ren} (i1 : ∀ i L, ρ1 i = some L → ng ≤ i ∧ i < ng + 2) (i2 : ∀ i L, ρ2 i = some L → ng + 2 ≤ i ∧ i < ng + 2 + 2) : ∀ i L, joinR (ng + 2) ρ1 ρ2 i = some L → ng ≤ i ∧ i < ng + 4 := by
  intro i L h
  unfold joinR at h
  split at h
  · have := i1 i L h; omega
  · have := i2 i L h; omega
theorem row_of_cells {W : World} {a : Addr} {cap : Nat} {f : Nat → Value} (h0 : 0 < cap) (all : ∀ i, i < cap → W.cell? (a.add i) = some (f i)) :
    a.spot = none ∧ ∃ arr ty fz, W.heap[a.block]? = some (.cells arr ty fz) ∧ a.off + cap ≤ arr.size ∧ ∀ i, i < cap → arr[a.off + i]? = some (f i) := by
  have hb0 := all 0 h0
  have hadd : ∀ i, a.spot = none → a.add i = ⟨a.block, a.off + i, none⟩ := by
    intro i hs
    obtain ⟨ab, ao, as⟩ := a
    simp only at hs
    subst hs
    simp [Addr.add]
  have hspot : a.spot = none := by
    have h1 := hb0
    have h2 : a.add 0 = a := by simp [Addr.add]
    rw [h2] at h1
    unfold World.cell? at h1
    split at h1
    · cases hs : a.spot with
      | none => rfl
      | some s => simp [hs] at h1
    · cases h1
  refine ⟨hspot, ?_⟩
  obtain ⟨arr, ty, fz, hblk⟩ : ∃ arr ty fz, W.heap[a.block]? = some (.cells arr ty fz) := by
    have h1 := hb0
    rw [hadd 0 hspot] at h1
    unfold World.cell? at h1
    split at h1
    · rename_i c u f hh
      exact ⟨c, u, f, hh⟩
    · cases h1
  have hget : ∀ i, i < cap → arr[a.off + i]? = some (f i) := by
    intro i hi
    have hcc := all i hi
    rw [hadd i hspot] at hcc
    simp only [World.cell?, hblk] at hcc
    simpa using hcc
  refine ⟨arr, ty, fz, hblk, ?_, hget⟩
  have := (Array.getElem?_eq_some_iff.1 (hget (cap - 1) (by omega))).1
  omega
theorem open_strslice {H : Type} {encH : TypeId × Value → H} {P : Program} {W : World} {t e : Nat} {v : Value} {d : DataW H} {ps : List MemPlace} (ht : P.underlying t = some (.slice e)) (he : P.underlying e = some .string) (hc : P.cellsOf e = 1)
    (hval : ∃ a len cap, v = .slice a len cap) (hd : DataW.Trod encH P W 0 (fun _ => true) true t v d ps) :
    v = .slice none 0 0 ∨ (∃ A c, v = .slice (some A) 0 c) ∨
      ∃ b off cap arr ty fz, ∃ l : List ByteArray, v = .slice (some ⟨b, off, none⟩) l.length cap ∧ 0 < l.length ∧ l.length ≤ cap ∧ W.heap[b]? = some (.cells arr ty fz) ∧ off + cap ≤ arr.size ∧ (arr.toList.drop off).take l.length = l.map Value.string ∧ ∀ s ∈ l, s.size ≤ 9223372036854775807 := by
  obtain ⟨a0, len0, cap0, rfl⟩ := hval
  obtain ⟨fuel, hd⟩ := hd
  rcases open_strings ht he hc hd with ⟨h, _⟩ | ⟨a, len, cap, ss, hcs, _, hle, _, hlen, _, hel, hwf⟩
  · left
    simpa [Value.cells] using h
  · have hv : (Value.slice a0 len0 cap0) = .slice (some a) len cap := by simpa [Value.cells] using hcs
    rw [hv]
    right
    by_cases h0 : len = 0
    · subst h0
      exact .inl ⟨a, cap, rfl⟩
    · refine .inr ?_
      rw [if_pos rfl] at hlen
      obtain ⟨hspot, arr, ty, fz, hblk, hsz, hget⟩ := row_of_cells (f := fun i => .string (ss.getD i ByteArray.empty)) (show 0 < cap by omega) (fun i hi => hel i (by omega))
      have hl : (ss.take len).length = len := by rw [List.length_take]; omega
      refine ⟨a.block, a.off, cap, arr, ty, fz, ss.take len, ?_, by omega, by omega, hblk, hsz, ?_, fun s hs => hwf s (List.mem_of_mem_take hs)⟩
      · rw [hl]
        obtain ⟨ab, ao, as⟩ := a
        simp only at hspot
        subst hspot
        rfl
      · rw [hl]
        apply List.ext_getElem?
        intro i
        by_cases hi : i < len
        · rw [List.getElem?_take_of_lt hi, List.getElem?_drop, Array.getElem?_toList, hget i (by omega), List.getElem?_map, List.getElem?_take_of_lt hi, List.getElem?_eq_getElem (by omega)]
          simp [List.getD, List.getElem?_eq_getElem (show i < ss.length by omega)]
        · rw [List.getElem?_eq_none (by simp; omega), List.getElem?_eq_none (by simp; omega)]
def strsR (ng b off sz : Nat) (vals : List Nat) : Ren := fun i => if i = ng then some ⟨b, off, sz⟩ else if i < ng then none else (vals[i - (ng + 1)]?).map fun n => ⟨0, n, 0⟩
theorem strsR_in {ng b off sz : Nat} {vals : List Nat} : ∀ i L, strsR ng b off sz vals i = some L → ng ≤ i ∧ i < ng + 1 + vals.length := by
  intro i L h
  unfold strsR at h
  split at h
  · omega
  · split at h
    · cases h
    · cases e : vals[i - (ng + 1)]? with
      | none => rw [e] at h; cases h
      | some x => have := (List.getElem?_eq_some_iff.1 e).1; omega
theorem strsR_at {ng b off sz : Nat} {vals : List Nat} {j n : Nat} (h : vals[j]? = some n) : ∃ L, strsR ng b off sz vals (ng + 1 + j) = some L ∧ L.base = n := by
  refine ⟨⟨0, n, 0⟩, ?_, rfl⟩
  unfold strsR
  rw [if_neg (by omega), if_neg (by omega), show ng + 1 + j - (ng + 1) = j by omega, h]
  rfl
def elV (a lo hi : Nat) : V := .o 0 (.cons (.o 1 (.m 0) a lo hi) .nil) 0 0 0
theorem VR_el {ρ : Ren} {a lo hi : Nat} {s : ByteArray} (h : lo ≤ s.size ∧ s.size ≤ hi) (ha : ∃ L, ρ a = some L ∧ L.base = enc s.data.toList) : VR ρ (elV a lo hi) (.string s) := by
  obtain ⟨L, h1, h2⟩ := ha
  refine VR_rope ?_
  simp only [RR, PR]
  exact ⟨s.data.toList, [], .inl ⟨trivial, L, h1, h2, h.1, h.2, fun c _ => tbN_zero _, trivial⟩, rfl, by simp⟩
def elsV (lo hi n : Nat) : Nat → V → V := Nat.rec (motive := fun _ => Nat → V → V) (fun _ r => r) (fun _ ih a r => .cons (elV a lo hi) (ih (Nat.succ a) r)) n
theorem VRs_els {ρ : Ren} {lo hi : Nat} {r : V} {rs : List Value} (hr : VRs ρ r rs) : ∀ (l : List ByteArray) (i : Nat), (∀ s ∈ l, lo ≤ s.size ∧ s.size ≤ hi) → (∀ (j : Nat) s, l[j]? = some s → ∃ L, ρ (i + j) = some L ∧ L.base = enc s.data.toList) →
    VRs ρ (elsV lo hi l.length i r) (l.map Value.string ++ rs) := by
  intro l
  induction l with
  | nil => intro i _ _; exact hr
  | cons s l ih =>
    intro i h1 h2
    show VRs ρ (.cons (elV i lo hi) (elsV lo hi l.length (Nat.succ i) r)) (.string s :: (l.map Value.string ++ rs))
    simp only [VRs]
    exact ⟨_, _, rfl, VR_el (h1 s (List.mem_cons_self ..)) (h2 0 s rfl), ih (Nat.succ i) (fun q hq => h1 q (List.mem_cons_of_mem _ hq)) fun j q hj => by
      rw [show Nat.succ i + j = i + (j + 1) by omega]
      exact h2 (j + 1) q hj⟩
theorem strs_V {ng b off sz cap n : Nat} {vals : List Nat} (h1 : n ≤ cap) (h2 : off + cap ≤ sz) : VR (strsR ng b off sz vals) (.sl ng 0 n 1) (.slice (some ⟨b, off, none⟩) n cap) := by
  simp only [VR]
  exact ⟨⟨b, off, sz⟩, cap, by simp [strsR], h1, by show off + 0 + cap * 1 ≤ sz; omega, rfl⟩
theorem strs_ob {ng b off ty nx : Nat} {W : World} {arr : Array Value} {fz : Nat × Nat} {vals : List Nat} {x : V} {vs rest : List Value} (hnx : ng < nx) (hblk : W.heap[b]? = some (.cells arr ty fz)) (hoff : off ≤ arr.size)
    (hcs : arr.toList.drop off = vs ++ rest) (hx : VRs (strsR ng b off arr.size vals) x vs) :
    ∀ i, (gt O.none i (putO [(ng, .c x ty false)] .leaf)).live → (ng ≤ i ∧ i < nx ∧ ¬ (gt O.none i (putO [(ng, .c x ty false)] .leaf)).wr) ∧
      ∀ L, strsR ng b off arr.size vals i = some L → ∃ o, W.heap[L.blk]? = some o ∧ OR (strsR ng b off arr.size vals) L (gt O.none i (putO [(ng, .c x ty false)] .leaf)) o := by
  intro i hlv
  have e : gt O.none i (putO [(ng, .c x ty false)] (.leaf : T O)) = if i = ng then .c x ty false else O.none := by
    show gt O.none i (st O.none (.c x ty false) ng .leaf) = _
    by_cases hin : i = ng
    · subst hin
      rw [gt_st_same, if_pos rfl]
    · rw [gt_st_ne _ _ (Ne.symm hin), gt_leaf, if_neg hin]
  rw [e] at hlv ⊢
  by_cases hin : i = ng
  · subst hin
    rw [if_pos rfl]
    refine ⟨⟨Nat.le_refl _, hnx, fun hw => Bool.noConfusion (show false = true from hw)⟩, fun L hL => ?_⟩
    have : L = ⟨b, off, arr.size⟩ := by simpa [strsR, eq_comm] using hL
    subst this
    exact ⟨_, hblk, arr, fz, rfl, rfl, (fun hf => by cases hf), hoff, by show CR _ x (arr.toList.drop off); rw [hcs]; exact hx.CR _⟩
  · rw [if_neg hin] at hlv
    exact hlv.elim
theorem none_ob {ng nx ty : Nat} {W : World} (h : ng < nx) : ∀ i, (gt O.none i (putO [(ng, .c .nil ty false)] .leaf)).live → (ng ≤ i ∧ i < nx ∧ ¬ (gt O.none i (putO [(ng, .c .nil ty false)] .leaf)).wr) ∧
    ∀ L, (none : Option Loc) = some L → ∃ o, W.heap[L.blk]? = some o ∧ OR (fun _ => none) L (gt O.none i (putO [(ng, .c .nil ty false)] .leaf)) o := by
  intro i hlv
  have e : gt O.none i (putO [(ng, .c .nil ty false)] (.leaf : T O)) = if i = ng then .c .nil ty false else O.none := by
    show gt O.none i (st O.none (.c .nil ty false) ng .leaf) = _
    by_cases hin : i = ng
    · subst hin
      rw [gt_st_same, if_pos rfl]
    · rw [gt_st_ne _ _ (Ne.symm hin), gt_leaf, if_neg hin]
  rw [e] at hlv ⊢
  by_cases hin : i = ng
  · subst hin
    rw [if_pos rfl]
    exact ⟨⟨Nat.le_refl _, h, fun hw => Bool.noConfusion (show false = true from hw)⟩, fun L hL => by cases hL⟩
  · rw [if_neg hin] at hlv
    exact hlv.elim
theorem first_shape (s : ByteArray) : s.data.toList = [] ∨ s.size = 1 ∨ (∃ c d : UInt8, s.data.toList = [c, d] ∧ (c.toNat < 45 ∨ 45 < c.toNat ∨ (c.toNat = 45 ∧ d.toNat < 110) ∨ (c.toNat = 45 ∧ 110 < d.toNat) ∨ (c.toNat = 45 ∧ d.toNat = 110))) ∨ 3 ≤ s.size := by
  have hz : s.size = s.data.toList.length := rfl
  match h : s.data.toList with
  | [] => exact .inl rfl
  | [c] => exact .inr (.inl (by rw [hz, h]; rfl))
  | [c, d] => exact .inr (.inr (.inl ⟨c, d, rfl, by omega⟩))
  | c :: d :: e :: r => exact .inr (.inr (.inr (by rw [hz, h]; simp)))
theorem VR_w2 {ρ : Ren} {x y : V} {c d : UInt8} {s : ByteArray} (he : s.data.toList = [c, d]) (hx : VR ρ x (byteV c)) (hy : VR ρ y (byteV d)) : VR ρ (.w (.cons x (.cons y .nil))) (.string s) := by
  simp only [VR]
  refine ⟨s, rfl, ?_⟩
  unfold bytesV
  rw [he]
  simp only [List.map_cons, List.map_nil, VRs]
  exact ⟨_, _, rfl, hx, _, _, rfl, hy, rfl⟩
theorem VR_x8 {ρ : Ren} {a lo hi : Nat} {c : UInt8} (ha : ∃ L, ρ a = some L ∧ L.base = c.toNat) (h : lo ≤ c.toNat ∧ c.toNat ≤ hi) : VR ρ (.x a .u8 lo hi) (byteV c) := by
  obtain ⟨L, h1, h2⟩ := ha
  simp only [VR]
  exact ⟨L, h1, by omega, by omega, by unfold byteV; rw [h2]⟩
theorem VR_i8 {ρ : Ren} {n : Int} {c : UInt8} (h : (c.toNat : Int) = n) : VR ρ (.i .u8 n) (byteV c) := by
  simp only [VR]
  unfold byteV
  rw [h]
theorem VR_sE {ρ : Ren} {s : ByteArray} (h : s.data.toList = []) : VR ρ (.s []) (.string s) := by
  simp only [VR]
  refine ⟨?_, fun k hk => by cases hk⟩
  congr 1
  apply congrArg ByteArray.mk
  apply Array.ext'
  rw [h]
  rfl
theorem VR_s2 {ρ : Ren} {c d : UInt8} {s : ByteArray} {m n : Nat} (he : s.data.toList = [c, d]) (h : c.toNat = m) (h2 : d.toNat = n) : VR ρ (.s [m, n]) (.string s) := by
  subst h h2
  simp only [VR]
  refine ⟨?_, fun k hk => ?_⟩
  · congr 1
    apply congrArg ByteArray.mk
    apply Array.ext'
    rw [he]
    simp
  · have b1 := UInt8.toNat_lt c
    have b2 := UInt8.toNat_lt d
    simp only [List.mem_cons, List.not_mem_nil, or_false] at hk
    omega
theorem split_at {α : Type} {l : List α} {k : Nat} {s : α} (h : l[k]? = some s) : l = l.take k ++ s :: l.drop (k + 1) := by
  obtain ⟨hk, rfl⟩ := List.getElem?_eq_some_iff.1 h
  rw [List.getElem_cons_drop hk, List.take_append_drop]
theorem first_long {B : Nat} : ∀ {l : List ByteArray}, (¬ ∀ s ∈ l, s.size ≤ B) → ∃ k s, l[k]? = some s ∧ B < s.size ∧ ∀ q ∈ l.take k, q.size ≤ B
  | [], h => absurd (fun s hs => by cases hs) h
  | s :: l, h => by
    by_cases hs : s.size ≤ B
    · obtain ⟨k, q, h1, h2, h3⟩ := first_long (l := l) fun hl => h fun q hq => by
        rcases List.mem_cons.1 hq with rfl | hq
        · exact hs
        · exact hl q hq
      refine ⟨k + 1, q, h1, h2, fun z hz => ?_⟩
      rw [List.take_succ_cons] at hz
      rcases List.mem_cons.1 hz with rfl | hz
      · exact hs
      · exact h3 z hz
    · exact ⟨0, s, rfl, by omega, by simp⟩
end
end Go.Mx
namespace Go.Mx
noncomputable section
theorem tbN_one {i : Nat} (h : i ≠ 0) : tbN 1 i = false := by
  obtain ⟨j, rfl⟩ : ∃ j, i = j + 1 := ⟨i - 1, by omega⟩
  show Nat.beq (Nat.land (Nat.shiftRight 1 (j + 1)) 1) 1 = false
  have : Nat.land (Nat.shiftRight 1 (j + 1)) 1 = 0 := by
    show (1 >>> (j + 1)) &&& 1 = 0
    have e : 1 >>> (j + 1) = 0 := by
      rw [Nat.shiftRight_eq_div_pow]
      exact Nat.div_eq_of_lt (Nat.one_lt_two_pow (by omega))
    rw [e]
    rfl
  rw [this]
  rfl
theorem zero_split : ∀ l : List UInt8, (∀ c ∈ l, c.toNat ≠ 0) ∨ ∃ p q, ∃ c : UInt8, l = p ++ c :: q ∧ c.toNat = 0 ∧ ∀ d ∈ p, d.toNat ≠ 0
  | [] => .inl fun _ h => by cases h
  | c :: l => by
    by_cases hc : c.toNat = 0
    · exact .inr ⟨[], l, c, rfl, hc, fun _ h => by cases h⟩
    · rcases zero_split l with h | ⟨p, q, d, rfl, h1, h2⟩
      · refine .inl fun d hd => ?_
        rcases List.mem_cons.1 hd with rfl | hd
        · exact hc
        · exact h d hd
      · refine .inr ⟨c :: p, q, d, rfl, h1, fun e he => ?_⟩
        rcases List.mem_cons.1 he with rfl | he
        · exact hc
        · exact h2 e he
variable {ρ : Ren}
theorem PR_m1 {a lo hi : Nat} {s : List UInt8} (ha : ∃ L, ρ a = some L ∧ L.base = enc s) (h : lo ≤ s.length ∧ s.length ≤ hi) (hz : ∀ c ∈ s, c.toNat ≠ 0) : PR ρ (.o 1 (.m 1) a lo hi) s := by
  obtain ⟨L, h1, h2⟩ := ha
  simp only [PR]
  exact .inl ⟨trivial, L, h1, h2, h.1, h.2, fun c hc => tbN_one (hz c hc), trivial⟩
theorem PR_m0 {a lo hi : Nat} {s : List UInt8} (ha : ∃ L, ρ a = some L ∧ L.base = enc s) (h : lo ≤ s.length ∧ s.length ≤ hi) : PR ρ (.o 1 (.m 0) a lo hi) s := by
  obtain ⟨L, h1, h2⟩ := ha
  simp only [PR]
  exact .inl ⟨trivial, L, h1, h2, h.1, h.2, fun c _ => tbN_zero _, trivial⟩
def nzV (a b hi : Nat) : V := .o 0 (.cons (.x a .u8 1 255) (.cons (.o 1 (.m 1) b 0 hi) .nil)) 0 0 0
theorem VR_nz {a b hi : Nat} {v : ByteArray} {c : UInt8} {l : List UInt8} (he : v.data.toList = c :: l) (ha : ∃ L, ρ a = some L ∧ L.base = c.toNat) (hb : ∃ L, ρ b = some L ∧ L.base = enc l) (hz : ∀ d ∈ v.data.toList, d.toNat ≠ 0) (hl : l.length ≤ hi) : VR ρ (nzV a b hi) (.string v) := by
  refine VR_rope ?_
  rw [he] at hz ⊢
  have h0 := hz c (List.mem_cons_self ..)
  have h1 := UInt8.toNat_lt c
  obtain ⟨L, g1, g2⟩ := ha
  have hx : PR ρ (.x a .u8 1 255) [c] := by
    simp only [PR]
    exact ⟨trivial, c, L, rfl, g1, by omega, by omega, g2⟩
  simp only [RR]
  exact ⟨[c], l, hx, ⟨l, [], PR_m1 hb ⟨Nat.zero_le _, hl⟩ fun d hd => hz d (List.mem_cons_of_mem _ hd), rfl, by simp⟩, rfl⟩
def zzV (a b k m : Nat) : V := .o 0 (.cons (.o 1 (.m 1) a k k) (.cons (.i .u8 0) (.cons (.o 1 (.m 0) b 0 m) .nil))) 0 0 0
theorem VR_zz {a b m : Nat} {v : ByteArray} {c : UInt8} {p q : List UInt8} (he : v.data.toList = p ++ c :: q) (hc : c.toNat = 0) (ha : ∃ L, ρ a = some L ∧ L.base = enc p) (hb : ∃ L, ρ b = some L ∧ L.base = enc q) (hz : ∀ d ∈ p, d.toNat ≠ 0) (hl : q.length ≤ m) : VR ρ (zzV a b p.length m) (.string v) := by
  refine VR_rope ?_
  rw [he]
  have hx : PR ρ (.i .u8 0) [c] := by
    simp only [PR]
    exact ⟨trivial, c, rfl, by omega⟩
  simp only [RR]
  exact ⟨p, c :: q, PR_m1 ha ⟨Nat.le_refl _, Nat.le_refl _⟩ hz, ⟨[c], q, hx, ⟨q, [], PR_m0 hb ⟨Nat.zero_le _, hl⟩, rfl, by simp⟩, rfl⟩, rfl⟩
theorem VR_xn {a lo hi : Nat} {k : IntKind} {n : Nat} (ha : ∃ L, ρ a = some L ∧ L.base = n) (h : lo ≤ n ∧ n ≤ hi) : VR ρ (.x a k lo hi) (.int k (n : Int)) := by
  obtain ⟨L, h1, h2⟩ := ha
  simp only [VR]
  exact ⟨L, h1, by omega, by omega, by rw [h2]⟩
end
end Go.Mx
