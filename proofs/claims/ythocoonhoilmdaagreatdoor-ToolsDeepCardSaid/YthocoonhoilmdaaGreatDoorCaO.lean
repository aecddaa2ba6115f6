/-
  What an argument that is a slice of slices of bytes, or of truths, holds.
-/
import Derived.Test.YthocoonhoilmdaaGreatDoorXRowK6
import Derived.Deep.Matrix
import Derived.Deep.Grids
import Derived.Below
import Derived.WalkKit
import Derived.WalkSpells
import Derived.StillTactics
import Derived.LoopIn
import Derived.RowKit3
import Derived.Below
import Derived.OwnWalk
import Derived.KernelRfl
open Go Go.ChangeShapes Go.WideShapes Go.RowKit
namespace Go.Proofs.YthocoonhoilmdaaGreatDoor
noncomputable section
/-! the arguments: a slice of slices of bytes, a slice of truths, a slice of bytes -/
/-- these bytes lie behind an address -/
def BytesV (w : World) (bo : Option Addr) (L : List UInt8) : Prop := L = [] ∨ ∃ ab ao, bo = some ⟨ab, ao, none⟩ ∧ ab < w.heap.size ∧ ∀ j u, (L.map Mx.byteV)[j]? = some u → w.cell? ((⟨ab, ao, none⟩ : Addr).add j) = some u
theorem BytesV.below {w w' : World} {bo : Option Addr} {L : List UInt8} (h : BytesV w bo L) {B : Nat} (hB : w.heap.size ≤ B) (hb : Below B w w') : BytesV w' bo L := by
  rcases h with h | ⟨ab, ao, h1, h2, h3⟩
  · exact .inl h
  · refine .inr ⟨ab, ao, h1, by have := hb.size; omega, fun j u hj => ?_⟩
    have := h3 j u hj
    rw [Addr.add_lit] at this ⊢
    rw [hb.cell (by show ab < B; omega)]
    exact this
theorem bytesV_of {w : World} {A : Option Addr} {L C : Nat} {Z : List Int} (hLC : L ≤ C) (hZ : Z.length = C) (hw : ∀ n ∈ Z, (Lit.int .u8 n).wf = true) (hn : A = none → C = 0) (hc : ∀ a', A = some a' → ∀ c, c < C → w.cell? (a'.add c) = some (.int .u8 (Z.getD c 0))) : ∃ Ls : List UInt8, Ls.length = L ∧ BytesV w A Ls := by
  by_cases h0 : L = 0
  · exact ⟨[], by simp [h0], .inl rfl⟩
  · cases A with
    | none => have := hn rfl; omega
    | some a =>
      obtain ⟨hspot, arr, ty, fz, hblk, hsz, hget⟩ := Mx.row_of_cells (f := fun i => .int .u8 (Z.getD i 0)) (show 0 < C by omega) (fun i hi => hc a rfl i hi)
      refine ⟨(Z.take L).map fun z => UInt8.ofNat z.toNat, by rw [List.length_map, List.length_take]; omega, .inr ⟨a.block, a.off, ?_, (Array.getElem?_eq_some_iff.1 hblk).1, fun j u hj => ?_⟩⟩
      · obtain ⟨ab, ao, asp⟩ := a
        simp only at hspot
        subst hspot
        rfl
      · rw [List.getElem?_map, List.getElem?_map] at hj
        have hjl : j < L := by
          cases e : (Z.take L)[j]? with
          | none => rw [e] at hj; cases hj
          | some x => have := (List.getElem?_eq_some_iff.1 e).1; rw [List.length_take] at this; omega
        have hjz : j < Z.length := by omega
        rw [List.getElem?_take_of_lt hjl, List.getElem?_eq_getElem hjz] at hj
        have h1 := hget j (by omega)
        rw [Addr.add_lit]
        unfold World.cell?
        simp only [hblk]
        rw [h1]
        have h2 : Z.getD j 0 = Z[j] := by simp [List.getD, List.getElem?_eq_getElem hjz]
        rw [h2]
        have h3 := hw Z[j] (List.getElem_mem hjz)
        have h4 : 0 ≤ Z[j] ∧ Z[j] ≤ 255 := by
          have h3 : (decide ((IntKind.u8).min ≤ Z[j]) && decide (Z[j] ≤ (IntKind.u8).max)) = true := h3
          rw [Bool.and_eq_true] at h3
          exact ⟨of_decide_eq_true h3.1, of_decide_eq_true h3.2⟩
        generalize Z[j] = z at hj h4
        have h5 : (UInt8.ofNat z.toNat).toNat = z.toNat := by rw [UInt8.toNat_ofNat']; omega
        have h6 : Mx.byteV (UInt8.ofNat z.toNat) = .int .u8 z := by
          show Value.int .u8 ((UInt8.ofNat z.toNat).toNat : Int) = _
          rw [h5]
          congr 1
          omega
        rw [← h6]
        exact hj
/-- a slice of slices of bytes -/
def RowsV (w : World) (v : Value) (Ls : List (List UInt8)) : Prop := ∃ o cap, v = .slice o Ls.length cap ∧ (Ls = [] ∨ ∃ b off, o = some ⟨b, off, none⟩ ∧ b < w.heap.size ∧ ∀ i (h : i < Ls.length), ∃ bo bc, w.cell? ⟨b, off + i, none⟩ = some (.slice bo (Ls[i]).length bc) ∧ BytesV w bo Ls[i])
/-- a slice of truths -/
def BoolsV (w : World) (v : Value) (gs : List Bool) : Prop := ∃ o cap, v = .slice o gs.length cap ∧ (gs = [] ∨ ∃ b off, o = some ⟨b, off, none⟩ ∧ b < w.heap.size ∧ ∀ i (h : i < gs.length), w.cell? ⟨b, off + i, none⟩ = some (.bool gs[i]))
theorem list_of {α : Type} : ∀ (n : Nat) (p : Nat → α → Prop), (∀ i, i < n → ∃ x, p i x) → ∃ l : List α, l.length = n ∧ ∀ i (h : i < l.length), p i l[i]
  | 0, _, _ => ⟨[], rfl, fun i h => absurd h (Nat.not_lt_zero i)⟩
  | n + 1, p, h => by
    obtain ⟨x, hx⟩ := h 0 (by omega)
    obtain ⟨l, h1, h2⟩ := list_of n (fun i => p (i + 1)) fun i hi => h (i + 1) (by omega)
    refine ⟨x :: l, by simp [h1], fun i hi => ?_⟩
    cases i with
    | zero => exact hx
    | succ i => exact h2 i (by simpa using hi)
theorem open_rows {H : Type} {encH : TypeId × Value → H} {P : Program} {W : World} {t e q : Nat} {v : Value} {d : DataW H} {ps : List MemPlace} (ht : P.underlying t = some (.slice e)) (he : P.underlying e = some (.slice q)) (hq : P.underlying q = some (.int .u8)) (ce : P.cellsOf e = 1) (cq : P.cellsOf q = 1)
    (hval : ∃ a len cap, v = .slice a len cap) (hd : DataW.Trod encH P W 0 (fun _ => true) true t v d ps) : ∃ Ls, RowsV W v Ls := by
  obtain ⟨a0, len0, cap0, rfl⟩ := hval
  obtain ⟨fuel, hd⟩ := hd
  rcases Go.Deep.open_int_rows ht he hq ce cq hd with ⟨h, _⟩ | ⟨a, len, cap, A, L, C, Z, hcs, _, hle, _, _, hx⟩
  · have h2 : Value.slice a0 len0 cap0 = .slice none 0 0 := by simpa [Value.cells] using h
    exact ⟨[], none, 0, h2, .inl rfl⟩
  · have hv : (Value.slice a0 len0 cap0) = .slice (some a) len cap := by simpa [Value.cells] using hcs
    rw [hv]
    by_cases h0 : len = 0
    · subst h0
      exact ⟨[], _, _, rfl, .inl rfl⟩
    · obtain ⟨hspot, arr, ty, fz, hblk, hsz, hget⟩ := Mx.row_of_cells (f := fun i => .slice (A i) (L i) (C i)) (show 0 < cap by omega) (fun i hi => (hx i hi).1)
      obtain ⟨Ls, hl, hp⟩ := list_of len (fun i (l : List UInt8) => l.length = L i ∧ BytesV W (A i) l) fun i hi => by
        obtain ⟨_, h1, _, h3, h4, h5, h6⟩ := hx i (by omega)
        exact bytesV_of h1 h3 h4 h5 fun a' ha => (h6 a' ha).2
      subst hl
      refine ⟨Ls, some a, cap, rfl, .inr ⟨a.block, a.off, ?_, (Array.getElem?_eq_some_iff.1 hblk).1, fun i hi => ⟨A i, C i, ?_, (hp i hi).2⟩⟩⟩
      · obtain ⟨ab, ao, asp⟩ := a
        simp only at hspot
        subst hspot
        rfl
      · unfold World.cell?
        simp only [hblk]
        rw [hget i (by omega), (hp i hi).1]
        rfl
theorem open_truths {H : Type} {encH : TypeId × Value → H} {P : Program} {W : World} {t e : Nat} {v : Value} {d : DataW H} {ps : List MemPlace} (ht : P.underlying t = some (.slice e)) (he : P.underlying e = some .bool) (hc : P.cellsOf e = 1)
    (hval : ∃ a len cap, v = .slice a len cap) (hd : DataW.Trod encH P W 0 (fun _ => true) true t v d ps) : ∃ gs, BoolsV W v gs := by
  obtain ⟨a0, len0, cap0, rfl⟩ := hval
  obtain ⟨fuel, hd⟩ := hd
  rcases Go.Deep.open_bools ht he hc hd with ⟨h, _⟩ | ⟨a, len, cap, B, hcs, _, hle, _, _, hx⟩
  · have h2 : Value.slice a0 len0 cap0 = .slice none 0 0 := by simpa [Value.cells] using h
    exact ⟨[], none, 0, h2, .inl rfl⟩
  · have hv : (Value.slice a0 len0 cap0) = .slice (some a) len cap := by simpa [Value.cells] using hcs
    rw [hv]
    by_cases h0 : len = 0
    · subst h0
      exact ⟨[], _, _, rfl, .inl rfl⟩
    · obtain ⟨hspot, arr, ty, fz, hblk, hsz, hget⟩ := Mx.row_of_cells (f := fun i => .bool (B i)) (show 0 < cap by omega) (fun i hi => hx i hi)
      have hl : ((List.range len).map B).length = len := by simp
      refine ⟨(List.range len).map B, some a, cap, by rw [hl], .inr ⟨a.block, a.off, ?_, (Array.getElem?_eq_some_iff.1 hblk).1, fun i hi => ?_⟩⟩
      · obtain ⟨ab, ao, asp⟩ := a
        simp only at hspot
        subst hspot
        rfl
      · unfold World.cell?
        simp only [hblk]
        rw [hget i (by omega)]
        simp
theorem open_bytes {H : Type} {encH : TypeId × Value → H} {P : Program} {W : World} {t e : Nat} {v : Value} {d : DataW H} {ps : List MemPlace} (ht : P.underlying t = some (.slice e)) (he : P.underlying e = some (.int .u8)) (hc : P.cellsOf e = 1)
    (hval : ∃ a len cap, v = .slice a len cap) (hd : DataW.Trod encH P W 0 (fun _ => true) true t v d ps) : ∃ L o cap, v = .slice o (List.length L) cap ∧ BytesV W o L := by
  rcases Mx.open_byteslice ht he hc hval hd with rfl | ⟨A, c, rfl⟩ | ⟨b, off, len, cap, arr, ty, fz, l, rfl, h0, _, _, hblk, hsz, hl, hcs⟩
  · exact ⟨[], none, 0, rfl, .inl rfl⟩
  · exact ⟨[], some A, c, rfl, .inl rfl⟩
  · subst hl
    refine ⟨l, _, cap, rfl, .inr ⟨b, off, rfl, (Array.getElem?_eq_some_iff.1 hblk).1, fun j u hj => ?_⟩⟩
    rw [← hcs] at hj
    have hjl : j < l.length := by
      have := (List.getElem?_eq_some_iff.1 hj).1
      rw [hcs] at this
      simpa using this
    rw [List.getElem?_take_of_lt hjl, List.getElem?_drop, Array.getElem?_toList] at hj
    rw [Addr.add_lit]
    unfold World.cell?
    simp only [hblk]
    exact hj
end
end Go.Proofs.YthocoonhoilmdaaGreatDoor
