/-
  The law at all texts; what the bound of the second form says of a slice of texts. No condition.
-/
import Derived.Test.YtnafpdchpddloaaGreatDoorToZ
import Derived.Test.YtnafpdchpddloaaGreatDoorRows
import Derived.Test.YtnafpdchpddloaaGreatDoorHk
import Derived.SliceStrings
import Derived.Shelf.Vars
import Derived.Test.YtnafpdchpddloaaGreatDoorXRowK6
open Go Go.Mx Go.ChangeShapes Go.WideShapes Go.RowKit
namespace Go.Proofs.YtnafpdchpddloaaGreatDoor
set_option maxRecDepth 100000
noncomputable section
theorem bulk_part {H : Type} {d : DataW H} {l : List (DataW H)} (h : d ∈ l) : Rows.uptoBulk d ≤ Rows.uptoBulkAll l := by
  induction l with
  | nil => cases h
  | cons x r ih =>
    simp only [Rows.uptoBulkAll]
    cases List.mem_cons.1 h with
    | inl e => subst e; omega
    | inr e => have := ih e; omega
theorem bulk_one {H : Type} (d : DataW H) : 1 ≤ Rows.uptoBulk d := by
  cases d with
  | lit l => cases l <;> simp [Rows.uptoBulk]
  | nil => simp [Rows.uptoBulk]
  | ptr d => simp [Rows.uptoBulk]
  | slice elems spare => simp [Rows.uptoBulk]
  | agg parts => simp [Rows.uptoBulk]
  | iface t d => simp [Rows.uptoBulk]
  | map entries => simp [Rows.uptoBulk]
  | held h => simp [Rows.uptoBulk]
theorem bulk_len {H : Type} (l : List (DataW H)) : l.length ≤ Rows.uptoBulkAll l := by
  induction l with
  | nil => simp [Rows.uptoBulkAll]
  | cons x r ih => have := bulk_one x; simp only [Rows.uptoBulkAll, List.length_cons]; omega
theorem open_strs_small {H : Type} {encH : TypeId × Value → H} {P : Program} {W : World} {t e : Nat} {v : Value} {d : DataW H} {ps : List MemPlace} (ht : P.underlying t = some (.slice e)) (he : P.underlying e = some .string) (hc : P.cellsOf e = 1)
    (hval : ∃ a len cap, v = .slice a len cap) (hd : DataW.Trod encH P W 0 (fun _ => true) true t v d ps) (hk : Rows.uptoSmall H ([d] ++ []) = true) :
    ∃ (o : Option Addr) (cap : Nat) (l : List ByteArray), v = .slice o l.length cap ∧ (∀ s ∈ l, s.size ≤ 1100000) ∧ l.length ≤ 2000000 ∧ (l = [] ∨ ∃ g off, o = some ⟨g, off, none⟩ ∧ l.length ≤ cap ∧ ArgsAt W g off l) := by
  obtain ⟨a0, len0, cap0, rfl⟩ := hval
  have hb : Rows.uptoBulkAll ([d] ++ []) ≤ 1048576 := of_decide_eq_true hk
  obtain ⟨fuel, hd⟩ := hd
  rcases open_strings ht he hc hd with ⟨h, _⟩ | ⟨a, len, cap, ss, hcs, _, hle, _, hlen, hx, hel, _⟩
  · have h2 : Value.slice a0 len0 cap0 = .slice none 0 0 := by simpa [Value.cells] using h
    exact ⟨none, 0, [], h2, by simp, by simp, .inl rfl⟩
  · have hv : (Value.slice a0 len0 cap0) = .slice (some a) len cap := by simpa [Value.cells] using hcs
    rw [hv]
    rw [if_pos rfl] at hlen
    have hl : (ss.take len).length = len := by rw [List.length_take]; omega
    have hd2 : d = .slice (strs (ss.take len)) (strs (ss.drop len)) := congrArg Prod.fst hx
    subst hd2
    simp only [List.append_nil, Rows.uptoBulkAll, Rows.uptoBulk] at hb
    have hsz : ∀ s ∈ ss.take len, s.size ≤ 1100000 := fun s hs => by
      have h1 : (DataW.lit (H := H) (.string s.data.toList)) ∈ strs (ss.take len) := List.mem_map.2 ⟨s, hs, rfl⟩
      have h2 := bulk_part h1
      have h3 : Rows.uptoBulk (DataW.lit (H := H) (.string s.data.toList)) = s.data.toList.length + 1 := by simp [Rows.uptoBulk]
      have h4 : s.data.toList.length = s.size := rfl
      omega
    have hl2 : (ss.take len).length ≤ 2000000 := by
      have h1 := bulk_len (strs (H := H) (ss.take len))
      have h2 : (strs (H := H) (ss.take len)).length = (ss.take len).length := List.length_map ..
      omega
    refine ⟨some a, cap, ss.take len, by rw [hl], hsz, hl2, ?_⟩
    by_cases h0 : len = 0
    · subst h0
      exact .inl (List.take_zero ..)
    · obtain ⟨hspot, arr, ty, fz, hblk, hsz', hget⟩ := row_of_cells (f := fun i => .string (ss.getD i ByteArray.empty)) (show 0 < cap by omega) (fun i hi => hel i (by omega))
      refine .inr ⟨a.block, a.off, ?_, by omega, ⟨(Array.getElem?_eq_some_iff.1 hblk).1, fun k hkl => ?_⟩⟩
      · obtain ⟨ab, ao, asp⟩ := a
        simp only at hspot
        subst hspot
        rfl
      · have h1 := hget k (by omega)
        unfold World.cell?
        simp only [hblk]
        rw [h1]
        simp [List.getD, List.getElem?_eq_getElem (show k < ss.length by omega)]
theorem law_any (W : World) (hm : MaxIs W) (l : List ByteArray) (hs : ∀ s ∈ l, s.size ≤ 1100000) (_hl2 : l.length ≤ 2000000) (o : Option Addr) (cap : Nat) (hv : l = [] ∨ ∃ g off, o = some ⟨g, off, none⟩ ∧ l.length ≤ cap ∧ ArgsAt W g off l)
    (hal : Calls Tryz.prog 4 #[] W fun e w' => e = .returned (.bool true) ∧ Below W.heap.size W w') : Calls Tryz.prog 3 #[.slice o l.length cap] W fun e W' => e = .returned (.bool true) ∧ Below W.heap.size W W' := by
  by_cases hn : 6 < l.length
  · exact tt_out o l.length cap hn W hal
  · exact tt_in l hs o l.length cap rfl (by omega) W hm hv hal
end
end Go.Proofs.YtnafpdchpddloaaGreatDoor
