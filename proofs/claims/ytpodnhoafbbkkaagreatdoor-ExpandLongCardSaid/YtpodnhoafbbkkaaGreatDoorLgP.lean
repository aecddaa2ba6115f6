/-
  Cells that are filled. No condition.
-/
import Derived.Lib.SplitLaws
import Derived.Lib.Split
import Derived.Lib.IndexBytes
import Derived.Laws.OwnMore
import Derived.Laws.NewBlocks
import Derived.Laws.Strings
open Go
namespace Go.Proofs.YtpodnhoafbbkkaaGreatDoor
theorem ba_ext {a b : ByteArray} (h : a.data.toList = b.data.toList) : a = b := by
  apply ByteArray.ext
  exact Array.toList_inj.1 h
/-- so many line ends, and so many signs behind them -/
def lgL (c m : Nat) : List UInt8 := List.replicate c 10 ++ List.replicate m 35
def lgT (c m : Nat) : ByteArray := ⟨(lgL c m).toArray⟩
def nlB : ByteArray := ⟨#[10]⟩
theorem lgL_len (c m : Nat) : (lgL c m).length = c + m := by simp [lgL]
theorem lgT_list (c m : Nat) : (lgT c m).data.toList = lgL c m := by simp [lgT]
theorem lgT_size (c m : Nat) : (lgT c m).size = c + m := by
  have h : (lgT c m).size = (lgT c m).data.toList.length := rfl
  rw [h, lgT_list, lgL_len]
theorem lg_count (c m : Nat) : Lib.countB (lgT c m) nlB = c := by
  show Lib.count (lgT c m).data.toList [10] = c
  rw [lgT_list, Lib.count_one, lgL, List.count_append, List.count_replicate_self, List.count_replicate]
  simp
theorem lg_split : ∀ c m : Nat, Lib.splitB nlB 0 c (lgT c m) = List.replicate c ⟨#[]⟩ ++ [lgT 0 m]
  | 0, _ => rfl
  | c + 1, m => by
    have hi : Lib.indexB (lgT (c + 1) m) nlB = ((0 : Nat) : Int) := by
      show Lib.index (lgT (c + 1) m).data.toList [10] = 0
      rw [lgT_list, Lib.index_one]
      rfl
    have e0 : (lgT (c + 1) m).extract 0 (0 + 0) = (⟨#[]⟩ : ByteArray) := ba_ext (by rw [Lib.extract_from_zero]; rfl)
    have e1 : (lgT (c + 1) m).extract (0 + nlB.size) (lgT (c + 1) m).size = lgT c m := ba_ext (by rw [Lib.extract_to_end, lgT_list, lgT_list]; rfl)
    rw [Lib.splitB_hit _ _ _ _ 0 hi, e0, e1, lg_split c m]
    rfl
def lgP (c m : Nat) : List ByteArray := List.replicate c ⟨#[]⟩ ++ [lgT 0 m]
theorem lgP_lt {c m k : Nat} (h : k < c) : ((lgP c m).map Value.string)[k]? = some (.string ⟨#[]⟩) := by
  rw [List.getElem?_map, lgP, List.getElem?_append_left (by simpa using h), List.getElem?_replicate, if_pos h]
  rfl
theorem lgP_eq (c m : Nat) : ((lgP c m).map Value.string)[c]? = some (.string (lgT 0 m)) := by
  rw [List.getElem?_map, lgP, List.getElem?_append_right (by simp)]
  simp
theorem cell_rows (w : World) (cs : List Value) (e : TypeId) {j : Nat} {u : Value} (h : cs[j]? = some u) : (w.alloc (.cells cs.toArray e)).cell? ⟨w.heap.size, j, none⟩ = some u := by
  rw [World.cell?_alloc_at _ _ _ _ rfl]
  simpa using h
def nLines (c m : Nat) : Nat := if m = 0 then c else c + 1
def bV (b : UInt8) : Value := .int .u8 b.toNat
/-- the cells while they are filled: the first ones of the text, then noughts -/
def fillC (A : List UInt8) (k : Nat) : List Value := (List.range A.length).map fun j => if j < k then bV (A.getD j 0) else .int .u8 0
theorem fillC_len (A : List UInt8) (k : Nat) : (fillC A k).length = A.length := by simp [fillC]
theorem fillC_get (A : List UInt8) (k j : Nat) : (fillC A k)[j]? = if j < A.length then some (if j < k then bV (A.getD j 0) else .int .u8 0) else none := by
  simp only [fillC, List.getElem?_map]
  by_cases h : j < A.length
  · rw [List.getElem?_range h, if_pos h]
    rfl
  · rw [List.getElem?_eq_none (by simpa using h), if_neg h]
    rfl
theorem fillC_zero (A : List UInt8) : fillC A 0 = List.replicate A.length (.int .u8 0) := by
  apply List.ext_getElem?
  intro j
  rw [fillC_get, List.getElem?_replicate]
  simp
theorem fillC_set (A : List UInt8) {k : Nat} (h : k < A.length) : (fillC A k).set k (bV (A.getD k 0)) = fillC A (k + 1) := by
  apply List.ext_getElem?
  intro j
  rw [List.getElem?_set, fillC_get, fillC_get, fillC_len]
  by_cases e : k = j
  · subst e
    rw [if_pos rfl, if_pos h, if_pos h, if_pos (Nat.lt_succ_self _)]
  · rw [if_neg e]
    by_cases h1 : j < k
    · rw [if_pos h1, if_pos (show j < k + 1 by omega)]
    · rw [if_neg h1, if_neg (show ¬ j < k + 1 by omega)]
theorem lgL_lt {c m k : Nat} (h : k < c) : (lgL c m).getD k 0 = 10 := by
  rw [List.getD, lgL, List.getElem?_append_left (by simpa using h), List.getElem?_replicate, if_pos h]
  rfl
theorem lgL_ge {c m k : Nat} (h : ¬ k < c) (h2 : k < c + m) : (lgL c m).getD k 0 = 35 := by
  rw [List.getD, lgL, List.getElem?_append_right (by simpa using h), List.length_replicate, List.getElem?_replicate, if_pos (by omega)]
  rfl
theorem fill_step {wr : World} {B g n c m k : Nat} {e : TypeId} (hn : n = c + m) (hk : k < n) (hown : wr.ownsRow B e 1 (.slice (some ⟨g, 0, none⟩) n n) n (fillC (lgL c m) k)) :
    (k < c → ((wr.setCell ⟨g, k, none⟩ (.int .u8 35)).setCell ⟨g, k, none⟩ (.int .u8 10)).ownsRow B e 1 (.slice (some ⟨g, 0, none⟩) n n) n (fillC (lgL c m) (k + 1))) ∧
    (¬ k < c → (wr.setCell ⟨g, k, none⟩ (.int .u8 35)).ownsRow B e 1 (.slice (some ⟨g, 0, none⟩) n n) n (fillC (lgL c m) (k + 1))) := by
  have h1 := (hown.stored k (.int .u8 35)).1
  have hs := fillC_set (lgL c m) (k := k) (by rw [lgL_len]; omega)
  refine ⟨fun hc => ?_, fun hc => ?_⟩
  · have h2 := (h1.stored k (.int .u8 10)).1
    rw [List.set_set] at h2
    rw [lgL_lt hc] at hs
    rw [← hs]
    exact h2
  · rw [lgL_ge hc (by omega)] at hs
    rw [← hs]
    exact h1
theorem lgT_ne {m : Nat} (h : m ≠ 0) : 0 < (lgT 0 m).size ∧ (lgT 0 m).toList.isEmpty = false ∧ ∀ hp : 0 < (lgT 0 m).size, ((lgT 0 m)[0]'hp).toNat = 35 := by
  obtain ⟨k, rfl⟩ : ∃ k, m = k + 1 := ⟨m - 1, by omega⟩
  have hz : 0 < (lgT 0 (k + 1)).size := by rw [lgT_size]; omega
  refine ⟨hz, ?_, fun hp => ?_⟩
  · rw [ByteArray.toList_eq, lgT_list]
    rfl
  · have h4 := Lib.data_getElem? (lgT 0 (k + 1)) 0 hp
    rw [lgT_list] at h4
    have h5 : (lgL 0 (k + 1))[0]? = some 35 := rfl
    rw [h5] at h4
    rw [← Option.some.inj h4]
    rfl
end Go.Proofs.YtpodnhoafbbkkaaGreatDoor
