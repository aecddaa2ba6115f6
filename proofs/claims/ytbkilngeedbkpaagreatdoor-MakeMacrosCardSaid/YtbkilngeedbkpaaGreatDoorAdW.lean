/-
  What (*glob.set).add does with one byte.
-/
import Derived.Test.YtbkilngeedbkpaaGreatDoorProg
import Derived.Test.YtbkilngeedbkpaaGreatDoorXMxAM
import Derived.WalkKit
import Derived.WalkSpells
import Derived.StillTactics
import Derived.StillTailTactics
import Derived.LoopIn
import Derived.RowKit3
import Derived.Below
open Go Go.Mx Go.RowKit
namespace Go.Proofs.YtbkilngeedbkpaaGreatDoor
theorem cell_of (w : World) (b o : Nat) (arr : Array Value) (ty : TypeId) (fz : Nat × Nat) (hh : w.heap[b]? = some (.cells arr ty fz)) : w.cell? ⟨b, o, none⟩ = arr[o]? := by
  unfold World.cell?
  simp [hh]
theorem nofr_of (w : World) (b o : Nat) (arr : Array Value) (ty : TypeId) (fz : Nat × Nat) (hh : w.heap[b]? = some (.cells arr ty fz)) (hfr : free arr.size fz) (ho : o < arr.size) : w.frozen? ⟨b, o, none⟩ = false := by
  have h := hfr o ho
  unfold World.frozen?
  simp only [hh]
  cases e1 : decide (fz.1 ≤ o) with
  | false => rfl
  | true =>
    rw [Bool.true_and]
    exact decide_eq_false fun h2 => h ⟨of_decide_eq_true e1, .inl h2⟩
theorem and63 : ∀ n : Fin 256, bits BinOp.and IntKind.i64 (n.val : Int) 63 = ((n.val % 64 : Nat) : Int) := by decide +kernel
set_option maxHeartbeats 1600000 in
set_option maxRecDepth 100000 in
theorem add_at (b o n i m : Nat) (w : World) (h1 : 64 * i ≤ n) (h2 : n < 64 * i + 64) (h3 : i < 4) (hc : w.cell? ⟨b, o + i, none⟩ = some (.int .u64 (m : Int))) (hf : w.frozen? ⟨b, o + i, none⟩ = false) :
    Calls Tryz.prog 402 #[.pointer (some ⟨b, o, none⟩), .int .u8 (n : Int), .int .u8 (n : Int)] w fun e w' => e = .returned (.tuple #[]) ∧ ∃ m' : Nat, m' ≤ 18446744073709551615 ∧ w'.heap = (w.setCell ⟨b, o + i, none⟩ (.int .u64 (m' : Int))).heap ∧ w'.os = w.os ∧ w'.tape = w.tape ∧ w'.output = w.output := by
  have e1 : (n : Int) / 64 = (i : Int) := by omega
  have e2 : (i : Int) < 4 := by omega
  have e3 : bits BinOp.and IntKind.i64 (n : Int) 63 = ((n % 64 : Nat) : Int) := and63 ⟨n, by omega⟩
  obtain ⟨d, hd⟩ : ∃ d, d = n % 64 := ⟨_, rfl⟩
  rw [← hd] at e3
  have hd64 : d < 64 := by omega
  clear hd
  go_enter Tryz.func402, Tryz.ntmps402
  go_wp2
  refine wp_loop_rounds 2 ?_
  rw [rounds_succ]
  go_wp2
  go_region
  go_wp2
  rw [rounds_succ]
  go_wp2
  go_end0
  obtain ⟨q, hq, hq2⟩ : ∃ q : Nat, bits BinOp.or IntKind.u64 (m : Int) (IntKind.u64.wrap (2 ^ d)) = (q : Int) ∧ q ≤ 18446744073709551615 := by
    unfold bits
    generalize IntKind.u64.wrap (2 ^ d) = z
    simp only [IntKind.wrap_u64]
    refine ⟨Int.toNat _, (Int.toNat_of_nonneg (Int.emod_nonneg _ (by decide))).symm, ?_⟩
    omega
  rw [hq]
  exact ⟨rfl, q, hq2, rfl, rfl, rfl, rfl⟩
theorem add_said : AddSaid Tryz.prog 402 := by
  intro b o arr ty fz w c m hh hfr hm
  have hlt : c.toNat < 256 := UInt8.toNat_lt c
  obtain ⟨n, hn⟩ : ∃ n, n = c.toNat := ⟨_, rfl⟩
  rw [← hn] at hlt ⊢
  have h3 : n / 64 < 4 := by omega
  have hsz : o + n / 64 < arr.size := (Array.getElem?_eq_some_iff.1 (hm (n / 64) h3).1).1
  refine (add_at b o n (n / 64) (m (n / 64)) w (by omega) (by omega) h3 (by rw [cell_of w b _ arr ty fz hh]; exact (hm _ h3).1) (nofr_of w b _ arr ty fz hh hfr hsz)).mono fun e w' ⟨h5, m', h6, h7, h8, h9, h10⟩ => ⟨h5, n / 64, m', h3, h6, ?_, h8, h9, h10⟩
  rw [h7]
  unfold World.setCell
  apply Array.ext_getElem?
  intro j
  show (w.heap.modify b _)[j]? = _
  rw [Array.getElem?_modify, Array.getElem?_setIfInBounds]
  by_cases e : b = j
  · subst e
    have hlt2 := (Array.getElem?_eq_some_iff.1 hh).1
    rw [if_pos rfl, if_pos rfl, if_pos hlt2, hh]
    rfl
  · rw [if_neg e, if_neg e]
end Go.Proofs.YtbkilngeedbkpaaGreatDoor
