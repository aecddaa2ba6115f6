/-
  Names of files, and a tree of files.
-/
import Derived.Test.YthocoonhoilmdaaGreatDoorUtW
import Derived.Deep.RegionLaw
import Derived.Deep.RegionWith
import Derived.Deep.RegionHeld3
import Derived.RegionTactic
import Derived.WalkKit
import Derived.WalkSpells
import Derived.StillTactics
import Derived.LoopIn
import Derived.RowKit3
import Derived.Below
import Derived.OwnWalk
import Derived.KernelRfl
open Go Go.Mx Go.RowKit
namespace Go.Proofs.YthocoonhoilmdaaGreatDoor
set_option maxRecDepth 100000
noncomputable section
/-! names of files, and a tree of files: plain -/
def pk (k : Nat) : ByteArray := ⟨#[102, UInt8.ofNat (48 + k)]⟩
def qk (k : Nat) : ByteArray := ⟨#[47, 102, UInt8.ofNat (48 + k)]⟩
def msg (k : Nat) : List UInt8 := [99, 97, 116, 58, 32, 102, UInt8.ofNat (48 + k), 58, 32, 101, 114, 114, 111, 114, 32, 54, 10]
theorem abs_pk : ∀ k, k < 10 → absF (pk k) = (qk k, 0) := by decide +kernel
theorem abs_qk : ∀ k, k < 10 → absF (qk k) = (qk k, 0) := by decide +kernel
theorem qk_eq : ∀ j, j < 10 → ∀ k, k < 10 → (qk j == qk k) = decide (j = k) := by decide +kernel
theorem qk_root : ∀ k, k < 10 → (qk k).data.toList ≠ [47] := by decide +kernel
theorem dig_toNat {k : Nat} (h : k < 10) : (UInt8.ofNat (48 + k)).toNat = 48 + k := by rw [UInt8.toNat_ofNat']; omega
theorem way_qk (T : TT) {k : Nat} (h : k < 10) : wayF T (qk k) = 0 := by
  have h2 : ((qk k).data.toList.getD (0 + 1 + 1) 0).toNat ≠ 47 := by
    show (UInt8.ofNat (48 + k)).toNat ≠ 47
    rw [dig_toNat h]
    omega
  have h1 : ((qk k).data.toList.getD (0 + 1) 0).toNat ≠ 47 := by
    show (102 : UInt8).toNat ≠ 47
    decide
  show wayFrom T (qk k) 3 0 = 0
  rw [wayFrom, if_pos (.inr rfl), wayFrom, if_pos (.inl h1), wayFrom, if_pos (.inl h2), wayFrom]
theorem fabs_qk (T : TT) {k : Nat} (h : k < 10) : fabsF T (qk k) = (qk k, 0) := by
  unfold fabsF
  rw [abs_qk k h, way_qk T h, if_neg (by simp), if_neg (by simp)]
theorem findT_app (T : TT) (x : ByteArray × TN) (q : ByteArray) : findT (T ++ [x]) q = match findT T q with
    | some v => some v
    | none => if (q == x.1) = true then some x.2 else none := by
  unfold findT
  rw [List.find?_append]
  cases e : T.find? fun y => q == y.1 with
  | some v => rfl
  | none =>
    simp only [List.find?, Option.map_none, Option.none_or]
    cases e2 : q == x.1 with
    | true => rfl
    | false => rfl
def outN (g : Nat → Bool) (L : Nat → List UInt8) : Nat → List UInt8
  | 0 => []
  | k + 1 => outN g L k ++ if g k = true then [] else L k
def logN (g : Nat → Bool) : Nat → List UInt8
  | 0 => []
  | k + 1 => logN g k ++ if g k = true then msg k else []
def stN (g : Nat → Bool) : Nat → Int
  | 0 => 0
  | k + 1 => if g k = true then 1 else stN g k
theorem outN_len {g : Nat → Bool} {L : Nat → List UInt8} : ∀ {k : Nat}, (∀ j, j < k → (L j).length ≤ 200) → (outN g L k).length ≤ 200 * k
  | 0, _ => Nat.zero_le _
  | k + 1, h => by
    have h1 := outN_len (g := g) (L := L) (k := k) fun j hj => h j (by omega)
    have h2 := h k (by omega)
    rw [outN, List.length_append]
    split
    · simp only [List.length_nil]; omega
    · omega
theorem logN_len {g : Nat → Bool} : ∀ {k : Nat}, (logN g k).length ≤ 17 * k
  | 0 => Nat.zero_le _
  | k + 1 => by
    have h1 := logN_len (g := g) (k := k)
    rw [logN, List.length_append]
    split
    · simp only [msg, List.length_cons, List.length_nil]; omega
    · simp only [List.length_nil]; omega
theorem stN_log {g : Nat → Bool} : ∀ k, (stN g k = 0 ∧ logN g k = []) ∨ (stN g k = 1 ∧ logN g k ≠ [])
  | 0 => .inl ⟨rfl, rfl⟩
  | k + 1 => by
    rw [stN, logN]
    by_cases h : g k = true
    · rw [if_pos h, if_pos h]
      exact .inr ⟨rfl, by simp [msg]⟩
    · rw [if_neg h, if_neg h, List.append_nil]
      exact stN_log k
theorem kind_gone {T : TT} {k : Nat} (hk : k < 10) (h : findT T (qk k) = none) : kindF T (qk k) = 0 := by
  unfold kindF
  rw [if_neg (qk_root k hk), h]
theorem kind_there {T : TT} {k : Nat} (hk : k < 10) {x : Option Addr × Nat × Nat} {t : Int} (h : findT T (qk k) = some (false, x, t)) : kindF T (qk k) = 1 := by
  unfold kindF
  rw [if_neg (qk_root k hk), h]
  rfl
/-- a tree of the files that are not gone, of the first k -/
structure TreeK (g : Nat → Bool) (L : Nat → List UInt8) (B k : Nat) (w : World) (T : TT) : Prop where
  len : T.length ≤ k
  gone : ∀ j, j < 10 → (k ≤ j ∨ g j = true) → findT T (qk j) = none
  there : ∀ j, j < 10 → j < k → g j = false → ∃ o c t, findT T (qk j) = some (false, (o, (L j).length, c), t) ∧ DataAt B (L j) w o
theorem TreeK.nil (g : Nat → Bool) (L : Nat → List UInt8) (B : Nat) (w : World) : TreeK g L B 0 w [] := ⟨Nat.le_refl _, fun _ _ _ => rfl, fun _ _ h _ => absurd h (Nat.not_lt_zero _)⟩
theorem TreeK.below {g : Nat → Bool} {L : Nat → List UInt8} {B k : Nat} {w w' : World} {T : TT} (h : TreeK g L B k w T) (hb : Below w.heap.size w w') : TreeK g L B k w' T :=
  ⟨h.len, h.gone, fun j h1 h2 h3 => by obtain ⟨o, c, t, e, d⟩ := h.there j h1 h2 h3; exact ⟨o, c, t, e, d.below hb⟩⟩
theorem TreeK.skip {g : Nat → Bool} {L : Nat → List UInt8} {B k : Nat} {w : World} {T : TT} (h : TreeK g L B k w T) (hg : g k = true) : TreeK g L B (k + 1) w T :=
  ⟨Nat.le_succ_of_le h.len, fun j h1 h2 => h.gone j h1 (by rcases h2 with h2 | h2; exact .inl (by omega); exact .inr h2), fun j h1 h2 h3 => h.there j h1 (by
    by_cases e : j = k
    · subst e; rw [hg] at h3; cases h3
    · omega) h3⟩
/-- blocks but these two stand as they stood -/
theorem DataAt.keep {B : Nat} {L : List UInt8} {w w' : World} {o : Option Addr} (h : DataAt B L w o) {fb mb : Nat} {T : TT} {nodes bytes used clock : Int} (hf : FsIs w fb mb T nodes bytes used clock) (hs : w.heap.size ≤ w'.heap.size) (hk : ∀ j, j < w.heap.size → j ≠ fb → j ≠ mb → w'.heap[j]? = w.heap[j]?) : DataAt B L w' o := by
  rcases h with h | ⟨h0, g, h1, h2, h3, h4⟩
  · exact .inl h
  · have hz : 0 < L.length := List.length_pos_iff.2 h0
    have hc : w.cell? ⟨g, 0, none⟩ = some (Mx.byteV L[0]) := by
      have := h4 0 (Mx.byteV L[0]) (by rw [List.getElem?_map, List.getElem?_eq_getElem hz]; rfl)
      rwa [Addr.add_lit] at this
    have e1 : g ≠ fb := fun e => by
      subst e
      rw [cell_u hf.fs] at hc
      cases hc
    have e2 : g ≠ mb := fun e => by
      subst e
      obtain ⟨es, cl, h5, _⟩ := hf.mp
      unfold World.cell? at hc
      rw [h5] at hc
      cases hc
    refine .inr ⟨h0, g, h1, h2, Nat.lt_of_lt_of_le h3 hs, fun j u hj => ?_⟩
    have := h4 j u hj
    rw [Addr.add_lit] at this ⊢
    unfold World.cell? at this ⊢
    rw [hk g h3 e1 e2]
    exact this
theorem TreeK.write {g : Nat → Bool} {L : Nat → List UInt8} {B k : Nat} {w w' : World} {T : TT} (h : TreeK g L B k w T) (hk : k < 10) (hg : g k = false) (o : Option Addr) (c : Nat) (t : Int) (hd : DataAt B (L k) w' o) {fb mb : Nat} {nodes bytes used clock : Int} (hf : FsIs w fb mb T nodes bytes used clock) (hs : w.heap.size ≤ w'.heap.size) (hkp : ∀ j, j < w.heap.size → j ≠ fb → j ≠ mb → w'.heap[j]? = w.heap[j]?) :
    TreeK g L B (k + 1) w' (T ++ [(qk k, (false, (o, (L k).length, c), t))]) := by
  refine ⟨by simp [h.len], fun j h1 h2 => ?_, fun j h1 h2 h3 => ?_⟩
  · have e : j ≠ k := fun e => by
      subst e
      rcases h2 with h2 | h2
      · omega
      · rw [hg] at h2; cases h2
    rw [findT_app, h.gone j h1 (by rcases h2 with h2 | h2; exact .inl (by omega); exact .inr h2), qk_eq j h1 k hk]
    simp [e]
  · by_cases e : j = k
    · subst e
      refine ⟨o, c, t, ?_, hd⟩
      rw [findT_app, h.gone j h1 (.inl (Nat.le_refl _)), qk_eq j h1 j h1]
      simp
    · obtain ⟨o2, c2, t2, e2, d2⟩ := h.there j h1 (by omega) h3
      refine ⟨o2, c2, t2, ?_, d2.keep hf hs hkp⟩
      rw [findT_app, e2]
set_option maxHeartbeats 1600000 in
set_option maxRecDepth 100000 in
theorem new_any (w : World) : Calls Tryz.prog 6 #[.int .i64 20, .int .i64 5000] w fun e w' => ∃ fb mb, e = .returned (.pointer (some ⟨fb, 0, none⟩)) ∧ FsIs w' fb mb [] 20 5000 0 0 ∧ Below w.heap.size w w' ∧ w.heap.size ≤ fb ∧ w.heap.size ≤ mb := by
  have hmm : (Instr.makeMap 41 none).run Tryz.prog w = .ok (.map (some w.heap.size)) (w.alloc (.map #[] 0)) := rfl
  have e1 : min (max (0 : Int) 20) 10000 = 20 := by decide
  have e2 : min (max (0 : Int) 5000) 1048576 = 5000 := by decide
  go_enter Tryz.func6, Tryz.ntmps6
  go_wp2
  go_ret
  refine ⟨_, w.heap.size, rfl, ⟨?_, _, _, (Go.heap_alloc_old _ _ (by simp)).trans (heap_alloc_new _ _), rfl⟩, ((Below.refl _ _).alloc (Nat.le_refl _) _).alloc (by simp) _, by simp, Nat.le_refl _⟩
  have := heap_alloc_new (w.alloc (.map #[] 0)) (.cells #[.map (some w.heap.size), .int .i64 20, .int .i64 5000, .int .i64 0, .int .i64 0] 43)
  simpa using this
end
end Go.Proofs.YthocoonhoilmdaaGreatDoor
