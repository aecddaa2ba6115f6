/-
  A part of a small executor of the model, proved sound (21 of 35). No condition.
-/
import Derived.Test.YtiinlpdophgfjaaGreatDoorXMxG
import Derived.OpenShut
import Derived.LaidMore
import Derived.ProofKit
import Derived.Stop.Joined
import Derived.WideShapes
import Derived.Carry
import Derived.Test.YtiinlpdophgfjaaGreatDoorXMxQ
import Derived.ChangeSlices
import Derived.SliceStrings
namespace Go.Mx
noncomputable section
def tabV (k : IntKind) : List Int → V
  | [] => .nil
  | n :: r => .cons (.i k n) (tabV k r)
theorem ints_of_trod {P : Program} {w : World} {base : Nat} {sp : Nat → Bool} {held : Bool} {fuel t e n : Nat} {k : IntKind} {cs : List Value} {p : List MemPlace} {l : List Int}
    (ht : P.underlying t = some (.array n e)) (he : P.underlying e = some (.int k)) (hc : P.cellsOf e = 1) (hct : P.cellsOf t = n)
    (h : DataW.trod (fun _ => ()) P w base sp held fuel t cs = some (.agg (l.map fun x => .lit (.int k x)), p)) : cs = l.map fun x => Value.int k x := by
  obtain ⟨xs, m, _, hx, hlen, hn, hel⟩ := DataW.trod_array ht h
  simp only [Prod.mk.injEq, DataW.agg.injEq] at hx
  have hl : l.length = n := by
    have := congrArg List.length hx.1
    simpa [hn] using this
  rw [hct] at hlen
  apply List.ext_getElem?
  intro i
  by_cases hi : i < n
  · have h1 := hel i hi
    rw [hc, Nat.mul_one] at h1
    have hxi : xs[i]? = some xs[i] := List.getElem?_eq_getElem (by omega)
    rw [hxi] at h1
    obtain ⟨z, hz1, hz2, _⟩ := DataW.trod_int he h1
    have e1 : cs[i]? = some (.int k z) := by
      have := congrArg (·[0]?) hz1
      simpa [List.getElem?_take, List.getElem?_drop] using this
    have e2 : (l.map fun x => (DataW.lit (.int k x) : DataW Unit))[i]? = some (DataW.lit (.int k z)) := by
      rw [hx.1, List.getElem?_map, hxi, hz2]
      rfl
    rw [List.getElem?_map] at e2 ⊢
    rw [e1]
    cases hli : l[i]? with
    | none => rw [hli] at e2; cases e2
    | some y =>
      rw [hli] at e2
      simp only [Option.map_some, Option.some.injEq, DataW.lit.injEq, Lit.int.injEq] at e2
      simp [e2.2]
  · rw [List.getElem?_eq_none (by omega), List.getElem?_eq_none (by simp; omega)]
theorem table_of_laidVars {P : Program} {w : World} {name : String} {g t e n : Nat} {k : IntKind} {l : List Int} (hg : P.globalNamed name = some g) (hgt : (P.globals[g]?).map (·.type) = some t)
    (ht : P.underlying t = some (.array n e)) (he : P.underlying e = some (.int k)) (hc : P.cellsOf e = 1) (hct : P.cellsOf t = n) (hpos : 0 < n) :
    ∀ {L : List (String × DataW Unit)} {ps : List MemPlace}, DataW.LaidVars P w L ps → (name, DataW.agg (l.map fun x => .lit (.int k x))) ∈ L →
      (∀ b off, MemPlace.cell b off ∈ ps → ∃ c u, w.heap[b]? = some (.cells c u (0, 0))) → ∃ arr ty, w.heap[g]? = some (.cells arr ty (0, 0)) ∧ arr.toList = l.map fun x => Value.int k x
  | [], _, _, hm, _ => by cases hm
  | (nm, d) :: r, ps, h, hm, hb => by
    obtain ⟨g', t', cs, fuel, p, q, h1, h2, h3, h4, h5, rfl⟩ := h
    rcases List.mem_cons.1 hm with e1 | hm'
    · cases e1
      obtain rfl := Option.some.inj (hg.symm.trans h1)
      obtain rfl := Option.some.inj (hgt.symm.trans h2)
      have hcs := ints_of_trod ht he hc hct h4
      have hsz : 0 < cs.size := by
        obtain ⟨xs, m, _, _, hlen, _, _⟩ := DataW.trod_array ht h4
        rw [hct] at hlen
        have : cs.size = n := by simpa using hlen
        omega
      obtain ⟨c, u, hh⟩ := hb g 0 (by
        refine List.mem_append_left _ (List.mem_append_left _ ?_)
        simp only [MemPlace.row, List.mem_map, List.mem_range]
        exact ⟨0, hsz, by simp⟩)
      simp only [World.var?, hg, Option.bind_some, hh, Option.some.injEq] at h3
      subst h3
      exact ⟨_, _, hh, hcs⟩
    · exact table_of_laidVars hg hgt ht he hc hct hpos h5 hm' (fun b off hp => hb b off (List.mem_append_right _ hp))
theorem Stays.keptBut {W W' : World} (h : Stays W W') (may : MemPlace → Prop) : W.keptBut W' may := by
  refine ⟨h.os, h.output, fun i hi => ?_⟩
  rw [h.heap i hi]
  have := World.keptBut_refl W may
  exact this.2.2 i hi
end
end Go.Mx
namespace Go.Mx
open Go.ChangeShapes Go.WideShapes Go.RowKit
noncomputable section
theorem Stays.below {W W' : World} (h : Stays W W') : Below W.heap.size W W' := ⟨h.os, h.tape, h.output, h.size, h.heap⟩
end
end Go.Mx
namespace Go.Mx
open Go.ChangeShapes Go.WideShapes Go.RowKit
noncomputable section
end
end Go.Mx
namespace Go.Mx
open Go.ChangeShapes Go.WideShapes Go.RowKit
noncomputable section
theorem tbN_zero (i : Nat) : tbN 0 i = false := by
  show Nat.beq (Nat.land (Nat.shiftRight 0 i) 1) 1 = false
  have : Nat.land (Nat.shiftRight 0 i) 1 = 0 := by
    show (0 >>> i) &&& 1 = 0
    simp
  rw [this]
  rfl
end
end Go.Mx
namespace Go.Mx
open Go.ChangeShapes Go.WideShapes Go.RowKit
noncomputable section
theorem row_of_cells {W : World} {a : Addr} {cap : Nat} {f : Nat → Value} (h0 : 0 < cap) (all : ∀ i, i < cap → W.cell? (a.add i) = some (f i)) :
    a.spot = none ∧ ∃ arr ty fz, W.heap[a.block]? = some (.cells arr ty fz) ∧ a.off + cap ≤ arr.size ∧ ∀ i, i < cap → arr[a.off + i]? = some (f i) := by
  have hb0 := all 0 h0
  have hadd : ∀ i, a.spot = none → a.add i = ⟨a.block, a.off + i, none⟩ := by
    intro i hs
    obtain ⟨ab, ao, as⟩ := a
    simp only at hs
    subst hs
    simp [Addr.add]
  have hspot : a.spot = none := by
    have h1 := hb0
    have h2 : a.add 0 = a := by simp [Addr.add]
    rw [h2] at h1
    unfold World.cell? at h1
    split at h1
    · cases hs : a.spot with
      | none => rfl
      | some s => simp [hs] at h1
    · cases h1
  refine ⟨hspot, ?_⟩
  obtain ⟨arr, ty, fz, hblk⟩ : ∃ arr ty fz, W.heap[a.block]? = some (.cells arr ty fz) := by
    have h1 := hb0
    rw [hadd 0 hspot] at h1
    unfold World.cell? at h1
    split at h1
    · rename_i c u f hh
      exact ⟨c, u, f, hh⟩
    · cases h1
  have hget : ∀ i, i < cap → arr[a.off + i]? = some (f i) := by
    intro i hi
    have hcc := all i hi
    rw [hadd i hspot] at hcc
    simp only [World.cell?, hblk] at hcc
    simpa using hcc
  refine ⟨arr, ty, fz, hblk, ?_, hget⟩
  have := (Array.getElem?_eq_some_iff.1 (hget (cap - 1) (by omega))).1
  omega
theorem open_strslice {H : Type} {encH : TypeId × Value → H} {P : Program} {W : World} {t e : Nat} {v : Value} {d : DataW H} {ps : List MemPlace} (ht : P.underlying t = some (.slice e)) (he : P.underlying e = some .string) (hc : P.cellsOf e = 1)
    (hval : ∃ a len cap, v = .slice a len cap) (hd : DataW.Trod encH P W 0 (fun _ => true) true t v d ps) :
    v = .slice none 0 0 ∨ (∃ A c, v = .slice (some A) 0 c) ∨
      ∃ b off cap arr ty fz, ∃ l : List ByteArray, v = .slice (some ⟨b, off, none⟩) l.length cap ∧ 0 < l.length ∧ l.length ≤ cap ∧ W.heap[b]? = some (.cells arr ty fz) ∧ off + cap ≤ arr.size ∧ (arr.toList.drop off).take l.length = l.map Value.string ∧ ∀ s ∈ l, s.size ≤ 9223372036854775807 := by
  obtain ⟨a0, len0, cap0, rfl⟩ := hval
  obtain ⟨fuel, hd⟩ := hd
  rcases open_strings ht he hc hd with ⟨h, _⟩ | ⟨a, len, cap, ss, hcs, _, hle, _, hlen, _, hel, hwf⟩
  · left
    simpa [Value.cells] using h
  · have hv : (Value.slice a0 len0 cap0) = .slice (some a) len cap := by simpa [Value.cells] using hcs
    rw [hv]
    right
    by_cases h0 : len = 0
    · subst h0
      exact .inl ⟨a, cap, rfl⟩
    · refine .inr ?_
      rw [if_pos rfl] at hlen
      obtain ⟨hspot, arr, ty, fz, hblk, hsz, hget⟩ := row_of_cells (f := fun i => .string (ss.getD i ByteArray.empty)) (show 0 < cap by omega) (fun i hi => hel i (by omega))
      have hl : (ss.take len).length = len := by rw [List.length_take]; omega
      refine ⟨a.block, a.off, cap, arr, ty, fz, ss.take len, ?_, by omega, by omega, hblk, hsz, ?_, fun s hs => hwf s (List.mem_of_mem_take hs)⟩
      · rw [hl]
        obtain ⟨ab, ao, as⟩ := a
        simp only at hspot
        subst hspot
        rfl
      · rw [hl]
        apply List.ext_getElem?
        intro i
        by_cases hi : i < len
        · rw [List.getElem?_take_of_lt hi, List.getElem?_drop, Array.getElem?_toList, hget i (by omega), List.getElem?_map, List.getElem?_take_of_lt hi, List.getElem?_eq_getElem (by omega)]
          simp [List.getD, List.getElem?_eq_getElem (show i < ss.length by omega)]
        · rw [List.getElem?_eq_none (by simp; omega), List.getElem?_eq_none (by simp; omega)]
def strsR (ng b off sz : Nat) (vals : List Nat) : Ren := fun i => if i = ng then some ⟨b, off, sz⟩ else if i < ng then none else (vals[i - (ng + 1)]?).map fun n => ⟨0, n, 0⟩
theorem strsR_in {ng b off sz : Nat} {vals : List Nat} : ∀ i L, strsR ng b off sz vals i = some L → ng ≤ i ∧ i < ng + 1 + vals.length := by
  intro i L h
  unfold strsR at h
  split at h
  · omega
  · split at h
    · cases h
    · cases e : vals[i - (ng + 1)]? with
      | none => rw [e] at h; cases h
      | some x => have := (List.getElem?_eq_some_iff.1 e).1; omega
theorem strsR_at {ng b off sz : Nat} {vals : List Nat} {j n : Nat} (h : vals[j]? = some n) : ∃ L, strsR ng b off sz vals (ng + 1 + j) = some L ∧ L.base = n := by
  refine ⟨⟨0, n, 0⟩, ?_, rfl⟩
  unfold strsR
  rw [if_neg (by omega), if_neg (by omega), show ng + 1 + j - (ng + 1) = j by omega, h]
  rfl
def elV (a lo hi : Nat) : V := .o 0 (.cons (.o 1 (.m 0) a lo hi) .nil) 0 0 0
theorem VR_el {ρ : Ren} {a lo hi : Nat} {s : ByteArray} (h : lo ≤ s.size ∧ s.size ≤ hi) (ha : ∃ L, ρ a = some L ∧ L.base = enc s.data.toList) : VR ρ (elV a lo hi) (.string s) := by
  obtain ⟨L, h1, h2⟩ := ha
  refine VR_rope ?_
  simp only [RR, PR]
  exact ⟨s.data.toList, [], .inl ⟨trivial, L, h1, h2, h.1, h.2, fun c _ => tbN_zero _, trivial⟩, rfl, by simp⟩
def elsV (lo hi n : Nat) : Nat → V → V := Nat.rec (motive := fun _ => Nat → V → V) (fun _ r => r) (fun _ ih a r => .cons (elV a lo hi) (ih (Nat.succ a) r)) n
theorem VRs_els {ρ : Ren} {lo hi : Nat} {r : V} {rs : List Value} (hr : VRs ρ r rs) : ∀ (l : List ByteArray) (i : Nat), (∀ s ∈ l, lo ≤ s.size ∧ s.size ≤ hi) → (∀ (j : Nat) s, l[j]? = some s → ∃ L, ρ (i + j) = some L ∧ L.base = enc s.data.toList) →
    VRs ρ (elsV lo hi l.length i r) (l.map Value.string ++ rs) := by
  intro l
  induction l with
  | nil => intro i _ _; exact hr
  | cons s l ih =>
    intro i h1 h2
    show VRs ρ (.cons (elV i lo hi) (elsV lo hi l.length (Nat.succ i) r)) (.string s :: (l.map Value.string ++ rs))
    simp only [VRs]
    exact ⟨_, _, rfl, VR_el (h1 s (List.mem_cons_self ..)) (h2 0 s rfl), ih (Nat.succ i) (fun q hq => h1 q (List.mem_cons_of_mem _ hq)) fun j q hj => by
      rw [show Nat.succ i + j = i + (j + 1) by omega]
      exact h2 (j + 1) q hj⟩
theorem strs_V {ng b off sz cap n : Nat} {vals : List Nat} (h1 : n ≤ cap) (h2 : off + cap ≤ sz) : VR (strsR ng b off sz vals) (.sl ng 0 n 1) (.slice (some ⟨b, off, none⟩) n cap) := by
  simp only [VR]
  exact ⟨⟨b, off, sz⟩, cap, by simp [strsR], h1, by show off + 0 + cap * 1 ≤ sz; omega, rfl⟩
theorem strs_ob {ng b off ty nx : Nat} {W : World} {arr : Array Value} {fz : Nat × Nat} {vals : List Nat} {x : V} {vs rest : List Value} (hnx : ng < nx) (hblk : W.heap[b]? = some (.cells arr ty fz)) (hoff : off ≤ arr.size)
    (hcs : arr.toList.drop off = vs ++ rest) (hx : VRs (strsR ng b off arr.size vals) x vs) :
    ∀ i, (gt O.none i (putO [(ng, .c x ty false)] .leaf)).live → (ng ≤ i ∧ i < nx ∧ ¬ (gt O.none i (putO [(ng, .c x ty false)] .leaf)).wr) ∧
      ∀ L, strsR ng b off arr.size vals i = some L → ∃ o, W.heap[L.blk]? = some o ∧ OR (strsR ng b off arr.size vals) L (gt O.none i (putO [(ng, .c x ty false)] .leaf)) o := by
  intro i hlv
  have e : gt O.none i (putO [(ng, .c x ty false)] (.leaf : T O)) = if i = ng then .c x ty false else O.none := by
    show gt O.none i (st O.none (.c x ty false) ng .leaf) = _
    by_cases hin : i = ng
    · subst hin
      rw [gt_st_same, if_pos rfl]
    · rw [gt_st_ne _ _ (Ne.symm hin), gt_leaf, if_neg hin]
  rw [e] at hlv ⊢
  by_cases hin : i = ng
  · subst hin
    rw [if_pos rfl]
    refine ⟨⟨Nat.le_refl _, hnx, fun hw => Bool.noConfusion (show false = true from hw)⟩, fun L hL => ?_⟩
    have : L = ⟨b, off, arr.size⟩ := by simpa [strsR, eq_comm] using hL
    subst this
    exact ⟨_, hblk, arr, fz, rfl, rfl, (fun hf => by cases hf), hoff, by show CR _ x (arr.toList.drop off); rw [hcs]; exact hx.CR _⟩
  · rw [if_neg hin] at hlv
    exact hlv.elim
end
end Go.Mx
namespace Go.Mx
noncomputable section
variable {ρ : Ren}
end
end Go.Mx
