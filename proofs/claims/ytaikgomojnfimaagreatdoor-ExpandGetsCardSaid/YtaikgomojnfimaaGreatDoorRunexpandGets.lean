/-
  Arguments opened, with what their sizes say; what is laid.
-/
import Derived.Test.YtaikgomojnfimaaGreatDoorEgW
import Derived.SliceStrings
import Derived.Deep.SlicePairs
import Derived.LaidLaws
import Derived.Shelf.Vars
import Derived.Test.YtaikgomojnfimaaGreatDoorXRowK6
import Derived.Test.YtaikgomojnfimaaGreatDoorXRowK6
open Go Go.Mx Go.ChangeShapes Go.WideShapes Go.RowKit
namespace Go.Proofs.YtaikgomojnfimaaGreatDoor
set_option maxRecDepth 100000
noncomputable section
/-! what is laid and what a reading's sizes say -/
def powL : List Int := [1, 10, 100, 1000, 10000, 100000, 1000000, 10000000, 100000000, 1000000000, 10000000000, 100000000000, 1000000000000, 10000000000000, 100000000000000, 1000000000000000, 10000000000000000, 100000000000000000, 1000000000000000000, 10000000000000000000]
theorem gPow : Tryz.prog.globalNamed "internal/strconv.uint64pow10" = some 3 := by kernel_rfl
theorem gPowT : (Tryz.prog.globals[3]?).map (·.type) = some 134 := by kernel_rfl
theorem uPow : Tryz.prog.underlying 134 = some (.array 20 112) := by kernel_rfl
theorem uU64 : Tryz.prog.underlying 112 = some (.int .u64) := by kernel_rfl
theorem cU64 : Tryz.prog.cellsOf 112 = 1 := by kernel_rfl
theorem cPow : Tryz.prog.cellsOf 134 = 20 := by kernel_rfl
theorem powL_eq : (powL.map fun x => Value.int .u64 x) = Lib.pow10Tab.map fun n => Value.int .u64 n := by kernel_rfl
theorem gEr : Tryz.prog.globalNamed "strconv.ErrRange" = some 1 := by kernel_rfl
theorem gErT : (Tryz.prog.globals[1]?).map (·.type) = some 62 := by kernel_rfl
def isIface : Option TypeDesc → Bool | some (.interface _) => true | _ => false
def fieldsOf : Option TypeDesc → List (Nat × TypeId) | some (.struct fs) => fs.toList.map fun f => (f.offset, f.type) | _ => []
theorem uEr : isIface (Tryz.prog.underlying 62) = true := by kernel_rfl
theorem iface_is {d : Option TypeDesc} (h : isIface d = true) : ∃ ms, d = some (.interface ms) := by
  unfold isIface at h
  split at h
  · exact ⟨_, rfl⟩
  · cases h
theorem iface_of_laidVars {P : Program} {w : World} {name nm : String} {g t : Nat} {ms : Array (String × TypeId)} {d : DataW Unit} (hg : P.globalNamed name = some g) (hgt : (P.globals[g]?).map (·.type) = some t) (hi : P.underlying t = some (.interface ms)) :
    ∀ {L : List (String × DataW Unit)} {ps : List MemPlace}, DataW.LaidVars P w L ps → (name, DataW.iface nm d) ∈ L → ∃ u v, w.cell? ⟨g, 0, none⟩ = some (.iface u v)
  | [], _, _, hm => by cases hm
  | (nm', d') :: r, ps, h, hm => by
    obtain ⟨g', t', cs, fuel, p, q, h1, h2, h3, h4, h5, rfl⟩ := h
    rcases List.mem_cons.1 hm with e1 | hm'
    · cases e1
      obtain rfl := Option.some.inj (hg.symm.trans h1)
      obtain rfl := Option.some.inj (hgt.symm.trans h2)
      obtain ⟨_, u, v, hcs, _⟩ := iface_of_trod hi h4
      refine ⟨u, v, ?_⟩
      simp only [World.var?, hg, Option.bind_some] at h3
      unfold World.cell?
      split at h3
      · rename_i c _ _ hh
        injection h3 with h3
        subst h3
        rw [hh]
        have : c[0]? = c.toList[0]? := by simp
        simp [this, hcs]
      · cases h3
    · exact iface_of_laidVars hg hgt hi h5 hm'
theorem laidW_of {lst : List (String × DataW Unit)} (plain : (lst.all fun x => x.2.handleName?.isNone) = true) (powIn : ("internal/strconv.uint64pow10", DataW.agg (powL.map fun x => (DataW.lit (.int .u64 x) : DataW Unit))) ∈ lst) {nm : String} {d : DataW Unit} (errIn : ("strconv.ErrRange", DataW.iface nm d) ∈ lst) {W : World} (h : laidMetH Tryz.prog lst W) : LaidW W := by
  rw [MakeChecks.laidMetH_plain _ _ _ plain] at h
  obtain ⟨ps, h1, _, h3⟩ := h
  obtain ⟨arr, ty, g1, g2⟩ := table_of_laidVars gPow gPowT uPow uU64 cU64 cPow (by decide) h1 powIn (fun b off hp => (h3 b off hp).1)
  obtain ⟨ms, hi⟩ := iface_is uEr
  exact ⟨⟨arr, ty, g1, by rw [g2]; exact powL_eq⟩, iface_of_laidVars gEr gErT hi h1 errIn⟩
theorem weights_part {H : Type} {P : Program} {e : TypeId} {p : Nat → Bool} {d : DataW H} : ∀ {l : List (DataW H)}, (DataW.weightsAll P e l).all p = true → d ∈ l → (d.weights P e).all p = true
  | [], _, hm => by cases hm
  | x :: r, h, hm => by
    simp only [DataW.weightsAll, List.all_append, Bool.and_eq_true] at h
    rcases List.mem_cons.1 hm with rfl | hm
    · exact h.1
    · exact weights_part h.2 hm
theorem weights_two {H : Type} {P : Program} {t0 t1 : TypeId} {ts : List TypeId} {d0 d1 : DataW H} {ds : List (DataW H)} {p : Nat → Bool} (h : (DataW.weightsEach P (t0 :: t1 :: ts) (d0 :: d1 :: ds)).all p = true) : (d0.weights P t0).all p = true ∧ (d1.weights P t1).all p = true := by
  simp only [DataW.weightsEach, List.all_append, Bool.and_eq_true] at h
  exact ⟨h.1, h.2.1⟩
theorem weights_elem {H : Type} {P : Program} {t e : TypeId} {p : Nat → Bool} {elems spare : List (DataW H)} (ht : P.underlying t = some (.slice e)) (h : ((DataW.slice elems spare).weights P t).all p = true) {d : DataW H} (hd : d ∈ elems) : (d.weights P e).all p = true := by
  simp only [DataW.weights, ht, List.all_cons, List.all_append, Bool.and_eq_true] at h
  exact weights_part h.2.1 hd
theorem weight_str {H : Type} {P : Program} {t : TypeId} {s : List UInt8} (h : ((DataW.lit (.string s) : DataW H).weights P t).all (· ≤ reachBytes) = true) : s.length ≤ 140737488355328 := by
  simp only [DataW.weights, List.all_cons, List.all_nil, Bool.and_true, decide_eq_true_eq] at h
  unfold reachBytes at h
  omega
theorem two_fields {d : Option TypeDesc} {t : TypeId} (h : fieldsOf d = [(0, t), (1, t)]) : ∃ f0 f1, d = some (.struct #[f0, f1]) ∧ f0.offset = 0 ∧ f1.offset = 1 ∧ f0.type = t ∧ f1.type = t := by
  unfold fieldsOf at h
  split at h
  · rename_i fs
    match hf : fs.toList, h with
    | [f0, f1], h =>
      simp at h
      refine ⟨f0, f1, ?_, h.1.1, h.2.1, h.1.2, h.2.2⟩
      have : fs = #[f0, f1] := by
        apply Array.toList_inj.1
        rw [hf]
      rw [this]
    | [], h => cases h
    | [_], h => simp at h
    | _ :: _ :: _ :: _, h => simp at h
  · cases h
theorem open_texts {H : Type} {encH : TypeId × Value → H} {P : Program} {W : World} {t e : Nat} {v : Value} {d : DataW H} {ps : List MemPlace} (ht : P.underlying t = some (.slice e)) (he : P.underlying e = some .string) (hc : P.cellsOf e = 1)
    (hval : ∃ a len cap, v = .slice a len cap) (hd : DataW.Trod encH P W 0 (fun _ => true) true t v d ps) (hw : (d.weights P t).all (· ≤ reachBytes) = true) :
    ∃ (o : Option Addr) (cap : Nat) (l : List ByteArray), v = .slice o l.length cap ∧ TextsAt W o l ∧ (∀ s ∈ l, s.size ≤ 140737488355328) ∧ l.length ≤ cap := by
  obtain ⟨a0, len0, cap0, rfl⟩ := hval
  obtain ⟨fuel, hd⟩ := hd
  rcases open_strings ht he hc hd with ⟨h, _⟩ | ⟨a, len, cap, ss, hcs, _, hle, _, hlen, hx, hel, _⟩
  · have h2 : Value.slice a0 len0 cap0 = .slice none 0 0 := by simpa [Value.cells] using h
    exact ⟨none, 0, [], h2, .inl rfl, by simp, Nat.le_refl _⟩
  · have hv : (Value.slice a0 len0 cap0) = .slice (some a) len cap := by simpa [Value.cells] using hcs
    rw [hv]
    rw [if_pos rfl] at hlen
    have hl : (ss.take len).length = len := by rw [List.length_take]; omega
    have hd2 : d = .slice (strs (ss.take len)) (strs (ss.drop len)) := congrArg Prod.fst hx
    subst hd2
    have hsz : ∀ s ∈ ss.take len, s.size ≤ 140737488355328 := fun s hs => weight_str (weights_elem ht hw (List.mem_map.2 ⟨s, hs, rfl⟩))
    refine ⟨some a, cap, ss.take len, by rw [hl], ?_, hsz, by rw [hl]; exact hle⟩
    by_cases h0 : len = 0
    · subst h0
      exact .inl (List.take_zero ..)
    · obtain ⟨hspot, arr, ty, fz, hblk, hsz', hget⟩ := row_of_cells (f := fun i => .string (ss.getD i ByteArray.empty)) (show 0 < cap by omega) (fun i hi => hel i (by omega))
      refine .inr ⟨a.block, a.off, ?_, (Array.getElem?_eq_some_iff.1 hblk).1, fun k hkl => ?_⟩
      · obtain ⟨ab, ao, asp⟩ := a
        simp only at hspot
        subst hspot
        rfl
      · have h1 := hget k (by omega)
        unfold World.cell?
        simp only [hblk]
        rw [h1]
        simp [List.getD, List.getElem?_eq_getElem (show k < ss.length by omega)]
theorem strs_of {H : Type} {n : Nat} {V : Nat → Value} {D : Nat → DataW H} (h : ∀ i, i < n → ∃ s : ByteArray, V i = .string s ∧ D i = .lit (.string s.data.toList)) : ∃ S : Nat → ByteArray, ∀ i, i < n → V i = .string (S i) ∧ D i = .lit (.string (S i).data.toList) := by
  classical
  refine ⟨fun i => if h1 : i < n then Classical.choose (h i h1) else ⟨#[]⟩, fun i hi => ?_⟩
  simp only [dif_pos hi]
  exact Classical.choose_spec (h i hi)
theorem open_pairs {H : Type} {encH : TypeId × Value → H} {P : Program} {W : World} {t e ts : Nat} {v : Value} {d : DataW H} {ps : List MemPlace} (ht : P.underlying t = some (.slice e)) (he : fieldsOf (P.underlying e) = [(0, ts), (1, ts)]) (hc : P.cellsOf e = 2) (hts : P.underlying ts = some .string) (hcs : P.cellsOf ts = 1)
    (hval : ∃ a len cap, v = .slice a len cap) (hd : DataW.Trod encH P W 0 (fun _ => true) true t v d ps) (hw : (d.weights P t).all (· ≤ reachBytes) = true) :
    ∃ (o : Option Addr) (cap : Nat) (l : ML), v = .slice o l.length cap ∧ PairsAt W o l ∧ (∀ x ∈ l, x.1.size ≤ 140737488355328 ∧ x.2.size ≤ 140737488355328) := by
  obtain ⟨f0, f1, hst, o0, o1, y0, y1⟩ := two_fields he
  obtain ⟨a0, len0, cap0, rfl⟩ := hval
  obtain ⟨fuel, hd⟩ := hd
  rcases Go.Deep.open_slice_pairs ht hst hc o0 o1 (by rw [y0]; exact hcs) (by rw [y1]; exact hcs) hd with ⟨h, _⟩ | ⟨a, len, cap, m, n, V0, V1, D0, D1, P0, P1, hcv, _, hle, _, hm, hx, hall⟩
  · have h2 : Value.slice a0 len0 cap0 = .slice none 0 0 := by simpa [Value.cells] using h
    exact ⟨none, 0, [], h2, .inl rfl, by simp⟩
  · have hv : (Value.slice a0 len0 cap0) = .slice (some a) len cap := by simpa [Value.cells] using hcv
    rw [hv]
    rw [if_pos rfl] at hm
    subst hm
    obtain ⟨S0, hS0⟩ := strs_of (n := m) (V := V0) (D := D0) fun i hi => by
      obtain ⟨_, _, h3, _⟩ := hall i hi
      rw [y0] at h3
      obtain ⟨s, e1, e2, _⟩ := DataW.trod_string hts h3
      injection e1 with e1
      injection e2 with e2
      exact ⟨s, e1, e2⟩
    obtain ⟨S1, hS1⟩ := strs_of (n := m) (V := V1) (D := D1) fun i hi => by
      obtain ⟨_, _, _, h3⟩ := hall i hi
      rw [y1] at h3
      obtain ⟨s, e1, e2, _⟩ := DataW.trod_string hts h3
      injection e1 with e1
      injection e2 with e2
      exact ⟨s, e1, e2⟩
    have hd2 := congrArg Prod.fst hx
    simp only at hd2
    subst hd2
    have hl : ((List.range len).map fun i => (S0 i, S1 i)).length = len := by simp
    have hsz : ∀ x ∈ ((List.range len).map fun i => (S0 i, S1 i)), x.1.size ≤ 140737488355328 ∧ x.2.size ≤ 140737488355328 := fun x hx => by
      obtain ⟨i, hi, rfl⟩ := List.mem_map.1 hx
      have hi2 := List.mem_range.1 hi
      have h4 := weights_elem ht hw (List.mem_map.2 ⟨i, hi, rfl⟩)
      rw [(hS0 i (by omega)).2, (hS1 i (by omega)).2] at h4
      simp only [DataW.weights, hst, DataW.weightsEach, List.map_cons, List.map_nil, List.all_cons, List.all_nil, Bool.and_true, Bool.and_eq_true, decide_eq_true_eq, List.cons_append, List.nil_append] at h4
      unfold reachBytes at h4
      have h5 : (S0 i).data.toList.length = (S0 i).size := rfl
      have h6 : (S1 i).data.toList.length = (S1 i).size := rfl
      show (S0 i).size ≤ _ ∧ (S1 i).size ≤ _
      omega
    refine ⟨some a, m, (List.range len).map fun i => (S0 i, S1 i), by rw [hl], ?_, hsz⟩
    by_cases h0 : len = 0
    · subst h0
      exact .inl rfl
    · have h1 := (hall 0 (by omega)).1
      have hspot : a.spot = none ∧ a.block < W.heap.size := by
        have h2 : a.add (0 * 2) = a := by simp [Addr.add]
        rw [h2] at h1
        refine ⟨?_, Lib.lt_of_cell h1⟩
        unfold World.cell? at h1
        split at h1
        · cases hs : a.spot with
          | none => rfl
          | some _ => rename_i hh _; simp [hs] at h1
        · cases h1
      obtain ⟨ab, ao, asp⟩ := a
      simp only at hspot
      obtain ⟨rfl, hb⟩ := hspot
      refine .inr ⟨ab, ao, rfl, hb, fun i hi => ?_⟩
      rw [hl] at hi
      obtain ⟨h2, h3, _, _⟩ := hall i (by omega)
      rw [(hS0 i (by omega)).1] at h2
      rw [(hS1 i (by omega)).1] at h3
      simp only [List.getElem_map, List.getElem_range]
      have e2 : ∀ k, (⟨ab, ao, none⟩ : Addr).add k = ⟨ab, ao + k, none⟩ := fun k => by simp [Addr.add]
      rw [e2] at h2 h3
      exact ⟨h2, h3⟩
end
end Go.Proofs.YtaikgomojnfimaaGreatDoor
