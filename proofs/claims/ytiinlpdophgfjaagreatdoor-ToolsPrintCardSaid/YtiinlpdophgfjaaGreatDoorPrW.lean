/-
  What printf tells of such arguments, walked.
-/
import Derived.Test.YtiinlpdophgfjaaGreatDoorProg
import Derived.Test.YtiinlpdophgfjaaGreatDoorXMxBA
import Derived.WalkKit
import Derived.WalkSpells
import Derived.StillTactics
import Derived.LoopIn
import Derived.RowKit3
import Derived.Below
import Derived.OwnWalk
import Derived.Lib.BufSteps
open Go Go.Mx Go.RowKit
namespace Go.Proofs.YtiinlpdophgfjaaGreatDoor
noncomputable section
theorem pr_info5 : (Tryz.prog.info? 5).map (fun i => (i.zero, i.size, i.bytes)) = some (some (.int .u8 0), 1, 1) := by kernel_rfl
theorem pr_t9 : Tryz.prog.underlying 9 = some .string := by kernel_rfl
theorem pr_t22 : Tryz.prog.underlying 25 = some (.slice 5) := by kernel_rfl
theorem setCell_same {w : World} {b o : Nat} {v : Value} {arr : Array Value} {ty : TypeId} {fz : Nat × Nat} (hh : w.heap[b]? = some (.cells arr ty fz)) : (w.setCell ⟨b, o, none⟩ v).heap[b]? = some (.cells (arr.setIfInBounds o v) ty fz) := by
  unfold World.setCell
  show (w.heap.modify b _)[b]? = _
  rw [Array.getElem?_modify, if_pos rfl, hh]
  rfl
theorem setCell_other {w : World} {b o j : Nat} {v : Value} (h : j ≠ b) : (w.setCell ⟨b, o, none⟩ v).heap[j]? = w.heap[j]? := by
  unfold World.setCell
  show (w.heap.modify b _)[j]? = _
  rw [Array.getElem?_modify, if_neg (Ne.symm h)]
theorem setCell_size {w : World} {b o : Nat} {v : Value} : (w.setCell ⟨b, o, none⟩ v).heap.size = w.heap.size := by
  unfold World.setCell
  show (w.heap.modify b _).size = _
  simp
/-- the utility's fields and what is told by now -/
structure PS (w0 w : World) (ub o : Nat) (arr : Array Value) (ty : TypeId) (fz : Nat × Nat) (A : Value) (ob : List UInt8) : Prop where
  u : ∃ O, w.heap[ub]? = some (.cells ((arr.setIfInBounds (o + 3) A).setIfInBounds (o + 6) O) ty fz) ∧ w.ownsRowF w0.heap.size 5 1 O ob.length (ob.map Mx.byteV)
  lt : ub < w0.heap.size
  i6 : o + 6 < arr.size
  fr : Mx.free arr.size fz
  size : w0.heap.size ≤ w.heap.size
  old : ∀ j, j < w0.heap.size → j ≠ ub → w.heap[j]? = w0.heap[j]?
  os : w.os = w0.os
  tape : w.tape = w0.tape
  output : w.output = w0.output
section
variable {w0 w : World} {ub o : Nat} {arr : Array Value} {ty : TypeId} {fz : Nat × Nat} {A : Value} {ob : List UInt8}
theorem cell_at {b i : Nat} {a : Array Value} (hh : w.heap[b]? = some (.cells a ty fz)) : w.cell? ⟨b, i, none⟩ = a[i]? := by
  unfold World.cell?
  simp [hh]
theorem PS.c3 (h : PS w0 w ub o arr ty fz A ob) : w.cell? ⟨ub, o + 3, none⟩ = some A := by
  obtain ⟨O, hu, _⟩ := h.u
  have := h.i6
  rw [cell_at hu, Array.getElem?_setIfInBounds_ne (by omega), Array.getElem?_setIfInBounds, if_pos rfl, if_pos (by omega)]
theorem PS.nf (h : PS w0 w ub o arr ty fz A ob) {w' : World} {a : Array Value} {t : TypeId} (hh : w'.heap[ub]? = some (.cells a t fz)) (_hs : a.size = arr.size) {i : Nat} (hi : i ≤ 6) : w'.frozen? ⟨ub, o + i, none⟩ = false := by
  have h1 := h.fr (o + i) (by have := h.i6; omega)
  unfold World.frozen?
  simp only [hh]
  cases e1 : decide (fz.1 ≤ o + i) with
  | false => rfl
  | true =>
    rw [Bool.true_and]
    exact decide_eq_false fun h2 => h1 ⟨of_decide_eq_true e1, .inl h2⟩
theorem PS.nf0 (h : PS w0 w ub o arr ty fz A ob) {i : Nat} (hi : i ≤ 6) : w.frozen? ⟨ub, o + i, none⟩ = false := by
  obtain ⟨O, hu, _⟩ := h.u
  exact h.nf hu (by simp) hi
theorem own_other {w w' : World} {B : Nat} {O : Value} {n : Nat} {xs : List Value} (hown : w.ownsRowF B 5 1 O n xs) (h : ∀ j, B ≤ j → w'.heap[j]? = w.heap[j]?) : w'.ownsRowF B 5 1 O n xs := by
  refine ⟨hown.1, ?_⟩
  rcases hown.2 with hn | ⟨g, cap, cur, fz, rfl, hb, hg, rest⟩
  · exact .inl hn
  · exact .inr ⟨g, cap, cur, fz, rfl, hb, by rw [h g hb]; exact hg, rest⟩
theorem PS.set3 (h : PS w0 w ub o arr ty fz A ob) (A' : Value) : PS w0 (w.setCell ⟨ub, o + 3, none⟩ A') ub o arr ty fz A' ob := by
  obtain ⟨O, hu, hown⟩ := h.u
  have hlt := h.lt
  refine ⟨⟨O, ?_, own_other hown fun j hj => setCell_other (by omega)⟩, h.lt, h.i6, h.fr, by rw [setCell_size]; exact h.size, fun j h1 h2 => by rw [setCell_other h2]; exact h.old j h1 h2, h.os, h.tape, h.output⟩
  rw [setCell_same hu]
  congr 1
  congr 1
  apply Array.ext_getElem?
  intro i
  simp only [Array.getElem?_setIfInBounds, Array.size_setIfInBounds]
  by_cases e1 : o + 3 = i
  · subst e1
    simp
  · by_cases e2 : o + 6 = i
    · subst e2; simp
    · simp [e1, e2]
theorem PS.below (h : PS w0 w ub o arr ty fz A ob) {w' : World} (hb : Below w.heap.size w w') : PS w0 w' ub o arr ty fz A ob := by
  obtain ⟨O, hu, hown⟩ := h.u
  have hs := h.size
  have hlt := h.lt
  refine ⟨⟨O, by rw [hb.block ub (by omega)]; exact hu, ?_⟩, h.lt, h.i6, h.fr, Nat.le_trans hs hb.size, fun j h1 h2 => by rw [hb.block j (by omega)]; exact h.old j h1 h2, hb.os.trans h.os, hb.tape.trans h.tape, hb.output.trans h.output⟩
  refine ⟨hown.1, ?_⟩
  rcases hown.2 with hn | ⟨g, cap, cur, fz, rfl, hb2, hg, rest⟩
  · exact .inl hn
  · exact .inr ⟨g, cap, cur, fz, rfl, hb2, by rw [hb.block g (Array.getElem?_eq_some_iff.1 hg).1]; exact hg, rest⟩
theorem PS.app (h : PS w0 w ub o arr ty fz A ob) {w1 : World} {v : Value} {cs : List UInt8} (hb : Lib.OwnBuf w0.heap.size 5 v (ob.length + cs.length) (ob.map Mx.byteV ++ cs.map Mx.byteV) w w1) : PS w0 (w1.setCell ⟨ub, o + 6, none⟩ v) ub o arr ty fz A (ob ++ cs) := by
  obtain ⟨O, hu, _⟩ := h.u
  obtain ⟨h1, h2, h3⟩ := hb
  have hlt := h.lt
  have hu1 : w1.heap[ub]? = some (.cells ((arr.setIfInBounds (o + 3) A).setIfInBounds (o + 6) O) ty fz) := by rw [h2.block ub hlt]; exact hu
  refine ⟨⟨v, ?_, ?_⟩, h.lt, h.i6, h.fr, by rw [setCell_size]; exact h3, fun j g1 g2 => by rw [setCell_other g2, h2.block j g1]; exact h.old j g1 g2, h2.os.trans h.os, h2.tape.trans h.tape, h2.output.trans h.output⟩
  · rw [setCell_same hu1, Array.setIfInBounds_setIfInBounds]
  · rw [List.length_append, List.map_append]
    exact own_other h1 fun j hj => setCell_other (by omega)
end
theorem strCells_eq (s : ByteArray) : Lib.strCells s = s.data.toList.map Mx.byteV := rfl
set_option maxHeartbeats 1600000 in
set_option maxRecDepth 100000 in
theorem say_any {w0 w : World} {ub o : Nat} {arr : Array Value} {ty : TypeId} {fz : Nat × Nat} {A : Value} {ob : List UInt8} (h : PS w0 w ub o arr ty fz A ob) (s : ByteArray) (hl : ob.length + s.size ≤ 1000000) :
    Calls Tryz.prog 26 #[.pointer (some ⟨ub, o, none⟩), .string s] w fun e w' => e = .returned (.tuple #[]) ∧ PS w0 w' ub o arr ty fz A (ob ++ s.data.toList) := by
  obtain ⟨i0, hi, hz0, hz1, hz2⟩ := info_parts pr_info5
  obtain ⟨O, hu, hown⟩ := h.u
  have hlt := h.lt
  have c6 : w.cell? ⟨ub, o + 5 + 1, none⟩ = some O := by
    have := h.i6
    show w.cell? ⟨ub, o + 6, none⟩ = some O
    rw [cell_at hu, Array.getElem?_setIfInBounds, if_pos rfl, if_pos (by simpa using this)]
  have hbuf : Lib.OwnBuf w0.heap.size 5 O ob.length (ob.map Mx.byteV) w w := ⟨hown, Below.refl _ _, h.size⟩
  go_enter Tryz.func26, Tryz.ntmps26
  go_wp2_with (at_builtin; refine Lib.wpList_append_text rfl _ _ 25 9 rfl w0.heap.size 5 i0 pr_t22 pr_t9 hi hz0 hz1 hz2 O ob.length _ rfl w (by exact hbuf) s rfl (by omega) ?_)
  intro v1 w1 hb1
  have hv1 : v1 = .slice none 0 0 ∨ ∃ g cap, v1 = .slice (some ⟨g, 0, none⟩) (ob.length + s.size) cap := by
    rcases hb1.1.2 with ⟨e, _⟩ | ⟨g, cap, cur, fz', e, _⟩
    · exact .inl e
    · exact .inr ⟨g, cap, e⟩
  have hu1 : w1.heap[ub]? = some (.cells ((arr.setIfInBounds (o + 3) A).setIfInBounds (o + 6) O) ty fz) := by rw [hb1.2.1.block ub hlt]; exact hu
  have hf1 : w1.frozen? ⟨ub, o + 5 + 1, none⟩ = false := h.nf (i := 6) hu1 (by simp) (by omega)
  have hc1 : w1.cell? ⟨ub, o + 5 + 1, none⟩ = some O := by
    have := h.i6
    show w1.cell? ⟨ub, o + 6, none⟩ = some O
    rw [cell_at hu1, Array.getElem?_setIfInBounds, if_pos rfl, if_pos (by simpa using this)]
  rcases hv1 with rfl | ⟨g, cap, rfl⟩
  all_goals
    go_wp2
    go_end0
    exact ⟨rfl, h.app (cs := s.data.toList) hb1⟩
set_option maxHeartbeats 1600000 in
set_option maxRecDepth 100000 in
theorem next_any {w0 w : World} {ub o : Nat} {arr : Array Value} {ty : TypeId} {fz : Nat × Nat} {ob : List UInt8} {ab ao n cap : Nat} (hP : PS w0 w ub o arr ty fz (.slice (some ⟨ab, ao, none⟩) (n + 1) (cap + 1)) ob) (_hc : n ≤ cap) {s : ByteArray} (hs : w.cell? ⟨ab, ao, none⟩ = some (.string s)) :
    Calls Tryz.prog 29 #[.pointer (some ⟨ub, o, none⟩)] w fun e w' => e = .returned (.string s) ∧ PS w0 w' ub o arr ty fz (Mx.slN ab ao n cap) ob := by
  have c3 := hP.c3
  have hf3 := hP.nf0 (i := 3) (by omega)
  go_enter Tryz.func29, Tryz.ntmps29
  go_wp2
  all_goals go_ret
  · exact ⟨rfl, hP.set3 _⟩
  · refine ⟨rfl, ?_⟩
    rw [Mx.slN, if_neg h]
    exact hP.set3 _
theorem bytes_ne {t : ByteArray} {c : List UInt8} (h : t.data.toList ≠ c) : (t.toList == c) = false := by
  rw [Lib.toList_data]
  exact beq_eq_false_iff_ne.2 h
theorem may_any (p : Value) (x : ByteArray) (w : World) : Calls Tryz.prog 34 #[p, .string x, .int .i64 0] w fun e w' => e = .returned (.bool true) ∧ w' = w := by
  go_enter Tryz.func34, Tryz.ntmps34
  go_wp2
  go_ret
  exact ⟨rfl, rfl⟩
set_option maxHeartbeats 1600000 in
set_option maxRecDepth 100000 in
/-- what are no marks -/
theorem piece_no {w : World} (p : Value) (t : ByteArray) (h1 : t.data.toList ≠ [37, 115]) (h2 : t.data.toList ≠ [37, 100]) (h3 : t.data.toList ≠ [37, 37]) (h4 : t.data.toList ≠ [92, 110]) (h5 : t.data.toList ≠ [92, 116]) (h6 : t.data.toList ≠ [92, 92]) :
    Calls Tryz.prog 30 #[p, .string t] w fun e w' => e = .returned (.tuple #[.string ⟨#[]⟩, .bool false]) ∧ w' = w := by
  have q1 := bytes_ne h1
  have q2 := bytes_ne h2
  have q3 := bytes_ne h3
  have q4 := bytes_ne h4
  have q5 := bytes_ne h5
  have q6 := bytes_ne h6
  go_enter Tryz.func30, Tryz.ntmps30
  go_wp2
  go_ret2
  exact ⟨rfl, rfl⟩
set_option maxHeartbeats 1600000 in
theorem piece_pct {w : World} (p : Value) : Calls Tryz.prog 30 #[p, .string ⟨#[37, 37]⟩] w fun e w' => e = .returned (.tuple #[.string ⟨#[37]⟩, .bool true]) ∧ w' = w := by
  go_enter Tryz.func30, Tryz.ntmps30
  go_wp2
  go_ret2
  exact ⟨rfl, rfl⟩
set_option maxHeartbeats 1600000 in
theorem piece_n {w : World} (p : Value) : Calls Tryz.prog 30 #[p, .string ⟨#[92, 110]⟩] w fun e w' => e = .returned (.tuple #[.string ⟨#[10]⟩, .bool true]) ∧ w' = w := by
  go_enter Tryz.func30, Tryz.ntmps30
  go_wp2
  go_ret2
  exact ⟨rfl, rfl⟩
set_option maxHeartbeats 1600000 in
theorem piece_t {w : World} (p : Value) : Calls Tryz.prog 30 #[p, .string ⟨#[92, 116]⟩] w fun e w' => e = .returned (.tuple #[.string ⟨#[9]⟩, .bool true]) ∧ w' = w := by
  go_enter Tryz.func30, Tryz.ntmps30
  go_wp2
  go_ret2
  exact ⟨rfl, rfl⟩
set_option maxHeartbeats 1600000 in
set_option maxRecDepth 100000 in
theorem piece_s {w0 w : World} {ub o : Nat} {arr : Array Value} {ty : TypeId} {fz : Nat × Nat} {ob : List UInt8} {ab ao n cap : Nat} (h : PS w0 w ub o arr ty fz (.slice (some ⟨ab, ao, none⟩) (n + 1) (cap + 1)) ob) (hc : n ≤ cap) {s : ByteArray} (hs : w.cell? ⟨ab, ao, none⟩ = some (.string s)) :
    Calls Tryz.prog 30 #[.pointer (some ⟨ub, o, none⟩), .string ⟨#[37, 115]⟩] w fun e w' => e = .returned (.tuple #[.string s, .bool true]) ∧ PS w0 w' ub o arr ty fz (Mx.slN ab ao n cap) ob := by
  go_enter Tryz.func30, Tryz.ntmps30
  go_wp2_with fail
  go_at_call 29
  refine (next_any h hc hs).mono ?_
  rintro e w1 ⟨rfl, hp⟩
  go_wp2
  go_ret2
  exact ⟨rfl, hp⟩
set_option maxHeartbeats 1600000 in
set_option maxRecDepth 100000 in
theorem piece_d {w0 w : World} {ub o : Nat} {arr : Array Value} {ty : TypeId} {fz : Nat × Nat} {ob : List UInt8} {ab ao n cap : Nat} (h : PS w0 w ub o arr ty fz (.slice (some ⟨ab, ao, none⟩) (n + 1) (cap + 1)) ob) (hc : n ≤ cap) {k : Int} (hs : w.cell? ⟨ab, ao, none⟩ = some (.string ⟨(Lib.itoa k).toArray⟩))
    (hE : ∀ w, Calls Tryz.prog 60 #[.string ⟨(Lib.itoa k).toArray⟩, .slice none 0 0] w fun e w' => e = .returned (.tuple #[.int .i64 k, .int .i64 0]) ∧ Below w.heap.size w w')
    (hI : ∀ w' : World, PS w0 w' ub o arr ty fz (Mx.slN ab ao n cap) ob → Calls Tryz.prog 59 #[.int .i64 k] w' fun e w'' => e = .returned (.string ⟨(Lib.itoa k).toArray⟩) ∧ Below w'.heap.size w' w'') :
    Calls Tryz.prog 30 #[.pointer (some ⟨ub, o, none⟩), .string ⟨#[37, 100]⟩] w fun e w' => e = .returned (.tuple #[.string ⟨(Lib.itoa k).toArray⟩, .bool true]) ∧ PS w0 w' ub o arr ty fz (Mx.slN ab ao n cap) ob := by
  go_enter Tryz.func30, Tryz.ntmps30
  go_wp2_with fail
  go_at_call 29
  refine (next_any h hc hs).mono ?_
  rintro e w1 ⟨rfl, hp1⟩
  go_wp2_with fail
  go_at_call 60
  refine (hE _).mono ?_
  rintro e w2 ⟨rfl, hb2⟩
  have hp2 := hp1.below hb2
  go_wp2_with fail
  go_at_call 34
  refine (may_any _ _ _).mono ?_
  rintro e w3 ⟨rfl, rfl⟩
  go_wp2_with fail
  go_at_call 59
  refine (hI _ hp2).mono ?_
  rintro e w4 ⟨rfl, hb4⟩
  have hp4 := hp2.below hb4
  go_wp2
  go_ret2
  exact ⟨rfl, hp4⟩
/-- the rounds that printf makes of the rest of a format -/
inductive Steps (P : Program) (pc : Nat) (w0 : World) (ub o : Nat) (arr : Array Value) (ty : TypeId) (fz : Nat × Nat) (Af : Value) : List UInt8 → Value → List UInt8 → Prop where
  | done : Steps P pc w0 ub o arr ty fz Af [] Af []
  | ok {r : List UInt8} {A A1 : Value} {p out : List UInt8} (h2 : 2 ≤ r.length) (hp : ∀ (t : ByteArray) (w : World) (ob : List UInt8), t.data.toList = r.take 2 → PS w0 w ub o arr ty fz A ob → Calls P pc #[.pointer (some ⟨ub, o, none⟩), .string t] w fun e w' => e = .returned (.tuple #[.string ⟨p.toArray⟩, .bool true]) ∧ PS w0 w' ub o arr ty fz A1 ob)
      (h : Steps P pc w0 ub o arr ty fz Af (r.drop 2) A1 out) : Steps P pc w0 ub o arr ty fz Af r A (p ++ out)
  | no {r : List UInt8} {A : Value} {out : List UInt8} (h1 : 1 ≤ r.length) (hp : ∀ (t : ByteArray) (w : World) (ob : List UInt8), t.data.toList = r.take 2 → PS w0 w ub o arr ty fz A ob → Calls P pc #[.pointer (some ⟨ub, o, none⟩), .string t] w fun e w' => e = .returned (.tuple #[.string ⟨#[]⟩, .bool false]) ∧ PS w0 w' ub o arr ty fz A ob)
      (h : Steps P pc w0 ub o arr ty fz Af (r.drop 1) A out) : Steps P pc w0 ub o arr ty fz Af r A (r.take 1 ++ out)
def strLen (v : Value) : Nat := match v with
  | .string s => s.size
  | _ => 0
set_option maxHeartbeats 1600000 in
set_option maxRecDepth 100000 in
theorem printf_any {w0 w : World} {ub o : Nat} {arr : Array Value} {ty : TypeId} {fz : Nat × Nat} {ab ao n cap : Nat} {Af : Value} {T : List UInt8} (h : PS w0 w ub o arr ty fz (.slice (some ⟨ab, ao, none⟩) (n + 1) (cap + 1)) []) (hc : n ≤ cap) {s : ByteArray} (hs : w.cell? ⟨ab, ao, none⟩ = some (.string s))
    (hst : Steps Tryz.prog 30 w0 ub o arr ty fz Af s.data.toList (Mx.slN ab ao n cap) T) (hT : T.length ≤ 10000) :
    Calls Tryz.prog 15 #[.pointer (some ⟨ub, o, none⟩)] w fun e w' => e = .returned (.tuple #[]) ∧ PS w0 w' ub o arr ty fz Af T := by
  have c3 := h.c3
  go_enter Tryz.func15, Tryz.ntmps15
  go_wp2_with fail
  go_at_call 29
  refine (next_any h hc hs).mono ?_
  rintro e w1 ⟨rfl, hp1⟩
  go_wp2
  go_loopw [2] (fun sv wr => ∃ (s : ByteArray) (A : Value) (ob out : List UInt8), sv = .string s ∧ Steps Tryz.prog 30 w0 ub o arr ty fz Af s.data.toList A out ∧ PS w0 wr ub o arr ty fz A ob ∧ ob ++ out = T) (fun sv _ => strLen sv)
  case atStart => exact ⟨s, _, [], T, rfl, hst, hp1, rfl⟩
  case round =>
    obtain ⟨s, A, ob, out, rfl, hst, hps, hcat⟩ := hrel
    have hlenT : ob.length + out.length ≤ 10000 := by rw [← List.length_append, hcat]; exact hT
    have hsl : s.size = s.data.toList.length := rfl
    generalize hr : s.data.toList = r at hst hsl
    cases hst with
    | done =>
      have hs0 : s = ⟨#[]⟩ := ByteArray.ext (Array.toList_inj.1 hr)
      subst hs0
      go_wp2
      go_end0
      rw [List.append_nil] at hcat
      rw [hcat] at hps
      exact ⟨rfl, hps⟩
    | @ok _ _ A1 p out1 h2 hp hst1 =>
      have hnE : (s.toList == []) = false := bytes_ne (c := []) (by rw [hr]; intro e; rw [e] at h2; exact absurd h2 (by decide))
      have hmin : min (2 : Int) (s.size : Int) = 2 := by omega
      have h2s : 2 ≤ s.size := by omega
      clear hsl
      go_wp2_with fail
      go_at_call 30
      refine (hp _ _ _ (by rw [Lib.extract_from_zero, hr]) hps).mono ?_
      rintro e w2 ⟨rfl, hp2⟩
      go_wp2_with fail
      go_at_call 26
      refine (say_any hp2 _ (by show ob.length + p.length ≤ _; rw [List.length_append] at hlenT; omega)).mono ?_
      rintro e w3 ⟨rfl, hp3⟩
      go_wp2
      go_roundw
      case rel => exact ⟨_, _, _, _, rfl, by rw [Lib.extract_to_end, hr]; exact hst1, hp3, by rw [List.append_assoc]; exact hcat⟩
      case measure => simp [strLen]; omega
    | @no _ _ out1 h1 hp hst1 =>
      have hnE : (s.toList == []) = false := bytes_ne (c := []) (by rw [hr]; intro e; rw [e] at h1; exact absurd h1 (by decide))
      have h1s : 1 ≤ s.size := by omega
      have hrl : r.length = s.size := hsl.symm
      clear hsl
      by_cases h2s : 2 ≤ s.size
      · have hmin : min (2 : Int) (s.size : Int) = 2 := by omega
        go_wp2_with fail
        go_at_call 30
        refine (hp _ _ _ (by rw [Lib.extract_from_zero, hr]) hps).mono ?_
        rintro e w2 ⟨rfl, hp2⟩
        go_wp2_with fail
        go_at_call 26
        refine (say_any hp2 _ (by show ob.length + (s.extract 0 1).data.toList.length ≤ _; rw [Lib.extract_from_zero, hr, List.length_take]; omega)).mono ?_
        rintro e w3 ⟨rfl, hp3⟩
        go_wp2
        go_roundw
        case rel => exact ⟨_, _, _, _, rfl, by rw [Lib.extract_to_end, hr]; exact hst1, hp3, by rw [List.append_assoc, Lib.extract_from_zero, hr]; exact hcat⟩
        case measure => simp [strLen]; omega
      · have hs1 : s.size = 1 := by omega
        go_wp2_with fail
        go_at_call 30
        refine (hp _ _ _ (by rw [Lib.extract_from_zero, hr, List.take_of_length_le (by omega), List.take_of_length_le (by omega)]) hps).mono ?_
        rintro e w2 ⟨rfl, hp2⟩
        go_wp2_with fail
        go_at_call 26
        refine (say_any hp2 _ (by show ob.length + (s.extract 0 1).data.toList.length ≤ _; rw [Lib.extract_from_zero, hr, List.length_take]; omega)).mono ?_
        rintro e w3 ⟨rfl, hp3⟩
        go_wp2
        go_roundw
        case rel => exact ⟨_, _, _, _, rfl, by rw [show ByteArray.empty.data.toList = r.drop 1 from (List.drop_eq_nil_of_le (by omega)).symm]; exact hst1, hp3, by rw [List.append_assoc, Lib.extract_from_zero, hr]; exact hcat⟩
        case measure => simp [strLen]; omega
section
variable {w0 : World} {ub o : Nat} {arr : Array Value} {ty : TypeId} {fz : Nat × Nat} {Af A : Value}
theorem steps_s {r out : List UInt8} : ∀ {l : List UInt8}, (∀ b ∈ l, b ≠ 37 ∧ b ≠ 92) → Steps Tryz.prog 30 w0 ub o arr ty fz Af r A out → Steps Tryz.prog 30 w0 ub o arr ty fz Af (l ++ r) A (l ++ out)
  | [], _, h => h
  | b :: l, hb, h => by
    obtain ⟨n1, n2⟩ := hb b (List.mem_cons_self ..)
    have ih := steps_s (fun x hx => hb x (List.mem_cons_of_mem _ hx)) h
    refine Steps.no (r := b :: (l ++ r)) (by simp) (fun t w ob ht hps => ?_) ih
    have hh : ∀ {x y : UInt8}, x = 37 ∨ x = 92 → t.data.toList ≠ [x, y] := fun {x y} hx e => by
      rw [e] at ht
      have : x = b := by simpa using congrArg List.head? ht
      subst this
      rcases hx with rfl | rfl
      · exact n1 rfl
      · exact n2 rfl
    exact (piece_no _ t (hh (.inl rfl)) (hh (.inl rfl)) (hh (.inl rfl)) (hh (.inr rfl)) (hh (.inr rfl)) (hh (.inr rfl))).mono fun e w' ⟨h1, h2⟩ => ⟨h1, by rw [h2]; exact hps⟩
theorem tab_ps {w : World} {ob : List UInt8} {name : String} {g : Nat} {zs : List Int} (hg : Tryz.prog.globalNamed name = some g) (h0 : Lib.TabIs Tryz.prog w0 name .u64 zs) (hu0 : w0.heap[ub]? = some (.cells arr ty fz)) {p : Option Addr} {n c : Nat} (h3 : arr[o + 3]? = some (.slice p n c)) (h : PS w0 w ub o arr ty fz A ob) : Lib.TabIs Tryz.prog w name .u64 zs := by
  unfold Lib.TabIs World.var? at h0 ⊢
  rw [hg] at h0 ⊢
  simp only [Option.bind_some] at h0 ⊢
  have hlt : g < w0.heap.size := by
    rcases Nat.lt_or_ge g w0.heap.size with h' | h'
    · exact h'
    · rw [Array.getElem?_eq_none h'] at h0; cases h0
  have hne : g ≠ ub := fun e => by
    subst e
    rw [hu0] at h0
    simp only [Option.some.injEq] at h0
    rw [h0] at h3
    simp at h3
  rw [h.old g hlt hne]
  exact h0
end
theorem bytes_of {t : ByteArray} {c : List UInt8} (h : t.data.toList = c) : t = ⟨c.toArray⟩ := by
  apply ByteArray.ext
  apply Array.toList_inj.1
  simpa using h
theorem pr_said {g : Nat} (hg : Tryz.prog.globalNamed "internal/strconv.uint64pow10" = some g)
    (hE : ∀ (k : Int), -9223372036854775808 ≤ k → k ≤ 9223372036854775807 → ∀ w, Calls Tryz.prog 60 #[.string ⟨(Lib.itoa k).toArray⟩, .slice none 0 0] w fun e w' => e = .returned (.tuple #[.int .i64 k, .int .i64 0]) ∧ Below w.heap.size w w')
    (hI : ∀ (k : Int), -9223372036854775808 ≤ k → k ≤ 9223372036854775807 → ∀ w, Lib.TabIs Tryz.prog w "internal/strconv.uint64pow10" .u64 Lib.pow10Tab → Calls Tryz.prog 59 #[.int .i64 k] w fun e w' => e = .returned (.string ⟨(Lib.itoa k).toArray⟩) ∧ Below w.heap.size w w') :
    Mx.PrSaid Tryz.prog 15 5 "internal/strconv.uint64pow10" := by
  intro ub o ab ao n cap arr ty fz s k w hu hfr h3 h6 hn hcap hne hx hs hd hk1 hk2 hno hsz htab
  obtain ⟨n, rfl⟩ : ∃ n', n = n' + 3 := ⟨n - 3, by omega⟩
  obtain ⟨cap, rfl⟩ : ∃ n', cap = n' + 3 := ⟨cap - 3, by omega⟩
  have hub : ub < w.heap.size := (Array.getElem?_eq_some_iff.1 hu).1
  have hab : ab < w.heap.size := World.block_lt_of_cell? w _ hs
  have e0 : (arr.setIfInBounds (o + 3) (.slice (some ⟨ab, ao, none⟩) (n + 3) (cap + 3))).setIfInBounds (o + 6) (.slice none 0 0) = arr := by
    apply Array.ext_getElem?
    intro i
    have g3 := (Array.getElem?_eq_some_iff.1 h3).1
    have g6 := (Array.getElem?_eq_some_iff.1 h6).1
    simp only [Array.getElem?_setIfInBounds, Array.size_setIfInBounds]
    by_cases e1 : o + 6 = i
    · subst e1; rw [if_pos rfl, if_pos g6, h6]
    · rw [if_neg e1]
      by_cases e2 : o + 3 = i
      · subst e2; rw [if_pos rfl, if_pos g3, h3]
      · rw [if_neg e2]
  have hp0 : PS w w ub o arr ty fz (.slice (some ⟨ab, ao, none⟩) (n + 2 + 1) (cap + 2 + 1)) [] := ⟨⟨.slice none 0 0, by rw [e0]; exact hu, World.ownsRowF_nil _ _ _ _⟩, hub, (Array.getElem?_eq_some_iff.1 h6).1, hfr, Nat.le_refl _, fun _ _ _ => rfl, rfl, rfl, rfl⟩
  have cA : ∀ {w' : World} {A : Value} {ob : List UInt8} {j : Nat} {v : Value}, PS w w' ub o arr ty fz A ob → w.cell? ⟨ab, j, none⟩ = some v → w'.cell? ⟨ab, j, none⟩ = some v := fun hps hc => by
    unfold World.cell? at hc ⊢
    rw [hps.old ab hab hne]
    exact hc
  have ne : ∀ {t : ByteArray} {l c : List UInt8}, t.data.toList = l → l ≠ c → t.data.toList ≠ c := fun h1 h2 => by rw [h1]; exact h2
  have pn : ∀ {l : List UInt8} {A : Value}, l ≠ [37, 115] → l ≠ [37, 100] → l ≠ [37, 37] → l ≠ [92, 110] → l ≠ [92, 116] → l ≠ [92, 92] → ∀ (t : ByteArray) (w' : World) (ob : List UInt8), t.data.toList = l → PS w w' ub o arr ty fz A ob → Calls Tryz.prog 30 #[.pointer (some ⟨ub, o, none⟩), .string t] w' fun e w'' => e = .returned (.tuple #[.string ⟨#[]⟩, .bool false]) ∧ PS w w'' ub o arr ty fz A ob := fun d1 d2 d3 d4 d5 d6 t w' ob ht hps =>
    (piece_no _ t (ne ht d1) (ne ht d2) (ne ht d3) (ne ht d4) (ne ht d5) (ne ht d6)).mono fun e w'' ⟨q1, q2⟩ => ⟨q1, by rw [q2]; exact hps⟩
  have S8 : Steps Tryz.prog 30 w ub o arr ty fz (Mx.slN ab (ao + 2) n cap) [37, 37, 92, 116, 37, 120, 92, 110] (Mx.slN ab (ao + 2) n cap) ([37] ++ ([9] ++ ([37] ++ ([120] ++ ([10] ++ []))))) :=
    Steps.ok (by decide) (fun t w' ob ht hps => by have := bytes_of ht; subst this; exact (piece_pct _).mono fun e w'' ⟨q1, q2⟩ => ⟨q1, by rw [q2]; exact hps⟩)
    (Steps.ok (by decide) (fun t w' ob ht hps => by have := bytes_of ht; subst this; exact (piece_t _).mono fun e w'' ⟨q1, q2⟩ => ⟨q1, by rw [q2]; exact hps⟩)
    (Steps.no (r := [37, 120, 92, 110]) (by decide) (pn (by decide) (by decide) (by decide) (by decide) (by decide) (by decide))
    (Steps.no (r := [120, 92, 110]) (by decide) (pn (by decide) (by decide) (by decide) (by decide) (by decide) (by decide))
    (Steps.ok (by decide) (fun t w' ob ht hps => by have := bytes_of ht; subst this; exact (piece_n _).mono fun e w'' ⟨q1, q2⟩ => ⟨q1, by rw [q2]; exact hps⟩) Steps.done))))
  have S11 : Steps Tryz.prog 30 w ub o arr ty fz (Mx.slN ab (ao + 2) n cap) [124, 37, 100, 37, 37, 92, 116, 37, 120, 92, 110] (.slice (some ⟨ab, ao + 2, none⟩) (n + 1) (cap + 1)) ([124] ++ (Lib.itoa k ++ [37, 9, 37, 120, 10])) :=
    Steps.no (r := [124, 37, 100, 37, 37, 92, 116, 37, 120, 92, 110]) (by decide) (pn (by decide) (by decide) (by decide) (by decide) (by decide) (by decide))
    (Steps.ok (r := [37, 100, 37, 37, 92, 116, 37, 120, 92, 110]) (by decide) (fun t w' ob ht hps => by have := bytes_of ht; subst this; exact piece_d hps (by omega) (cA hps hd) (hE k hk1 hk2) fun w'' hq => hI k hk1 hk2 w'' (tab_ps hg htab hu h3 hq)) S8)
  have S13 : Steps Tryz.prog 30 w ub o arr ty fz (Mx.slN ab (ao + 2) n cap) Mx.fmtB (.slice (some ⟨ab, ao + 1, none⟩) (n + 2) (cap + 2)) (s.data.toList ++ ([124] ++ (Lib.itoa k ++ [37, 9, 37, 120, 10]))) :=
    Steps.ok (r := Mx.fmtB) (by decide) (fun t w' ob ht hps => by have := bytes_of ht; subst this; rw [← Mx.slN_succ]; exact piece_s hps (by omega) (cA hps hs)) S11
  have hl : (Mx.prL s.data.toList k).length ≤ 10000 := by
    have h1 : s.data.toList.length = s.size := rfl
    have h2 := Lib.itoa_length_le k hk1 hk2
    unfold Mx.prL
    simp only [List.length_append, List.length_cons, List.length_nil]
    omega
  refine (printf_any (Af := Mx.slN ab (ao + 2) n cap) (T := Mx.prL s.data.toList k) hp0 (by omega) hx (by rw [List.toList_toArray, Mx.slN_succ]; exact steps_s hno S13) hl).mono fun e w' ⟨he, hp⟩ => ⟨he, ?_⟩
  obtain ⟨O, hu', hown⟩ := hp.u
  exact ⟨O, hu', hown, hp.size, hp.os, hp.tape, hp.output, hp.old⟩
end
end Go.Proofs.YtiinlpdophgfjaaGreatDoor
