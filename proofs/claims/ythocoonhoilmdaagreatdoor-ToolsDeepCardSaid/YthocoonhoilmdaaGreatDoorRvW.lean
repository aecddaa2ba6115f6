/-
  A node is taken away, walked.
-/
import Derived.Test.YthocoonhoilmdaaGreatDoorBmW
import Derived.Test.YthocoonhoilmdaaGreatDoorXMxAL
import Derived.BigQuiet
import Derived.Deep.QuietTactic
import Derived.Deep.RegionLaw
import Derived.Deep.RegionWith
import Derived.Deep.RegionHeld3
import Derived.RegionTactic
import Derived.WalkKit
import Derived.WalkSpells
import Derived.StillTactics
import Derived.LoopIn
import Derived.RowKit3
import Derived.Below
import Derived.OwnWalk
import Derived.KernelRfl
open Go Go.Mx Go.RowKit
namespace Go.Proofs.YthocoonhoilmdaaGreatDoor
set_option maxRecDepth 100000
noncomputable section
/-! a node is taken away, walked -/
theorem find_last {k : ByteArray} {x : ByteArray × TN} (hx : (k == x.1) = true) : ∀ (T0 : TT) (es : List MapEntry) (i : Nat), es.map (fun e => (e.key, e.val)) = (T0 ++ [x]).map entK → (∀ y ∈ T0, (k == y.1) = false) → ∃ v, Instr.findNow .string (.string k) es i = some (some (i + T0.length, v))
  | [], [], _, h, _ => by cases h
  | _ :: _, [], _, h, _ => by cases h
  | [], e :: es, i, h, _ => by
    simp only [List.nil_append, List.map_cons, List.map_nil, List.cons.injEq] at h
    have hk : e.key = .string x.1 := congrArg Prod.fst h.1
    unfold Instr.findNow
    rw [hk]
    simp only [Instr.sameNow, hx]
    exact ⟨_, rfl⟩
  | y :: T0, e :: es, i, h, hn => by
    simp only [List.cons_append, List.map_cons, List.cons.injEq] at h
    have hk : e.key = .string y.1 := congrArg Prod.fst h.1
    have hy := hn y (List.mem_cons_self ..)
    obtain ⟨v, hv⟩ := find_last hx T0 es (i + 1) h.2 fun z hz => hn z (List.mem_cons_of_mem _ hz)
    unfold Instr.findNow
    rw [hk]
    simp only [Instr.sameNow, hy]
    refine ⟨v, ?_⟩
    rw [hv, List.length_cons]
    congr 3
    omega
theorem run_delete_last {w : World} {mb cl : Nat} {es : Array MapEntry} {T0 : TT} {x : ByteArray × TN} {k : ByteArray} (hh : w.heap[mb]? = some (.map es cl)) (hT : es.toList.map (fun e => (e.key, e.val)) = (T0 ++ [x]).map entK) (hx : (k == x.1) = true) (hn : ∀ y ∈ T0, (k == y.1) = false) (ty : TypeId) :
    (Builtin.delete_ #[41, 9] ty #[.map (some mb), .string k]).run Tryz.prog w = .ok (.tuple #[]) (setMap w mb (es.eraseIdxIfInBounds T0.length) cl) := by
  obtain ⟨v, g1⟩ := find_last hx T0 es.toList 0 hT hn
  rw [Nat.zero_add] at g1
  have hck : ∀ b, (Instr.checkKey b 10000 9 (.string k)).run Tryz.prog w = .ok () w := fun b => by
    unfold Instr.checkKey
    simp only [Sem.run_bind, Mx.run_und v_tS, Result.andThen_ok, Sem.run_pure]
  have hfk := Mx.findKey_of (P := Tryz.prog) (w := w) v_tS g1
  have hso : (setObj mb (.map (es.eraseIdxIfInBounds T0.length) cl)).run Tryz.prog w = .ok () (setMap w mb (es.eraseIdxIfInBounds T0.length) cl) := MapKept.run_setObj_map _ hh
  simp [Builtin.delete_, Mx.run_und v_tM, Mx.run_getMap hh, hck, hfk, hso]
theorem map_erase {α β : Type} (f : α → β) : ∀ (l : List α) (i : Nat), (l.eraseIdx i).map f = (l.map f).eraseIdx i
  | [], _ => rfl
  | _ :: _, 0 => rfl
  | _ :: l, i + 1 => by simp [map_erase f l i]
theorem erase_last {es : Array MapEntry} {T0 : TT} {x : ByteArray × TN} (hT : es.toList.map (fun e => (e.key, e.val)) = (T0 ++ [x]).map entK) : (es.eraseIdxIfInBounds T0.length).toList.map (fun e => (e.key, e.val)) = T0.map entK ∧ (∀ e ∈ (es.eraseIdxIfInBounds T0.length).toList, e ∈ es.toList) ∧ ((es.toList.map (·.born)).Nodup → ((es.eraseIdxIfInBounds T0.length).toList.map (·.born)).Nodup) := by
  have hl : T0.length < es.size := by
    have := congrArg List.length hT
    simp only [List.length_map, Array.length_toList, List.length_append, List.length_cons, List.length_nil] at this
    omega
  have hsub : (es.eraseIdxIfInBounds T0.length).toList = es.toList.eraseIdx T0.length := by
    unfold Array.eraseIdxIfInBounds
    rw [dif_pos hl]
    simp
  rw [hsub]
  refine ⟨?_, fun e he => (List.eraseIdx_sublist _ _).subset he, fun h => ((List.eraseIdx_sublist _ _).map _).nodup h⟩
  have e1 : (es.toList.eraseIdx T0.length).map (fun e => (e.key, e.val)) = (es.toList.map (fun e => (e.key, e.val))).eraseIdx T0.length := map_erase _ _ _
  rw [e1, hT, List.map_append, List.eraseIdx_append_of_length_le (by simp)]
  simp
theorem nodes_last {L : List ByteArray} {n j : Nat} {T : TT} (N : Nodes L n T (j + 1)) (hj : j + 1 ≤ L.length) : ∃ x, T = T.take j ++ [x] ∧ (T.take j).length = j ∧ (pB (L.take (j + 1)) == x.1) = true ∧ (∀ y ∈ T.take j, (pB (L.take (j + 1)) == y.1) = false) ∧ findT T (pB (L.take (j + 1))) = some x.2 ∧ x ∈ T := by
  have hjT : j < T.length := by rw [N.len]; exact Nat.lt_succ_self _
  refine ⟨T[j], ?_, by rw [List.length_take]; omega, ba_beq.2 (N.at' j hjT).1.symm, fun y hy => ?_, N.find hj (Nat.lt_succ_self _), List.getElem_mem _⟩
  · have h1 := List.take_succ_eq_append_getElem hjT
    rw [List.take_of_length_le (by rw [N.len]; exact Nat.le_refl _)] at h1
    exact h1
  · obtain ⟨i, hi, rfl⟩ := List.getElem_of_mem hy
    rw [List.length_take] at hi
    rw [List.getElem_take, Bool.eq_false_iff]
    intro e
    have e2 := ba_beq.1 e
    rw [(N.at' i (by omega)).1] at e2
    have := pB_inj L (by omega) (by omega) e2
    omega
/-- what Remove's last steps leave -/
theorem rm_end {w w2 : World} {fb mb : Nat} {T : TT} {used clock : Int} {L : List ByteArray} {n j : Nat} (h : TreS w2 fb mb L n (j + 1) T used clock) (hj : j + 1 ≤ L.length) (hb : Below w.heap.size w w2) (bn : Nat) (hbn : bn ≤ 1) :
    ∃ es' : Array MapEntry × Nat, (∀ ty, (Builtin.delete_ #[41, 9] ty #[.map (some mb), .string (pB (L.take (j + 1)))]).run Tryz.prog ((w2.setCell ⟨fb, 3, none⟩ (.int .i64 (used - bn))).drew) = .ok (.tuple #[]) (setMap ((w2.setCell ⟨fb, 3, none⟩ (.int .i64 (used - bn))).drew) mb es'.1 es'.2)) ∧
    (setMap ((w2.setCell ⟨fb, 3, none⟩ (.int .i64 (used - bn))).drew) mb es'.1 es'.2).cell? ⟨fb, 0, none⟩ = some (.map (some mb)) ∧ (setMap ((w2.setCell ⟨fb, 3, none⟩ (.int .i64 (used - bn))).drew) mb es'.1 es'.2).cell? ⟨fb, 4, none⟩ = some (.int .i64 clock) ∧ (setMap ((w2.setCell ⟨fb, 3, none⟩ (.int .i64 (used - bn))).drew) mb es'.1 es'.2).frozen? ⟨fb, 4, none⟩ = false ∧
    ((w2.setCell ⟨fb, 3, none⟩ (.int .i64 (used - bn))).drew).cell? ⟨fb, 0, none⟩ = some (.map (some mb)) ∧
    Tre fb mb L n j ((setMap ((w2.setCell ⟨fb, 3, none⟩ (.int .i64 (used - bn))).drew) mb es'.1 es'.2).setCell ⟨fb, 4, none⟩ (.int .i64 (clock + 1))) ∧ But2 w ((setMap ((w2.setCell ⟨fb, 3, none⟩ (.int .i64 (used - bn))).drew) mb es'.1 es'.2).setCell ⟨fb, 4, none⟩ (.int .i64 (clock + 1))) fb mb := by
  obtain ⟨es, cl, hm, hT⟩ := h.fs.is.mp
  obtain ⟨hn1, hn2⟩ := h.fs.born.at hm
  have hfs := h.fs.is.fs
  have hlm : mb < w2.heap.size := (Array.getElem?_eq_some_iff.1 hm).1
  have hlf : fb < w2.heap.size := (Array.getElem?_eq_some_iff.1 hfs).1
  have hne : fb ≠ mb := fun e => by
    rw [e, hm] at hfs
    cases hfs
  obtain ⟨x, hx1, hx2, hx3, hx4, _, _⟩ := nodes_last h.nodes hj
  have hT' : es.toList.map (fun e => (e.key, e.val)) = (T.take j ++ [x]).map entK := by rw [← hx1]; exact hT
  obtain ⟨r1, r2, r3⟩ := erase_last hT'
  have hm8 : ((w2.setCell ⟨fb, 3, none⟩ (.int .i64 (used - bn))).drew).heap[mb]? = some (.map es cl) := (set_other (Ne.symm hne)).trans hm
  have hf8 : ((w2.setCell ⟨fb, 3, none⟩ (.int .i64 (used - bn))).drew).heap[fb]? = some (.cells #[.map (some mb), .int .i64 30, .int .i64 100, .int .i64 (used - bn), .int .i64 clock] 43 (0, 0)) := set_same hfs
  have hd := fun ty => run_delete_last hm8 hT' hx3 hx4 ty
  refine ⟨(es.eraseIdxIfInBounds (T.take j).length, cl), hd, ?_⟩
  have hs8 : ((w2.setCell ⟨fb, 3, none⟩ (.int .i64 (used - bn))).drew).heap.size = w2.heap.size := set_size
  generalize hW8 : (w2.setCell ⟨fb, 3, none⟩ (.int .i64 (used - bn))).drew = W8 at hm8 hf8 hs8
  have hf9 : (setMap W8 mb (es.eraseIdxIfInBounds (T.take j).length) cl).heap[fb]? = some (.cells #[.map (some mb), .int .i64 30, .int .i64 100, .int .i64 (used - bn), .int .i64 clock] 43 (0, 0)) := by rw [setMap_other hne]; exact hf8
  have hm9 : (setMap W8 mb (es.eraseIdxIfInBounds (T.take j).length) cl).heap[mb]? = some (.map (es.eraseIdxIfInBounds (T.take j).length) cl) := setMap_same (by omega)
  have hf10 : ((setMap W8 mb (es.eraseIdxIfInBounds (T.take j).length) cl).setCell ⟨fb, 4, none⟩ (.int .i64 (clock + 1))).heap[fb]? = some (.cells #[.map (some mb), .int .i64 30, .int .i64 100, .int .i64 (used - bn), .int .i64 (clock + 1)] 43 (0, 0)) := set_same hf9
  have hm10 : ((setMap W8 mb (es.eraseIdxIfInBounds (T.take j).length) cl).setCell ⟨fb, 4, none⟩ (.int .i64 (clock + 1))).heap[mb]? = some (.map (es.eraseIdxIfInBounds (T.take j).length) cl) := (set_other (Ne.symm hne)).trans hm9
  have f5 : free 5 (0, 0) := fun i _ hc => by rcases hc with ⟨_, h⟩; rcases h with h | h <;> simp at h
  refine ⟨by rw [cell_u hf9]; rfl, by rw [cell_u hf9]; rfl, nf_free (n := 5) hf9 f5 (by omega), by rw [cell_u hf8]; rfl, ⟨T.take j, used - bn, clock + 1, ⟨⟨hf10, _, _, hm10, r1⟩, _, _, hm10, r3 hn1, fun e he => hn2 e (r2 e he)⟩, h.nodes.pop, fun y hy => h.sm y (List.mem_of_mem_take hy), ?_, ?_, ?_, ?_⟩, ?_⟩
  · have := h.u1; omega
  · have := h.u2; omega
  · have := h.c1; omega
  · have := h.c2; omega
  · have o8 : W8.os = w2.os ∧ W8.tape = w2.tape ∧ W8.output = w2.output := by rw [← hW8]; exact ⟨rfl, rfl, rfl⟩
    refine ⟨?_, (show _ = W8.os from rfl).trans (o8.1.trans hb.os), (show _ = W8.tape from rfl).trans (o8.2.1.trans hb.tape), (show _ = W8.output from rfl).trans (o8.2.2.trans hb.output), fun i h1 h2 h3 => ?_⟩
    · rw [set_size, setMap_size, hs8]
      exact hb.size
    · rw [set_other h2, setMap_other h3, ← hW8]
      exact (set_other h2).trans (hb.block i h1)
set_option maxHeartbeats 3200000 in
set_option maxRecDepth 100000 in
theorem remove_last {w : World} {fb mb : Nat} {L : List ByteArray} {n j : Nat} (h : Tre fb mb L n (j + 1) w) (hmx : MaxIs w) (hL : ∀ x ∈ L, NameOk x) (hj : j + 1 ≤ L.length) (h9 : L.length ≤ 9) (hjn : j ≤ n) :
    Calls Tryz.prog 65 #[.pointer (some ⟨fb, 0, none⟩), .string (pB (L.take (j + 1)))] w fun e w' => e = .returned (.int .i64 0) ∧ Tre fb mb L n j w' ∧ But2 w w' fb mb := by
  obtain ⟨T, used, clock, hS⟩ := h
  have N := hS.nodes
  have hpz : (pB (L.take (j + 1))).size ≤ 1000 := by
    have := pL_le (take_ok hL (j + 1))
    rw [pB_size]
    rw [List.length_take] at this
    omega
  have hTl : T.length ≤ 100 := by rw [N.len]; omega
  have hfo : foundF T (pB (L.take (j + 1))) = (pB (L.take (j + 1)), 0) := by rw [N.found hL hj h9 (by omega) (by omega) hjn, if_pos (by omega)]
  have hA : Hid (Calls Tryz.prog 88 #[.pointer (some ⟨fb, 0, none⟩), .string (pB (L.take (j + 1)))] w fun e w' => e = .returned (.tuple #[.string (pB (L.take (j + 1))), .int .i64 0]) ∧ Below w.heap.size w w') := by
    have := found_any (hS.fs.env hmx) (pB (L.take (j + 1))) (by omega)
    rw [hfo] at this
    exact this
  have hB : Hid (∀ w', Below w.heap.size w w' → Calls Tryz.prog 20 #[.pointer (some ⟨fb, 0, none⟩), .string (pB (L.take (j + 1)))] w' fun e w'' => (∃ o c, e = .returned (.slice o 0 c)) ∧ Below w'.heap.size w' w'') := fun w' hb => by
    refine (below_any (hS.fs.below hb) (pB (L.take (j + 1))) hpz hTl).mono ?_
    rintro e w'' ⟨v, l, e1, e2, e3, e4⟩
    rw [front_pB hL (by omega) hj, lowT_none N hj hj (Nat.le_refl _)] at e3
    have hl := List.perm_nil.1 e3
    subst hl
    obtain ⟨o, cap, hv, _⟩ := own_shape e2
    exact ⟨⟨o, cap, by rw [e1, hv]; rfl⟩, e4⟩
  obtain ⟨x, hx1, hx2, hx3, hx4, hx5, hx6⟩ := nodes_last N hj
  have hsm := hS.sm x hx6
  have hroot := neB (pB_root (take_ok hL (j + 1)) (take_ne (by omega : j < L.length)))
  obtain ⟨xp, d, ⟨o, bn, bc⟩, t⟩ := x
  simp only at hx5 hsm
  have HW : Hid (∀ w', Below w.heap.size w w' → TreS w' fb mb L n (j + 1) T used clock) := fun w' hb => hS.below hb
  have HL : Hid (∀ w2, Below w.heap.size w w2 → ∀ X : World, X.heap = w2.heap → (Instr.lookup 41 (.map (some mb)) (.string (pB (L.take (j + 1)))) false).run Tryz.prog X = .ok (.agg #[.bool d, .slice o bn bc, .int .i64 t]) X) := fun w2 hb X hX => by
    have h2 := hS.below hb
    obtain ⟨mb', hc0', hl⟩ := look_T h2.fs.is.tree
    have e0 : mb' = mb := by
      rw [cell_u h2.fs.is.fs] at hc0'
      injection hc0' with e
      injection e with e
      injection e with e
      exact e.symm
    subst e0
    have hl1 := hl X hX (pB (L.take (j + 1))) false
    rw [hx5] at hl1
    exact hl1
  have hu1 := hS.u1
  have hu2 := hS.u2
  have hc1 := hS.c1
  have hc2 := hS.c2
  clear hfo hS hx1 hx2 hx3 hx4 hx5 hx6 N
  obtain ⟨p, hp⟩ : ∃ p, p = pB (L.take (j + 1)) := ⟨_, rfl⟩
  have HP : Hid (p = pB (L.take (j + 1))) := hp
  rw [← hp] at hA hB HL hroot hpz ⊢
  clear hp
  go_enter Tryz.func65, Tryz.ntmps65
  go_wp2_with fail
  go_at_call 88
  refine hA.out.mono ?_
  rintro e w1 ⟨rfl, hb1⟩
  have hB1 := hB.out w1 hb1
  clear hA hB
  go_wp2_with fail
  go_at_call 20
  refine hB1.mono ?_
  rintro e w2 ⟨⟨o2, c2, rfl⟩, hb12⟩
  have hb2 := hb1.trans (hb12.mono hb1.size)
  clear hB1
  have h2 := HW.out w2 hb2
  have c0 : w2.cell? ⟨fb, 0, none⟩ = some (.map (some mb)) := by rw [cell_u h2.fs.is.fs]; rfl
  have c3 : w2.cell? ⟨fb, 3, none⟩ = some (.int .i64 used) := by rw [cell_u h2.fs.is.fs]; rfl
  have n3 : w2.frozen? ⟨fb, 3, none⟩ = false := nf_free (n := 5) h2.fs.is.fs (fun i _ hc => by rcases hc with ⟨_, h⟩; rcases h with h | h <;> simp at h) (by omega)
  have hlk := HL.out w2 hb2
  have hfd : ∀ w, (Instr.field 48 (.agg #[.bool d, .slice o bn bc, .int .i64 t]) 1).run Tryz.prog w = .ok (.slice o bn bc) w := fun w => fld1 w d o bn bc t
  obtain ⟨es', hd1, q0, q4, m4, q8, hE1, hE2⟩ := rm_end h2 hj hb2 bn hsm
  rw [← HP.out] at hd1
  have HE : Hid (Tre fb mb L n j ((setMap ((w2.setCell ⟨fb, 3, none⟩ (.int .i64 (used - bn))).drew) mb es'.1 es'.2).setCell ⟨fb, 4, none⟩ (.int .i64 (clock + 1))) ∧ But2 w ((setMap ((w2.setCell ⟨fb, 3, none⟩ (.int .i64 (used - bn))).drew) mb es'.1 es'.2).setCell ⟨fb, 4, none⟩ (.int .i64 (clock + 1))) fb mb) := ⟨hE1, hE2⟩
  have k2 : IntKind.i64.wrap (used - (bn : Int)) = used - (bn : Int) := by rw [IntKind.wrap_i64]; omega
  have hlk0 := hlk w2 rfl
  have hlk1 := hlk w2.drew rfl
  clear hlk
  clear HW HL h2 hE1 hE2 hb12 hb1
  go_wp2_with fail
  go_region_law (fail)
  all_goals
    go_wp2
    go_ret
    exact ⟨rfl, HE.out.1, HE.out.2⟩
set_option maxHeartbeats 1600000 in
set_option maxRecDepth 100000 in
theorem remove_used {w : World} {fb mb : Nat} {L : List ByteArray} {n j : Nat} (h : Tre fb mb L n j w) (hmx : MaxIs w) (hL : ∀ x ∈ L, NameOk x) (hj : j ≤ L.length) (h9 : L.length ≤ 9) {k : Nat} (hk : k + 1 < j) (hkn : k ≤ n) :
    Calls Tryz.prog 65 #[.pointer (some ⟨fb, 0, none⟩), .string (pB (L.take (k + 1)))] w fun e w' => e = .returned (.int .i64 14) ∧ Below w.heap.size w w' := by
  obtain ⟨T, used, clock, hS⟩ := h
  have N := hS.nodes
  have hpz : (pB (L.take (k + 1))).size ≤ 1000 := by
    have := pL_le (take_ok hL (k + 1))
    rw [pB_size]
    rw [List.length_take] at this
    omega
  have hTl : T.length ≤ 100 := by rw [N.len]; omega
  have hfo : foundF T (pB (L.take (k + 1))) = (pB (L.take (k + 1)), 0) := by rw [N.found hL hj h9 (by omega) (by omega) hkn, if_pos (by omega)]
  have hA : Hid (Calls Tryz.prog 88 #[.pointer (some ⟨fb, 0, none⟩), .string (pB (L.take (k + 1)))] w fun e w' => e = .returned (.tuple #[.string (pB (L.take (k + 1))), .int .i64 0]) ∧ Below w.heap.size w w') := by
    have := found_any (hS.fs.env hmx) (pB (L.take (k + 1))) (by omega)
    rw [hfo] at this
    exact this
  have hB : Hid (∀ w', Below w.heap.size w w' → Calls Tryz.prog 20 #[.pointer (some ⟨fb, 0, none⟩), .string (pB (L.take (k + 1)))] w' fun e w'' => (∃ o c, e = .returned (.slice o (j - (k + 1)) c)) ∧ Below w'.heap.size w' w'') := fun w' hb => by
    refine (below_any (hS.fs.below hb) (pB (L.take (k + 1))) hpz hTl).mono ?_
    rintro e w'' ⟨v, l, e1, e2, e3, e4⟩
    rw [front_pB hL (by omega) (by omega)] at e3
    have hl := e3.length_eq
    rw [lowT_len N hj (by omega)] at hl
    obtain ⟨o, cap, hv, _⟩ := own_shape e2
    exact ⟨⟨o, cap, by rw [e1, hv, hl]⟩, e4⟩
  have hroot := neB (pB_root (take_ok hL (k + 1)) (take_ne (by omega : k < L.length)))
  obtain ⟨m, hm⟩ : ∃ m, m = j - (k + 1) := ⟨_, rfl⟩
  rw [← hm] at hB
  have hm0 : (0 : Int) < m := by omega
  clear hfo hS N hm
  obtain ⟨p, hp⟩ : ∃ p, p = pB (L.take (k + 1)) := ⟨_, rfl⟩
  rw [← hp] at hA hB hroot hpz ⊢
  clear hp
  go_enter Tryz.func65, Tryz.ntmps65
  go_wp2_with fail
  go_at_call 88
  refine hA.out.mono ?_
  rintro e w1 ⟨rfl, hb1⟩
  have hB1 := hB.out w1 hb1
  clear hA hB
  go_wp2_with fail
  go_at_call 20
  refine hB1.mono ?_
  rintro e w2 ⟨⟨o2, c2, rfl⟩, hb12⟩
  have hb2 := hb1.trans (hb12.mono hb1.size)
  clear hB1
  go_wp2
  go_ret
  exact ⟨rfl, hb2⟩
set_option maxHeartbeats 1600000 in
set_option maxRecDepth 100000 in
theorem remove_none {w : World} {fb mb : Nat} {L : List ByteArray} {n j : Nat} (h : Tre fb mb L n j w) (hmx : MaxIs w) (hL : ∀ x ∈ L, NameOk x) (hj : j + 1 ≤ L.length) (h9 : L.length ≤ 9) (hjn : j ≤ n) :
    Calls Tryz.prog 65 #[.pointer (some ⟨fb, 0, none⟩), .string (pB (L.take (j + 1)))] w fun e w' => e = .returned (.int .i64 6) ∧ Below w.heap.size w w' := by
  obtain ⟨T, used, clock, hS⟩ := h
  have N := hS.nodes
  have hpz : (pB (L.take (j + 1))).size ≤ 1000 := by
    have := pL_le (take_ok hL (j + 1))
    rw [pB_size]
    rw [List.length_take] at this
    omega
  have hfo : foundF T (pB (L.take (j + 1))) = (pB (L.take (j + 1)), 6) := by rw [N.found hL (by omega) h9 (by omega) (Nat.le_refl _) hjn, if_neg (by omega)]
  have hA : Hid (Calls Tryz.prog 88 #[.pointer (some ⟨fb, 0, none⟩), .string (pB (L.take (j + 1)))] w fun e w' => e = .returned (.tuple #[.string (pB (L.take (j + 1))), .int .i64 6]) ∧ Below w.heap.size w w') := by
    have := found_any (hS.fs.env hmx) (pB (L.take (j + 1))) (by omega)
    rw [hfo] at this
    exact this
  clear hfo hS N
  obtain ⟨p, hp⟩ : ∃ p, p = pB (L.take (j + 1)) := ⟨_, rfl⟩
  rw [← hp] at hA hpz ⊢
  clear hp
  go_enter Tryz.func65, Tryz.ntmps65
  go_wp2_with fail
  go_at_call 88
  refine hA.out.mono ?_
  rintro e w1 ⟨rfl, hb1⟩
  clear hA
  go_wp2
  go_ret
  exact ⟨rfl, hb1⟩
end
end Go.Proofs.YthocoonhoilmdaaGreatDoor
