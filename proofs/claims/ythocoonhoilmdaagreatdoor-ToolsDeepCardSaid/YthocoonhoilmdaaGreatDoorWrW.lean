/-
  slices.Grow of nothing; the writing of a file system, walked.
-/
import Derived.Test.YthocoonhoilmdaaGreatDoorCaT
import Derived.Lib.AppendZerosOnto
import Derived.Lib.AppendZeros
import Derived.BigQuiet
import Derived.Deep.QuietTactic
import Derived.Deep.RegionLaw
import Derived.Deep.RegionWith
import Derived.Deep.RegionHeld3
import Derived.RegionTactic
import Derived.WalkKit
import Derived.WalkSpells
import Derived.StillTactics
import Derived.LoopIn
import Derived.RowKit3
import Derived.Below
import Derived.OwnWalk
import Derived.KernelRfl
open Go Go.Mx Go.RowKit
namespace Go.Proofs.YthocoonhoilmdaaGreatDoor
set_option maxRecDepth 100000
noncomputable section
/-! slices.Grow of nothing -/
theorem gr_t28 : Tryz.prog.underlying 24 = some (.slice 5) := by kernel_rfl
theorem gr_t3 : Tryz.prog.underlying 3 = some (.int .i64) := by kernel_rfl
set_option maxHeartbeats 1600000 in
set_option maxRecDepth 100000 in
theorem grow_nil (n : Nat) (h0 : 0 < n) (hn : n ≤ 1000000) (w : World) :
    Calls Tryz.prog 23 #[.slice none 0 0, .int .i64 n] w fun e w' => ∃ G, e = .returned (.slice (some ⟨w.heap.size, 0, none⟩) 0 G) ∧ n ≤ G ∧ Below w.heap.size w w' ∧ w'.ownsRow w.heap.size 5 1 (.slice (some ⟨w.heap.size, 0, none⟩) 0 G) 0 [] := by
  obtain ⟨i0, hi, hz0, hz1, hz2⟩ := info_parts (show (Tryz.prog.info? 5).map (fun i => (i.zero, i.size, i.bytes)) = some (some (.int .u8 0), 1, 1) by kernel_rfl)
  have hold : (Builtin.firstCells i0.size 0 (.slice none 0 0)).run Tryz.prog w.drew = .ok #[] w.drew := run_firstCells_none w.drew i0.size 0 0 0
  obtain ⟨G, hG⟩ : ∃ G, G = grownCap w (0 + n) 0 5 := ⟨_, rfl⟩
  have hGn : n ≤ G := by rw [hG]; have := grownCap_ge w (0 + n) 0 5; omega
  have hG63 : G ≤ 9223372036854775807 := by
    have := grownCap_le_maxLen w (0 + n) 0 5 (by unfold maxLen; omega)
    rw [← hG] at this
    unfold maxLen at this
    omega
  have hrz := fun ty => Lib.run_append_grow_zeros w 24 3 ty 5 i0 (.int .u8 0) .i64 .i64 gr_t28 gr_t3 hi hz0 none 0 0 [] hold n (by omega) (by omega) (by omega) (by omega) (by rw [hz2]; omega) (growslice_fits (by omega) (by rw [hz2]; omega))
  rw [← hG, Nat.zero_add] at hrz
  rw [Nat.zero_add] at hG
  generalize hcs : (([] : List Value).toArray ++ Builtin.zeroCells (Value.int .u8 0).cells n ++ Builtin.zeroCells (Value.int .u8 0).cells (G - n)) = cs at hrz
  have hsz : cs.size = G * 1 := by
    rw [← hcs]
    simp [Builtin.zeroCells, Value.cells]
    omega
  have hn0 : ¬ ((n : Int) < 0) := by omega
  have hp : (0 : Int) < (n : Int) := by omega
  clear hold hG hcs
  go_enter Tryz.func23, Tryz.ntmps23
  go_wp2_with (at_builtin; refine Lib.wpList_append_run _ rfl _ _ _ _ rfl _ _ rfl rfl _ _ (hrz _) ?_)
  all_goals
    go_ret
    exact ⟨G, rfl, hGn, (Below.drew (Below.refl _ _)).alloc (Nat.le_refl _) _, ⟨rfl, .inr ⟨w.heap.size, G, cs, rfl, Nat.le_refl _, heap_alloc_new w.drew _, Nat.zero_le _, by unfold maxLen; omega, hsz, by simp⟩⟩⟩
theorem app_none {w : World} {g G : Nat} {ty : TypeId} : (Builtin.append_ #[24, 24] ty #[.slice (some ⟨g, 0, none⟩) 0 G, .slice none 0 0]).run Tryz.prog w = .ok (.slice (some ⟨g, 0, none⟩) 0 G) w := by
  obtain ⟨i0, hi, hz0, hz1, hz2⟩ := info_parts (show (Tryz.prog.info? 5).map (fun i => (i.zero, i.size, i.bytes)) = some (some (.int .u8 0), 1, 1) by kernel_rfl)
  simp [Builtin.append_, run_underlying gr_t28, sizeOf, typeInfo, hi, Builtin.lenOf, Builtin.firstCells, storeCells]
set_option maxHeartbeats 1600000 in
set_option maxRecDepth 100000 in
theorem concat_one {w : World} {g : Nat} (L : List UInt8) (n : Nat) (hn : L.length = n) (ab ao bc : Nat) (h0 : 0 < n) (h1 : n ≤ 1000000) (hg : w.heap[g]? = some (.cells #[.slice none 0 0, .slice (some ⟨ab, ao, none⟩) n bc] 24)) (had : ab < w.heap.size) (hb : ∀ j u, (L.map Mx.byteV)[j]? = some u → w.cell? ((⟨ab, ao, none⟩ : Addr).add j) = some u) :
    Calls Tryz.prog 17 #[.slice (some ⟨g, 0, none⟩) 2 2] w fun e w' => ∃ o c, e = .returned (.slice o n c) ∧ Below w.heap.size w w' ∧ w'.ownsRow w.heap.size 5 1 (.slice o n c) n (L.map Mx.byteV) := by
  have hlt : g < w.heap.size := (Array.getElem?_eq_some_iff.1 hg).1
  have c0 : w.cell? ⟨g, 0, none⟩ = some (.slice none 0 0) := by rw [cell_u hg]; rfl
  have c1 : w.cell? ⟨g, 1, none⟩ = some (.slice (some ⟨ab, ao, none⟩) n bc) := by rw [cell_u hg]; rfl
  have HB : Hid (L.length = n ∧ ∀ j u, (L.map Mx.byteV)[j]? = some u → w.cell? ((⟨ab, ao, none⟩ : Addr).add j) = some u) := ⟨hn, hb⟩
  clear hg hb hn
  have k2 : IntKind.i64.wrap ((0 : Int) + (n : Int)) = (n : Int) := by rw [IntKind.wrap_i64]; omega
  have k3 : ¬ ((n : Int) < 0) := by omega
  go_enter Tryz.func17, Tryz.ntmps17
  go_wp2
  go_loopw [3, 11] (fun sz i wr => wr = w ∧ ((sz = .int .i64 0 ∧ i = .int .i64 0) ∨ (sz = .int .i64 0 ∧ i = .int .i64 1) ∨ (sz = .int .i64 n ∧ i = .int .i64 2))) (fun _ i _ => 2 - (intOf i).toNat)
  case atStart => exact ⟨rfl, .inl ⟨rfl, rfl⟩⟩
  case round =>
    obtain ⟨rfl, ⟨rfl, rfl⟩ | ⟨rfl, rfl⟩ | ⟨rfl, rfl⟩⟩ := hrel
    · go_wp2
      go_roundw
      case rel => exact ⟨by first | trivial | rfl, .inr (.inl ⟨rfl, rfl⟩)⟩
      case measure => simp [intOf]
    · go_wp2
      go_roundw
      case rel => exact ⟨by first | trivial | rfl, .inr (.inr ⟨rfl, rfl⟩)⟩
      case measure => simp [intOf]
    · obtain ⟨W0, hW0⟩ : ∃ W0, W0 = wr := ⟨_, rfl⟩
      subst hW0
      go_wp2_with fail
      go_at_call 23
      refine (grow_nil n h0 h1 _).mono ?_
      rintro e w2 ⟨G, rfl, hG, hb2, hown2⟩
      have d0 := (hb2.cell (p := ⟨g, 0, none⟩) (by exact hlt)).trans c0
      have d1 := (hb2.cell (p := ⟨g, 1, none⟩) (by exact hlt)).trans c1
      have hz2 := hb2.size
      go_wp2_with fail
      go_loopw [6, 27] (fun v i ws => (ws = w2 ∧ v = .slice (some ⟨W0.heap.size, 0, none⟩) 0 G ∧ (i = .int .i64 0 ∨ i = .int .i64 1)) ∨ (i = .int .i64 2 ∧ ∃ o c, v = .slice o n c ∧ Below W0.heap.size W0 ws ∧ ws.ownsRow W0.heap.size 5 1 v n (L.map Mx.byteV))) (fun _ i _ => 2 - (intOf i).toNat)
      case atStart => exact .inl ⟨rfl, rfl, .inl rfl⟩
      case round =>
        obtain ⟨rfl, rfl, rfl | rfl⟩ | ⟨rfl, o, c, rfl, hb, hown⟩ := hrel
        · have hap := app_none (w := wr) (g := W0.heap.size) (G := G) (ty := 24)
          go_wp2
          go_roundw
          case rel => exact .inl ⟨by first | trivial | rfl, by first | trivial | rfl, .inr rfl⟩
          case measure => simp [intOf]
        · obtain ⟨i0, hi, hz0, hz1, hz2'⟩ := info_parts (show (Tryz.prog.info? 5).map (fun i => (i.zero, i.size, i.bytes)) = some (some (.int .u8 0), 1, 1) by kernel_rfl)
          go_wp2_with (at_builtin; refine wpList_append_own _ rfl _ _ 24 rfl W0.heap.size 5 i0 _ 1 1 gr_t28 hi hz0 hz1 hz2' rfl (by decide) _ _ _ rfl (by exact hown2) ⟨ab, ao, none⟩ n bc (L.map Mx.byteV) rfl (by rw [List.length_map, HB.out.1]; omega) (fun j u hj => by have := HB.out.2 j u hj; rw [Addr.add_lit] at this ⊢; rw [hb2.cell (by exact had)]; exact this) (by intro u hu; obtain ⟨x, _, rfl⟩ := List.mem_map.1 hu; rfl) (by unfold maxLen; omega) (by omega) hz2 ?_)
          intro v7 w7 hown7 hgrow7 _
          have hb7 : Below W0.heap.size W0 w7 := hb2.grown hgrow7 hz2 (fun j hj => (hown2.lt j hj).1)
          have hv7 : ∃ o c, v7 = .slice o n c := by
            rcases hown7.2 with ⟨_, e⟩ | ⟨g2, c, _, e, _⟩
            · omega
            · exact ⟨_, _, e⟩
          obtain ⟨o7, c7, rfl⟩ := hv7
          go_wp2
          go_roundw
          case rel => exact .inr ⟨rfl, o7, c7, rfl, hb7, hown7⟩
          case measure => simp [intOf]
        · go_wp2
          go_ret
          exact ⟨o, c, rfl, hb, hown⟩
theorem app_nil0 {w : World} {o : Option Addr} {c : Nat} {ty : TypeId} : (Builtin.append_ #[24, 24] ty #[.slice none 0 0, .slice o 0 c]).run Tryz.prog w = .ok (.slice none 0 0) w := by
  obtain ⟨i0, hi, hz0, hz1, hz2⟩ := info_parts (show (Tryz.prog.info? 5).map (fun i => (i.zero, i.size, i.bytes)) = some (some (.int .u8 0), 1, 1) by kernel_rfl)
  cases o with
  | none => simp [Builtin.append_, run_underlying gr_t28, sizeOf, typeInfo, hi, Builtin.lenOf, Builtin.firstCells]
  | some a =>
    have hfc := run_firstCells_some (P := Tryz.prog) w i0.size 0 a 0 c [] (by simp) (by simp)
    simp [Builtin.append_, run_underlying gr_t28, sizeOf, typeInfo, hi, Builtin.lenOf, hfc]
set_option maxHeartbeats 1600000 in
set_option maxRecDepth 100000 in
theorem grow_zero (w : World) : Calls Tryz.prog 23 #[.slice none 0 0, .int .i64 0] w fun e w' => e = .returned (.slice none 0 0) ∧ w' = w := by
  go_enter Tryz.func23, Tryz.ntmps23
  go_wp2
  go_ret
  exact ⟨rfl, rfl⟩
set_option maxHeartbeats 1600000 in
set_option maxRecDepth 100000 in
theorem concat_zero {w : World} {g : Nat} (bo : Option Addr) (bc : Nat) (hg : w.heap[g]? = some (.cells #[.slice none 0 0, .slice bo 0 bc] 24)) :
    Calls Tryz.prog 17 #[.slice (some ⟨g, 0, none⟩) 2 2] w fun e w' => e = .returned (.slice none 0 0) ∧ w' = w := by
  have c0 : w.cell? ⟨g, 0, none⟩ = some (.slice none 0 0) := by rw [cell_u hg]; rfl
  have c1 : w.cell? ⟨g, 1, none⟩ = some (.slice bo 0 bc) := by rw [cell_u hg]; rfl
  clear hg
  cases bo
  all_goals
    go_enter Tryz.func17, Tryz.ntmps17
    go_wp2
    go_loopw [3, 11] (fun sz i wr => wr = w ∧ sz = .int .i64 0 ∧ (i = .int .i64 0 ∨ i = .int .i64 1 ∨ i = .int .i64 2)) (fun _ i _ => 2 - (intOf i).toNat)
    case atStart => exact ⟨rfl, rfl, .inl rfl⟩
    case round =>
      obtain ⟨rfl, rfl, rfl | rfl | rfl⟩ := hrel
      · go_wp2
        go_roundw
        case rel => exact ⟨by first | trivial | rfl, by first | trivial | rfl, .inr (.inl rfl)⟩
        case measure => simp [intOf]
      · go_wp2
        go_roundw
        case rel => exact ⟨by first | trivial | rfl, by first | trivial | rfl, .inr (.inr rfl)⟩
        case measure => simp [intOf]
      · obtain ⟨W0, hW0⟩ : ∃ W0, W0 = wr := ⟨_, rfl⟩
        subst hW0
        have hap := app_nil0 (w := W0) (o := none) (c := 0) (ty := 24)
        have hap2 := fun o => app_nil0 (w := W0) (o := o) (c := bc) (ty := 24)
        go_wp2_with fail
        go_at_call 23
        refine (grow_zero _).mono ?_
        rintro e w2 ⟨rfl, hw2⟩
        subst hw2
        go_wp2_with fail
        go_loopw [6, 27] (fun v i ws => ws = w2 ∧ v = .slice none 0 0 ∧ (i = .int .i64 0 ∨ i = .int .i64 1 ∨ i = .int .i64 2)) (fun _ i _ => 2 - (intOf i).toNat)
        case atStart => exact ⟨rfl, rfl, .inl rfl⟩
        case round =>
          obtain ⟨rfl, rfl, rfl | rfl | rfl⟩ := hrel
          · go_wp2
            go_roundw
            case rel => exact ⟨by first | trivial | rfl, by first | trivial | rfl, .inr (.inl rfl)⟩
            case measure => simp [intOf]
          · go_wp2
            go_roundw
            case rel => exact ⟨by first | trivial | rfl, by first | trivial | rfl, .inr (.inr rfl)⟩
            case measure => simp [intOf]
          · go_wp2
            go_ret
            exact ⟨rfl, rfl⟩
/-! a file system whose cells are known: room and put -/
structure FsIs (w : World) (fb mb : Nat) (T : TT) (nodes bytes used clock : Int) : Prop where
  fs : w.heap[fb]? = some (.cells #[.map (some mb), .int .i64 nodes, .int .i64 bytes, .int .i64 used, .int .i64 clock] 43 (0, 0))
  mp : ∃ es cl, w.heap[mb]? = some (.map es cl) ∧ es.toList.map (fun e => (e.key, e.val)) = T.map entK
theorem FsIs.below {w w' : World} {fb mb : Nat} {T : TT} {nodes bytes used clock : Int} (h : FsIs w fb mb T nodes bytes used clock) (hb : Below w.heap.size w w') : FsIs w' fb mb T nodes bytes used clock := by
  obtain ⟨es, cl, h1, h2⟩ := h.mp
  exact ⟨by rw [hb.block fb (Array.getElem?_eq_some_iff.1 h.fs).1]; exact h.fs, es, cl, by rw [hb.block mb (Array.getElem?_eq_some_iff.1 h1).1]; exact h1, h2⟩
theorem FsIs.tree {w : World} {fb mb : Nat} {T : TT} {nodes bytes used clock : Int} (h : FsIs w fb mb T nodes bytes used clock) : TreeIs w fb 0 T := by
  obtain ⟨es, cl, h1, h2⟩ := h.mp
  exact ⟨(Array.getElem?_eq_some_iff.1 h.fs).1, mb, es, cl, by rw [cell_u h.fs]; rfl, h1, h2⟩
/-- blocks but these two stand as they stood -/
structure But2 (w w' : World) (fb mb : Nat) : Prop where
  size : w.heap.size ≤ w'.heap.size
  os : w'.os = w.os
  tape : w'.tape = w.tape
  output : w'.output = w.output
  kept : ∀ j, j < w.heap.size → j ≠ fb → j ≠ mb → w'.heap[j]? = w.heap[j]?
def setMap (w : World) (mb : Nat) (es : Array MapEntry) (cl : Nat) : World := { w with heap := w.heap.setIfInBounds mb (.map es cl) }
theorem setMap_same {w : World} {mb : Nat} {es : Array MapEntry} {cl : Nat} (h : mb < w.heap.size) : (setMap w mb es cl).heap[mb]? = some (.map es cl) := by
  show (w.heap.setIfInBounds mb _)[mb]? = _
  rw [Array.getElem?_setIfInBounds, if_pos rfl, if_pos h]
theorem setMap_other {w : World} {mb j : Nat} {es : Array MapEntry} {cl : Nat} (h : j ≠ mb) : (setMap w mb es cl).heap[j]? = w.heap[j]? := by
  show (w.heap.setIfInBounds mb _)[j]? = _
  rw [Array.getElem?_setIfInBounds, if_neg (Ne.symm h)]
theorem setMap_size {w : World} {mb : Nat} {es : Array MapEntry} {cl : Nat} : (setMap w mb es cl).heap.size = w.heap.size := by
  show (w.heap.setIfInBounds mb _).size = _
  simp
theorem run_put_new {w : World} {mb cl : Nat} {es : Array MapEntry} {T : TT} {k : ByteArray} {v : Value} (hh : w.heap[mb]? = some (.map es cl)) (hT : es.toList.map (fun e => (e.key, e.val)) = T.map entK) (hf : findT T k = none) :
    (Instr.mapUpdate 41 (.map (some mb)) (.string k) v).run Tryz.prog w = .ok () (setMap w mb (es.push { key := .string k, val := v, born := cl }) (cl + 1)) := by
  obtain ⟨r, g1, g2⟩ := find_now (k := k) T es.toList 0 hT
  have hck : ∀ b, (Instr.checkKey b 10000 9 (.string k)).run Tryz.prog w = .ok () w := fun b => by
    unfold Instr.checkKey
    simp only [Sem.run_bind, Mx.run_und v_tS, Result.andThen_ok, Sem.run_pure]
  have hfk := Mx.findKey_of (P := Tryz.prog) (w := w) v_tS g1
  cases r with
  | some q => rw [hf] at g2; cases g2
  | none =>
    simp only [Instr.mapUpdate, Sem.run_bind, Mx.run_und v_tM, Result.andThen_ok, Mx.run_getMap hh, hck, hfk]
    exact MapKept.run_setObj_map _ hh
set_option maxHeartbeats 1600000 in
set_option maxRecDepth 100000 in
theorem put_any {w : World} {fb mb : Nat} {T : TT} {nodes bytes used clock : Int} (h : FsIs w fb mb T nodes bytes used clock) (k : ByteArray) (hk : findT T k = none) (d : Bool) (o : Option Addr) (n cap : Nat) (t0 : Int) (hc0 : 0 ≤ clock) (hc1 : clock ≤ 1000000) :
    Calls Tryz.prog 16 #[.pointer (some ⟨fb, 0, none⟩), .string k, .agg #[.bool d, .slice o n cap, .int .i64 t0]] w fun e w' => e = .returned (.tuple #[]) ∧ FsIs w' fb mb (T ++ [(k, (d, (o, n, cap), clock + 1))]) nodes bytes used (clock + 1) ∧ But2 w w' fb mb := by
  obtain ⟨es, cl, hm, hT⟩ := h.mp
  have hlm : mb < w.heap.size := (Array.getElem?_eq_some_iff.1 hm).1
  have hlf : fb < w.heap.size := (Array.getElem?_eq_some_iff.1 h.fs).1
  have hne : fb ≠ mb := fun e => by
    have := h.fs
    rw [e, hm] at this
    cases this
  have c0 : w.cell? ⟨fb, 0, none⟩ = some (.map (some mb)) := by rw [cell_u h.fs]; rfl
  have c4 : w.cell? ⟨fb, 4, none⟩ = some (.int .i64 clock) := by rw [cell_u h.fs]; rfl
  have n4 : w.frozen? ⟨fb, 4, none⟩ = false := nf_free (n := 5) h.fs (fun i _ hc => by rcases hc with ⟨_, h⟩; rcases h with h | h <;> simp at h) (by omega)
  have hfs := h.fs
  clear h
  obtain ⟨w1, hw1⟩ : ∃ w1, w1 = (w.setCell ⟨fb, 4, none⟩ (.int .i64 (clock + 1))).alloc (.cells #[.bool d, .slice o n cap, .int .i64 (clock + 1)] 48) := ⟨_, rfl⟩
  have hz1 : w1.heap.size = w.heap.size + 1 := by rw [hw1]; simp
  have hm1 : w1.heap[mb]? = some (.map es cl) := by rw [hw1, Go.heap_alloc_old _ _ (by rw [set_size]; exact hlm), set_other (Ne.symm hne)]; exact hm
  have hf1 : w1.heap[fb]? = some (.cells #[.map (some mb), .int .i64 nodes, .int .i64 bytes, .int .i64 used, .int .i64 (clock + 1)] 43 (0, 0)) := by rw [hw1, Go.heap_alloc_old _ _ (by rw [set_size]; exact hlf)]; exact set_same hfs
  have hn1 : w1.heap[w.heap.size]? = some (.cells #[.bool d, .slice o n cap, .int .i64 (clock + 1)] 48) := by
    have := heap_alloc_new (w.setCell ⟨fb, 4, none⟩ (.int .i64 (clock + 1))) (.cells #[.bool d, .slice o n cap, .int .i64 (clock + 1)] 48)
    rw [set_size] at this
    rw [hw1]
    exact this
  have hk1 : ∀ j, j < w.heap.size → j ≠ fb → w1.heap[j]? = w.heap[j]? := fun j h1 h2 => by rw [hw1, Go.heap_alloc_old _ _ (by rw [set_size]; exact h1), set_other h2]
  have ho1 : w1.os = w.os ∧ w1.tape = w.tape ∧ w1.output = w.output := by rw [hw1]; exact ⟨rfl, rfl, rfl⟩
  have d0 : w1.cell? ⟨fb, 0, none⟩ = some (.map (some mb)) := by rw [cell_u hf1]; rfl
  have e0 : w1.cell? ⟨w.heap.size, 0, none⟩ = some (.bool d) := by rw [cell_u hn1]; rfl
  have e1 : w1.cell? ⟨w.heap.size, 1, none⟩ = some (.slice o n cap) := by rw [cell_u hn1]; rfl
  have e2 : w1.cell? ⟨w.heap.size, 2, none⟩ = some (.int .i64 (clock + 1)) := by rw [cell_u hn1]; rfl
  have hu := run_put_new (w := w1.drew) (k := k) (v := .agg #[.bool d, .slice o n cap, .int .i64 (clock + 1)]) hm1 hT hk
  have hsm : ∀ b i, b ≠ mb → (setMap w1.drew mb (es.push { key := .string k, val := .agg #[.bool d, .slice o n cap, .int .i64 (clock + 1)], born := cl }) (cl + 1)).cell? ⟨b, i, none⟩ = w1.cell? ⟨b, i, none⟩ := fun b i hb => by
    unfold World.cell?
    rw [setMap_other hb]
    rfl
  have s0 := (hsm fb 0 hne).trans d0
  have s1 := (hsm w.heap.size 0 (by omega)).trans e0
  have s2 := (hsm w.heap.size 1 (by omega)).trans e1
  have s3 := (hsm w.heap.size 2 (by omega)).trans e2
  clear hsm
  have HE : Hid (FsIs (setMap w1.drew mb (es.push { key := .string k, val := .agg #[.bool d, .slice o n cap, .int .i64 (clock + 1)], born := cl }) (cl + 1)) fb mb (T ++ [(k, (d, (o, n, cap), clock + 1))]) nodes bytes used (clock + 1) ∧ But2 w (setMap w1.drew mb (es.push { key := .string k, val := .agg #[.bool d, .slice o n cap, .int .i64 (clock + 1)], born := cl }) (cl + 1)) fb mb) := by
    refine ⟨⟨?_, _, _, setMap_same (by show mb < w1.heap.size; omega), ?_⟩, ⟨?_, ho1.1, ho1.2.1, ho1.2.2, fun j h1 h2 h3 => ?_⟩⟩
    · rw [setMap_other hne]
      exact hf1
    · rw [Array.toList_push, List.map_append, List.map_append, hT]
      rfl
    · rw [setMap_size]
      show w.heap.size ≤ w1.heap.size
      omega
    · rw [setMap_other h3]
      exact hk1 j h1 h2
  clear hm hT hk hfs hm1 hf1 hn1 hk1 ho1
  go_enter Tryz.func16, Tryz.ntmps16
  go_wp2_with fail
  rw [← hw1]
  clear hw1
  go_region_held3 (fun w' => w'.cell? ⟨fb, 0, none⟩ = some (.map (some mb)) ∧ w'.cell? ⟨w.heap.size, 0, none⟩ = some (.bool d) ∧ w'.cell? ⟨w.heap.size, 1, none⟩ = some (.slice o n cap) ∧ w'.cell? ⟨w.heap.size, 2, none⟩ = some (.int .i64 (clock + 1)))
    (first | exact ⟨d0, e0, e1, e2⟩ | exact ⟨s0, s1, s2, s3⟩)
    (fail)
  all_goals
    go_end0
    exact ⟨rfl, HE.out⟩
set_option maxHeartbeats 1600000 in
set_option maxRecDepth 100000 in
theorem room_any {w : World} {fb mb : Nat} {T : TT} {nodes bytes used clock : Int} (h : FsIs w fb mb T nodes bytes used clock) (a b : Int) (hT : T.length ≤ 1000000) (ha : 0 ≤ a) (ha2 : a ≤ 1000000) (hu : -1000000000 ≤ used) (hu2 : used ≤ 1000000000) (hb : -1000000000 ≤ b) (hb2 : b ≤ 1000000000) :
    Calls Tryz.prog 15 #[.pointer (some ⟨fb, 0, none⟩), .int .i64 a, .int .i64 b] w fun e w' => e = .returned (.bool (decide ((T.length : Int) + a ≤ nodes) && decide (used + b ≤ bytes))) ∧ Below w.heap.size w w' := by
  obtain ⟨es, cl, hm, hE⟩ := h.mp
  have hes : es.size = T.length := by
    have := congrArg List.length hE
    simpa using this
  have c0 : w.cell? ⟨fb, 0, none⟩ = some (.map (some mb)) := by rw [cell_u h.fs]; rfl
  have c1 : w.cell? ⟨fb, 1, none⟩ = some (.int .i64 nodes) := by rw [cell_u h.fs]; rfl
  have c2 : w.cell? ⟨fb, 2, none⟩ = some (.int .i64 bytes) := by rw [cell_u h.fs]; rfl
  have c3 : w.cell? ⟨fb, 3, none⟩ = some (.int .i64 used) := by rw [cell_u h.fs]; rfl
  have hlen : ∀ k, (Builtin.len_ #[41] 3 #[.map (some mb)]).run Tryz.prog (w.drewN k) = .ok (.int .i64 (T.length : Int)) (w.drewN k) := fun k => by
    have hm' : (w.drewN k).heap[mb]? = some (.map es cl) := by first | exact hm | simpa using hm
    rw [← hes]
    simp [Builtin.len_, Mx.run_und v_tM, Mx.run_getMap hm', goInt]
  clear h hE
  have hT' : (T.length : Int) ≤ 1000000 := by omega
  have hT0 : (0 : Int) ≤ (T.length : Int) := by omega
  generalize (T.length : Int) = m at hlen hT' hT0
  have k1 : IntKind.i64.wrap (m + a) = m + a := by rw [IntKind.wrap_i64]; omega
  have k2 : IntKind.i64.wrap (used + b) = used + b := by rw [IntKind.wrap_i64]; omega
  cases h1 : decide (m + a ≤ nodes)
  all_goals cases h2 : decide (used + b ≤ bytes)
  all_goals
    go_enter Tryz.func15, Tryz.ntmps15
    go_wp2_with fail
    go_quiet (fail)
    all_goals
      go_wp2
      go_ret
      exact ⟨rfl, ⟨rfl, rfl, rfl, Nat.le_refl _, fun _ _ => rfl⟩⟩
theorem FsIs.take {w : World} {fb mb : Nat} {T : TT} {nodes bytes used clock : Int} (h : FsIs w fb mb T nodes bytes used clock) (u : Int) : FsIs (w.setCell ⟨fb, 3, none⟩ (.int .i64 u)) fb mb T nodes bytes u clock := by
  obtain ⟨es, cl, hm, hE⟩ := h.mp
  have hne : mb ≠ fb := fun e => by
    have := h.fs
    rw [← e, hm] at this
    cases this
  exact ⟨set_same h.fs, es, cl, by rw [set_other hne]; exact hm, hE⟩
/-- what slices.Concat makes of nothing and these bytes -/
def CatSaid (w : World) (bo : Option Addr) (bn bc : Nat) (D : World → Option Addr → Prop) : Prop := ∀ (w' : World), Below w.heap.size w w' → ∀ (g : Nat), w'.heap[g]? = some (.cells #[.slice none 0 0, .slice bo bn bc] 24) →
  Calls Tryz.prog 17 #[.slice (some ⟨g, 0, none⟩) 2 2] w' fun e w'' => ∃ o c, e = .returned (.slice o bn c) ∧ Below w'.heap.size w' w'' ∧ D w'' o
set_option maxHeartbeats 1600000 in
set_option maxRecDepth 100000 in
theorem write_new {w : World} {fb mb : Nat} {T : TT} {nodes bytes used clock : Int} (h : FsIs w fb mb T nodes bytes used clock) (hmx : MaxIs w) (p q : ByteArray) (hp : p.size ≤ 1100000) (ha : fabsF T p = (q, 0)) (hq : kindF T q = 0) (hT : findT T q = none) (hTl : T.length ≤ 1000000)
    (bo : Option Addr) (bn bc : Nat) (hbn : bn ≤ 1000000) (hu : 0 ≤ used) (hu2 : used ≤ 1000000) (hc0 : 0 ≤ clock) (hc1 : clock ≤ 1000000) (hr1 : (T.length : Int) + 1 ≤ nodes) (hr2 : used + (bn : Int) ≤ bytes) (D : World → Option Addr → Prop)
    (hcat : ∀ w1, Below w.heap.size w w1 → CatSaid (w1.setCell ⟨fb, 3, none⟩ (.int .i64 (used + bn))) bo bn bc D) :
    Calls Tryz.prog 8 #[.pointer (some ⟨fb, 0, none⟩), .string p, .slice bo bn bc, .bool false] w fun e w' => e = .returned (.int .i64 0) ∧ ∃ w5 o c, D w5 o ∧ FsIs w' fb mb (T ++ [(q, (false, (o, bn, c), clock + 1))]) nodes bytes (used + bn) (clock + 1) ∧ But2 w5 w' fb mb ∧ w.heap.size ≤ w5.heap.size ∧ w5.os = w.os ∧ w5.tape = w.tape ∧ w5.output = w.output ∧ ∀ j, j < w.heap.size → j ≠ fb → w5.heap[j]? = w.heap[j]? := by
  have hA : Hid (Calls Tryz.prog 13 #[.pointer (some ⟨fb, 0, none⟩), .string p] w fun e w' => e = .returned (.tuple #[.string q, .int .i64 0]) ∧ Below w.heap.size w w') := by
    have := fabs_any (T := T) ⟨h.tree, hmx⟩ p hp
    rw [ha] at this
    exact this
  have hK : Hid (∀ w', Below w.heap.size w w' → Calls Tryz.prog 14 #[.pointer (some ⟨fb, 0, none⟩), .string q] w' fun e w'' => e = .returned (.int .i64 0) ∧ Below w'.heap.size w' w'') := fun w' hb => by
    have := kind_any (h.tree.below hb) q
    rw [hq] at this
    exact this
  have hF : Hid (∀ w', Below w.heap.size w w' → FsIs w' fb mb T nodes bytes used clock) := fun w' hb => h.below hb
  have hC : Hid (∀ w1, Below w.heap.size w w1 → CatSaid (w1.setCell ⟨fb, 3, none⟩ (.int .i64 (used + bn))) bo bn bc D) := hcat
  have k2 : IntKind.i64.wrap (used + (bn : Int)) = used + (bn : Int) := by rw [IntKind.wrap_i64]; omega
  have hlf : fb < w.heap.size := (Array.getElem?_eq_some_iff.1 h.fs).1
  clear h hcat ha hq
  go_enter Tryz.func8, Tryz.ntmps8
  go_wp2_with fail
  go_at_call 13
  refine hA.out.mono ?_
  rintro e w1 ⟨rfl, hb1⟩
  clear hA
  go_wp2_with fail
  go_at_call 14
  refine (hK.out w1 hb1).mono ?_
  rintro e w2 ⟨rfl, hb12⟩
  have hb2 := hb1.trans (hb12.mono hb1.size)
  clear hK
  have h2 := hF.out w2 hb2
  obtain ⟨mb', hc0', hl⟩ := look_T h2.tree
  have e0 : mb' = mb := by
    rw [cell_u h2.fs] at hc0'
    injection hc0' with e
    injection e with e
    injection e with e
    exact e.symm
  subst e0
  have hl1 := hl w2 rfl q false
  rw [hT] at hl1
  change (Instr.lookup 41 (.map (some mb')) (.string q) false).run Tryz.prog w2 = .ok (.agg #[.bool false, .slice none 0 0, .int .i64 0]) w2 at hl1
  clear hl
  have hfd := fld1 w2 false none 0 0 0
  go_wp2_with fail
  go_at_call 15
  have hrm := room_any h2 1 bn hTl (by omega) (by omega) (by omega) (by omega) (by omega) (by omega)
  rw [decide_eq_true hr1, decide_eq_true hr2] at hrm
  refine hrm.mono ?_
  rintro e w3 ⟨rfl, hb23⟩
  have hb3 := hb2.trans (hb23.mono hb2.size)
  clear hrm hl1 hfd h2
  have h3 := hF.out w3 hb3
  have c3 : w3.cell? ⟨fb, 3, none⟩ = some (.int .i64 used) := by rw [cell_u h3.fs]; rfl
  have n3 : w3.frozen? ⟨fb, 3, none⟩ = false := nf_free (n := 5) h3.fs (fun i _ hc => by rcases hc with ⟨_, h⟩; rcases h with h | h <;> simp at h) (by omega)
  have h3s := h3.take (used + bn)
  have hC3 := hC.out w3 hb3
  clear hF hC h3
  go_wp2_with fail
  go_at_call 17
  have hb4 : Below (w3.setCell ⟨fb, 3, none⟩ (.int .i64 (used + bn))).heap.size (w3.setCell ⟨fb, 3, none⟩ (.int .i64 (used + bn))) ((w3.setCell ⟨fb, 3, none⟩ (.int .i64 (used + bn))).alloc (.cells #[.slice none 0 0, .slice bo bn bc] 24)) := (Below.refl _ _).alloc (Nat.le_refl _) _
  have hg4 : ((w3.setCell ⟨fb, 3, none⟩ (.int .i64 (used + bn))).alloc (.cells #[.slice none 0 0, .slice bo bn bc] 24)).heap[w3.heap.size]? = some (.cells #[.slice none 0 0, .slice bo bn bc] 24) := by
    have := heap_alloc_new (w3.setCell ⟨fb, 3, none⟩ (.int .i64 (used + bn))) (.cells #[.slice none 0 0, .slice bo bn bc] 24)
    rw [set_size] at this
    exact this
  refine (hC3 _ hb4 _ hg4).mono ?_
  rintro e w5 ⟨o, c, rfl, hb45, hD⟩
  have hb5 := hb4.trans (hb45.mono hb4.size)
  have hf5 := h3s.below hb5
  have hz5 := hb5.size
  rw [set_size] at hz5
  have hz3 := hb3.size
  have hk5 : Hid (∀ j, j < w.heap.size → j ≠ fb → w5.heap[j]? = w.heap[j]?) := fun j h1 h2 => (hb5.block j (by rw [set_size]; omega)).trans ((set_other h2).trans (hb3.block j h1))
  have ho5 : Hid (w5.os = w.os ∧ w5.tape = w.tape ∧ w5.output = w.output) := ⟨hb5.os.trans hb3.os, hb5.tape.trans hb3.tape, hb5.output.trans hb3.output⟩
  clear hC3 hb4 hg4 hb45 hb5 h3s c3 n3 hb3 hb23
  go_wp2_with fail
  go_at_call 16
  refine (put_any hf5 q hT false o bn c 0 hc0 hc1).mono ?_
  rintro e w6 ⟨rfl, hF6, hB6⟩
  go_wp2
  go_ret
  exact ⟨rfl, w5, o, c, hD, hF6, hB6, by omega, ho5.out.1, ho5.out.2.1, ho5.out.2.2, hk5.out⟩
end
end Go.Proofs.YthocoonhoilmdaaGreatDoor
