/-
  slices.Grow of nothing, walked.
-/
import Derived.Test.YthocoonhoilmdaaGreatDoorCaT
import Derived.Lib.AppendZerosOnto
import Derived.Lib.AppendZeros
import Derived.Deep.RegionLaw
import Derived.Deep.RegionWith
import Derived.Deep.RegionHeld3
import Derived.RegionTactic
import Derived.WalkKit
import Derived.WalkSpells
import Derived.StillTactics
import Derived.LoopIn
import Derived.RowKit3
import Derived.Below
import Derived.OwnWalk
import Derived.KernelRfl
open Go Go.Mx Go.RowKit
namespace Go.Proofs.YthocoonhoilmdaaGreatDoor
set_option maxRecDepth 100000
noncomputable section
/-! slices.Grow of nothing -/
theorem gr_t28 : Tryz.prog.underlying 24 = some (.slice 5) := by kernel_rfl
theorem gr_t3 : Tryz.prog.underlying 3 = some (.int .i64) := by kernel_rfl
set_option maxHeartbeats 1600000 in
set_option maxRecDepth 100000 in
theorem grow_nil (n : Nat) (h0 : 0 < n) (hn : n ≤ 1000000) (w : World) :
    Calls Tryz.prog 23 #[.slice none 0 0, .int .i64 n] w fun e w' => ∃ G, e = .returned (.slice (some ⟨w.heap.size, 0, none⟩) 0 G) ∧ n ≤ G ∧ Below w.heap.size w w' ∧ w'.ownsRow w.heap.size 5 1 (.slice (some ⟨w.heap.size, 0, none⟩) 0 G) 0 [] := by
  obtain ⟨i0, hi, hz0, hz1, hz2⟩ := info_parts (show (Tryz.prog.info? 5).map (fun i => (i.zero, i.size, i.bytes)) = some (some (.int .u8 0), 1, 1) by kernel_rfl)
  have hold : (Builtin.firstCells i0.size 0 (.slice none 0 0)).run Tryz.prog w.drew = .ok #[] w.drew := run_firstCells_none w.drew i0.size 0 0 0
  obtain ⟨G, hG⟩ : ∃ G, G = grownCap w (0 + n) 0 5 := ⟨_, rfl⟩
  have hGn : n ≤ G := by rw [hG]; have := grownCap_ge w (0 + n) 0 5; omega
  have hG63 : G ≤ 9223372036854775807 := by
    have := grownCap_le_maxLen w (0 + n) 0 5 (by unfold maxLen; omega)
    rw [← hG] at this
    unfold maxLen at this
    omega
  have hrz := fun ty => Lib.run_append_grow_zeros w 24 3 ty 5 i0 (.int .u8 0) .i64 .i64 gr_t28 gr_t3 hi hz0 none 0 0 [] hold n (by omega) (by omega) (by omega) (by omega) (by rw [hz2]; omega) (growslice_fits (by omega) (by rw [hz2]; omega))
  rw [← hG, Nat.zero_add] at hrz
  rw [Nat.zero_add] at hG
  generalize hcs : (([] : List Value).toArray ++ Builtin.zeroCells (Value.int .u8 0).cells n ++ Builtin.zeroCells (Value.int .u8 0).cells (G - n)) = cs at hrz
  have hsz : cs.size = G * 1 := by
    rw [← hcs]
    simp [Builtin.zeroCells, Value.cells]
    omega
  have hn0 : ¬ ((n : Int) < 0) := by omega
  have hp : (0 : Int) < (n : Int) := by omega
  clear hold hG hcs
  go_enter Tryz.func23, Tryz.ntmps23
  go_wp2_with (at_builtin; refine Lib.wpList_append_run _ rfl _ _ _ _ rfl _ _ rfl rfl _ _ (hrz _) ?_)
  all_goals
    go_ret
    exact ⟨G, rfl, hGn, (Below.drew (Below.refl _ _)).alloc (Nat.le_refl _) _, ⟨rfl, .inr ⟨w.heap.size, G, cs, rfl, Nat.le_refl _, heap_alloc_new w.drew _, Nat.zero_le _, by unfold maxLen; omega, hsz, by simp⟩⟩⟩
theorem app_none {w : World} {g G : Nat} {ty : TypeId} : (Builtin.append_ #[24, 24] ty #[.slice (some ⟨g, 0, none⟩) 0 G, .slice none 0 0]).run Tryz.prog w = .ok (.slice (some ⟨g, 0, none⟩) 0 G) w := by
  obtain ⟨i0, hi, hz0, hz1, hz2⟩ := info_parts (show (Tryz.prog.info? 5).map (fun i => (i.zero, i.size, i.bytes)) = some (some (.int .u8 0), 1, 1) by kernel_rfl)
  simp [Builtin.append_, run_underlying gr_t28, sizeOf, typeInfo, hi, Builtin.lenOf, Builtin.firstCells, storeCells]
set_option maxHeartbeats 1600000 in
set_option maxRecDepth 100000 in
theorem concat_one {w : World} {g : Nat} (L : List UInt8) (n : Nat) (hn : L.length = n) (ab ao bc : Nat) (h0 : 0 < n) (h1 : n ≤ 1000000) (hg : w.heap[g]? = some (.cells #[.slice none 0 0, .slice (some ⟨ab, ao, none⟩) n bc] 24)) (had : ab < w.heap.size) (hb : ∀ j u, (L.map Mx.byteV)[j]? = some u → w.cell? ((⟨ab, ao, none⟩ : Addr).add j) = some u) :
    Calls Tryz.prog 17 #[.slice (some ⟨g, 0, none⟩) 2 2] w fun e w' => ∃ o c, e = .returned (.slice o n c) ∧ Below w.heap.size w w' ∧ w'.ownsRow w.heap.size 5 1 (.slice o n c) n (L.map Mx.byteV) := by
  have hlt : g < w.heap.size := (Array.getElem?_eq_some_iff.1 hg).1
  have c0 : w.cell? ⟨g, 0, none⟩ = some (.slice none 0 0) := by rw [cell_u hg]; rfl
  have c1 : w.cell? ⟨g, 1, none⟩ = some (.slice (some ⟨ab, ao, none⟩) n bc) := by rw [cell_u hg]; rfl
  have HB : Hid (L.length = n ∧ ∀ j u, (L.map Mx.byteV)[j]? = some u → w.cell? ((⟨ab, ao, none⟩ : Addr).add j) = some u) := ⟨hn, hb⟩
  clear hg hb hn
  have k2 : IntKind.i64.wrap ((0 : Int) + (n : Int)) = (n : Int) := by rw [IntKind.wrap_i64]; omega
  have k3 : ¬ ((n : Int) < 0) := by omega
  go_enter Tryz.func17, Tryz.ntmps17
  go_wp2
  go_loopw [3, 11] (fun sz i wr => wr = w ∧ ((sz = .int .i64 0 ∧ i = .int .i64 0) ∨ (sz = .int .i64 0 ∧ i = .int .i64 1) ∨ (sz = .int .i64 n ∧ i = .int .i64 2))) (fun _ i _ => 2 - (intOf i).toNat)
  case atStart => exact ⟨rfl, .inl ⟨rfl, rfl⟩⟩
  case round =>
    obtain ⟨rfl, ⟨rfl, rfl⟩ | ⟨rfl, rfl⟩ | ⟨rfl, rfl⟩⟩ := hrel
    · go_wp2
      go_roundw
      case rel => exact ⟨by first | trivial | rfl, .inr (.inl ⟨rfl, rfl⟩)⟩
      case measure => simp [intOf]
    · go_wp2
      go_roundw
      case rel => exact ⟨by first | trivial | rfl, .inr (.inr ⟨rfl, rfl⟩)⟩
      case measure => simp [intOf]
    · obtain ⟨W0, hW0⟩ : ∃ W0, W0 = wr := ⟨_, rfl⟩
      subst hW0
      go_wp2_with fail
      go_at_call 23
      refine (grow_nil n h0 h1 _).mono ?_
      rintro e w2 ⟨G, rfl, hG, hb2, hown2⟩
      have d0 := (hb2.cell (p := ⟨g, 0, none⟩) (by exact hlt)).trans c0
      have d1 := (hb2.cell (p := ⟨g, 1, none⟩) (by exact hlt)).trans c1
      have hz2 := hb2.size
      go_wp2_with fail
      go_loopw [6, 27] (fun v i ws => (ws = w2 ∧ v = .slice (some ⟨W0.heap.size, 0, none⟩) 0 G ∧ (i = .int .i64 0 ∨ i = .int .i64 1)) ∨ (i = .int .i64 2 ∧ ∃ o c, v = .slice o n c ∧ Below W0.heap.size W0 ws ∧ ws.ownsRow W0.heap.size 5 1 v n (L.map Mx.byteV))) (fun _ i _ => 2 - (intOf i).toNat)
      case atStart => exact .inl ⟨rfl, rfl, .inl rfl⟩
      case round =>
        obtain ⟨rfl, rfl, rfl | rfl⟩ | ⟨rfl, o, c, rfl, hb, hown⟩ := hrel
        · have hap := app_none (w := wr) (g := W0.heap.size) (G := G) (ty := 24)
          go_wp2
          go_roundw
          case rel => exact .inl ⟨by first | trivial | rfl, by first | trivial | rfl, .inr rfl⟩
          case measure => simp [intOf]
        · obtain ⟨i0, hi, hz0, hz1, hz2'⟩ := info_parts (show (Tryz.prog.info? 5).map (fun i => (i.zero, i.size, i.bytes)) = some (some (.int .u8 0), 1, 1) by kernel_rfl)
          go_wp2_with (at_builtin; refine wpList_append_own _ rfl _ _ 24 rfl W0.heap.size 5 i0 _ 1 1 gr_t28 hi hz0 hz1 hz2' rfl (by decide) _ _ _ rfl (by exact hown2) ⟨ab, ao, none⟩ n bc (L.map Mx.byteV) rfl (by rw [List.length_map, HB.out.1]; omega) (fun j u hj => by have := HB.out.2 j u hj; rw [Addr.add_lit] at this ⊢; rw [hb2.cell (by exact had)]; exact this) (by intro u hu; obtain ⟨x, _, rfl⟩ := List.mem_map.1 hu; rfl) (by unfold maxLen; omega) (by omega) hz2 ?_)
          intro v7 w7 hown7 hgrow7 _
          have hb7 : Below W0.heap.size W0 w7 := hb2.grown hgrow7 hz2 (fun j hj => (hown2.lt j hj).1)
          have hv7 : ∃ o c, v7 = .slice o n c := by
            rcases hown7.2 with ⟨_, e⟩ | ⟨g2, c, _, e, _⟩
            · omega
            · exact ⟨_, _, e⟩
          obtain ⟨o7, c7, rfl⟩ := hv7
          go_wp2
          go_roundw
          case rel => exact .inr ⟨rfl, o7, c7, rfl, hb7, hown7⟩
          case measure => simp [intOf]
        · go_wp2
          go_ret
          exact ⟨o, c, rfl, hb, hown⟩
theorem app_nil0 {w : World} {o : Option Addr} {c : Nat} {ty : TypeId} : (Builtin.append_ #[24, 24] ty #[.slice none 0 0, .slice o 0 c]).run Tryz.prog w = .ok (.slice none 0 0) w := by
  obtain ⟨i0, hi, hz0, hz1, hz2⟩ := info_parts (show (Tryz.prog.info? 5).map (fun i => (i.zero, i.size, i.bytes)) = some (some (.int .u8 0), 1, 1) by kernel_rfl)
  cases o with
  | none => simp [Builtin.append_, run_underlying gr_t28, sizeOf, typeInfo, hi, Builtin.lenOf, Builtin.firstCells]
  | some a =>
    have hfc := run_firstCells_some (P := Tryz.prog) w i0.size 0 a 0 c [] (by simp) (by simp)
    simp [Builtin.append_, run_underlying gr_t28, sizeOf, typeInfo, hi, Builtin.lenOf, hfc]
set_option maxHeartbeats 1600000 in
set_option maxRecDepth 100000 in
theorem grow_zero (w : World) : Calls Tryz.prog 23 #[.slice none 0 0, .int .i64 0] w fun e w' => e = .returned (.slice none 0 0) ∧ w' = w := by
  go_enter Tryz.func23, Tryz.ntmps23
  go_wp2
  go_ret
  exact ⟨rfl, rfl⟩
set_option maxHeartbeats 1600000 in
set_option maxRecDepth 100000 in
theorem concat_zero {w : World} {g : Nat} (bo : Option Addr) (bc : Nat) (hg : w.heap[g]? = some (.cells #[.slice none 0 0, .slice bo 0 bc] 24)) :
    Calls Tryz.prog 17 #[.slice (some ⟨g, 0, none⟩) 2 2] w fun e w' => e = .returned (.slice none 0 0) ∧ w' = w := by
  have c0 : w.cell? ⟨g, 0, none⟩ = some (.slice none 0 0) := by rw [cell_u hg]; rfl
  have c1 : w.cell? ⟨g, 1, none⟩ = some (.slice bo 0 bc) := by rw [cell_u hg]; rfl
  clear hg
  cases bo
  all_goals
    go_enter Tryz.func17, Tryz.ntmps17
    go_wp2
    go_loopw [3, 11] (fun sz i wr => wr = w ∧ sz = .int .i64 0 ∧ (i = .int .i64 0 ∨ i = .int .i64 1 ∨ i = .int .i64 2)) (fun _ i _ => 2 - (intOf i).toNat)
    case atStart => exact ⟨rfl, rfl, .inl rfl⟩
    case round =>
      obtain ⟨rfl, rfl, rfl | rfl | rfl⟩ := hrel
      · go_wp2
        go_roundw
        case rel => exact ⟨by first | trivial | rfl, by first | trivial | rfl, .inr (.inl rfl)⟩
        case measure => simp [intOf]
      · go_wp2
        go_roundw
        case rel => exact ⟨by first | trivial | rfl, by first | trivial | rfl, .inr (.inr rfl)⟩
        case measure => simp [intOf]
      · obtain ⟨W0, hW0⟩ : ∃ W0, W0 = wr := ⟨_, rfl⟩
        subst hW0
        have hap := app_nil0 (w := W0) (o := none) (c := 0) (ty := 24)
        have hap2 := fun o => app_nil0 (w := W0) (o := o) (c := bc) (ty := 24)
        go_wp2_with fail
        go_at_call 23
        refine (grow_zero _).mono ?_
        rintro e w2 ⟨rfl, hw2⟩
        subst hw2
        go_wp2_with fail
        go_loopw [6, 27] (fun v i ws => ws = w2 ∧ v = .slice none 0 0 ∧ (i = .int .i64 0 ∨ i = .int .i64 1 ∨ i = .int .i64 2)) (fun _ i _ => 2 - (intOf i).toNat)
        case atStart => exact ⟨rfl, rfl, .inl rfl⟩
        case round =>
          obtain ⟨rfl, rfl, rfl | rfl | rfl⟩ := hrel
          · go_wp2
            go_roundw
            case rel => exact ⟨by first | trivial | rfl, by first | trivial | rfl, .inr (.inl rfl)⟩
            case measure => simp [intOf]
          · go_wp2
            go_roundw
            case rel => exact ⟨by first | trivial | rfl, by first | trivial | rfl, .inr (.inr rfl)⟩
            case measure => simp [intOf]
          · go_wp2
            go_ret
            exact ⟨rfl, rfl⟩
end
end Go.Proofs.YthocoonhoilmdaaGreatDoor
