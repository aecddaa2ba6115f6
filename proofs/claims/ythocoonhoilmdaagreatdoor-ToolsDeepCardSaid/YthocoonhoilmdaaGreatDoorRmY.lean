/-
  What rm does with a path, walked.
-/
import Derived.Test.YthocoonhoilmdaaGreatDoorMkW
import Derived.Test.YthocoonhoilmdaaGreatDoorMlW
import Derived.Test.YthocoonhoilmdaaGreatDoorXMxAL
import Derived.BigQuiet
import Derived.Deep.QuietTactic
import Derived.Deep.RegionLaw
import Derived.Deep.RegionWith
import Derived.Deep.RegionHeld3
import Derived.RegionTactic
import Derived.WalkKit
import Derived.WalkSpells
import Derived.StillTactics
import Derived.LoopIn
import Derived.RowKit3
import Derived.Below
import Derived.OwnWalk
import Derived.KernelRfl
open Go Go.Mx Go.RowKit
namespace Go.Proofs.YthocoonhoilmdaaGreatDoor
set_option maxRecDepth 100000
noncomputable section
/-! remove, walked -/
theorem kind_tre {w : World} {fb mb : Nat} {L : List ByteArray} {n k j : Nat} (hT : Tre fb mb L n j w) (hkj : k ≤ j) (hkn : k ≤ n) (hkL : k < L.length) (hj : j ≤ L.length) (hmx : MaxIs w) (hL : ∀ x ∈ L, NameOk x) (h9 : L.length ≤ 9) :
    Calls Tryz.prog 90 #[.pointer (some ⟨fb, 0, none⟩), .string (pB (L.take (k + 1)))] w fun e w' => e = .returned (.int .i64 (if k < j then if k < n then 2 else 1 else 0)) ∧ Below w.heap.size w w' := by
  obtain ⟨T, u, c, hS⟩ := hT
  have h1 := Kind_any (hS.fs.env hmx) (pB (L.take (k + 1))) (by have := pB_small hL h9 (k + 1); omega)
  rw [hS.nodes.Kind hL hj h9 hkL hkj hkn] at h1
  exact h1
set_option maxHeartbeats 1600000 in
set_option maxRecDepth 100000 in
theorem rem_flat {w : World} {ub fb : Nat} {p : ByteArray} {k : Int} {R : World → Prop} (c0 : w.cell? ⟨ub, 0, none⟩ = some (.pointer (some ⟨fb, 0, none⟩))) (hR : Calls Tryz.prog 65 #[.pointer (some ⟨fb, 0, none⟩), .string p] w fun e w' => e = .returned (.int .i64 k) ∧ R w') :
    Calls Tryz.prog 59 #[.pointer (some ⟨ub, 0, none⟩), .string p, .bool false] w fun e w' => e = .returned (.int .i64 k) ∧ R w' := by
  go_enter Tryz.func59, Tryz.ntmps59
  go_wp2_with fail
  go_at_call 65
  refine hR.mono ?_
  rintro e w1 ⟨rfl, h1⟩
  go_wp2
  go_ret
  exact ⟨rfl, h1⟩
set_option maxHeartbeats 1600000 in
set_option maxRecDepth 100000 in
theorem rem_leaf {w : World} {ub fb : Nat} {p : ByteArray} {k kd : Int} {R : World → Prop} (c0 : w.cell? ⟨ub, 0, none⟩ = some (.pointer (some ⟨fb, 0, none⟩))) (hK : Calls Tryz.prog 90 #[.pointer (some ⟨fb, 0, none⟩), .string p] w fun e w' => e = .returned (.int .i64 kd) ∧ Below w.heap.size w w') (hkd : (kd == 2) = false) (hR : ∀ w1, Below w.heap.size w w1 → Calls Tryz.prog 65 #[.pointer (some ⟨fb, 0, none⟩), .string p] w1 fun e w' => e = .returned (.int .i64 k) ∧ R w') :
    Calls Tryz.prog 59 #[.pointer (some ⟨ub, 0, none⟩), .string p, .bool true] w fun e w' => e = .returned (.int .i64 k) ∧ R w' := by
  have hul : ub < w.heap.size := World.block_lt_of_cell? w _ c0
  have HR : Hid (∀ w1, Below w.heap.size w w1 → Calls Tryz.prog 65 #[.pointer (some ⟨fb, 0, none⟩), .string p] w1 fun e w' => e = .returned (.int .i64 k) ∧ R w') := hR
  clear hR
  go_enter Tryz.func59, Tryz.ntmps59
  go_wp2_with fail
  go_at_call 90
  refine hK.mono ?_
  rintro e w1 ⟨rfl, hb1⟩
  have hR1 := HR.out w1 hb1
  have d0 := (hb1.cell (p := ⟨ub, 0, none⟩) (by exact hul)).trans c0
  clear HR hK c0
  go_wp2_with fail
  go_at_call 65
  refine hR1.mono ?_
  rintro e w2 ⟨rfl, h2⟩
  go_wp2
  go_ret
  exact ⟨rfl, h2⟩
set_option maxHeartbeats 3200000 in
set_option maxRecDepth 100000 in
theorem rem_dir {w : World} {ub fb mb : Nat} {L : List ByteArray} {n k : Nat} (c0 : w.cell? ⟨ub, 0, none⟩ = some (.pointer (some ⟨fb, 0, none⟩))) (hubf : ub ≠ fb) (hubm : ub ≠ mb) (hT : Tre fb mb L n (n + 1) w) (hk : k < n) (hn : n + 1 ≤ L.length) (hmx : MaxIs w) (hL : ∀ x ∈ L, NameOk x) (h9 : L.length ≤ 9)
    (IH : ∀ w1, Below w.heap.size w w1 → Calls Tryz.prog 59 #[.pointer (some ⟨ub, 0, none⟩), .string (pB (L.take (k + 1 + 1))), .bool true] w1 fun e w' => e = .returned (.int .i64 0) ∧ Tre fb mb L n (k + 1) w' ∧ But2 w1 w' fb mb) :
    Calls Tryz.prog 59 #[.pointer (some ⟨ub, 0, none⟩), .string (pB (L.take (k + 1))), .bool true] w fun e w' => e = .returned (.int .i64 0) ∧ Tre fb mb L n k w' ∧ But2 w w' fb mb := by
  have hul : ub < w.heap.size := World.block_lt_of_cell? w _ c0
  have hK := kind_tre hT (show k ≤ n + 1 by omega) (by omega) (by omega) hn hmx hL h9
  rw [if_pos (by omega), if_pos hk] at hK
  have HL : Hid (∀ w1, Below w.heap.size w w1 → w1.cell? ⟨ub, 0, none⟩ = some (.pointer (some ⟨fb, 0, none⟩)) ∧ Calls Tryz.prog 64 #[.pointer (some ⟨fb, 0, none⟩), .string (pB (L.take (k + 1)))] w1 fun e w' => ∃ g c, e = .returned (.tuple #[.slice (some ⟨g, 0, none⟩) 1 c, .int .i64 0]) ∧ w'.cell? ⟨g, 0, none⟩ = some (.string (L[k + 1]'(by omega))) ∧ Below w1.heap.size w1 w') := fun w1 hb => by
    refine ⟨(hb.cell (by exact hul)).trans c0, ?_⟩
    obtain ⟨T, u, c, hS⟩ := hT
    refine (list_dir (hS.fs.below hb) (hmx.below hmx.lt hb) hS.nodes hL hn h9 (by omega) hk).mono ?_
    rintro e w' ⟨g, c, h1, h2, _, _, h3⟩
    exact ⟨g, c, h1, h2, h3⟩
  have HA : Hid (∀ w1, Below w.heap.size w w1 → Calls Tryz.prog 21 #[.string (pB (L.take (k + 1))), .string (L[k + 1]'(by omega))] w1 fun e w' => e = .returned (.tuple #[.string (pB (L.take (k + 1 + 1))), .int .i64 0]) ∧ Below w1.heap.size w1 w') := fun w1 hb => abs_at hL h9 (by omega) (by omega) w1 (hmx.below hmx.lt hb)
  have HI : Hid (∀ w1, Below w.heap.size w w1 → Calls Tryz.prog 59 #[.pointer (some ⟨ub, 0, none⟩), .string (pB (L.take (k + 1 + 1))), .bool true] w1 fun e w' => e = .returned (.int .i64 0) ∧ Tre fb mb L n (k + 1) w' ∧ w'.cell? ⟨ub, 0, none⟩ = some (.pointer (some ⟨fb, 0, none⟩)) ∧ But2 w w' fb mb) := fun w1 hb => by
    refine (IH w1 hb).mono ?_
    rintro e w' ⟨h1, h2, h3⟩
    have h4 := (But2.of fb mb hb).trans h3
    exact ⟨h1, h2, (h4.cell hul hubf hubm).trans c0, h4⟩
  have HR : Hid (∀ w1, Tre fb mb L n (k + 1) w1 → But2 w w1 fb mb → Calls Tryz.prog 65 #[.pointer (some ⟨fb, 0, none⟩), .string (pB (L.take (k + 1)))] w1 fun e w' => e = .returned (.int .i64 0) ∧ Tre fb mb L n k w' ∧ But2 w w' fb mb) := fun w1 h1 h2 => by
    refine (remove_last h1 (hT.max hmx h2) hL (by omega) h9 (by omega)).mono ?_
    rintro e w' ⟨e1, e2, e3⟩
    exact ⟨e1, e2, h2.trans e3⟩
  obtain ⟨p, hp⟩ : ∃ p, p = pB (L.take (k + 1)) := ⟨_, rfl⟩
  obtain ⟨q, hq⟩ : ∃ q, q = pB (L.take (k + 1 + 1)) := ⟨_, rfl⟩
  obtain ⟨nm, hnm⟩ : ∃ x, x = L[k + 1]'(by omega) := ⟨_, rfl⟩
  rw [← hp] at hK HL HA HR ⊢
  rw [← hq] at HA HI
  rw [← hnm] at HL HA
  clear hp hq hnm IH hT hmx hL
  go_enter Tryz.func59, Tryz.ntmps59
  go_wp2_with fail
  go_at_call 90
  refine hK.mono ?_
  rintro e w1 ⟨rfl, hb1⟩
  obtain ⟨d0, hL1⟩ := HL.out w1 hb1
  clear HL hK c0
  go_wp2_with fail
  go_at_call 64
  refine hL1.mono ?_
  rintro e w2 ⟨g, c, rfl, hg, hb12⟩
  have hb2 := hb1.trans (hb12.mono hb1.size)
  have d2 := (hb12.cell (p := ⟨ub, 0, none⟩) (by exact World.block_lt_of_cell? w1 _ d0)).trans d0
  clear hL1 d0
  go_wp2
  go_loopw [34] (fun i wr => (i = .int .i64 0 ∧ wr = w2) ∨ (i = .int .i64 1 ∧ Tre fb mb L n (k + 1) wr ∧ wr.cell? ⟨ub, 0, none⟩ = some (.pointer (some ⟨fb, 0, none⟩)) ∧ But2 w wr fb mb)) (fun i _ => 1 - (intOf i).toNat)
  case atStart => exact .inl ⟨rfl, rfl⟩
  case round =>
    obtain ⟨rfl, rfl⟩ | ⟨rfl, h1, h2, h3⟩ := hrel
    · have hA2 := HA.out wr hb2
      clear HA
      go_wp2_with fail
      go_at_call 21
      refine hA2.mono ?_
      rintro e w3 ⟨rfl, hb3⟩
      have hI3 := HI.out w3 (hb2.trans (hb3.mono hb2.size))
      clear HI hA2
      go_wp2_with fail
      go_at_call 59
      refine hI3.mono ?_
      rintro e w4 ⟨rfl, h1, h2, h3⟩
      go_wp2
      go_roundw
      case rel => exact .inr ⟨rfl, h1, h2, h3⟩
      case measure => simp [intOf]
    · have hR := HR.out wr h1 h3
      clear HR h1 h3
      go_wp2_with fail
      go_at_call 65
      refine hR.mono ?_
      rintro e w4 ⟨rfl, h5, h6⟩
      go_wp2
      go_ret
      exact ⟨rfl, h5, h6⟩
theorem rem_deep {fb mb ub : Nat} {L : List ByteArray} {n : Nat} (hubf : ub ≠ fb) (hubm : ub ≠ mb) (hn : n + 1 ≤ L.length) (hL : ∀ x ∈ L, NameOk x) (h9 : L.length ≤ 9) : ∀ (d k : Nat), k + d = n → ∀ w : World, w.cell? ⟨ub, 0, none⟩ = some (.pointer (some ⟨fb, 0, none⟩)) → Tre fb mb L n (n + 1) w → MaxIs w →
    Calls Tryz.prog 59 #[.pointer (some ⟨ub, 0, none⟩), .string (pB (L.take (k + 1))), .bool true] w fun e w' => e = .returned (.int .i64 0) ∧ Tre fb mb L n k w' ∧ But2 w w' fb mb := by
  intro d
  induction d with
  | zero =>
    intro k hk w c0 hT hmx
    have hkn : k = n := by omega
    subst hkn
    have hK := kind_tre hT (show k ≤ k + 1 by omega) (Nat.le_refl k) (by omega) hn hmx hL h9
    rw [if_pos (by omega), if_neg (Nat.lt_irrefl k)] at hK
    refine (rem_leaf (R := fun w' => Tre fb mb L k k w' ∧ But2 w w' fb mb) c0 hK (by decide) fun w1 hb => ?_)
    refine (remove_last (hT.below hb) (hmx.below hmx.lt hb) hL hn h9 (Nat.le_refl k)).mono ?_
    rintro e w' ⟨e1, e2, e3⟩
    exact ⟨e1, e2, (But2.of fb mb hb).trans e3⟩
  | succ d ih =>
    intro k hk w c0 hT hmx
    refine rem_dir c0 hubf hubm hT (by omega) hn hmx hL h9 fun w1 hb => ?_
    exact ih (k + 1) (by omega) w1 ((hb.cell (by exact World.block_lt_of_cell? w _ c0)).trans c0) (hT.below hb) (hmx.below hmx.lt hb)
/-! rm, walked -/
set_option maxHeartbeats 1600000 in
set_option maxRecDepth 100000 in
theorem rm1_fail {w : World} {ub db qb : Nat} {F C A I : Value} {nm : ByteArray} {d : Bool} {k : Int} {kt : ByteArray} (x p : ByteArray) (hx : x.size ≤ 1000) (hnm : nm.size ≤ 10) (hk : ErrIs k kt) (h : US w w ub F C (.string nm) A I 0 [] []) (cd : w.cell? ⟨db, 0, none⟩ = some (.bool d)) (cq : w.cell? ⟨qb, 0, none⟩ = some (.bool false)) (hR : Calls Tryz.prog 59 #[.pointer (some ⟨ub, 0, none⟩), .string p, .bool d] w fun e w' => e = .returned (.int .i64 k) ∧ Below w.heap.size w w') :
    Calls Tryz.prog 58 #[.string x, .string p, .pointer (some ⟨ub + 1, 0, none⟩), .pointer (some ⟨db, 0, none⟩), .pointer (some ⟨qb, 0, none⟩)] w fun e w' => e = .returned (.tuple #[]) ∧ ∃ lb, US w w' ub F C (.string nm) A I 1 [] lb := by
  have cu : w.cell? ⟨ub + 1, 0, none⟩ = some (.pointer (some ⟨ub, 0, none⟩)) := by rw [cell_u h.box]; rfl
  have hul : ub + 1 < w.heap.size := World.block_lt_of_cell? w _ cu
  have hql : qb < w.heap.size := World.block_lt_of_cell? w _ cq
  have HY : Hid (∀ w1, Below w.heap.size w w1 → Calls Tryz.prog 54 #[.pointer (some ⟨ub, 0, none⟩), .string x, .int .i64 k] w1 fun e w' => e = .returned (.bool false) ∧ ∃ lb, US w w' ub F C (.string nm) A I 1 [] lb) := fun w1 hb => by
    refine (may_err (h.below hb) x hk hnm hx (by simp)).mono ?_
    rintro e w' ⟨h1, h2⟩
    exact ⟨h1, _, h2⟩
  clear h hk
  go_enter Tryz.func58, Tryz.ntmps58
  go_wp2_with fail
  go_at_call 59
  refine hR.mono ?_
  rintro e w1 ⟨rfl, hb1⟩
  have d1 := (hb1.cell (p := ⟨ub + 1, 0, none⟩) (by exact hul)).trans cu
  have d2 := (hb1.cell (p := ⟨qb, 0, none⟩) (by exact hql)).trans cq
  have hY := HY.out w1 hb1
  clear HY hR cu cq cd
  go_wp2_with fail
  go_at_call 54
  refine hY.mono ?_
  rintro e w2 ⟨rfl, hQ⟩
  go_wp2
  go_end0
  exact ⟨rfl, hQ⟩
set_option maxHeartbeats 1600000 in
set_option maxRecDepth 100000 in
theorem rm1_ok {w : World} {ub db qb : Nat} {d : Bool} {R : World → Prop} (x p : ByteArray) (cu : w.cell? ⟨ub + 1, 0, none⟩ = some (.pointer (some ⟨ub, 0, none⟩))) (cd : w.cell? ⟨db, 0, none⟩ = some (.bool d)) (hR : Calls Tryz.prog 59 #[.pointer (some ⟨ub, 0, none⟩), .string p, .bool d] w fun e w' => e = .returned (.int .i64 0) ∧ R w' ∧ w'.cell? ⟨ub + 1, 0, none⟩ = some (.pointer (some ⟨ub, 0, none⟩)) ∧ w'.cell? ⟨qb, 0, none⟩ = some (.bool false)) :
    Calls Tryz.prog 58 #[.string x, .string p, .pointer (some ⟨ub + 1, 0, none⟩), .pointer (some ⟨db, 0, none⟩), .pointer (some ⟨qb, 0, none⟩)] w fun e w' => e = .returned (.tuple #[]) ∧ R w' := by
  go_enter Tryz.func58, Tryz.ntmps58
  go_wp2_with fail
  go_at_call 59
  refine hR.mono ?_
  rintro e w1 ⟨rfl, hQ, d1, d2⟩
  clear hR cu cd
  go_wp2_with fail
  go_at_call 54
  refine (may_any _ _ _).mono ?_
  rintro e w2 ⟨rfl, rfl⟩
  go_wp2
  go_end0
  exact ⟨rfl, hQ⟩
set_option maxHeartbeats 1600000 in
set_option maxRecDepth 100000 in
theorem rm1_quiet {w : World} {ub db qb : Nat} {d : Bool} {R : World → Prop} (x p : ByteArray) (cu : w.cell? ⟨ub + 1, 0, none⟩ = some (.pointer (some ⟨ub, 0, none⟩))) (cd : w.cell? ⟨db, 0, none⟩ = some (.bool d)) (hR : Calls Tryz.prog 59 #[.pointer (some ⟨ub, 0, none⟩), .string p, .bool d] w fun e w' => e = .returned (.int .i64 6) ∧ R w' ∧ w'.cell? ⟨qb, 0, none⟩ = some (.bool true)) :
    Calls Tryz.prog 58 #[.string x, .string p, .pointer (some ⟨ub + 1, 0, none⟩), .pointer (some ⟨db, 0, none⟩), .pointer (some ⟨qb, 0, none⟩)] w fun e w' => e = .returned (.tuple #[]) ∧ R w' := by
  go_enter Tryz.func58, Tryz.ntmps58
  go_wp2_with fail
  go_at_call 59
  refine hR.mono ?_
  rintro e w1 ⟨rfl, hQ, d2⟩
  clear hR cu cd
  go_wp2
  go_end0
  exact ⟨rfl, hQ⟩
set_option maxHeartbeats 1600000 in
set_option maxRecDepth 100000 in
theorem each_rm {w : World} {ub : Nat} {Q : World → Prop} (c1 : w.cell? ⟨ub, 1, none⟩ = some (.string slB)) (hm : MaxIs w) (x p : ByteArray) (hs : x.size ≤ 1100000) (hx : absF x = (p, 0)) (g off cap : Nat) (hg : w.cell? ⟨g, off, none⟩ = some (.string x)) (A B D : Value)
    (hK : ∀ w1, Below w.heap.size w w1 → Calls Tryz.prog 58 #[.string x, .string p, A, B, D] w1 fun e w' => e = .returned (.tuple #[]) ∧ Q w') :
    Calls Tryz.prog 51 #[.pointer (some ⟨ub, 0, none⟩), .slice (some ⟨g, off, none⟩) 1 cap, .func (.func 58) #[] #[A, B, D]] w fun e w' => e = .returned (.tuple #[]) ∧ Q w' := by
  have HK : Hid (∀ w1, Below w.heap.size w w1 → Calls Tryz.prog 58 #[.string x, .string p, A, B, D] w1 fun e w' => e = .returned (.tuple #[]) ∧ Q w') := hK
  have HA : Hid (Calls Tryz.prog 87 #[.pointer (some ⟨ub, 0, none⟩), .string x] w fun e w' => e = .returned (.tuple #[.string p, .bool true]) ∧ Below w.heap.size w w') := abs_ok c1 hm x p hs hx
  clear hK c1 hm
  go_enter Tryz.func51, Tryz.ntmps51
  go_wp2
  go_loopw [12] (fun i wr => (i = .int .i64 0 ∧ wr = w) ∨ (i = .int .i64 1 ∧ Q wr)) (fun i _ => 1 - (intOf i).toNat)
  case atStart => exact .inl ⟨rfl, rfl⟩
  case round =>
    obtain ⟨rfl, rfl⟩ | ⟨rfl, hQ⟩ := hrel
    · go_wp2_with fail
      go_at_call 87
      refine HA.out.mono ?_
      rintro e w1 ⟨rfl, hb1⟩
      go_wp2_with fail
      go_at_call 58
      refine (HK.out w1 hb1).mono ?_
      rintro e w2 ⟨rfl, hQ⟩
      go_wp2
      go_roundw
      case rel => exact .inr ⟨rfl, hQ⟩
      case measure => simp [intOf]
    · go_wp2
      go_end0
      exact ⟨rfl, hQ⟩
/-- rm's world when its closure is called -/
structure RmS (w0 X : World) (fb : Nat) (A : Value) (d q : Bool) : Prop where
  u : X.heap[w0.heap.size]? = some (.cells #[.pointer (some ⟨fb, 0, none⟩), .string slB, .string ⟨#[114, 109]⟩, A, .slice none 0 0, .int .i64 0, .slice none 0 0, .slice none 0 0] 59 (0, 0))
  box : X.heap[w0.heap.size + 1]? = some (.cells #[.pointer (some ⟨w0.heap.size, 0, none⟩)] 57 (0, 0))
  cd : X.cell? ⟨w0.heap.size + 1 + 1, 0, none⟩ = some (.bool d)
  cq : X.cell? ⟨w0.heap.size + 1 + 1 + 1, 0, none⟩ = some (.bool q)
  below : Below w0.heap.size w0 X
  size : w0.heap.size + 3 < X.heap.size
theorem RmS.mono {w0 X Y : World} {fb : Nat} {A : Value} {d q : Bool} (h : RmS w0 X fb A d q) (hb : Below X.heap.size X Y) : RmS w0 Y fb A d q :=
  ⟨by rw [hb.block _ (by have := h.size; omega)]; exact h.u, by rw [hb.block _ (by have := h.size; omega)]; exact h.box, by rw [hb.cell (by show w0.heap.size + 1 + 1 < _; have := h.size; omega)]; exact h.cd, by rw [hb.cell (by show w0.heap.size + 1 + 1 + 1 < _; have := h.size; omega)]; exact h.cq, h.below.trans (hb.mono (by have := h.size; omega)), Nat.lt_of_lt_of_le h.size hb.size⟩
theorem RmS.us {w0 X : World} {fb : Nat} {A : Value} {d q : Bool} (h : RmS w0 X fb A d q) : US X X w0.heap.size (.pointer (some ⟨fb, 0, none⟩)) (.string slB) (.string ⟨#[114, 109]⟩) A (.slice none 0 0) 0 [] [] :=
  ⟨⟨.slice none 0 0, .slice none 0 0, h.u, World.ownsRow_nil _ _ _ _, World.ownsRow_nil _ _ _ _, .inl rfl, ⟨fun _ => rfl, fun _ => rfl⟩, ⟨fun _ => rfl, fun _ => rfl⟩⟩, h.box, by have := h.size; omega, Below.refl _ _⟩
end
end Go.Proofs.YthocoonhoilmdaaGreatDoor
