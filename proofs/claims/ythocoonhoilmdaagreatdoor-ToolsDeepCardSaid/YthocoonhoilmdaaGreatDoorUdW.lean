/-
  A utility whose status counts.
-/
import Derived.Test.YthocoonhoilmdaaGreatDoorUtW
import Derived.Test.YthocoonhoilmdaaGreatDoorBpW
import Derived.Test.YthocoonhoilmdaaGreatDoorXMxAL
import Derived.BigQuiet
import Derived.Deep.QuietTactic
import Derived.Deep.RegionLaw
import Derived.Deep.RegionWith
import Derived.Deep.RegionHeld3
import Derived.RegionTactic
import Derived.WalkKit
import Derived.WalkSpells
import Derived.StillTactics
import Derived.LoopIn
import Derived.RowKit3
import Derived.Below
import Derived.OwnWalk
import Derived.KernelRfl
open Go Go.Mx Go.RowKit
namespace Go.Proofs.YthocoonhoilmdaaGreatDoor
set_option maxRecDepth 100000
noncomputable section
/-! a utility whose status counts -/
theorem may_any (p : Value) (x : ByteArray) (w : World) : Calls Tryz.prog 54 #[p, .string x, .int .i64 0] w fun e w' => e = .returned (.bool true) ∧ w' = w := by
  go_enter Tryz.func54, Tryz.ntmps54
  go_wp2
  go_ret
  exact ⟨rfl, rfl⟩
theorem itBody : ∃ c, Tryz.f85.body = some c := ⟨_, rfl⟩
theorem runIt6 : R0 85 (.cons (.i .i64 (Int.ofNat 6)) .nil) .leaf 9 (fun y _ _ => sameV y (.s [54])) (fun _ _ _ => false) = true := by kernel_rfl
theorem runIt12 : R0 85 (.cons (.i .i64 (Int.ofNat 12)) .nil) .leaf 9 (fun y _ _ => sameV y (.s [49, 50])) (fun _ _ _ => false) = true := by kernel_rfl
theorem runIt14 : R0 85 (.cons (.i .i64 (Int.ofNat 14)) .nil) .leaf 9 (fun y _ _ => sameV y (.s [49, 52])) (fun _ _ _ => false) = true := by kernel_rfl
theorem itoa_said {k : Nat} {l : List Nat} (hr : R0 85 (.cons (.i .i64 (Int.ofNat k)) .nil) .leaf 9 (fun y _ _ => sameV y (.s l)) (fun _ _ _ => false) = true) (W : World) : Calls Tryz.prog 85 #[.int .i64 k] W fun e w' => e = .returned (.string (bs l)) ∧ Below W.heap.size W w' := by
  obtain ⟨c, hb⟩ := itBody
  refine (calls_of_ck nameOK r0 (fn := Tryz.f85) (by kernel_rfl) hb (vs := [.int .i64 k]) (φ := fun v => v = .string (bs l)) (fun ρ => ?_) hr (fun ρ' y v h' nx' hk hv => ?_) W).mono ?_
  · simp only [VRs]
    exact ⟨_, _, rfl, VRi _ _ _, rfl⟩
  · have e := sameV_eq hk
    subst e
    simp only [VR] at hv
    rw [hv.1]
  · rintro e W' ⟨v, rfl, rfl, hs⟩
    exact ⟨rfl, below_stays hs⟩
/-- the error numbers that are told here -/
def ErrIs (k : Int) (t : ByteArray) : Prop := t.size ≤ 2 ∧ k ≠ 0 ∧ ∀ W, Calls Tryz.prog 85 #[.int .i64 k] W fun e w' => e = .returned (.string t) ∧ Below W.heap.size W w'
theorem err6 : ErrIs 6 (bs [54]) := ⟨by decide, by decide, itoa_said runIt6⟩
theorem err12 : ErrIs 12 (bs [49, 50]) := ⟨by decide, by decide, itoa_said runIt12⟩
theorem err14 : ErrIs 14 (bs [49, 52]) := ⟨by decide, by decide, itoa_said runIt14⟩
def said (nm x kt : ByteArray) : ByteArray := ((((nm ++ ⟨#[58, 32]⟩) ++ x) ++ ⟨#[58, 32, 101, 114, 114, 111, 114, 32]⟩) ++ kt) ++ ⟨#[10]⟩
theorem said_size (nm x kt : ByteArray) : (said nm x kt).size = nm.size + x.size + kt.size + 11 := by
  unfold said
  simp only [ByteArray.size_append]
  have h1 : (⟨#[58, 32]⟩ : ByteArray).size = 2 := rfl
  have h2 : (⟨#[58, 32, 101, 114, 114, 111, 114, 32]⟩ : ByteArray).size = 8 := rfl
  have h3 : (⟨#[10]⟩ : ByteArray).size = 1 := rfl
  omega
set_option maxHeartbeats 1600000 in
set_option maxRecDepth 100000 in
theorem complain_err {w0 w : World} {ub : Nat} {F C A I : Value} {s : Int} {ob lb : List UInt8} {nm : ByteArray} (h : US w0 w ub F C (.string nm) A I s ob lb) (x : ByteArray) {k : Int} {kt : ByteArray} (hk : ErrIs k kt) (hn : nm.size ≤ 10) (hx : x.size ≤ 1000) (hl : lb.length ≤ 100000) :
    Calls Tryz.prog 48 #[.pointer (some ⟨ub, 0, none⟩), .string x, .int .i64 k] w fun e w' => e = .returned (.tuple #[]) ∧ US w0 w' ub F C (.string nm) A I 1 ob (lb ++ (said nm x kt).data.toList) := by
  obtain ⟨O, G, hh, hO, hG, hne, hO0, hG0⟩ := h.ex
  have hlt := h.lt
  obtain ⟨go, gc, rfl, _, _, _⟩ := own_data hG hG0
  have HIT : Hid (∀ W, Calls Tryz.prog 85 #[.int .i64 k] W fun e w' => e = .returned (.string kt) ∧ Below W.heap.size W w') := hk.2.2
  have hkt := hk.1
  have c2 : w.cell? ⟨ub, 2, none⟩ = some (.string nm) := by rw [cell_u hh]; rfl
  have c7 : w.cell? ⟨ub, 7, none⟩ = some (.slice go lb.length gc) := by rw [cell_u hh]; rfl
  have HB : Hid (∀ w1, Below w.heap.size w w1 → w1.ownsRow (ub + 2) 5 1 (.slice go lb.length gc) lb.length (lb.map Mx.byteV) ∧ ub + 2 ≤ w1.heap.size) := fun w1 hb => ⟨own_b hG hb, by have := hb.size; omega⟩
  have HSZ : Hid (lb.length + (said nm x kt).size ≤ 1000000) := by
    have := said_size nm x kt
    show lb.length + (said nm x kt).size ≤ 1000000
    omega
  have HS : Hid (∀ w1 w2 v', Below w.heap.size w w1 → w2.ownsRow (ub + 2) 5 1 v' (lb ++ (said nm x kt).data.toList).length ((lb ++ (said nm x kt).data.toList).map Mx.byteV) → w1.grownBy w2 (Value.slice go lb.length gc).ownBlock → (v' = .slice none 0 0 ↔ Value.slice go lb.length gc = .slice none 0 0 ∧ (said nm x kt).size = 0) → NewB w1 (.slice go lb.length gc) v' →
      US w0 ((w2.setCell ⟨ub, 7, none⟩ v').setCell ⟨ub, 5, none⟩ (.int .i64 1)) ub F C (.string nm) A I 1 ob (lb ++ (said nm x kt).data.toList) ∧ w2.heap[ub]? = some (.cells #[F, C, .string nm, A, I, .int .i64 s, O, .slice go lb.length gc] 59 (0, 0))) := fun w1 w2 v' hb h1 h2 h3 h4 => by
    have hu1 : w1.heap[ub]? = some (.cells #[F, C, .string nm, A, I, .int .i64 s, O, .slice go lb.length gc] 59 (0, 0)) := by rw [hb.block ub (by omega)]; exact hh
    refine ⟨((h.below hb).log hu1 (own_b hO hb) (own_b hG hb) hne hO0 hG0 (L := (said nm x kt).data.toList) (n := (said nm x kt).size) (size_data _).symm h1 h2 h3 h4).status 1, ?_⟩
    rw [h2.block ub (by have := hb.size; omega) fun e => ?_]
    · exact hu1
    · have := ((own_b hG hb).lt ub e.symm).1
      omega
  have hlt1 : ub < w.heap.size := by omega
  have z1 : ¬ 9223372036854775807 < nm.size + 2 := by omega
  have z2 : ¬ 9223372036854775807 < nm.size + 2 + x.size := by omega
  have z3 : ¬ 9223372036854775807 < nm.size + 2 + x.size + 8 := by omega
  have z4 : ¬ 9223372036854775807 < nm.size + 2 + x.size + 8 + kt.size := by omega
  have z5 : ¬ 9223372036854775807 < nm.size + 2 + x.size + 8 + kt.size + 1 := by omega
  clear h hh hO hG hne hO0 hG0 hk
  go_enter Tryz.func48, Tryz.ntmps48
  go_wp2_with fail
  go_region_law
    (first
      | (go_simp; go_at_call 85; refine (HIT.out _).mono ?_; rintro e w1 ⟨rfl, hb1⟩; dsimp only; have hb1' : Below w.heap.size w w1 := ⟨hb1.os, hb1.tape, hb1.output, hb1.size, hb1.block⟩; have d2 := (hb1'.cell (p := ⟨ub, 2, none⟩) (by exact hlt1)).trans c2; have d7 := (hb1'.cell (p := ⟨ub, 7, none⟩) (by exact hlt1)).trans c7; clear hb1)
      | (rw [if_pos (by rfl)]; refine wp_append_said _ _ rfl _ (ub + 2) (.slice go lb.length gc) lb rfl (by first | exact (HB.out _ hb1').1 | exact (HB.out _ (Below.drew hb1')).1) (said nm x kt) rfl HSZ.out (by first | exact (HB.out _ hb1').2 | exact (HB.out _ (Below.drew hb1')).2) ?_; intro v2 w2 hown2 hgr2 hnil2 hnew2;
         obtain ⟨hU, hu2⟩ := HS.out w1 w2 v2 hb1' hown2 ⟨hgr2.os, hgr2.tape, hgr2.output, hgr2.size, hgr2.block⟩ hnil2 hnew2;
         obtain ⟨o3, n3, c3, rfl⟩ : ∃ o3 n3 c3, v2 = .slice o3 n3 c3 := (by rcases hown2.2 with ⟨e, _⟩ | ⟨g, cc, _, e, _⟩; exact ⟨_, _, _, e⟩; exact ⟨_, _, _, e⟩);
         have x7 : w2.cell? ⟨ub, 7, none⟩ = some (.slice go lb.length gc) := (by rw [cell_u hu2]; rfl); have f7 : w2.frozen? ⟨ub, 7, none⟩ = false := nf_free hu2 free8 (by omega); have x5 : w2.cell? ⟨ub, 5, none⟩ = some (.int .i64 s) := (by rw [cell_u hu2]; rfl); have f5 : w2.frozen? ⟨ub, 5, none⟩ = false := nf_free hu2 free8 (by omega); clear hown2 hgr2 hnil2 hnew2))
  all_goals
    go_wp2
    go_end0
    exact ⟨rfl, hU⟩
set_option maxHeartbeats 1600000 in
set_option maxRecDepth 100000 in
theorem may_err {w0 w : World} {ub : Nat} {F C A I : Value} {s : Int} {ob lb : List UInt8} {nm : ByteArray} (h : US w0 w ub F C (.string nm) A I s ob lb) (x : ByteArray) {k : Int} {kt : ByteArray} (hk : ErrIs k kt) (hn : nm.size ≤ 10) (hx : x.size ≤ 1000) (hl : lb.length ≤ 100000) :
    Calls Tryz.prog 54 #[.pointer (some ⟨ub, 0, none⟩), .string x, .int .i64 k] w fun e w' => e = .returned (.bool false) ∧ US w0 w' ub F C (.string nm) A I 1 ob (lb ++ (said nm x kt).data.toList) := by
  have hC := complain_err h x hk hn hx hl
  have hk0 : (k == 0) = false := beq_eq_false_iff_ne.2 hk.2.1
  have hk1 : (0 == k) = false := beq_eq_false_iff_ne.2 (Ne.symm hk.2.1)
  have hk2 := hk.2.1
  clear hk h
  go_enter Tryz.func54, Tryz.ntmps54
  go_wp2_with fail
  go_at_call 48
  refine hC.mono ?_
  rintro e w1 ⟨rfl, h1⟩
  go_wp2
  go_ret
  exact ⟨rfl, h1⟩
set_option maxHeartbeats 1600000 in
set_option maxRecDepth 100000 in
theorem abs_ok {w : World} {ub : Nat} (c1 : w.cell? ⟨ub, 1, none⟩ = some (.string slB)) (hm : MaxIs w) (x p : ByteArray) (hs : x.size ≤ 1100000) (hx : absF x = (p, 0)) :
    Calls Tryz.prog 87 #[.pointer (some ⟨ub, 0, none⟩), .string x] w fun e w' => e = .returned (.tuple #[.string p, .bool true]) ∧ Below w.heap.size w w' := by
  have hA := abs_any x w hm hs
  rw [hx] at hA
  simp only at hA
  clear hx
  go_enter Tryz.func87, Tryz.ntmps87
  go_wp2_with fail
  go_at_call 21
  refine hA.mono ?_
  rintro e w1 ⟨rfl, hb1⟩
  go_wp2_with fail
  go_at_call 54
  refine (may_any _ _ _).mono ?_
  rintro e w2 ⟨rfl, rfl⟩
  go_wp2
  go_ret2
  exact ⟨rfl, hb1⟩
/-- blocks but these two, and a utility, stand: its own state goes on -/
theorem US.but {w w' : World} {ub fb mb : Nat} {F C N A I : Value} {s : Int} {lb : List UInt8} (h : US w w ub F C N A I s [] lb) (hb : But2 w w' fb mb) (hf : fb < ub) (hm : mb < ub) : US w' w' ub F C N A I s [] lb := by
  obtain ⟨O, G, h1, h2, h3, h4, h5, h6⟩ := h.ex
  have hlt := h.lt
  have hO : O = .slice none 0 0 := h5.2 rfl
  refine ⟨⟨O, G, by rw [hb.kept ub (by omega) (by omega) (by omega)]; exact h1, ?_, ?_, h4, h5, h6⟩, by rw [hb.kept _ h.lt (by omega) (by omega)]; exact h.box, Nat.lt_of_lt_of_le h.lt hb.size, Below.refl _ _⟩
  · rw [hO]
    exact World.ownsRow_nil _ _ _ _
  · refine ⟨h3.1, ?_⟩
    rcases h3.2 with hn | ⟨g, cap, cur, rfl, hb2, hg, rest⟩
    · exact .inl hn
    · exact .inr ⟨g, cap, cur, rfl, hb2, by rw [hb.kept g (Array.getElem?_eq_some_iff.1 hg).1 (by omega) (by omega)]; exact hg, rest⟩
end
end Go.Proofs.YthocoonhoilmdaaGreatDoor
