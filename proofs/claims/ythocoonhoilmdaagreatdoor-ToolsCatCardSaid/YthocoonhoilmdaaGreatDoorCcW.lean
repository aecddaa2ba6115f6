/-
  A complaint, walked.
-/
import Derived.Test.YthocoonhoilmdaaGreatDoorCaP
import Derived.Test.YthocoonhoilmdaaGreatDoorXMxAL
import Derived.Deep.RegionLaw
import Derived.Deep.RegionWith
import Derived.Deep.RegionHeld3
import Derived.RegionTactic
import Derived.WalkKit
import Derived.WalkSpells
import Derived.StillTactics
import Derived.LoopIn
import Derived.RowKit3
import Derived.Below
import Derived.OwnWalk
import Derived.KernelRfl
open Go Go.Mx Go.RowKit
namespace Go.Proofs.YthocoonhoilmdaaGreatDoor
set_option maxRecDepth 100000
noncomputable section
/-! the utility's functions, and cat -/
theorem may_any (p : Value) (x : ByteArray) (w : World) : Calls Tryz.prog 54 #[p, .string x, .int .i64 0] w fun e w' => e = .returned (.bool true) ∧ w' = w := by
  go_enter Tryz.func54, Tryz.ntmps54
  go_wp2
  go_ret
  exact ⟨rfl, rfl⟩
theorem itBody : ∃ c, Tryz.f85.body = some c := ⟨_, rfl⟩
theorem runIt6 : R0 85 (.cons (.i .i64 (Int.ofNat 6)) .nil) .leaf 9 (fun y _ _ => sameV y (.s [54])) (fun _ _ _ => false) = true := by kernel_rfl
theorem itoa6 (W : World) : Calls Tryz.prog 85 #[.int .i64 6] W fun e w' => e = .returned (.string ⟨#[54]⟩) ∧ Below W.heap.size W w' := by
  obtain ⟨c, hb⟩ := itBody
  refine (calls_of_ck nameOK r0 (fn := Tryz.f85) (by kernel_rfl) hb (vs := [.int .i64 6]) (φ := fun v => v = .string ⟨#[54]⟩) (fun ρ => ?_) runIt6 (fun ρ' y v h' nx' hk hv => ?_) W).mono ?_
  · simp only [VRs]
    exact ⟨_, _, rfl, VRi _ _ _, rfl⟩
  · have e := sameV_eq hk
    subst e
    simp only [VR] at hv
    rw [hv.1]
    rfl
  · rintro e W' ⟨v, rfl, rfl, hs⟩
    exact ⟨rfl, below_stays hs⟩
def msgC (c : UInt8) : List UInt8 := [99, 97, 116, 58, 32, 102, c, 58, 32, 101, 114, 114, 111, 114, 32, 54, 10]
theorem said_msg (c : UInt8) : ((((((⟨#[99, 97, 116]⟩ : ByteArray) ++ ⟨#[58, 32]⟩) ++ ⟨#[102, c]⟩) ++ ⟨#[58, 32, 101, 114, 114, 111, 114, 32]⟩) ++ ⟨#[54]⟩) ++ ⟨#[10]⟩).data.toList = msgC c := by
  simp [ByteArray.data_append, msgC]
theorem said_size (c : UInt8) : ((((((⟨#[99, 97, 116]⟩ : ByteArray) ++ ⟨#[58, 32]⟩) ++ ⟨#[102, c]⟩) ++ ⟨#[58, 32, 101, 114, 114, 111, 114, 32]⟩) ++ ⟨#[54]⟩) ++ ⟨#[10]⟩).size = 17 := congrArg List.length (said_msg c)
set_option maxHeartbeats 1600000 in
set_option maxRecDepth 100000 in
theorem complain_any {w0 w : World} {ub : Nat} {F C A I : Value} {s : Int} {ob lb : List UInt8} (h : US w0 w ub F C (.string ⟨#[99, 97, 116]⟩) A I s ob lb) (c : UInt8) (hl : lb.length ≤ 100000) :
    Calls Tryz.prog 48 #[.pointer (some ⟨ub, 0, none⟩),   .string ⟨#[102, c]⟩, .int .i64 6] w fun e w' => e = .returned (.tuple #[]) ∧ US w0 w' ub F C (.string ⟨#[99, 97, 116]⟩) A I 1 ob (lb ++ msgC c) := by
  obtain ⟨O, G, hh, hO, hG, hne, hO0, hG0⟩ := h.ex
  have hlt := h.lt
  obtain ⟨go, gc, rfl, _, _, _⟩ := own_data hG hG0
  have c2 : w.cell? ⟨ub, 2, none⟩ = some (.string ⟨#[99, 97, 116]⟩) := by rw [cell_u hh]; rfl
  have c7 : w.cell? ⟨ub, 7, none⟩ = some (.slice go lb.length gc) := by rw [cell_u hh]; rfl
  have HB : Hid (∀ w1, Below w.heap.size w w1 → w1.ownsRow (ub + 2) 5 1 (.slice go lb.length gc) lb.length (lb.map Mx.byteV) ∧ ub + 2 ≤ w1.heap.size) := fun w1 hb => ⟨own_b hG hb, by have := hb.size; omega⟩
  have HS : Hid (∀ w1 w2 v', Below w.heap.size w w1 → w2.ownsRow (ub + 2) 5 1 v' (lb ++ msgC c).length ((lb ++ msgC c).map Mx.byteV) → w1.grownBy w2 (Value.slice go lb.length gc).ownBlock → (v' = .slice none 0 0 ↔ Value.slice go lb.length gc = .slice none 0 0 ∧ 17 = 0) → NewB w1 (.slice go lb.length gc) v' →
      US w0 ((w2.setCell ⟨ub, 7, none⟩ v').setCell ⟨ub, 5, none⟩ (.int .i64 1)) ub F C (.string ⟨#[99, 97, 116]⟩) A I 1 ob (lb ++ msgC c) ∧ w2.heap[ub]? = some (.cells #[F, C, .string ⟨#[99, 97, 116]⟩, A, I, .int .i64 s, O, .slice go lb.length gc] 59 (0, 0))) := fun w1 w2 v' hb h1 h2 h3 h4 => by
    have hu1 : w1.heap[ub]? = some (.cells #[F, C, .string ⟨#[99, 97, 116]⟩, A, I, .int .i64 s, O, .slice go lb.length gc] 59 (0, 0)) := by rw [hb.block ub (by omega)]; exact hh
    refine ⟨((h.below hb).log hu1 (own_b hO hb) (own_b hG hb) hne hO0 hG0 (L := msgC c) (n := 17) rfl h1 h2 h3 h4).status 1, ?_⟩
    rw [h2.block ub (by have := hb.size; omega) fun e => ?_]
    · exact hu1
    · have := ((own_b hG hb).lt ub e.symm).1
      omega
  have hlt1 : ub < w.heap.size := by omega
  clear h hh hO hG hne hO0 hG0
  go_enter Tryz.func48, Tryz.ntmps48
  go_wp2_with fail
  go_region_law
    (first
      | (go_simp; go_at_call 85; refine (itoa6 _).mono ?_; rintro e w1 ⟨rfl, hb1⟩; dsimp only; have hb1' : Below w.heap.size w w1 := ⟨hb1.os, hb1.tape, hb1.output, hb1.size, hb1.block⟩; have d2 := (hb1'.cell (p := ⟨ub, 2, none⟩) (by exact hlt1)).trans c2; have d7 := (hb1'.cell (p := ⟨ub, 7, none⟩) (by exact hlt1)).trans c7; clear hb1)
      | (rw [if_pos (by rfl)]; refine wp_append_said _ _ rfl _ (ub + 2) (.slice go lb.length gc) lb rfl (by first | exact (HB.out _ hb1').1 | exact (HB.out _ (Below.drew hb1')).1) _ rfl (Nat.le_trans (Nat.add_le_add_left (Nat.le_of_eq (said_size c)) _) (by omega)) (by first | exact (HB.out _ hb1').2 | exact (HB.out _ (Below.drew hb1')).2) ?_; intro v2 w2 hown2 hgr2 hnil2 hnew2;
         obtain ⟨hU, hu2⟩ := HS.out w1 w2 v2 hb1' (by rw [← said_msg c]; exact hown2) ⟨hgr2.os, hgr2.tape, hgr2.output, hgr2.size, hgr2.block⟩ (by rw [hnil2, said_size c]) hnew2;
         obtain ⟨o3, n3, c3, rfl⟩ : ∃ o3 n3 c3, v2 = .slice o3 n3 c3 := (by rcases hown2.2 with ⟨e, _⟩ | ⟨g, cc, _, e, _⟩; exact ⟨_, _, _, e⟩; exact ⟨_, _, _, e⟩);
         have x7 : w2.cell? ⟨ub, 7, none⟩ = some (.slice go lb.length gc) := (by rw [cell_u hu2]; rfl); have f7 : w2.frozen? ⟨ub, 7, none⟩ = false := nf_free hu2 free8 (by omega); have x5 : w2.cell? ⟨ub, 5, none⟩ = some (.int .i64 s) := (by rw [cell_u hu2]; rfl); have f5 : w2.frozen? ⟨ub, 5, none⟩ = false := nf_free hu2 free8 (by omega); clear hown2 hgr2 hnil2 hnew2))
  all_goals
    go_wp2
    go_end0
    exact ⟨rfl, hU⟩
end
end Go.Proofs.YthocoonhoilmdaaGreatDoor
