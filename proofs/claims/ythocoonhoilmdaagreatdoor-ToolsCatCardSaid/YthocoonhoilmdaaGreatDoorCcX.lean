/-
  What cat does with a file, walked.
-/
import Derived.Test.YthocoonhoilmdaaGreatDoorCcW
import Derived.Test.YthocoonhoilmdaaGreatDoorXMxAL
import Derived.Deep.RegionLaw
import Derived.Deep.RegionWith
import Derived.Deep.RegionHeld3
import Derived.RegionTactic
import Derived.WalkKit
import Derived.WalkSpells
import Derived.StillTactics
import Derived.LoopIn
import Derived.RowKit3
import Derived.Below
import Derived.OwnWalk
import Derived.KernelRfl
open Go Go.Mx Go.RowKit
namespace Go.Proofs.YthocoonhoilmdaaGreatDoor
set_option maxRecDepth 100000
noncomputable section
/-! cat's own parts -/
set_option maxHeartbeats 1600000 in
set_option maxRecDepth 100000 in
theorem may_gone {w0 w : World} {ub : Nat} {F C A I : Value} {s : Int} {ob lb : List UInt8} (h : US w0 w ub F C (.string ⟨#[99, 97, 116]⟩) A I s ob lb) (k : Nat) (hl : lb.length ≤ 100000) :
    Calls Tryz.prog 54 #[.pointer (some ⟨ub, 0, none⟩), .string (pk k), .int .i64 6] w fun e w' => e = .returned (.bool false) ∧ US w0 w' ub F C (.string ⟨#[99, 97, 116]⟩) A I 1 ob (lb ++ msg k) := by
  go_enter Tryz.func54, Tryz.ntmps54
  go_wp2_with fail
  go_at_call 48
  refine (complain_any h (UInt8.ofNat (48 + k)) hl).mono ?_
  rintro e w1 ⟨rfl, h1⟩
  go_wp2
  go_ret
  exact ⟨rfl, h1⟩
set_option maxHeartbeats 1600000 in
set_option maxRecDepth 100000 in
theorem abs_u {w : World} {ub : Nat} (c1 : w.cell? ⟨ub, 1, none⟩ = some (.string slB)) (hm : MaxIs w) (k : Nat) (hk : k < 10) :
    Calls Tryz.prog 87 #[.pointer (some ⟨ub, 0, none⟩), .string (pk k)] w fun e w' => e = .returned (.tuple #[.string (qk k), .bool true]) ∧ Below w.heap.size w w' := by
  have hA := abs_any (pk k) w hm (by show 2 ≤ 1100000; omega)
  rw [abs_pk k hk] at hA
  simp only at hA
  go_enter Tryz.func87, Tryz.ntmps87
  go_wp2_with fail
  go_at_call 21
  refine hA.mono ?_
  rintro e w1 ⟨rfl, hb1⟩
  go_wp2_with fail
  go_at_call 54
  refine (may_any _ _ _).mono ?_
  rintro e w2 ⟨rfl, rfl⟩
  go_wp2
  go_ret2
  exact ⟨rfl, hb1⟩
/-- Out is written on by these bytes -/
structure OutPre (w0 w : World) (ub : Nat) (F C N A I : Value) (s : Int) (ob lb : List UInt8) (oo : Option Addr) (oc : Nat) : Prop where
  c0 : w.cell? ⟨ub, 0, none⟩ = some F
  c4 : w.cell? ⟨ub, 4, none⟩ = some I
  c6 : w.cell? ⟨ub, 6, none⟩ = some (.slice oo ob.length oc)
  cb : w.cell? ⟨ub + 1, 0, none⟩ = some (.pointer (some ⟨ub, 0, none⟩))
  own : w.ownsRow (ub + 2) 5 1 (.slice oo ob.length oc) ob.length (ob.map Mx.byteV)
  fin : ∀ (L : List UInt8) (n : Nat) (w2 : World) (v' : Value), L.length = n → w2.ownsRow (ub + 2) 5 1 v' (ob ++ L).length ((ob ++ L).map Mx.byteV) → w.grownBy w2 (Value.slice oo ob.length oc).ownBlock → (v' = .slice none 0 0 ↔ Value.slice oo ob.length oc = .slice none 0 0 ∧ n = 0) → NewB w (.slice oo ob.length oc) v' →
    US w0 (w2.setCell ⟨ub, 6, none⟩ v') ub F C N A I s (ob ++ L) lb ∧ w2.frozen? ⟨ub, 6, none⟩ = false ∧ w2.cell? ⟨ub, 6, none⟩ = some (.slice oo ob.length oc) ∧ w2.cell? ⟨ub + 1, 0, none⟩ = some (.pointer (some ⟨ub, 0, none⟩)) ∧ ∃ o3 m3 c3, v' = .slice o3 m3 c3
theorem US.pre {w0 w : World} {ub : Nat} {F C N A I : Value} {s : Int} {ob lb : List UInt8} (h : US w0 w ub F C N A I s ob lb) : ∃ oo oc, OutPre w0 w ub F C N A I s ob lb oo oc := by
  obtain ⟨O, G, hh, hO, hG, hne, hO0, hG0⟩ := h.ex
  have hlt := h.lt
  obtain ⟨oo, oc, rfl, _, _, _⟩ := own_data hO hO0
  refine ⟨oo, oc, by rw [cell_u hh]; rfl, by rw [cell_u hh]; rfl, by rw [cell_u hh]; rfl, by rw [cell_u h.box]; rfl, hO, fun L n w2 v' hn h1 h2 h3 h4 => ?_⟩
  have hu2 : w2.heap[ub]? = some (.cells #[F, C, N, A, I, .int .i64 s, .slice oo ob.length oc, G] 59 (0, 0)) := by
    rw [h2.block ub (by omega) fun e => ?_]
    · exact hh
    · have := (hO.lt ub e.symm).1
      omega
  have hb2 : w2.heap[ub + 1]? = some (.cells #[.pointer (some ⟨ub, 0, none⟩)] 57 (0, 0)) := by
    rw [h2.block _ hlt fun e => ?_]
    · exact h.box
    · have := (hO.lt _ e.symm).1
      omega
  refine ⟨h.out hh hO hG hne hO0 hG0 hn h1 h2 h3 h4, nf_free hu2 free8 (by omega), by rw [cell_u hu2]; rfl, by rw [cell_u hb2]; rfl, ?_⟩
  rcases h1.2 with ⟨rfl, h0⟩ | ⟨g, c, _, rfl, _⟩
  · exact ⟨_, _, _, rfl⟩
  · exact ⟨_, _, _, rfl⟩
set_option maxHeartbeats 1600000 in
set_option maxRecDepth 100000 in
theorem k1_there {w0 w : World} {ub fb B : Nat} {A I : Value} {s : Int} {ob lb : List UInt8} {T : TT} (hub : w0.heap.size = ub) (h : US w0 w ub (.pointer (some ⟨fb, 0, none⟩)) (.string slB) (.string ⟨#[99, 97, 116]⟩) A I s ob lb) (hE : Env w0 fb 0 T) (k : Nat) (hk : k < 10) (L : List UInt8) (n : Nat) (hn : L.length = n) (hl : n ≤ 1000) (hol : ob.length ≤ 100000) (o : Option Addr) (c : Nat) (t : Int) (hT : findT T (qk k) = some (false, (o, n, c), t)) (hd : DataAt B L w0 o) :
    Calls Tryz.prog 52 #[.string (pk k), .string (qk k), .pointer (some ⟨ub + 1, 0, none⟩)] w fun e w' => e = .returned (.tuple #[]) ∧ US w0 w' ub (.pointer (some ⟨fb, 0, none⟩)) (.string slB) (.string ⟨#[99, 97, 116]⟩) A I s (ob ++ L) lb := by
  have hkept : Below w0.heap.size w0 w := by rw [hub]; exact h.kept
  have hR := read_there (hE.below hkept) (qk k) (qk k) (by show 3 ≤ 1100000; omega) (fabs_qk T hk) (kind_there hk hT) L n hn (by omega) o c t hT (hd.below hkept)
  obtain ⟨oo, oc, hP⟩ := h.pre
  have c0 := hP.c0
  have cb := hP.cb
  have hlt := h.lt
  have HN : Hid (L.length = n) := hn
  have H1 : Hid (∀ w', Below w.heap.size w w' → US w0 w' ub (.pointer (some ⟨fb, 0, none⟩)) (.string slB) (.string ⟨#[99, 97, 116]⟩) A I s ob lb) := fun w' hb => h.below hb
  clear h hE hT hd hkept hP hn
  go_enter Tryz.func52, Tryz.ntmps52
  go_wp2_with fail
  go_at_call 53
  refine hR.mono ?_
  rintro e w1 ⟨o', c', rfl, hb1, hd1⟩
  have hz1 := hb1.size
  obtain ⟨o2, c2, hP1⟩ := (H1.out w1 hb1).pre
  have d6 := hP1.c6
  have db := hP1.cb
  have HP : Hid (OutPre w0 w1 ub (.pointer (some ⟨fb, 0, none⟩)) (.string slB) (.string ⟨#[99, 97, 116]⟩) A I s ob lb o2 c2) := hP1
  clear hR H1 hP1 c0 cb
  go_wp2_with fail
  go_at_call 54
  refine (may_any _ _ _).mono ?_
  rintro e w2 ⟨rfl, hw2⟩
  subst hw2
  go_wp2_with fail
  go_region_law
    (first
      | (rw [if_pos (by rfl)]; refine wp_append_data _ _ rfl _ (ub + 2) (.slice o2 ob.length c2) ob rfl (by exact HP.out.own) L n HN.out o' c' rfl (by exact hd1.bytesV) (by omega) (by exact Nat.le_trans hlt hz1) ?_; intro v3 w3 hown3 hgr3 hnil3 hnew3;
         obtain ⟨hU, hf, hc6, hcb, o3, m3, c3, rfl⟩ := HP.out.fin L n w3 v3 HN.out hown3 ⟨hgr3.os, hgr3.tape, hgr3.output, hgr3.size, hgr3.block⟩ hnil3 hnew3; clear hown3 hgr3 hnil3 hnew3))
  all_goals
    go_end0
    exact ⟨rfl, hU⟩
set_option maxHeartbeats 1600000 in
set_option maxRecDepth 100000 in
theorem k1_gone {w0 w : World} {ub fb : Nat} {A I : Value} {s : Int} {ob lb : List UInt8} {T : TT} (hub : w0.heap.size = ub) (h : US w0 w ub (.pointer (some ⟨fb, 0, none⟩)) (.string slB) (.string ⟨#[99, 97, 116]⟩) A I s ob lb) (hE : Env w0 fb 0 T) (k : Nat) (hk : k < 10) (hol : ob.length ≤ 100000) (hll : lb.length ≤ 100000) (hT : findT T (qk k) = none) :
    Calls Tryz.prog 52 #[.string (pk k), .string (qk k), .pointer (some ⟨ub + 1, 0, none⟩)] w fun e w' => e = .returned (.tuple #[]) ∧ US w0 w' ub (.pointer (some ⟨fb, 0, none⟩)) (.string slB) (.string ⟨#[99, 97, 116]⟩) A I 1 ob (lb ++ msg k) := by
  have hkept : Below w0.heap.size w0 w := by rw [hub]; exact h.kept
  have hR := read_gone (hE.below hkept) (qk k) (qk k) (by show 3 ≤ 1100000; omega) (fabs_qk T hk) (kind_gone hk hT)
  obtain ⟨oo, oc, hP⟩ := h.pre
  have c0 := hP.c0
  have cb := hP.cb
  have hlt := h.lt
  have H1 : Hid (∀ w', Below w.heap.size w w' → US w0 w' ub (.pointer (some ⟨fb, 0, none⟩)) (.string slB) (.string ⟨#[99, 97, 116]⟩) A I s ob lb) := fun w' hb => h.below hb
  clear h hE hT hkept hP
  go_enter Tryz.func52, Tryz.ntmps52
  go_wp2_with fail
  go_at_call 53
  refine hR.mono ?_
  rintro e w1 ⟨rfl, hb1⟩
  have h1 := H1.out w1 hb1
  obtain ⟨o2, c2, hP1⟩ := h1.pre
  have db := hP1.cb
  clear hR H1 c0 cb hP1
  go_wp2_with fail
  go_at_call 54
  refine (may_gone h1 k hll).mono ?_
  rintro e w2 ⟨rfl, h2⟩
  have hz2 := h2.lt
  obtain ⟨o3, c3, hP2⟩ := h2.pre
  have d6 := hP2.c6
  have db2 := hP2.cb
  have HP : Hid (OutPre w0 w2 ub (.pointer (some ⟨fb, 0, none⟩)) (.string slB) (.string ⟨#[99, 97, 116]⟩) A I 1 ob (lb ++ msg k) o3 c3) := hP2
  clear h1 h2 hP2 db
  go_wp2_with fail
  go_region_law
    (first
      | (rw [if_pos (by rfl)]; refine wp_append_data _ _ rfl _ (ub + 2) (.slice o3 ob.length c3) ob rfl (by exact HP.out.own) [] 0 rfl none 0 rfl (.inl rfl) (by omega) (by exact hz2) ?_; intro v3 w3 hown3 hgr3 hnil3 hnew3;
         obtain ⟨hU, hf, hc6, hcb, o4, m4, c4, rfl⟩ := HP.out.fin [] 0 w3 v3 rfl hown3 ⟨hgr3.os, hgr3.tape, hgr3.output, hgr3.size, hgr3.block⟩ hnil3 hnew3; clear hown3 hgr3 hnil3 hnew3; rw [List.append_nil] at hU))
  all_goals
    go_end0
    exact ⟨rfl, hU⟩
end
end Go.Proofs.YthocoonhoilmdaaGreatDoor
