/-
  Read of a file whose bytes are known, walked.
-/
import Derived.Test.YthocoonhoilmdaaGreatDoorWrF
import Derived.Deep.RegionLaw
import Derived.Deep.RegionWith
import Derived.Deep.RegionHeld3
import Derived.RegionTactic
import Derived.WalkKit
import Derived.WalkSpells
import Derived.StillTactics
import Derived.LoopIn
import Derived.RowKit3
import Derived.Below
import Derived.OwnWalk
import Derived.KernelRfl
open Go Go.Mx Go.RowKit
namespace Go.Proofs.YthocoonhoilmdaaGreatDoor
set_option maxRecDepth 100000
noncomputable section
/-! Read of a file whose bytes are known, and of one that is not there -/
theorem DataAt.weak {B B' : Nat} {L : List UInt8} {w : World} {o : Option Addr} (h : DataAt B L w o) (hB : B' ≤ B) : DataAt B' L w o := by
  rcases h with h | ⟨h0, g, h1, h2, h3, h4⟩
  · exact .inl h
  · exact .inr ⟨h0, g, h1, Nat.le_trans hB h2, h3, h4⟩
theorem clone_data {w : World} {B : Nat} {L : List UInt8} {o : Option Addr} (cap : Nat) (hl : L.length ≤ 1000000) (h : DataAt B L w o) :
    Calls Tryz.prog 19 #[.slice o L.length cap] w fun e w' => ∃ o' c', e = .returned (.slice o' L.length c') ∧ Below w.heap.size w w' ∧ DataAt w.heap.size L w' o' := by
  rcases h with ⟨rfl, rfl⟩ | ⟨h0, g, rfl, _, h3, h4⟩
  · refine (Tryz.bytes_Clone_nil _ _ _).mono ?_
    rintro e w' ⟨rfl, rfl⟩
    exact ⟨none, 0, rfl, Below.refl _ _, .inl ⟨rfl, rfl⟩⟩
  · refine (Tryz.bytes_Clone_at ⟨g, 0, none⟩ L.length cap (L.map fun u => (u.toNat : Int)) w (by simp) (by omega) (fun i hi => ?_)).mono ?_
    · have hj : (L.map Mx.byteV)[i]? = some (Mx.byteV L[i]) := by rw [List.getElem?_map, List.getElem?_eq_getElem hi]; rfl
      rw [h4 i _ hj]
      simp [List.getD, List.getElem?_map, List.getElem?_eq_getElem hi, Mx.byteV]
    · rintro e w' ⟨v', rfl, hown, hne, hb⟩
      have e1 : (L.map fun u => (u.toNat : Int)).map (Value.int .u8) = L.map Mx.byteV := by rw [List.map_map]; rfl
      rw [e1] at hown
      rcases hown.2 with ⟨e, _⟩ | ⟨g2, c2, cur, rfl, r1, r2, _⟩
      · exact absurd e hne
      · exact ⟨_, _, rfl, hb, .inr ⟨h0, g2, rfl, r1, (Array.getElem?_eq_some_iff.1 r2).1, fun j u hj => hown.cells (g := g2) rfl j u hj⟩⟩
theorem found_there {T : TT} {p q : ByteArray} (hf : fabsF T p = (q, 0)) (hk : kindF T q = 1) : foundF T p = (q, 0) := by
  unfold foundF
  rw [hf, if_neg (by simp [hk])]
theorem found_gone {T : TT} {p q : ByteArray} (hf : fabsF T p = (q, 0)) (hk : kindF T q = 0) : foundF T p = (q, 6) := by
  unfold foundF
  rw [hf, if_pos ⟨rfl, hk⟩]
set_option maxHeartbeats 1600000 in
set_option maxRecDepth 100000 in
theorem read_there {T : TT} {fb B : Nat} {w : World} (h : Env w fb 0 T) (p q : ByteArray) (hs : p.size ≤ 1100000) (hf : fabsF T p = (q, 0)) (hk : kindF T q = 1) (L : List UInt8) (n : Nat) (hn : L.length = n) (hl : n ≤ 1000000) (o : Option Addr) (c : Nat) (t : Int) (hT : findT T q = some (false, (o, n, c), t)) (hd : DataAt B L w o) :
    Calls Tryz.prog 53 #[.pointer (some ⟨fb, 0, none⟩), .string p] w fun e w' => ∃ o' c', e = .returned (.tuple #[.slice o' n c', .int .i64 0]) ∧ Below w.heap.size w w' ∧ DataAt w.heap.size L w' o' := by
  have hA : Hid (Calls Tryz.prog 88 #[.pointer (some ⟨fb, 0, none⟩), .string p] w fun e w' => e = .returned (.tuple #[.string q, .int .i64 0]) ∧ Below w.heap.size w w') := by
    have := found_any h p hs
    rw [found_there hf hk] at this
    exact this
  have hK : Hid (∀ w', Below w.heap.size w w' → Calls Tryz.prog 14 #[.pointer (some ⟨fb, 0, none⟩), .string q] w' fun e w'' => e = .returned (.int .i64 1) ∧ Below w'.heap.size w' w'') := fun w' hb => by
    have := kind_any (h.below hb).tree q
    rw [hk] at this
    exact this
  have hL : Hid (∀ w', Below w.heap.size w w' → ∃ mb, w'.cell? ⟨fb, 0, none⟩ = some (.map (some mb)) ∧ (Instr.lookup 41 (.map (some mb)) (.string q) false).run Tryz.prog w' = .ok (.agg #[.bool false, .slice o n c, .int .i64 t]) w') := fun w' hb => by
    obtain ⟨mb, hc, hl⟩ := look_T (h.below hb).tree
    have hl1 := hl w' rfl q false
    rw [hT] at hl1
    exact ⟨mb, hc, hl1⟩
  have hC : Hid (∀ w', Below w.heap.size w w' → Calls Tryz.prog 19 #[.slice o n c] w' fun e w'' => ∃ o' c', e = .returned (.slice o' n c') ∧ Below w'.heap.size w' w'' ∧ DataAt w'.heap.size L w'' o') := fun w' hb => by
    subst hn
    exact clone_data c hl (hd.below hb)
  clear h hf hk hT hd hn hs
  go_enter Tryz.func53, Tryz.ntmps53
  go_wp2_with fail
  go_at_call 88
  refine hA.out.mono ?_
  rintro e w1 ⟨rfl, hb1⟩
  have hK1 := hK.out w1 hb1
  go_wp2_with fail
  go_at_call 14
  refine hK1.mono ?_
  rintro e w2 ⟨rfl, hb2⟩
  have hb12 := hb1.trans (hb2.mono hb1.size)
  obtain ⟨mb, g1, g2⟩ := hL.out w2 hb12
  have hfd := fld1 w2 false o n c t
  have hC2 := hC.out w2 hb12
  clear hK1 hK hL hC hA
  go_wp2_with fail
  go_at_call 19
  refine hC2.mono ?_
  rintro e w3 ⟨o', c', rfl, hb3, hd3⟩
  have hz := hb12.size
  go_wp2
  go_ret2
  exact ⟨_, _, rfl, hb12.trans (hb3.mono hb12.size), hd3.weak hz⟩
set_option maxHeartbeats 1600000 in
set_option maxRecDepth 100000 in
theorem read_gone {T : TT} {fb : Nat} {w : World} (h : Env w fb 0 T) (p q : ByteArray) (hs : p.size ≤ 1100000) (hf : fabsF T p = (q, 0)) (hk : kindF T q = 0) :
    Calls Tryz.prog 53 #[.pointer (some ⟨fb, 0, none⟩), .string p] w fun e w' => e = .returned (.tuple #[.slice none 0 0, .int .i64 6]) ∧ Below w.heap.size w w' := by
  have hA := found_any h p hs
  rw [found_gone hf hk] at hA
  clear h hf hk hs
  go_enter Tryz.func53, Tryz.ntmps53
  go_wp2_with fail
  go_at_call 88
  refine hA.mono ?_
  rintro e w1 ⟨rfl, hb1⟩
  go_wp2
  go_ret2
  exact ⟨rfl, hb1⟩
end
end Go.Proofs.YthocoonhoilmdaaGreatDoor
