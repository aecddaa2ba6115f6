/-
  Set of the reference, walked.
-/
import Derived.Test.YtaikgomojnfimaaGreatDoorRvP
import Derived.BigQuiet
import Derived.Deep.QuietTactic
import Derived.Deep.RegionLaw
import Derived.Deep.RegionWith
import Derived.Deep.RegionHeld3
import Derived.RegionTactic
import Derived.WalkKit
import Derived.WalkSpells
import Derived.StillTactics
import Derived.LoopIn
import Derived.RowKit3
import Derived.Below
import Derived.OwnWalk
import Derived.KernelRfl
open Go Go.Mx Go.RowKit
namespace Go.Proofs.YtaikgomojnfimaaGreatDoor
set_option maxRecDepth 100000
noncomputable section
/-! the reference's Set -/
theorem At0 (v : ByteArray) (hv : v.size ≤ 1100000) (w : World) : Calls Tryz.prog 34 #[.string v, .int .u8 0] w fun e w' => e = .returned (.int .i64 (Lib.indexByte v.data.toList 0)) ∧ w' = w := by
  have h := at_any v 0 w (by unfold maxLen; omega) (by omega)
  exact h
/-- what the reference's Set leaves -/
def RSetSaid (w : World) (rb : Nat) (n : Nat) (R : ML → Prop) (e : Ending) (w' : World) : Prop := (∃ x : Int, e = .returned (.int .i64 x)) ∧ ∃ L' o' cap', RIs w' rb L' o' cap' ∧ (o' = none → cap' = 0) ∧ R L' ∧ L'.length ≤ n + 1 ∧ w'.os = w.os ∧ w'.tape = w.tape ∧ w'.output = w.output ∧ w.heap.size ≤ w'.heap.size ∧ ∀ j, j < w.heap.size → j ≠ rb → w'.heap[j]? = w.heap[j]?
/-- the list that Set leaves looks as the map that Set leaves -/
def LookSet (L : ML) (k v : ByteArray) (L' : ML) : Prop := ∀ q, look L' q = look (setF L k v) q
theorem rset_keep {w : World} {rb : Nat} {L : ML} {o : Option Addr} {cap : Nat} (h : RIs w rb L o cap) (hnil : o = none → cap = 0) {k v : ByteArray} (hs : setF L k v = L) (x : Int) : RSetSaid w rb L.length (LookSet L k v) (.returned (.int .i64 x)) w :=
  ⟨⟨x, rfl⟩, L, o, cap, h, hnil, fun q => by rw [hs], Nat.le_succ _, rfl, rfl, rfl, Nat.le_refl _, fun _ _ _ => rfl⟩
set_option maxHeartbeats 3200000 in
set_option maxRecDepth 100000 in
theorem rset_any {w : World} {rb : Nat} {L : ML} {o : Option Addr} {cap : Nat} (h : RIs w rb L o cap) (hnil : o = none → cap = 0) (hL : L.length ≤ 400) (k v : ByteArray) (hk : k.size ≤ 1100000) (hv : v.size ≤ 1100000) :
    Calls Tryz.prog 14 #[.pointer (some ⟨rb, 0, none⟩), .string k, .string v] w fun e w' => RSetSaid w rb L.length (LookSet L k v) e w' := by
  have c0 : w.cell? ⟨rb, 0, none⟩ = some (.slice o L.length cap) := by rw [cell_u h.r]; rfl
  have hlt : rb < w.heap.size := (Array.getElem?_eq_some_iff.1 h.r).1
  have hN := rname_any k hk w
  have hA := At0 v hv w
  have hG := rget_any h (by omega) k
  have hP := putpair_any h.rows h.room hnil (by omega) k v
  obtain ⟨z, hz⟩ : ∃ z, z = Lib.indexByte v.data.toList 0 := ⟨_, rfl⟩
  rw [← hz] at hA
  have hzB : zeroB v = decide (0 ≤ z) := by rw [hz]; rfl
  clear hz
  generalize (look L k).getD ⟨#[]⟩ = a at hG
  generalize (look L k).isSome = b at hG
  cases hn : nameB k with
  | false =>
    have HE : Hid (RSetSaid w rb L.length (LookSet L k v) (.returned (.int .i64 1)) w) := rset_keep h hnil (by unfold setF; rw [if_neg (by simp [hn])]) 1
    rw [hn] at hN
    clear h hP hG hA hzB
    go_enter Tryz.func14, Tryz.ntmps14
    go_wp2_with fail
    go_at_call 33
    refine hN.mono ?_
    rintro e w1 ⟨rfl, hw1⟩
    subst hw1
    go_wp2
    go_ret
    exact HE.out
  | true =>
    rw [hn] at hN
    by_cases hz : 0 ≤ z
    · have HE : Hid (RSetSaid w rb L.length (LookSet L k v) (.returned (.int .i64 1)) w) := rset_keep h hnil (by unfold setF; rw [if_neg (by rw [hzB, decide_eq_true hz]; simp)]) 1
      clear h hP hG hzB
      go_enter Tryz.func14, Tryz.ntmps14
      go_wp2_with fail
      go_at_call 33
      refine hN.mono ?_
      rintro e w1 ⟨rfl, hw1⟩
      subst hw1
      go_wp2_with fail
      go_at_call 34
      refine hA.mono ?_
      rintro e w1 ⟨rfl, hw1⟩
      subst hw1
      go_wp2
      go_ret
      exact HE.out
    · rw [decide_eq_false hz] at hzB
      by_cases hs : v.size ≤ 4096
      · have hs' : ¬ (4096 : Int) < v.size := by omega
        have hset : setF L k v = put L k v := by unfold setF; rw [if_pos ⟨hn, hzB, hs⟩]
        have h500 : ¬ (500 : Int) ≤ L.length := by omega
        have n0 : w.frozen? ⟨rb, 0, none⟩ = false := nf_zero h.r
        have hr := h.r
        clear h hzB
        have HF : Hid (∀ w2 o' cap' L', PairsAt w2 o' L' → L'.length ≤ cap' → o' ≠ none → Below w.heap.size w w2 → (∀ q, look L' q = if (q == k) = true then some v else look L q) → L'.length ≤ L.length + 1 → RSetSaid w rb L.length (LookSet L k v) (.returned (.int .i64 0)) (w2.setCell ⟨rb, 0, none⟩ (.slice o' L'.length cap')) ∧ w2.cell? ⟨rb, 0, none⟩ = some (.slice o L.length cap) ∧ w2.frozen? ⟨rb, 0, none⟩ = false) := fun w2 o' cap' L' g1 g2 g3 g4 g5 g6 => by
          have hr2 : w2.heap[rb]? = some (.cells #[.slice o L.length cap] 51 (0, 0)) := by rw [g4.block rb hlt]; exact hr
          refine ⟨⟨⟨0, rfl⟩, L', o', cap', ⟨set_same hr2, ?_, g2⟩, fun e => absurd e g3, fun q => by rw [hset, look_put]; exact g5 q, g6, g4.os, g4.tape, g4.output, by rw [set_size]; exact g4.size, fun j h1 h2 => (set_other h2).trans (g4.block j h1)⟩, by rw [cell_u hr2]; rfl, nf_zero hr2⟩
          rcases g1 with g1 | ⟨g, off, e1, e2, e3⟩
          · exact .inl g1
          · refine .inr ⟨g, off, e1, by rw [set_size]; exact e2, fun i hi => ?_⟩
            have hne : g ≠ rb := fun e => by
              have h1 := (e3 i hi).1
              rw [e, cell_u hr2] at h1
              have hlen : off + i * 2 < 1 := by
                have := (Array.getElem?_eq_some_iff.1 h1).1
                simpa using this
              have h0 : off + i * 2 = 0 := by omega
              rw [h0] at h1
              cases h1
            unfold World.cell? at e3 ⊢
            rw [set_other hne]
            exact e3 i hi
        generalize hLn : L.length = n at *
        cases b
        all_goals
          go_enter Tryz.func14, Tryz.ntmps14
          go_wp2_with fail
          go_at_call 33
          refine hN.mono ?_
          rintro e w1 ⟨rfl, hw1⟩
          subst hw1
          go_wp2_with fail
          go_at_call 34
          refine hA.mono ?_
          rintro e w1 ⟨rfl, hw1⟩
          subst hw1
          go_wp2_with fail
          go_at_call 26
          refine hG.mono ?_
          rintro e w1 ⟨rfl, hw1⟩
          subst hw1
          go_wp2_with fail
          go_at_call 35
          refine hP.mono ?_
          rintro e w2 ⟨o', cap', L', rfl, g1, g2, g3, g4, g5, g6⟩
          obtain ⟨hE, hc2, hf2⟩ := HF.out w2 o' cap' L' g1 g2 g3 g4 g5 g6
          clear g1 g5
          go_wp2
          go_ret
          exact hE
      · have hs' : (4096 : Int) < v.size := by omega
        have HE : Hid (RSetSaid w rb L.length (LookSet L k v) (.returned (.int .i64 3)) w) := rset_keep h hnil (by unfold setF; rw [if_neg (fun hh => hs hh.2.2)]) 3
        clear h hP hzB
        go_enter Tryz.func14, Tryz.ntmps14
        go_wp2_with fail
        go_at_call 33
        refine hN.mono ?_
        rintro e w1 ⟨rfl, hw1⟩
        subst hw1
        go_wp2_with fail
        go_at_call 34
        refine hA.mono ?_
        rintro e w1 ⟨rfl, hw1⟩
        subst hw1
        go_wp2_with fail
        go_at_call 26
        refine hG.mono ?_
        rintro e w1 ⟨rfl, hw1⟩
        subst hw1
        go_wp2
        go_ret
        exact HE.out
end
end Go.Proofs.YtaikgomojnfimaaGreatDoor
