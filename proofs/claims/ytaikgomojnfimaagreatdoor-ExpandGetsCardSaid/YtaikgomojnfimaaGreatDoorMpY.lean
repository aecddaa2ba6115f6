/-
  Set of the program, walked.
-/
import Derived.Test.YtaikgomojnfimaaGreatDoorMpX
import Derived.Test.YtaikgomojnfimaaGreatDoorShW
import Derived.BigQuiet
import Derived.Deep.QuietTactic
import Derived.Deep.RegionLaw
import Derived.Deep.RegionWith
import Derived.Deep.RegionHeld3
import Derived.RegionTactic
import Derived.WalkKit
import Derived.WalkSpells
import Derived.StillTactics
import Derived.LoopIn
import Derived.RowKit3
import Derived.Below
import Derived.OwnWalk
import Derived.KernelRfl
open Go Go.Mx Go.RowKit
namespace Go.Proofs.YtaikgomojnfimaaGreatDoor
set_option maxRecDepth 100000
noncomputable section
/-! the program's Set -/
theorem eqlSome (bm : Nat) (w : World) : (binOp .eql 43 (.map (some bm)) (.map none)).run Tryz.prog w = .ok (.bool false) w := by kernel_rfl
theorem eqlNil (w : World) : (binOp .eql 43 (.map none) (.map none)).run Tryz.prog w = .ok (.bool true) w := by kernel_rfl
theorem VIs.lt {w : World} {vb : Nat} {m : Option Nat} {M : ML} (h : VIs w vb m M) : vb < w.heap.size := (Array.getElem?_eq_some_iff.1 h.v).1
/-- what Set leaves -/
def SetSaid (w : World) (vb : Nat) (m : Option Nat) (M : ML) (e : Ending) (w' : World) : Prop := (∃ x : Int, e = .returned (.int .i64 x)) ∧ ∃ m', VIs w' vb m' M ∧ ButV w w' vb m ∧ ∀ mb, m' = some mb → m = some mb ∨ w.heap.size ≤ mb
theorem set_keep {w : World} {vb : Nat} {m : Option Nat} {M : ML} (h : VIs w vb m M) {M' : ML} (hM : M' = M) (x : Int) : SetSaid w vb m M' (.returned (.int .i64 x)) w := by
  subst hM
  exact ⟨⟨x, rfl⟩, m, h, ButV.refl _ _ _, fun mb e => .inl e⟩
set_option maxHeartbeats 3200000 in
set_option maxRecDepth 100000 in
theorem vset_any {w : World} {vb : Nat} {m : Option Nat} {M : ML} (h : VIs w vb m M) (hM : M.length ≤ 400) (k v : ByteArray) (hk : k.size ≤ 1100000) (hv : v.size ≤ 1100000) :
    Calls Tryz.prog 13 #[.pointer (some ⟨vb, 0, none⟩), .string k, .string v] w fun e w' => SetSaid w vb m (setF M k v) e w' := by
  have hl := run_look h.map k
  have c0 : w.cell? ⟨vb, 0, none⟩ = some (.map m) := by rw [cell_u h.v]; rfl
  have n0 : w.frozen? ⟨vb, 0, none⟩ = false := nf_zero h.v
  have hN := vname_any k hk w
  have hC := Tryz.strings_Contains_one v 0 w
  obtain ⟨z, hz⟩ : ∃ z, z = zeroB v := ⟨_, rfl⟩
  have hC2 : Calls Tryz.prog 32 #[.string v, .string ⟨#[0]⟩] w fun e w' => e = .returned (.bool z) ∧ w' = w := by rw [hz]; exact hC
  clear hC
  generalize hlk : (look M k).getD ⟨#[]⟩ = a at hl
  generalize hls : (look M k).isSome = b at hl
  cases hn : nameB k with
  | false =>
    have HE : Hid (SetSaid w vb m (setF M k v) (.returned (.int .i64 1)) w) := set_keep h (by unfold setF; rw [if_neg (by simp [hn])]) 1
    rw [hn] at hN
    clear h hz hC2 hlk hls
    go_enter Tryz.func13, Tryz.ntmps13
    go_wp2_with fail
    go_at_call 31
    refine hN.mono ?_
    rintro e w1 ⟨rfl, hw1⟩
    subst hw1
    go_wp2
    go_ret
    exact HE.out
  | true =>
    rw [hn] at hN
    cases z with
    | true =>
      have HE : Hid (SetSaid w vb m (setF M k v) (.returned (.int .i64 1)) w) := set_keep h (by unfold setF; rw [if_neg (by simp [← hz])]) 1
      clear h hz hlk hls
      go_enter Tryz.func13, Tryz.ntmps13
      go_wp2_with fail
      go_at_call 31
      refine hN.mono ?_
      rintro e w1 ⟨rfl, hw1⟩
      subst hw1
      go_wp2_with fail
      go_at_call 32
      refine hC2.mono ?_
      rintro e w1 ⟨rfl, hw1⟩
      subst hw1
      go_wp2
      go_ret
      exact HE.out
    | false =>
      by_cases hs : v.size ≤ 4096
      · have hs' : ¬ (4096 : Int) < v.size := by omega
        have hset : setF M k v = put M k v := by unfold setF; rw [if_pos ⟨hn, hz.symm, hs⟩]
        rw [hset]
        have h500 : ¬ (500 : Int) ≤ M.length := by omega
        have hlt := h.lt
        rcases h.map with ⟨rfl, rfl⟩ | ⟨mb, es, cl, rfl, hh, hE⟩
        · have hb0 : b = false := by rw [← hls]; rfl
          subst hb0
          have hh1 : ((w.setCell ⟨vb, 0, none⟩ (.map (some w.heap.size))).alloc (.map #[] 0)).heap[w.heap.size]? = some (.map #[] 0) := by
            have := heap_alloc_new (w.setCell ⟨vb, 0, none⟩ (.map (some w.heap.size))) (.map #[] 0)
            rw [set_size] at this
            exact this
          obtain ⟨es', cl', hput, hE'⟩ := run_put k v hh1 (M := []) rfl
          have hne : vb ≠ w.heap.size := by omega
          have hv1 : ((w.setCell ⟨vb, 0, none⟩ (.map (some w.heap.size))).alloc (.map #[] 0)).heap[vb]? = some (.cells #[.map (some w.heap.size)] 45 (0, 0)) := by
            rw [Go.heap_alloc_old _ _ (by rw [set_size]; exact hlt)]
            exact set_same h.v
          have hsz : ((w.setCell ⟨vb, 0, none⟩ (.map (some w.heap.size))).alloc (.map #[] 0)).heap.size = w.heap.size + 1 := by simp
          have HE : Hid (SetSaid w vb none (put [] k v) (.returned (.int .i64 0)) (setMap ((w.setCell ⟨vb, 0, none⟩ (.map (some w.heap.size))).alloc (.map #[] 0)) w.heap.size es' cl')) := ⟨⟨0, rfl⟩, some w.heap.size, ⟨(setMap_other hne).trans hv1, .inr ⟨w.heap.size, es', cl', rfl, setMap_same (by omega), hE'⟩⟩, ⟨rfl, rfl, rfl, by rw [setMap_size]; omega, fun j h1 h2 _ => (setMap_other (by omega)).trans ((Go.heap_alloc_old _ _ (by rw [set_size]; exact h1)).trans (set_other h2))⟩, fun mb e => by cases e; exact .inr (Nat.le_refl _)⟩
          have hlen : (Builtin.len_ #[43] 3 #[.map none]).run Tryz.prog w = .ok (.int .i64 0) w := by
            simp [Builtin.len_, Mx.run_und v_tM, goInt]
          have heq := eqlNil w
          have hmk : (Instr.makeMap 43 none).run Tryz.prog w = .ok (.map (some w.heap.size)) (w.alloc (.map #[] 0)) := rfl
          clear h hz hlk hls hE' hset hM h500 hh1 hv1 hsz
          go_enter Tryz.func13, Tryz.ntmps13
          go_wp2_with fail
          go_at_call 31
          refine hN.mono ?_
          rintro e w1 ⟨rfl, hw1⟩
          subst hw1
          go_wp2_with fail
          go_at_call 32
          refine hC2.mono ?_
          rintro e w1 ⟨rfl, hw1⟩
          subst hw1
          go_wp2
          go_ret
          exact HE.out
        · obtain ⟨es', cl', hput, hE'⟩ := run_put k v hh hE
          have hml : mb < w.heap.size := (Array.getElem?_eq_some_iff.1 hh).1
          have hne : vb ≠ mb := fun e => by
            have := h.v
            rw [e, hh] at this
            cases this
          have HE : Hid (SetSaid w vb (some mb) (put M k v) (.returned (.int .i64 0)) (setMap w mb es' cl')) := ⟨⟨0, rfl⟩, some mb, ⟨(setMap_other hne).trans h.v, .inr ⟨mb, es', cl', rfl, setMap_same hml, hE'⟩⟩, ⟨rfl, rfl, rfl, by rw [setMap_size]; exact Nat.le_refl _, fun j _ _ hj => setMap_other (fun e => hj (by rw [e]))⟩, fun _ e => .inl e⟩
          have hlen : (Builtin.len_ #[43] 3 #[.map (some mb)]).run Tryz.prog w = .ok (.int .i64 (M.length : Int)) w := by
            have hes : es.size = M.length := by
              have := congrArg List.length hE
              simpa using this
            rw [← hes]
            simp [Builtin.len_, Mx.run_und v_tM, Mx.run_getMap hh, goInt]
          have heq := eqlSome mb
          generalize (M.length : Int) = q at hlen h500
          clear h hz hlk hls hE' hE hset hM
          cases b
          all_goals
            go_enter Tryz.func13, Tryz.ntmps13
            go_wp2_with fail
            go_at_call 31
            refine hN.mono ?_
            rintro e w1 ⟨rfl, hw1⟩
            subst hw1
            go_wp2_with fail
            go_at_call 32
            refine hC2.mono ?_
            rintro e w1 ⟨rfl, hw1⟩
            subst hw1
            go_wp2
            go_ret
            exact HE.out
      · have hs' : (4096 : Int) < v.size := by omega
        have HE : Hid (SetSaid w vb m (setF M k v) (.returned (.int .i64 3)) w) := set_keep h (by unfold setF; rw [if_neg (fun hh => hs hh.2.2)]) 3
        clear h hz hlk hls
        go_enter Tryz.func13, Tryz.ntmps13
        go_wp2_with fail
        go_at_call 31
        refine hN.mono ?_
        rintro e w1 ⟨rfl, hw1⟩
        subst hw1
        go_wp2_with fail
        go_at_call 32
        refine hC2.mono ?_
        rintro e w1 ⟨rfl, hw1⟩
        subst hw1
        go_wp2
        go_ret
        exact HE.out
end
end Go.Proofs.YtaikgomojnfimaaGreatDoor
