/-
  cat, walked.
-/
import Derived.Test.YthocoonhoilmdaaGreatDoorCcX
import Derived.Test.YthocoonhoilmdaaGreatDoorXMxAL
import Derived.Deep.RegionLaw
import Derived.Deep.RegionWith
import Derived.Deep.RegionHeld3
import Derived.RegionTactic
import Derived.WalkKit
import Derived.WalkSpells
import Derived.StillTactics
import Derived.LoopIn
import Derived.RowKit3
import Derived.Below
import Derived.OwnWalk
import Derived.KernelRfl
open Go Go.Mx Go.RowKit
namespace Go.Proofs.YthocoonhoilmdaaGreatDoor
set_option maxRecDepth 100000
noncomputable section
/-! each of one argument, and cat -/
set_option maxHeartbeats 1600000 in
set_option maxRecDepth 100000 in
theorem each_one {w : World} {ub : Nat} {Q : World → Prop} (c1 : w.cell? ⟨ub, 1, none⟩ = some (.string slB)) (hm : MaxIs w) (k : Nat) (hk : k < 10) (g : Nat) (hg : w.cell? ⟨g, 0, none⟩ = some (.string (pk k)))
    (hK : ∀ w1, Below w.heap.size w w1 → Calls Tryz.prog 52 #[.string (pk k), .string (qk k), .pointer (some ⟨ub + 1, 0, none⟩)] w1 fun e w' => e = .returned (.tuple #[]) ∧ Q w') :
    Calls Tryz.prog 51 #[.pointer (some ⟨ub, 0, none⟩), .slice (some ⟨g, 0, none⟩) 1 1, .func (.func 52) #[] #[.pointer (some ⟨ub + 1, 0, none⟩)]] w fun e w' => e = .returned (.tuple #[]) ∧ Q w' := by
  have HK : Hid (∀ w1, Below w.heap.size w w1 → Calls Tryz.prog 52 #[.string (pk k), .string (qk k), .pointer (some ⟨ub + 1, 0, none⟩)] w1 fun e w' => e = .returned (.tuple #[]) ∧ Q w') := hK
  have HA : Hid (Calls Tryz.prog 87 #[.pointer (some ⟨ub, 0, none⟩), .string (pk k)] w fun e w' => e = .returned (.tuple #[.string (qk k), .bool true]) ∧ Below w.heap.size w w') := abs_u c1 hm k hk
  clear hK c1 hm
  go_enter Tryz.func51, Tryz.ntmps51
  go_wp2
  go_loopw [12] (fun i wr => (i = .int .i64 0 ∧ wr = w) ∨ (i = .int .i64 1 ∧ Q wr)) (fun i _ => 1 - (intOf i).toNat)
  case atStart => exact .inl ⟨rfl, rfl⟩
  case round =>
    obtain ⟨rfl, rfl⟩ | ⟨rfl, hQ⟩ := hrel
    · go_wp2_with fail
      go_at_call 87
      refine HA.out.mono ?_
      rintro e w1 ⟨rfl, hb1⟩
      go_wp2_with fail
      go_at_call 52
      refine (HK.out w1 hb1).mono ?_
      rintro e w2 ⟨rfl, hQ⟩
      go_wp2
      go_roundw
      case rel => exact .inr ⟨rfl, hQ⟩
      case measure => simp [intOf]
    · go_wp2
      go_end0
      exact ⟨rfl, hQ⟩
theorem pk_dash : ∀ k, k < 10 → (pk k).data.toList ≠ [45] := by decide +kernel
def namesB (n : Nat) : List ByteArray := (List.range n).map pk
theorem namesB_len (n : Nat) : (namesB n).length = n := by simp [namesB]
theorem names_at {w : World} {g off n : Nat} {x : ByteArray} (h : ArgsAt w g off (namesB n ++ [x])) : (∀ k, k < n → w.cell? ⟨g, off + k, none⟩ = some (.string (pk k))) ∧ w.cell? ⟨g, off + n, none⟩ = some (.string x) := by
  refine ⟨fun k hk => ?_, ?_⟩
  · have := h.cells k (by simp [namesB]; omega)
    rw [List.getElem_append_left (by simp [namesB]; omega)] at this
    simpa [namesB] using this
  · have := h.cells n (by simp [namesB])
    rw [List.getElem_append_right (by simp [namesB])] at this
    simpa [namesB] using this
set_option maxHeartbeats 3200000 in
set_option maxRecDepth 100000 in
theorem cat_any {w0 : World} {fb B : Nat} {T : TT} {g : Nat → Bool} {L : Nat → List UInt8} (n : Nat) (hn : n ≤ 10) (hE : Env w0 fb 0 T) (hT : TreeK g L B n w0 T) (hL : ∀ j, j < n → (L j).length ≤ 200) (ga goff cap : Nat) (hA : ArgsAt w0 ga goff (namesB n ++ [⟨#[45]⟩])) (hc : n + 1 ≤ cap) (io : Option Addr) (inn ic : Nat) (inL : List UInt8) (hin : inL.length = inn) (hi : inn ≤ 200) (hI : BytesV w0 io inL) :
    Calls Tryz.prog 28 #[.pointer (some ⟨w0.heap.size, 0, none⟩)] (w0.alloc (.cells #[.pointer (some ⟨fb, 0, none⟩), .string slB, .string ⟨#[99, 97, 116]⟩, .slice (some ⟨ga, goff, none⟩) (n + 1) cap, .slice io inn ic, .int .i64 0, .slice none 0 0, .slice none 0 0] 59)) fun e w' => e = .returned (.tuple #[]) ∧ US w0 w' w0.heap.size (.pointer (some ⟨fb, 0, none⟩)) (.string slB) (.string ⟨#[99, 97, 116]⟩) (.slice (some ⟨ga, goff, none⟩) (n + 1) cap) (.slice io inn ic) (stN g n) (outN g L n ++ inL) (logN g n) := by
  obtain ⟨U, hU⟩ : ∃ U, U = Obj.cells #[.pointer (some ⟨fb, 0, none⟩), .string slB, .string ⟨#[99, 97, 116]⟩, .slice (some ⟨ga, goff, none⟩) (n + 1) cap, .slice io inn ic, .int .i64 0, .slice none 0 0, .slice none 0 0] 59 := ⟨_, rfl⟩
  obtain ⟨W1, hW1⟩ : ∃ W1, W1 = (w0.alloc U).alloc (.cells #[.pointer (some ⟨w0.heap.size, 0, none⟩)] 57) := ⟨_, rfl⟩
  have hz1 : W1.heap.size = w0.heap.size + 2 := by rw [hW1]; simp
  have hu1 : W1.heap[w0.heap.size]? = some U := by rw [hW1, Go.heap_alloc_old _ _ (by simp)]; exact heap_alloc_new _ _
  have hb1 : W1.heap[w0.heap.size + 1]? = some (.cells #[.pointer (some ⟨w0.heap.size, 0, none⟩)] 57) := by
    have := heap_alloc_new (w0.alloc U) (.cells #[.pointer (some ⟨w0.heap.size, 0, none⟩)] 57)
    rw [hW1]
    simpa using this
  have hbel : Below w0.heap.size w0 W1 := by
    rw [hW1]
    exact ((Below.refl _ _).alloc (Nat.le_refl _) _).alloc (by simp) _
  have hUS : US w0 W1 w0.heap.size (.pointer (some ⟨fb, 0, none⟩)) (.string slB) (.string ⟨#[99, 97, 116]⟩) (.slice (some ⟨ga, goff, none⟩) (n + 1) cap) (.slice io inn ic) (stN g 0) (outN g L 0) (logN g 0) := by
    refine ⟨⟨.slice none 0 0, .slice none 0 0, by rw [hu1, hU]; rfl, World.ownsRow_nil _ _ _ _, World.ownsRow_nil _ _ _ _, .inl rfl, ⟨fun _ => rfl, fun _ => rfl⟩, ⟨fun _ => rfl, fun _ => rfl⟩⟩, hb1, by omega, hbel⟩
  have cA : W1.cell? ⟨w0.heap.size, 3, none⟩ = some (.slice (some ⟨ga, goff, none⟩) (n + 1) cap) := by
    rw [cell_u (by rw [hu1, hU])]
    rfl
  have cB : W1.cell? ⟨w0.heap.size + 1, 0, none⟩ = some (.pointer (some ⟨w0.heap.size, 0, none⟩)) := by
    rw [cell_u hb1]
    rfl
  have HX : Hid (∀ wr, Below w0.heap.size w0 wr → (∀ k, k < n → wr.cell? ⟨ga, goff + k, none⟩ = some (.string (pk k))) ∧ wr.cell? ⟨ga, goff + n, none⟩ = some (.string ⟨#[45]⟩) ∧ BytesV wr io inL ∧ MaxIs wr) := fun wr hb =>
    ⟨(names_at (hA.below hb)).1, (names_at (hA.below hb)).2, hI.below (Nat.le_refl _) hb, hE.mx.below hE.mx.lt hb⟩
  have HO : Hid (∀ k, k ≤ n → (outN g L k).length ≤ 2000 ∧ (logN g k).length ≤ 200) := fun k hk => by
    have h1 := outN_len (g := g) (L := L) (k := k) fun j hj => hL j (by omega)
    have h2 := logN_len (g := g) (k := k)
    omega
  have HR : Hid (∀ k, k < n → ∀ wr, US w0 wr w0.heap.size (.pointer (some ⟨fb, 0, none⟩)) (.string slB) (.string ⟨#[99, 97, 116]⟩) (.slice (some ⟨ga, goff, none⟩) (n + 1) cap) (.slice io inn ic) (stN g k) (outN g L k) (logN g k) →
      Calls Tryz.prog 52 #[.string (pk k), .string (qk k), .pointer (some ⟨w0.heap.size + 1, 0, none⟩)] wr fun e w' => e = .returned (.tuple #[]) ∧ US w0 w' w0.heap.size (.pointer (some ⟨fb, 0, none⟩)) (.string slB) (.string ⟨#[99, 97, 116]⟩) (.slice (some ⟨ga, goff, none⟩) (n + 1) cap) (.slice io inn ic) (stN g (k + 1)) (outN g L (k + 1)) (logN g (k + 1))) := fun k hk wr hu => by
    have ho := HO.out k (by omega)
    have hk10 : k < 10 := by omega
    rw [stN, outN, logN]
    by_cases hg : g k = true
    · rw [if_pos hg, if_pos hg, if_pos hg, List.append_nil]
      exact k1_gone rfl hu hE k hk10 (by omega) (by omega) (hT.gone k hk10 (.inr hg))
    · rw [if_neg hg, if_neg hg, if_neg hg, List.append_nil]
      obtain ⟨o, c, t, h1, h2⟩ := hT.there k hk10 hk (by cases e : g k with | true => exact absurd e hg | false => rfl)
      exact k1_there rfl hu hE k hk10 (L k) _ rfl (by have := hL k hk; omega) (by omega) o c t h1 h2
  have HN : Hid (inL.length = inn) := hin
  have n0 : (0 : Int) ≤ (n : Int) := by omega
  have hn0 : ¬ ((n : Int) + 1 = 0) := by omega
  clear hE hT hL hA hI hin hu1 hb1 hbel
  go_enter Tryz.func28, Tryz.ntmps28
  go_wp2_with fail
  rw [← hU, ← hW1]
  have HUS : Hid (US w0 W1 w0.heap.size (.pointer (some ⟨fb, 0, none⟩)) (.string slB) (.string ⟨#[99, 97, 116]⟩) (.slice (some ⟨ga, goff, none⟩) (n + 1) cap) (.slice io inn ic) (stN g 0) (outN g L 0) (logN g 0)) := hUS
  clear hU hW1 cA cB hz1 hUS
  obtain ⟨ub, hub⟩ : ∃ ub, ub = w0.heap.size := ⟨_, rfl⟩
  have HUB : Hid (ub = w0.heap.size) := hub
  rw [← hub] at HUS HR ⊢
  clear hub
  go_loopw [19] (fun i wr => ∃ k : Nat, i = .int .i64 k ∧ ((k ≤ n ∧ US w0 wr ub (.pointer (some ⟨fb, 0, none⟩)) (.string slB) (.string ⟨#[99, 97, 116]⟩) (.slice (some ⟨ga, goff, none⟩) (n + 1) cap) (.slice io inn ic) (stN g k) (outN g L k) (logN g k)) ∨ (k = n + 1 ∧ US w0 wr ub (.pointer (some ⟨fb, 0, none⟩)) (.string slB) (.string ⟨#[99, 97, 116]⟩) (.slice (some ⟨ga, goff, none⟩) (n + 1) cap) (.slice io inn ic) (stN g n) (outN g L n ++ inL) (logN g n)))) (fun i _ => n + 1 - (intOf i).toNat)
  case atStart => exact ⟨0, rfl, .inl ⟨Nat.zero_le _, HUS.out⟩⟩
  case round =>
    obtain ⟨k, rfl, ⟨hk, hu⟩ | ⟨rfl, hu⟩⟩ := hrel
    · obtain ⟨x1, x2, x3, x4⟩ := HX.out wr (by rw [← HUB.out]; exact hu.kept)
      obtain ⟨oo, oc, hP⟩ := hu.pre
      have cb := hP.cb
      have c1 : wr.cell? ⟨ub, 1, none⟩ = some (.string slB) := by
        obtain ⟨_, _, hh, _⟩ := hu.ex
        rw [cell_u hh]
        rfl
      have hlt := hu.lt
      by_cases hkn : k < n
      · have cx := x1 k hkn
        have hne := neB (pk_dash k (by omega))
        have hmf : ∀ (fn : Fn) (first cap : Array Value) (w : World), (Instr.makeFunc fn first cap).run Tryz.prog w = .ok (.func fn first cap) w := fun _ _ _ _ => rfl
        have hb2 : Below wr.heap.size wr (wr.alloc (.cells #[.string (pk k)] 9)) := (Below.refl _ _).alloc (Nat.le_refl _) _
        have HEA := each_one (w := wr.alloc (.cells #[.string (pk k)] 9)) (ub := ub) ((hb2.cell (p := ⟨ub, 1, none⟩) (by show ub < _; omega)).trans c1) (x4.below x4.lt hb2) k (by omega) wr.heap.size (by rw [cell_u (heap_alloc_new _ _)]; rfl) (fun w1 hb => HR.out k hkn w1 ((hu.below hb2).below hb))
        have hki : (k : Int) < (n : Int) + 1 := by omega
        clear x1 x2 x3 x4 hP hb2
        go_wp2_with fail
        go_at_call 51
        refine HEA.mono ?_
        rintro e w2 ⟨rfl, hu2⟩
        go_wp2
        go_roundw
        case rel =>
          (repeat apply Exists.intro)
          refine ⟨?r, rfl⟩
          exact ⟨k + 1, by go_num, .inl ⟨by omega, hu2⟩⟩
        case measure => simp [intOf]; omega
      · have hkn : k = n := by omega
        subst hkn
        have c4 := hP.c4
        have c6 := hP.c6
        have HP : Hid (OutPre w0 wr ub (.pointer (some ⟨fb, 0, none⟩)) (.string slB) (.string ⟨#[99, 97, 116]⟩) (.slice (some ⟨ga, goff, none⟩) (k + 1) cap) (.slice io inn ic) (stN g k) (outN g L k) (logN g k) oo oc) := hP
        have hI : Hid (BytesV wr io inL) := x3
        have hol := (HO.out k (by omega)).1
        clear x1 x3 x4 hP c1
        obtain ⟨ob, hob⟩ : ∃ ob, ob = outN g L k := ⟨_, rfl⟩
        rw [← hob] at HP c6 hol
        have HOB : Hid (ob = outN g L k) := hob
        clear hob
        have hki : (k : Int) < (k : Int) + 1 := by omega
        go_wp2_with fail
        go_region_law
          (first
            | (rw [if_pos (by rfl)]; refine wp_append_data _ _ rfl _ (ub + 2) (.slice oo ob.length oc) ob rfl (by exact HP.out.own) inL inn HN.out io ic rfl (by exact hI.out) (by omega) (by exact hlt) ?_; intro v3 w3 hown3 hgr3 hnil3 hnew3;
               obtain ⟨hU, hf, hc6, hcb, o3, m3, c3, rfl⟩ := HP.out.fin inL inn w3 v3 HN.out hown3 ⟨hgr3.os, hgr3.tape, hgr3.output, hgr3.size, hgr3.block⟩ hnil3 hnew3; clear hown3 hgr3 hnil3 hnew3))
        all_goals
          go_wp2
          go_roundw
          case rel =>
            first
              | exact ⟨k + 1, by go_num, .inr ⟨rfl, by rw [← HOB.out]; exact hU⟩⟩
              | ((repeat apply Exists.intro); refine ⟨?_, rfl⟩; exact ⟨k + 1, by go_num, .inr ⟨rfl, by rw [← HOB.out]; exact hU⟩⟩)
          case measure => simp [intOf]
    · go_wp2
      go_end0
      rw [HUB.out] at hu
      exact ⟨rfl, hu⟩
end
end Go.Proofs.YthocoonhoilmdaaGreatDoor
