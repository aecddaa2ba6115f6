/-
  The law, walked.
-/
import Derived.Test.YtdblbhbbddkmhaaGreatDoorClW
import Derived.Lib.SlBytesConst
import Derived.Deep.RegionWith
import Derived.Deep.RegionHeld3
import Derived.RegionTactic
import Derived.WalkKit
import Derived.WalkSpells
import Derived.StillTactics
import Derived.LoopIn
import Derived.RowKit3
import Derived.Below
import Derived.OwnWalk
import Derived.KernelRfl
open Go Go.Mx Go.RowKit
namespace Go.Proofs.YtdblbhbbddkmhaaGreatDoor
set_option maxRecDepth 100000
noncomputable section
def bang : ByteArray := ⟨#[33]⟩
/-- the second answer is the first one's contrary -/
def Contrary (x y : Bool × Int) : Prop := y.2 = x.2 ∧ y.1 = (!x.1 && x.2 == 0)
theorem contrary_notP (x : Bool × Int) : Contrary x (notP x) := ⟨rfl, rfl⟩
theorem bang_is : isBang bang := rfl
theorem opsF : ∀ s : ByteArray, s.data.toList ∉ ([[61], [33, 61], [45, 101, 113], [45, 110, 101], [45, 108, 116], [45, 108, 101], [45, 103, 116], [45, 103, 101], [45, 110, 116]] : List (List UInt8)) → ∀ T b, (twoF T bang s b).2.2 = false := by
  intro s hs T b
  simp only [List.mem_cons, List.not_mem_nil, or_false, not_or] at hs
  obtain ⟨h1, h2, h3, h4, h5, h6, h7, h8, h9⟩ := hs
  have hc : ∀ x y, cmpF s x y = (false, false) := fun x y => by
    unfold cmpF
    rw [if_neg h3, if_neg h4, if_neg h5, if_neg h6, if_neg h7, if_neg h8]
  unfold twoF
  rw [if_neg h1, if_neg h2, if_neg h9]
  simp only [hc]
  simp
theorem contrary_one (T : TT) (a : ByteArray) : Contrary (testF T [a]) (testF T [bang, a]) := by
  have : testF T [bang, a] = notP (testF T [a]) := by conv => lhs; rw [testF, if_pos bang_is]
  rw [this]
  exact contrary_notP _
theorem contrary_two (T : TT) (a b : ByteArray) (h : a.data.toList ∉ ([[61], [33, 61], [45, 101, 113], [45, 110, 101], [45, 108, 116], [45, 108, 101], [45, 103, 116], [45, 103, 101], [45, 110, 116]] : List (List UInt8))) : Contrary (testF T [a, b]) (testF T [bang, a, b]) := by
  have : testF T [bang, a, b] = notP (testF T [a, b]) := by
    conv => lhs; rw [testF]
    rw [if_neg (by rw [opsF a h T b]; simp), if_pos bang_is]
  rw [this]
  exact contrary_notP _
theorem contrary_three (T : TT) (a b c : ByteArray) : Contrary (testF T [a, b, c]) (testF T [bang, a, b, c]) := by
  have : testF T [bang, a, b, c] = notP (testF T [a, b, c]) := by conv => lhs; rw [testF, if_pos bang_is]
  rw [this]
  exact contrary_notP _
theorem num_id (e : Int) (w : World) : Calls Tryz.prog 9 #[.int .i64 e] w fun r w' => r = .returned (.int .i64 e) ∧ w' = w := by
  go_enter Tryz.func9, Tryz.ntmps9
  go_wp2
  go_ret
  exact ⟨rfl, rfl⟩
theorem below_stays {w w' : World} (h : Stays w w') : Below w.heap.size w w' := ⟨h.os, h.tape, h.output, h.size, h.heap⟩
set_option maxHeartbeats 1600000 in
theorem nots_out (o : Option Addr) (n cap : Nat) (h : n < 1 ∨ 3 < n) (w : World) (hal : Calls Tryz.prog 4 #[] w fun e w' => e = .returned (.bool true) ∧ Below w.heap.size w w') :
    Calls Tryz.prog 3 #[.slice o n cap] w fun e w' => e = .returned (.bool true) ∧ Below w.heap.size w w' := by
  rcases h with h | h
  · obtain rfl : n = 0 := by omega
    go_enter Tryz.func3, Tryz.ntmps3
    go_wp2_with fail
    go_at_call 4
    refine hal.mono ?_
    rintro e w1 ⟨rfl, hb1⟩
    clear hal
    go_wp2
    go_ret
    exact ⟨rfl, hb1⟩
  · go_enter Tryz.func3, Tryz.ntmps3
    go_wp2_with fail
    go_at_call 4
    refine hal.mono ?_
    rintro e w1 ⟨rfl, hb1⟩
    clear hal
    go_wp2
    go_ret
    exact ⟨rfl, hb1⟩
def opsL : List ByteArray := [⟨#[61]⟩, ⟨#[33, 61]⟩, ⟨#[45, 101, 113]⟩, ⟨#[45, 110, 101]⟩, ⟨#[45, 108, 116]⟩, ⟨#[45, 108, 101]⟩, ⟨#[45, 103, 116]⟩, ⟨#[45, 103, 101]⟩, ⟨#[45, 110, 116]⟩]
theorem opsL_len : opsL.length = 9 := rfl
set_option maxHeartbeats 3200000 in
set_option maxRecDepth 100000 in
/-- one or three words -/
theorem nots_odd (l : List ByteArray) (hl : l.length = 1 ∨ l.length = 3) (hc : ∀ T, Contrary (testF T l) (testF T (bang :: l))) (hs : ∀ s ∈ l, s.size ≤ 1100000) (g off cap : Nat) (hcap : l.length ≤ cap) (w : World) (hm : MaxIs w) (hA : ArgsAt w g off l)
    (hal : Calls Tryz.prog 4 #[] w fun e w' => e = .returned (.bool true) ∧ Below w.heap.size w w') :
    Calls Tryz.prog 3 #[.slice (some ⟨g, off, none⟩) l.length cap] w fun e w' => e = .returned (.bool true) ∧ Below w.heap.size w w' := by
  obtain ⟨i0, hi, hz0, hz1, hz2⟩ := info_parts pa_info9
  obtain ⟨n, hn⟩ : ∃ n, n = l.length := ⟨_, rfl⟩
  have hn3 : n = 1 ∨ n = 3 := by rw [hn]; exact hl
  have HA : Hid (∀ w', Below w.heap.size w w' → ArgsAt w' g off l) := fun w' hb => hA.below hb
  have HT1 : Hid (∀ (w' : World) (fb fo : Nat) (T : TT), EnvD w' fb fo T → ArgsAt w' g off l → Calls Tryz.prog 8 #[.pointer (some ⟨fb, fo, none⟩), .string slB, .slice (some ⟨g, off, none⟩) n cap] w' fun e w'' => e = .returned (.tuple #[.bool (testF T l).1, .int .i64 (testF T l).2]) ∧ Below w'.heap.size w' w'') := fun w' fb fo T hE hA' => by
    rw [hn]
    exact Test_any hE l hs (by omega) _ cap (.inr ⟨g, off, rfl, hcap, hA'⟩)
  have HT2 : Hid (∀ (w' : World) (fb fo : Nat) (T : TT) (g2 cap2 : Nat), EnvD w' fb fo T → n + 1 ≤ cap2 → ArgsAt w' g2 0 (bang :: l) → Calls Tryz.prog 8 #[.pointer (some ⟨fb, fo, none⟩), .string slB, .slice (some ⟨g2, 0, none⟩) (1 + n) cap2] w' fun e w'' => e = .returned (.tuple #[.bool (testF T (bang :: l)).1, .int .i64 (testF T (bang :: l)).2]) ∧ Below w'.heap.size w' w'') := fun w' fb fo T g2 cap2 hE hc2 hA' => by
    have := Test_any hE (bang :: l) (by intro s hs'; rcases List.mem_cons.1 hs' with rfl | h; exact Nat.le_trans (show bang.size ≤ 1 from Nat.le_refl _) (by omega); exact hs s h) (by simp; omega) (some ⟨g2, 0, none⟩) cap2 (.inr ⟨g2, 0, rfl, by simp; omega, hA'⟩)
    rw [show (bang :: l).length = 1 + n by simp [hn]; omega] at this
    exact this
  clear hs hA
  rw [← hn] at hcap ⊢
  have hn1 : ¬ (n : Int) < 1 := by omega
  have hn4 : ¬ (3 : Int) < n := by omega
  have hn2 : ((n : Int) == 2) = false := beq_eq_false_iff_ne.2 (by omega)
  have HN : Hid (n = l.length) := hn
  clear hn hl
  go_enter Tryz.func3, Tryz.ntmps3
  go_wp2_with fail
  go_at_call 4
  refine hal.mono ?_
  rintro e w1 ⟨rfl, hb1⟩
  clear hal
  have hm1 : MaxIs w1 := hm.below hm.lt hb1
  go_wp2_with fail
  go_at_call 5
  refine (new_st w1).mono ?_
  rintro e w2 ⟨fb, fo, rfl, hf2⟩
  have hcv : (convert 28 28 (.slice (some ⟨w2.heap.size, 0, none⟩) 1 1)).run Tryz.prog (w2.alloc (.cells #[.int .u8 120] 5)) = .ok (.slice (some ⟨w2.heap.size, 0, none⟩) 1 1) (w2.alloc (.cells #[.int .u8 120] 5 (1, 2))) := Lib.run_convert_bytes_const w2 28 5 #[.int .u8 120] 1 1 v_t28 v_t5
  go_wp2_with fail
  go_at_call 6
  refine (wr_st hf2).mono ?_
  rintro e w3 ⟨⟨v3, rfl⟩, hf3⟩
  clear hf2
  go_wp2_with fail
  go_at_call 7
  refine (mk_st hm1 hf3).mono ?_
  rintro e w4 ⟨⟨v4, rfl⟩, hst4, T, hE4⟩
  clear hf3
  have hb4 : Below w.heap.size w w4 := hb1.trans ((below_stays hst4).mono hb1.size)
  have hA4 := HA.out w4 hb4
  have hT1 := HT1.out w4 fb fo T hE4 hA4
  have HY : testF T (bang :: l) = (!(testF T l).1 && (testF T l).2 == 0, (testF T l).2) := Prod.ext (hc T).2 (hc T).1
  have HT3 : Hid (∀ (w' : World) (g2 cap2 : Nat), Below w4.heap.size w4 w' → n + 1 ≤ cap2 → ArgsAt w' g2 0 (bang :: l) → Calls Tryz.prog 8 #[.pointer (some ⟨fb, fo, none⟩), .string slB, .slice (some ⟨g2, 0, none⟩) (1 + n) cap2] w' fun e w'' => e = .returned (.tuple #[.bool (!(testF T l).1 && (testF T l).2 == 0), .int .i64 (testF T l).2]) ∧ Below w'.heap.size w' w'') := fun w' g2 cap2 hb h2 hA' => by
    have := HT2.out w' fb fo T g2 cap2 (hE4.below hb) h2 hA'
    rw [HY] at this
    exact this
  clear hst4 hm1 HT1 HT2 HY hE4
  generalize testF T l = x at hT1 HT3
  obtain ⟨xb, xe⟩ := x
  simp only at hT1 HT3
  go_wp2_with fail
  go_at_call 8
  refine hT1.mono ?_
  rintro e w5 ⟨rfl, hb5⟩
  have hb45 := hb4.trans (hb5.mono hb4.size)
  have hA5 := HA.out w5 hb45
  clear hT1 hA4 HA
  have hb6 : Below w5.heap.size w5 (w5.alloc (.cells #[.string ⟨#[33]⟩] 9)) := (Below.refl _ _).alloc (Nat.le_refl _) _
  have hown : (w5.alloc (.cells #[.string ⟨#[33]⟩] 9)).ownsRow w5.heap.size 9 1 (.slice (some ⟨w5.heap.size, 0, none⟩) 1 1) 1 [.string bang] := ⟨rfl, .inr ⟨w5.heap.size, 1, _, rfl, Nat.le_refl _, heap_alloc_new _ _, Nat.le_refl _, by unfold maxLen; omega, rfl, rfl⟩⟩
  have hA6 : ∀ (j : Nat) u, (l.map Value.string)[j]? = some u → (w5.alloc (.cells #[.string ⟨#[33]⟩] 9)).cell? ((⟨g, off, none⟩ : Addr).add j) = some u := fun j u hj => by
    rw [Addr.add_lit, hb6.cell (by exact hA5.lt)]
    rw [List.getElem?_map] at hj
    cases e : l[j]? with
    | none => rw [e] at hj; cases hj
    | some s =>
      rw [e] at hj
      obtain ⟨hj2, rfl⟩ := List.getElem?_eq_some_iff.1 e
      have := hA5.cells j hj2
      rw [this]
      exact hj
  go_wp2_with (at_builtin; refine wpList_append_own _ rfl _ _ 22 rfl w5.heap.size 9 i0 _ 1 16 pa_t22 hi hz0 hz1 hz2 rfl (by decide) _ _ _ rfl (by exact hown) ⟨g, off, none⟩ n cap (l.map Value.string) rfl (by rw [List.length_map, HN.out]; omega) hA6 (by intro u hu; obtain ⟨x, _, rfl⟩ := List.mem_map.1 hu; rfl) (by unfold maxLen; omega) (by omega) hb6.size ?_)
  intro v7 w7 hown7 hgrow7 hnil7
  have hb7 : Below w5.heap.size w5 w7 := hb6.grown hgrow7 hb6.size (fun j hj => (hown.lt j hj).1)
  have hb47 := hb5.trans (hb7.mono hb5.size)
  rcases hown7.2 with ⟨rfl, h0⟩ | ⟨g2, cap2, cur, rfl, r1, r2, r3, r4, r5, r6⟩
  · exact absurd h0 (by omega)
  have hA7 : ArgsAt w7 g2 0 (bang :: l) := ⟨(Array.getElem?_eq_some_iff.1 r2).1, fun k hk => by
    have h1 := hown7.cells (g := g2) rfl k (.string (bang :: l)[k]) (by
      show ((bang :: l).map Value.string)[k]? = _
      rw [List.getElem?_map, List.getElem?_eq_getElem hk]
      rfl)
    rwa [Addr.add_lit] at h1⟩
  have hT3 := HT3.out w7 g2 cap2 hb47 (by omega) hA7
  clear HT3 hown7 hgrow7 hnil7 hown hA6 r1 r2 r5 r6 hA7 hA5 hb6
  go_wp2_with fail
  go_at_call 8
  refine hT3.mono ?_
  rintro e w8 ⟨rfl, hb8⟩
  have hbw : Below w.heap.size w w8 := hb45.trans ((hb7.trans (hb8.mono hb7.size)).mono hb45.size)
  clear hT3
  by_cases he : xe = 0
  · subst he
    cases xb
    all_goals
      go_wp2_with fail
      go_at_call 9
      refine (num_id _ _).mono ?_
      rintro e w9 ⟨rfl, hw⟩
      subst hw
      go_wp2_with fail
      go_at_call 9
      refine (num_id _ _).mono ?_
      rintro e w10 ⟨rfl, hw⟩
      subst hw
      go_wp2_with fail
      go_at_call 9
      refine (num_id _ _).mono ?_
      rintro e w11 ⟨rfl, hw⟩
      subst hw
      go_wp2
      go_ret
      exact ⟨rfl, hbw⟩
  · have he' : (xe == 0) = false := beq_eq_false_iff_ne.2 he
    go_wp2_with fail
    go_at_call 9
    refine (num_id _ _).mono ?_
    rintro e w9 ⟨rfl, hw⟩
    subst hw
    go_wp2_with fail
    go_at_call 9
    refine (num_id _ _).mono ?_
    rintro e w10 ⟨rfl, hw⟩
    subst hw
    go_wp2_with fail
    go_at_call 9
    refine (num_id _ _).mono ?_
    rintro e w11 ⟨rfl, hw⟩
    subst hw
    go_wp2
    go_ret
    exact ⟨rfl, hbw⟩
set_option maxHeartbeats 3200000 in
set_option maxRecDepth 100000 in
/-- two words -/
theorem nots_two (a : ByteArray) (l : List ByteArray) (hl : l.length = 2) (ha : l[0]? = some a) (hc : a.data.toList ∉ opsL.map (·.data.toList) → ∀ T, Contrary (testF T l) (testF T (bang :: l))) (hs : ∀ s ∈ l, s.size ≤ 1100000) (g off cap : Nat) (hcap : l.length ≤ cap) (w : World) (hm : MaxIs w) (hA : ArgsAt w g off l)
    (hal : Calls Tryz.prog 4 #[] w fun e w' => e = .returned (.bool true) ∧ Below w.heap.size w w') :
    Calls Tryz.prog 3 #[.slice (some ⟨g, off, none⟩) l.length cap] w fun e w' => e = .returned (.bool true) ∧ Below w.heap.size w w' := by
  obtain ⟨i0, hi, hz0, hz1, hz2⟩ := info_parts pa_info9
  obtain ⟨n, hn⟩ : ∃ n, n = l.length := ⟨_, rfl⟩
  have hn3 : n = 2 := by rw [hn]; exact hl
  have HA : Hid (∀ w', Below w.heap.size w w' → ArgsAt w' g off l) := fun w' hb => hA.below hb
  have HT1 : Hid (∀ (w' : World) (fb fo : Nat) (T : TT), EnvD w' fb fo T → ArgsAt w' g off l → Calls Tryz.prog 8 #[.pointer (some ⟨fb, fo, none⟩), .string slB, .slice (some ⟨g, off, none⟩) n cap] w' fun e w'' => e = .returned (.tuple #[.bool (testF T l).1, .int .i64 (testF T l).2]) ∧ Below w'.heap.size w' w'') := fun w' fb fo T hE hA' => by
    rw [hn]
    exact Test_any hE l hs (by omega) _ cap (.inr ⟨g, off, rfl, hcap, hA'⟩)
  have HT2 : Hid (∀ (w' : World) (fb fo : Nat) (T : TT) (g2 cap2 : Nat), EnvD w' fb fo T → n + 1 ≤ cap2 → ArgsAt w' g2 0 (bang :: l) → Calls Tryz.prog 8 #[.pointer (some ⟨fb, fo, none⟩), .string slB, .slice (some ⟨g2, 0, none⟩) (1 + n) cap2] w' fun e w'' => e = .returned (.tuple #[.bool (testF T (bang :: l)).1, .int .i64 (testF T (bang :: l)).2]) ∧ Below w'.heap.size w' w'') := fun w' fb fo T g2 cap2 hE hc2 hA' => by
    have := Test_any hE (bang :: l) (by intro s hs'; rcases List.mem_cons.1 hs' with rfl | h; exact Nat.le_trans (show bang.size ≤ 1 from Nat.le_refl _) (by omega); exact hs s h) (by simp; omega) (some ⟨g2, 0, none⟩) cap2 (.inr ⟨g2, 0, rfl, by simp; omega, hA'⟩)
    rw [show (bang :: l).length = 1 + n by simp [hn]; omega] at this
    exact this
  clear hs hA
  rw [← hn] at hcap ⊢
  have hn1 : ¬ (n : Int) < 1 := by omega
  have hn4 : ¬ (3 : Int) < n := by omega
  have HN : Hid (n = l.length) := hn
  clear hn hl
  subst hn3
  go_enter Tryz.func3, Tryz.ntmps3
  go_wp2_with fail
  go_at_call 4
  refine hal.mono ?_
  rintro e w1 ⟨rfl, hb1⟩
  clear hal
  have hm1 : MaxIs w1 := hm.below hm.lt hb1
  go_wp2_with fail
  go_at_call 5
  refine (new_st w1).mono ?_
  rintro e w2 ⟨fb, fo, rfl, hf2⟩
  have hcv : (convert 28 28 (.slice (some ⟨w2.heap.size, 0, none⟩) 1 1)).run Tryz.prog (w2.alloc (.cells #[.int .u8 120] 5)) = .ok (.slice (some ⟨w2.heap.size, 0, none⟩) 1 1) (w2.alloc (.cells #[.int .u8 120] 5 (1, 2))) := Lib.run_convert_bytes_const w2 28 5 #[.int .u8 120] 1 1 v_t28 v_t5
  go_wp2_with fail
  go_at_call 6
  refine (wr_st hf2).mono ?_
  rintro e w3 ⟨⟨v3, rfl⟩, hf3⟩
  clear hf2
  go_wp2_with fail
  go_at_call 7
  refine (mk_st hm1 hf3).mono ?_
  rintro e w4 ⟨⟨v4, rfl⟩, hst4, T, hE4⟩
  clear hf3
  have hb4 : Below w.heap.size w w4 := hb1.trans ((below_stays hst4).mono hb1.size)
  have hA4 := HA.out w4 hb4
  have hT1 := HT1.out w4 fb fo T hE4 hA4
  have HY : Hid (a.data.toList ∉ opsL.map (·.data.toList) → testF T (bang :: l) = (!(testF T l).1 && (testF T l).2 == 0, (testF T l).2)) := fun h => Prod.ext (hc h T).2 (hc h T).1
  have HT3 : Hid (∀ (w' : World) (g2 cap2 : Nat), Below w4.heap.size w4 w' → 2 + 1 ≤ cap2 → ArgsAt w' g2 0 (bang :: l) → Calls Tryz.prog 8 #[.pointer (some ⟨fb, fo, none⟩), .string slB, .slice (some ⟨g2, 0, none⟩) (1 + 2) cap2] w' fun e w'' => e = .returned (.tuple #[.bool (testF T (bang :: l)).1, .int .i64 (testF T (bang :: l)).2]) ∧ Below w'.heap.size w' w'') := fun w' g2 cap2 hb h2 hA' => HT2.out w' fb fo T g2 cap2 (hE4.below hb) h2 hA'
  clear hst4 hm1 HT1 HT2 hE4
  generalize testF T l = x at hT1 HY
  generalize testF T (bang :: l) = y at HT3 HY
  obtain ⟨xb, xe⟩ := x
  obtain ⟨yb, ye⟩ := y
  simp only at hT1 HT3 HY
  go_wp2_with fail
  go_at_call 8
  refine hT1.mono ?_
  rintro e w5 ⟨rfl, hb5⟩
  have hb45 := hb4.trans (hb5.mono hb4.size)
  have hA5 := HA.out w5 hb45
  clear hT1 hA4 HA
  have hb6 : Below w5.heap.size w5 (w5.alloc (.cells #[.string ⟨#[33]⟩] 9)) := (Below.refl _ _).alloc (Nat.le_refl _) _
  have hown : (w5.alloc (.cells #[.string ⟨#[33]⟩] 9)).ownsRow w5.heap.size 9 1 (.slice (some ⟨w5.heap.size, 0, none⟩) 1 1) 1 [.string bang] := ⟨rfl, .inr ⟨w5.heap.size, 1, _, rfl, Nat.le_refl _, heap_alloc_new _ _, Nat.le_refl _, by unfold maxLen; omega, rfl, rfl⟩⟩
  have hA6 : ∀ (j : Nat) u, (l.map Value.string)[j]? = some u → (w5.alloc (.cells #[.string ⟨#[33]⟩] 9)).cell? ((⟨g, off, none⟩ : Addr).add j) = some u := fun j u hj => by
    rw [Addr.add_lit, hb6.cell (by exact hA5.lt)]
    rw [List.getElem?_map] at hj
    cases e : l[j]? with
    | none => rw [e] at hj; cases hj
    | some s =>
      rw [e] at hj
      obtain ⟨hj2, rfl⟩ := List.getElem?_eq_some_iff.1 e
      have := hA5.cells j hj2
      rw [this]
      exact hj
  go_wp2_with (at_builtin; refine wpList_append_own _ rfl _ _ 22 rfl w5.heap.size 9 i0 _ 1 16 pa_t22 hi hz0 hz1 hz2 rfl (by decide) _ _ _ rfl (by exact hown) ⟨g, off, none⟩ 2 cap (l.map Value.string) rfl (by rw [List.length_map, HN.out]; omega) hA6 (by intro u hu; obtain ⟨x, _, rfl⟩ := List.mem_map.1 hu; rfl) (by unfold maxLen; omega) (by omega) hb6.size ?_)
  intro v7 w7 hown7 hgrow7 hnil7
  have hb7 : Below w5.heap.size w5 w7 := hb6.grown hgrow7 hb6.size (fun j hj => (hown.lt j hj).1)
  have hb47 := hb5.trans (hb7.mono hb5.size)
  rcases hown7.2 with ⟨rfl, h0⟩ | ⟨g2, cap2, cur, rfl, r1, r2, r3, r4, r5, r6⟩
  · exact absurd h0 (by omega)
  have hA7 : ArgsAt w7 g2 0 (bang :: l) := ⟨(Array.getElem?_eq_some_iff.1 r2).1, fun k hk => by
    have h1 := hown7.cells (g := g2) rfl k (.string (bang :: l)[k]) (by
      show ((bang :: l).map Value.string)[k]? = _
      rw [List.getElem?_map, List.getElem?_eq_getElem hk]
      rfl)
    rwa [Addr.add_lit] at h1⟩
  have hT3 := HT3.out w7 g2 cap2 hb47 (by omega) hA7
  clear HT3 hown7 hgrow7 hnil7 hown hA6 r1 r2 r5 r6 hA7 hb6
  go_wp2_with fail
  go_at_call 8
  refine hT3.mono ?_
  rintro e w8 ⟨rfl, hb8⟩
  have hb58 : Below w5.heap.size w5 w8 := hb7.trans (hb8.mono hb7.size)
  have hbw : Below w.heap.size w w8 := hb45.trans (hb58.mono hb45.size)
  have hg5 := hA5.lt
  have hq8 : w8.cell? ⟨g, off, none⟩ = some (.string a) := by
    rw [hb58.cell (by exact hg5)]
    obtain ⟨hj, he⟩ := List.getElem?_eq_some_iff.1 ha
    have := hA5.cells 0 hj
    rw [he] at this
    exact this
  have hg8 : g < w8.heap.size := Nat.lt_of_lt_of_le hg5 hb58.size
  clear hT3 hA5
  generalize hW9 : w8.alloc (.cells #[.string ⟨#[61]⟩, .string ⟨#[33, 61]⟩, .string ⟨#[45, 101, 113]⟩, .string ⟨#[45, 110, 101]⟩, .string ⟨#[45, 108, 116]⟩, .string ⟨#[45, 108, 101]⟩, .string ⟨#[45, 103, 116]⟩, .string ⟨#[45, 103, 101]⟩, .string ⟨#[45, 110, 116]⟩] 9) = w9
  have hb9 : Below w8.heap.size w8 w9 := by rw [← hW9]; exact (Below.refl _ _).alloc (Nat.le_refl _) _
  have hq9 : w9.cell? ⟨g, off, none⟩ = some (.string a) := by rw [hb9.cell (by exact hg8)]; exact hq8
  have HO : Hid (∀ k (h : k < 9), w9.cell? ⟨w8.heap.size, k, none⟩ = some (.string (opsL[k]'(by rw [opsL_len]; exact h)))) := fun k h => by
    rw [← hW9]
    exact new_cells w8 opsL 9 (by rw [opsL_len]; exact h)
  have hl9 : w8.heap.size < w9.heap.size := by rw [← hW9]; simp
  have hbw9 : Below w.heap.size w w9 := hbw.trans (hb9.mono hbw.size)
  go_wp2
  clear hW9
  go_loopw [10] (fun i wr => ∃ k : Nat, k ≤ 9 ∧ i = .int .i64 k ∧ (∀ s ∈ (opsL.map (·.data.toList)).take k, a.data.toList ≠ s) ∧ Below w9.heap.size w9 wr) (fun i _ => 9 - (intOf i).toNat)
  case atStart => exact ⟨0, Nat.zero_le _, rfl, by simp, Below.refl _ _⟩
  case round =>
    obtain ⟨k, hk, rfl, hno, hbr⟩ := hrel
    by_cases hlt : k < 9
    · have ho := HO.out k hlt
      obtain ⟨q, hq⟩ : ∃ q, q = opsL[k]'(by rw [opsL_len]; exact hlt) := ⟨_, rfl⟩
      rw [← hq] at ho
      have c1 : wr.cell? ⟨g, off, none⟩ = some (.string a) := by rw [hbr.cell (by show g < _; omega)]; exact hq9
      have c2 : wr.cell? ⟨w8.heap.size, k, none⟩ = some (.string q) := by rw [hbr.cell (by exact hl9)]; exact ho
      have k1 : (k : Int) < 9 := by omega
      have HS : Hid (a.data.toList ≠ q.data.toList → ∀ s ∈ (opsL.map (·.data.toList)).take (k + 1), a.data.toList ≠ s) := fun hne s hs => by
        rw [List.take_succ_eq_append_getElem (by rw [List.length_map, opsL_len]; exact hlt)] at hs
        rcases List.mem_append.1 hs with hs | hs
        · exact hno s hs
        · rw [List.mem_singleton] at hs
          rw [hs, List.getElem_map, ← hq]
          exact hne
      have hbwr := hbw9.trans (hbr.mono hbw9.size)
      clear hno ho hq
      by_cases ce : a.data.toList = q.data.toList
      · have e1 : (a.toList == q.toList) = true := by rw [Lib.toList_data, Lib.toList_data, ce]; exact beq_self_eq_true _
        go_wp2
        go_region
        all_goals
          go_wp2
          go_ret
          exact ⟨rfl, Below.drew hbwr⟩
      · have e1 : (a.toList == q.toList) = false := by rw [Lib.toList_data, Lib.toList_data]; exact beq_eq_false_iff_ne.2 ce
        go_wp2
        go_region
        all_goals
          go_wp2
          exact ⟨⟨k + 1, by omega, by go_num, HS.out ce, Below.drew hbr⟩, by simp [intOf]; omega⟩
    · have hk9 : k = 9 := by omega
      subst hk9
      have hno' : a.data.toList ∉ opsL.map (·.data.toList) := fun hm => hno _ (by rw [List.take_of_length_le (by rw [List.length_map, opsL_len]; exact Nat.le_refl _)]; exact hm) rfl
      obtain ⟨rfl, hye⟩ : yb = (!xb && xe == 0) ∧ ye = xe := by
        have := HY.out hno'
        simp only [Prod.mk.injEq] at this
        exact this
      obtain rfl : xe = ye := hye.symm
      have hbwr := hbw9.trans (hbr.mono hbw9.size)
      clear hno hno' HY HO
      by_cases he : xe = 0
      · subst he
        cases xb
        all_goals
          go_wp2_with fail
          go_at_call 9
          refine (num_id _ _).mono ?_
          rintro e w9 ⟨rfl, hw⟩
          subst hw
          go_wp2_with fail
          go_at_call 9
          refine (num_id _ _).mono ?_
          rintro e w10 ⟨rfl, hw⟩
          subst hw
          go_wp2_with fail
          go_at_call 9
          refine (num_id _ _).mono ?_
          rintro e w11 ⟨rfl, hw⟩
          subst hw
          go_wp2
          go_ret
          exact ⟨rfl, hbwr⟩
      · have he' : (xe == 0) = false := beq_eq_false_iff_ne.2 he
        go_wp2_with fail
        go_at_call 9
        refine (num_id _ _).mono ?_
        rintro e w9 ⟨rfl, hw⟩
        subst hw
        go_wp2_with fail
        go_at_call 9
        refine (num_id _ _).mono ?_
        rintro e w10 ⟨rfl, hw⟩
        subst hw
        go_wp2_with fail
        go_at_call 9
        refine (num_id _ _).mono ?_
        rintro e w11 ⟨rfl, hw⟩
        subst hw
        go_wp2
        go_ret
        exact ⟨rfl, hbwr⟩
end
end Go.Proofs.YtdblbhbbddkmhaaGreatDoor
