/-
  The law, walked.
-/
import Derived.Test.YtnafpdchpddloaaGreatDoorToY
import Derived.Lib.SlBytesConst
import Derived.Deep.RegionWith
import Derived.Deep.RegionHeld3
import Derived.RegionTactic
import Derived.WalkKit
import Derived.WalkSpells
import Derived.StillTactics
import Derived.LoopIn
import Derived.RowKit3
import Derived.Below
import Derived.OwnWalk
import Derived.KernelRfl
open Go Go.Mx Go.RowKit
namespace Go.Proofs.YtnafpdchpddloaaGreatDoor
set_option maxRecDepth 100000
noncomputable section
/-! the law -/
theorem own_below {B : Nat} {w w' : World} {v : Value} {n : Nat} {xs : List Value} (h : w.ownsRow B 9 1 v n xs) (hb : Below w.heap.size w w') : w'.ownsRow B 9 1 v n xs := by
  refine ⟨h.1, ?_⟩
  rcases h.2 with hn | ⟨g, cap, cur, rfl, hb2, hg, rest⟩
  · exact .inl hn
  · exact .inr ⟨g, cap, cur, rfl, hb2, by rw [hb.block g (Array.getElem?_eq_some_iff.1 hg).1]; exact hg, rest⟩
theorem wpList_append_last {ops : Array Oper} {rest : List Oper} {o : Oper} {a : Act} {Q : Exit → Act → World → Prop} (hgd : o.guard = none) (s x : Operand) (ho : o.op = .call { callee := .builtin .append, args := #[s, x], argTypes := #[22, 22] }) (w5 w6 : World) (hb6 : Below w5.heap.size w5 w6)
    (v : Value) (n : Nat) (l : List ByteArray) (hn : l.length = n) (hl : n ≤ 100) (hs : a.eval s = v) (hown : w6.ownsRow w5.heap.size 9 1 v n (l.map Value.string)) (c : ByteArray) (hx : a.eval x = .slice (some ⟨w6.heap.size, 0, none⟩) 1 1)
    (h : ∀ g2 cap2 w7, ArgsAt w7 g2 0 (l ++ [c]) → n + 1 ≤ cap2 → Below w5.heap.size w5 w7 → wpList Tryz.prog ops Q rest (a.put o.dst (.slice (some ⟨g2, 0, none⟩) (n + 1) cap2)) w7) : wpList Tryz.prog ops Q (o :: rest) a (w6.alloc (.cells #[.string c] 9)) := by
  obtain ⟨i0, hi, hz0, hz1, hz2⟩ := info_parts pa_info9
  have hb61 : Below w6.heap.size w6 (w6.alloc (.cells #[.string c] 9)) := (Below.refl _ _).alloc (Nat.le_refl _) _
  have hbb := hb6.trans (hb61.mono hb6.size)
  have hown2 := own_below hown hb61
  have hA6 : ∀ (j : Nat) u, [Value.string c][j]? = some u → (w6.alloc (.cells #[.string c] 9)).cell? ((⟨w6.heap.size, 0, none⟩ : Addr).add j) = some u := fun j u hj => by
    rw [Addr.add_lit, cell_u (heap_alloc_new _ _)]
    simpa using hj
  refine wpList_append_own _ hgd _ _ 22 ho w5.heap.size 9 i0 _ 1 16 pa_t22 hi hz0 hz1 hz2 rfl (by decide) _ _ _ hs hown2 ⟨w6.heap.size, 0, none⟩ 1 1 [.string c] hx (by simp) hA6 (by intro u hu; rw [List.mem_singleton] at hu; subst hu; rfl) (by unfold maxLen; omega) (by omega) hbb.size ?_
  intro v7 w7 hown7 hgrow7 _
  have hb7 : Below w5.heap.size w5 w7 := hbb.grown hgrow7 hbb.size (fun j hj => (hown2.lt j hj).1)
  rcases hown7.2 with ⟨_, h0⟩ | ⟨g2, cap2, cur, rfl, r1, r2, r3, r4, r5, r6⟩
  · exact absurd h0 (by omega)
  · refine h g2 cap2 w7 ⟨(Array.getElem?_eq_some_iff.1 r2).1, fun k hk => ?_⟩ r3 hb7
    have h1 := hown7.cells (g := g2) rfl k (.string (l ++ [c])[k]) (by
      show (l.map Value.string ++ [Value.string c])[k]? = _
      have : l.map Value.string ++ [Value.string c] = (l ++ [c]).map Value.string := by simp
      rw [this, List.getElem?_map, List.getElem?_eq_getElem hk]
      rfl)
    rwa [Addr.add_lit] at h1
theorem free8 : free 8 (0, 0) := fun i _ hc => by
  rcases hc with ⟨_, h⟩
  rcases h with h | h <;> simp at h
theorem args_init {w : World} {g : Nat} {l : List ByteArray} {c : ByteArray} (h : ArgsAt w g 0 (l ++ [c])) : ArgsAt w g 0 l ∧ w.cell? ⟨g, 0 + l.length, none⟩ = some (.string c) := by
  refine ⟨⟨h.lt, fun k hk => ?_⟩, ?_⟩
  · have := h.cells k (by simp; omega)
    rw [List.getElem_append_left hk] at this
    exact this
  · have := h.cells l.length (by simp)
    simpa using this
def FS (fb fo : Nat) : Value := .pointer (some ⟨fb, fo, none⟩)
/-- what Run answers -/
def RunSaid (w : World) (args : Array Value) (s : Int) (txt : List Nat) : Prop := Calls Tryz.prog 7 args w fun e w' => ∃ lg, e = .returned (.agg #[.int .i64 s, .slice none 0 0, lg]) ∧ Below w.heap.size w w' ∧ LogIs w' lg txt
theorem run1 {w : World} {fb fo : Nat} {T : TT} {l : List ByteArray} {o : Option Addr} {n cap : Nat} (hE : EnvD w fb fo T) (hs : ∀ s ∈ l, s.size ≤ 1100000) (hn : l.length = n) (hl : n ≤ 6) (hA : ArgV w o cap l) :
    RunSaid w #[.pointer (some ⟨fb, fo, none⟩), .string slB, .string ⟨#[116, 101, 115, 116]⟩, .slice o n cap, .slice none 0 0] (stF (testF T l)) (logF (testF T l) logT) :=
  run_QT _ nam_test hn (by omega) hA _ _ fun w1 ub o' cap' hb _ hA' _ hh => by
    subst hn
    exact tool_test badT (hE.below hb) hs (by omega) hA' hh free8 rfl
theorem run2 {w : World} {fb fo : Nat} {T : TT} {l : List ByteArray} {g n cap : Nat} (hE : EnvD w fb fo T) (hs : ∀ s ∈ l, s.size ≤ 1100000) (hn : l.length = n) (hl : n ≤ 6) (hc : n + 1 ≤ cap) (hA : ArgsAt w g 0 (l ++ [⟨#[93]⟩])) :
    RunSaid w #[.pointer (some ⟨fb, fo, none⟩), .string slB, .string ⟨#[91]⟩, .slice (some ⟨g, 0, none⟩) (n + 1) cap, .slice none 0 0] (stF (testF T l)) (logF (testF T l) logS) :=
  run_QB _ nam_brk (l := l ++ [⟨#[93]⟩]) (by simp [hn]) (by omega) (.inr ⟨g, 0, rfl, by simp [hn]; exact hc, hA⟩) _ _ fun w1 ub o' cap' hb hub hA' hg hh => by
    subst hn
    obtain ⟨g', rfl, hne⟩ := hg (by omega)
    rcases hA' with h0 | ⟨g2, off2, e, hc2, hA2⟩
    · simp at h0
    · cases e
      obtain ⟨hA3, hlast⟩ := args_init hA2
      have hc3 : l.length + 1 ≤ cap' := by simpa using hc2
      exact tool_brk_good hs (by omega) hc3 hA3 hlast hh free8 hne (hE.below ⟨hb.os, hb.tape, hb.output, by rw [set_size]; exact hb.size, fun j hj => by rw [set_other (by omega)]; exact hb.block j hj⟩)
theorem run3 {w : World} {fb fo : Nat} {l : List ByteArray} {g n cap : Nat} (hn : l.length = n) (hl : n ≤ 6) (hc : n + 1 ≤ cap) (hA : ArgsAt w g 0 (l ++ [⟨#[120]⟩])) :
    RunSaid w #[.pointer (some ⟨fb, fo, none⟩), .string slB, .string ⟨#[91]⟩, .slice (some ⟨g, 0, none⟩) (n + 1) cap, .slice none 0 0] 2 logS :=
  run_QB _ nam_brk (l := l ++ [⟨#[120]⟩]) (by simp [hn]) (by omega) (.inr ⟨g, 0, rfl, by simp [hn]; exact hc, hA⟩) _ _ fun w1 ub o' cap' hb hub hA' hg hh => by
    subst hn
    obtain ⟨g', rfl, hne⟩ := hg (by omega)
    rcases hA' with h0 | ⟨g2, off2, e, hc2, hA2⟩
    · simp at h0
    · cases e
      obtain ⟨_, hlast⟩ := args_init hA2
      have hc3 : l.length + 1 ≤ cap' := by simpa using hc2
      exact tool_brk_bad (by omega) hc3 hlast hh free8
theorem log_slice {w : World} {lg : Value} {txt : List Nat} (h : LogIs w lg txt) : ∃ o c, lg = .slice o txt.length c := by
  rcases h with ⟨h0, h1⟩ | ⟨_, g, off, c, _, _, h1, _⟩
  · subst h0
    exact ⟨_, _, h1⟩
  · exact ⟨_, _, h1⟩
def logB : List UInt8 := [91, 58, 32, 58, 32, 101, 114, 114, 111, 114, 32, 50, 10]
theorem log_text {w : World} {o : Option Addr} {c : Nat} (h : LogIs w (.slice o 13 c) logS) : (convert 28 9 (.slice o 13 c)).run Tryz.prog w = .ok (.string ⟨#[91, 58, 32, 58, 32, 101, 114, 114, 111, 114, 32, 50, 10]⟩) w := by
  rcases h with ⟨h0, _⟩ | ⟨_, g, off, c2, arr, fz, h1, h2, h3, h4⟩
  · exact absurd h0 (by decide)
  · injection h1 with e1 e2 e3
    subst e1
    refine run_convert_bytes_back w 28 9 5 ⟨g, off, none⟩ c logB v_t28 v_t5 v_tS fun j hj => ?_
    rw [Addr.add_lit, cell_u h3]
    have h5 := h4 j (by exact hj)
    rw [h5]
    congr 2
    have : ∀ k : Fin 13, ((logS[k.val]'k.isLt : Nat) : Int) = ((logB[k.val]'k.isLt).toNat : Int) := by decide
    exact this ⟨j, hj⟩
set_option maxHeartbeats 3200000 in
set_option maxRecDepth 100000 in
theorem tt_out (o : Option Addr) (n cap : Nat) (h : 6 < n) (w : World) (hal : Calls Tryz.prog 4 #[] w fun e w' => e = .returned (.bool true) ∧ Below w.heap.size w w') :
    Calls Tryz.prog 3 #[.slice o n cap] w fun e w' => e = .returned (.bool true) ∧ Below w.heap.size w w' := by
  go_enter Tryz.func3, Tryz.ntmps3
  go_wp2_with fail
  go_at_call 4
  refine hal.mono ?_
  rintro e w1 ⟨rfl, hb1⟩
  clear hal
  go_wp2
  go_ret
  exact ⟨rfl, hb1⟩
set_option maxHeartbeats 3200000 in
set_option maxRecDepth 100000 in
theorem tt_in (l : List ByteArray) (hs : ∀ s ∈ l, s.size ≤ 1100000) (o : Option Addr) (n cap : Nat) (hn : l.length = n) (hl : n ≤ 6) (w : World) (hm : MaxIs w) (hA : ArgV w o cap l)
    (hal : Calls Tryz.prog 4 #[] w fun e w' => e = .returned (.bool true) ∧ Below w.heap.size w w') :
    Calls Tryz.prog 3 #[.slice o n cap] w fun e w' => e = .returned (.bool true) ∧ Below w.heap.size w w' := by
  have HA : Hid (∀ w', Below w.heap.size w w' → ArgV w' o cap l) := fun w' hb => hA.below hb
  have HS : Hid (∀ s ∈ l, s.size ≤ 1100000) := hs
  have HN : Hid (l.length = n) := hn
  have hn6 : ¬ (6 : Int) < n := by omega
  clear hs hA hn
  go_enter Tryz.func3, Tryz.ntmps3
  go_wp2_with fail
  go_at_call 4
  refine hal.mono ?_
  rintro e w1 ⟨rfl, hb1⟩
  clear hal
  have hm1 : MaxIs w1 := hm.below hm.lt hb1
  go_wp2_with fail
  go_at_call 5
  refine (new_st w1).mono ?_
  rintro e w2 ⟨fb, fo, rfl, hf2⟩
  have hcv : (convert 28 28 (.slice (some ⟨w2.heap.size, 0, none⟩) 1 1)).run Tryz.prog (w2.alloc (.cells #[.int .u8 120] 5)) = .ok (.slice (some ⟨w2.heap.size, 0, none⟩) 1 1) (w2.alloc (.cells #[.int .u8 120] 5 (1, 2))) := Lib.run_convert_bytes_const w2 28 5 #[.int .u8 120] 1 1 v_t28 v_t5
  go_wp2_with fail
  go_at_call 6
  refine (wr_st hm1 hf2).mono ?_
  rintro e w3 ⟨⟨v3, rfl⟩, hst3, T, hE3⟩
  clear hf2 hcv hm1
  have hb3 : Below w.heap.size w w3 := hb1.trans ((below_stays hst3).mono hb1.size)
  clear hst3
  have hst : Hid ((stF (testF T l) = 2 ∧ logF (testF T l) logT = logT) ∨ (stF (testF T l) = 0 ∧ logF (testF T l) logT = []) ∨ (stF (testF T l) = 1 ∧ logF (testF T l) logT = [])) := by
    unfold stF logF
    by_cases e2 : (testF T l).2 = 2
    · exact .inl ⟨if_pos e2, if_pos e2⟩
    · rw [if_neg e2, if_neg e2]
      by_cases e1 : (testF T l).1 = true
      · exact .inr (.inl ⟨if_pos e1, rfl⟩)
      · exact .inr (.inr ⟨if_neg e1, rfl⟩)
  have H1 : Hid (∀ w', Below w3.heap.size w3 w' → RunSaid w' #[.pointer (some ⟨fb, fo, none⟩), .string slB, .string ⟨#[116, 101, 115, 116]⟩, .slice o n cap, .slice none 0 0] (stF (testF T l)) (logF (testF T l) logT)) := fun w' hb => run1 (hE3.below hb) HS.out HN.out hl (HA.out w' (hb3.trans (hb.mono hb3.size)))
  have H2 : Hid (∀ w' g cap2, Below w3.heap.size w3 w' → ArgsAt w' g 0 (l ++ [⟨#[93]⟩]) → n + 1 ≤ cap2 → RunSaid w' #[.pointer (some ⟨fb, fo, none⟩), .string slB, .string ⟨#[91]⟩, .slice (some ⟨g, 0, none⟩) (n + 1) cap2, .slice none 0 0] (stF (testF T l)) (logF (testF T l) logS)) := fun w' g cap2 hb hA hc => run2 (hE3.below hb) HS.out HN.out hl hc hA
  have H3 : Hid (∀ w' g cap2, ArgsAt w' g 0 (l ++ [⟨#[120]⟩]) → n + 1 ≤ cap2 → RunSaid w' #[.pointer (some ⟨fb, fo, none⟩), .string slB, .string ⟨#[91]⟩, .slice (some ⟨g, 0, none⟩) (n + 1) cap2, .slice none 0 0] 2 logS) := fun w' g cap2 hA hc => run3 HN.out hl hc hA
  clear hE3
  generalize stF (testF T l) = s at H1 H2 hst
  generalize logF (testF T l) logT = t1 at H1 hst
  generalize logF (testF T l) logS = t2 at H2
  go_wp2_with fail
  go_at_call 7
  refine (H1.out w3 (Below.refl _ _)).mono ?_
  rintro e w4 ⟨lg, rfl, hb4, hlg⟩
  obtain ⟨oa, ca, rfl⟩ := log_slice hlg
  clear hlg H1
  have hb5 : Below w4.heap.size w4 (w4.alloc (.cells #[.int .i64 s, .slice none 0 0, .slice oa t1.length ca] 30)) := (Below.refl _ _).alloc (Nat.le_refl _) _
  have a0 : (w4.alloc (.cells #[.int .i64 s, .slice none 0 0, .slice oa t1.length ca] 30)).cell? ⟨w4.heap.size, 0, none⟩ = some (.int .i64 s) := by rw [cell_u (heap_alloc_new _ _)]; rfl
  have a1 : (w4.alloc (.cells #[.int .i64 s, .slice none 0 0, .slice oa t1.length ca] 30)).cell? ⟨w4.heap.size, 1, none⟩ = some (.slice none 0 0) := by rw [cell_u (heap_alloc_new _ _)]; rfl
  have a2 : (w4.alloc (.cells #[.int .i64 s, .slice none 0 0, .slice oa t1.length ca] 30)).cell? ⟨w4.heap.size, 2, none⟩ = some (.slice oa t1.length ca) := by rw [cell_u (heap_alloc_new _ _)]; rfl
  have al : w4.heap.size < (w4.alloc (.cells #[.int .i64 s, .slice none 0 0, .slice oa t1.length ca] 30)).heap.size := by simp
  have hb35 := hb4.trans (hb5.mono hb4.size)
  clear hb5 hb4
  go_wp2_with (at_builtin; refine wpList_append_args rfl _ _ rfl rfl o n cap l HN.out rfl _ (HA.out _ (hb3.trans (hb35.mono hb3.size))) (by omega) ?_)
  intro o6 cap6 w6 _ _ hown6 hb6
  have hz : w4.heap.size + 1 = (w4.alloc (.cells #[.int .i64 s, .slice none 0 0, .slice oa t1.length ca] 30)).heap.size := by simp
  generalize w4.alloc (.cells #[.int .i64 s, .slice none 0 0, .slice oa t1.length ca] 30) = w5 at *
  rw [hz] at hb6 hown6
  clear hz
  go_wp2_with (at_builtin; refine wpList_append_last rfl _ _ rfl w5 w6 hb6 (.slice o6 n cap6) n l HN.out (by omega) rfl hown6 ⟨#[93]⟩ rfl ?_)
  intro g7 cap7 w7 hA7 hc7 hb7
  have h2 := H2.out w7 g7 cap7 (hb35.trans (hb7.mono hb35.size)) hA7 hc7
  clear hown6 hA7 H2 hb6
  go_wp2_with fail
  go_at_call 7
  refine h2.mono ?_
  rintro e w8 ⟨lg, rfl, hb8, hlg⟩
  obtain ⟨ob, cb, rfl⟩ := log_slice hlg
  clear hlg h2
  have hb9 : Below w8.heap.size w8 (w8.alloc (.cells #[.int .i64 s, .slice none 0 0, .slice ob t2.length cb] 30)) := (Below.refl _ _).alloc (Nat.le_refl _) _
  have b0 : (w8.alloc (.cells #[.int .i64 s, .slice none 0 0, .slice ob t2.length cb] 30)).cell? ⟨w8.heap.size, 0, none⟩ = some (.int .i64 s) := by rw [cell_u (heap_alloc_new _ _)]; rfl
  have b1 : (w8.alloc (.cells #[.int .i64 s, .slice none 0 0, .slice ob t2.length cb] 30)).cell? ⟨w8.heap.size, 1, none⟩ = some (.slice none 0 0) := by rw [cell_u (heap_alloc_new _ _)]; rfl
  have bl : w8.heap.size < (w8.alloc (.cells #[.int .i64 s, .slice none 0 0, .slice ob t2.length cb] 30)).heap.size := by simp
  have hb58 := hb7.trans (hb8.mono hb7.size)
  have hb59 := hb58.trans (hb9.mono hb58.size)
  have hb39 := hb35.trans (hb59.mono hb35.size)
  clear hb9 hb8 hb7 hb58
  go_wp2_with (at_builtin; refine wpList_append_args rfl _ _ rfl rfl o n cap l HN.out rfl _ (HA.out _ (hb3.trans (hb39.mono hb3.size))) (by omega) ?_)
  intro o10 cap10 w10 _ _ hown10 hb10
  have hz : w8.heap.size + 1 = (w8.alloc (.cells #[.int .i64 s, .slice none 0 0, .slice ob t2.length cb] 30)).heap.size := by simp
  generalize w8.alloc (.cells #[.int .i64 s, .slice none 0 0, .slice ob t2.length cb] 30) = w9 at *
  rw [hz] at hb10 hown10
  clear hz
  go_wp2_with (at_builtin; refine wpList_append_last rfl _ _ rfl w9 w10 hb10 (.slice o10 n cap10) n l HN.out (by omega) rfl hown10 ⟨#[120]⟩ rfl ?_)
  intro g11 cap11 w11 hA11 hc11 hb11
  have h3 := H3.out w11 g11 cap11 hA11 hc11
  clear hown10 hA11 H3 hb10
  go_wp2_with fail
  go_at_call 7
  refine h3.mono ?_
  rintro e w12 ⟨lg, rfl, hb12, hlg⟩
  have hlg2 := hlg
  obtain ⟨oc, cc, rfl⟩ : ∃ o c, lg = .slice o 13 c := log_slice hlg
  clear hlg h3
  have hlg3 : LogIs w12 (.slice oc 13 cc) logS := hlg2
  clear hlg2
  have hb13 : Below w12.heap.size w12 (w12.alloc (.cells #[.int .i64 2, .slice none 0 0, .slice oc 13 cc] 30)) := (Below.refl _ _).alloc (Nat.le_refl _) _
  have hcv := log_text (hlg3.below hb13)
  have hb912 := hb11.trans (hb12.mono hb11.size)
  have hb913 := hb912.trans (hb13.mono hb912.size)
  have hb513 := hb59.trans (hb913.mono hb59.size)
  have hbw : Below w.heap.size w (w12.alloc (.cells #[.int .i64 2, .slice none 0 0, .slice oc 13 cc] 30)) := hb3.trans ((hb39.trans (hb913.mono hb39.size)).mono hb3.size)
  have c0 : (w12.alloc (.cells #[.int .i64 2, .slice none 0 0, .slice oc 13 cc] 30)).cell? ⟨w12.heap.size, 0, none⟩ = some (.int .i64 2) := by rw [cell_u (heap_alloc_new _ _)]; rfl
  have c2 : (w12.alloc (.cells #[.int .i64 2, .slice none 0 0, .slice oc 13 cc] 30)).cell? ⟨w12.heap.size, 2, none⟩ = some (.slice oc 13 cc) := by rw [cell_u (heap_alloc_new _ _)]; rfl
  have p0 := (hb513.cell (p := ⟨w4.heap.size, 0, none⟩) (by exact al)).trans a0
  have p1 := (hb513.cell (p := ⟨w4.heap.size, 1, none⟩) (by exact al)).trans a1
  have p2 := (hb513.cell (p := ⟨w4.heap.size, 2, none⟩) (by exact al)).trans a2
  have q0 := (hb913.cell (p := ⟨w8.heap.size, 0, none⟩) (by exact bl)).trans b0
  have q1 := (hb913.cell (p := ⟨w8.heap.size, 1, none⟩) (by exact bl)).trans b1
  clear a0 a1 a2 b0 b1 al bl hlg3 hb13 hb912 hb913 hb513 hb59 hb39 hb35 hb11 hb12 hb3
  rcases hst.out with ⟨rfl, rfl⟩ | ⟨rfl, rfl⟩ | ⟨rfl, rfl⟩
  all_goals
    clear hst
    simp only [logT, List.length_cons, List.length_nil] at p2
    go_wp2
    go_ret
    exact ⟨rfl, hbw⟩
end
end Go.Proofs.YtnafpdchpddloaaGreatDoor
