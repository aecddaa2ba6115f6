/-
  Run, walked.
-/
import Derived.Test.YtnafpdchpddloaaGreatDoorToX
import Derived.Lib.SlBytesConst
import Derived.Deep.RegionWith
import Derived.Deep.RegionHeld3
import Derived.RegionTactic
import Derived.WalkKit
import Derived.WalkSpells
import Derived.StillTactics
import Derived.LoopIn
import Derived.RowKit3
import Derived.Below
import Derived.OwnWalk
import Derived.KernelRfl
open Go Go.Mx Go.RowKit
namespace Go.Proofs.YtnafpdchpddloaaGreatDoor
set_option maxRecDepth 100000
noncomputable section
/-! append to none of some texts -/
theorem run_append_none {w : World} {o : Option Addr} {c : Nat} {ty : TypeId} : (Builtin.append_ #[22, 22] ty #[.slice none 0 0, .slice o 0 c]).run Tryz.prog w = .ok (.slice none 0 0) w := by
  obtain ⟨i0, hi, hz0, hz1, hz2⟩ := info_parts pa_info9
  cases o with
  | none => simp [Builtin.append_, run_underlying pa_t22, sizeOf, typeInfo, hi, Builtin.lenOf, Builtin.firstCells]
  | some a =>
    have hfc := run_firstCells_some (P := Tryz.prog) w i0.size 0 a 0 c [] (by simp) (by simp)
    simp [Builtin.append_, run_underlying pa_t22, sizeOf, typeInfo, hi, Builtin.lenOf, hfc]
theorem wpList_append_args {ops : Array Oper} {rest : List Oper} {o : Oper} {a : Act} {Q : Exit → Act → World → Prop} (hgd : o.guard = none) (s x : Operand) (ho : o.op = .call { callee := .builtin .append, args := #[s, x], argTypes := #[22, 22] }) (hs : a.eval s = .slice none 0 0)
    (oo : Option Addr) (n cap : Nat) (l : List ByteArray) (hn : l.length = n) (hx : a.eval x = .slice oo n cap) (w : World) (hA : ArgV w oo cap l) (hl : n ≤ 100)
    (h : ∀ o' cap' w', ArgV w' o' cap' l → (0 < n → ∃ g, o' = some ⟨g, 0, none⟩ ∧ w.heap.size ≤ g) → w'.ownsRow w.heap.size 9 1 (.slice o' n cap') n (l.map Value.string) → Below w.heap.size w w' → wpList Tryz.prog ops Q rest (a.put o.dst (.slice o' n cap')) w') : wpList Tryz.prog ops Q (o :: rest) a w := by
  obtain ⟨i0, hi, hz0, hz1, hz2⟩ := info_parts pa_info9
  subst hn
  rcases hA with rfl | ⟨g, off, rfl, hc, hA⟩
  · refine wpList_plain hgd fun K hK => ?_
    have hr : (Builtin.append_ #[22, 22] o.type #[.slice none 0 0, .slice oo 0 cap]).run Tryz.prog w = .ok (.slice none 0 0) w := run_append_none
    have hx : a.eval x = .slice oo 0 cap := hx
    unfold Oper.wp execOp
    simp only [ho, resolve, invoke, builtin, Sem.run_bind, Sem.run_pure, Result.andThen_ok, List.map_toArray, List.map_cons, List.map_nil, hs, hx, hr]
    exact hK _ _ (h none 0 w (.inl rfl) (fun h => absurd h (by simp)) ⟨rfl, .inl ⟨rfl, rfl⟩⟩ (Below.refl _ _))
  · have hA6 : ∀ (j : Nat) u, (l.map Value.string)[j]? = some u → w.cell? ((⟨g, off, none⟩ : Addr).add j) = some u := fun j u hj => by
      rw [Addr.add_lit]
      rw [List.getElem?_map] at hj
      cases e : l[j]? with
      | none => rw [e] at hj; cases hj
      | some s =>
        rw [e] at hj
        obtain ⟨hj2, rfl⟩ := List.getElem?_eq_some_iff.1 e
        have := hA.cells j hj2
        rw [this]
        exact hj
    have hown : w.ownsRow w.heap.size 9 1 (.slice none 0 0) 0 [] := ⟨rfl, .inl ⟨rfl, rfl⟩⟩
    refine wpList_append_own _ hgd _ _ 22 ho w.heap.size 9 i0 _ 1 16 pa_t22 hi hz0 hz1 hz2 rfl (by decide) _ _ _ hs hown ⟨g, off, none⟩ l.length cap (l.map Value.string) hx (by rw [List.length_map]; omega) hA6 (by intro u hu; obtain ⟨x, _, rfl⟩ := List.mem_map.1 hu; rfl) (by unfold maxLen; omega) (by omega) (Nat.le_refl _) ?_
    intro v7 w7 hown7 hgrow7 _
    rw [Nat.zero_add, List.nil_append] at hown7
    have hb7 : Below w.heap.size w w7 := (Below.refl _ _).grown hgrow7 (Nat.le_refl _) (fun j hj => by cases hj)
    rcases hown7.2 with ⟨rfl, h0⟩ | ⟨g2, cap2, cur, rfl, r1, r2, r3, r4, r5, r6⟩
    · have hl0 : l = [] := List.eq_nil_of_length_eq_zero h0
      subst hl0
      exact h none 0 w7 (.inl rfl) (fun h => absurd h (by simp)) hown7 hb7
    · refine h (some ⟨g2, 0, none⟩) cap2 w7 (.inr ⟨g2, 0, rfl, r3, (Array.getElem?_eq_some_iff.1 r2).1, fun k hk => ?_⟩) (fun _ => ⟨g2, rfl, r1⟩) hown7 hb7
      have h1 := hown7.cells (g := g2) rfl k (.string l[k]) (by
        show (l.map Value.string)[k]? = _
        rw [List.getElem?_map, List.getElem?_eq_getElem hk]
        rfl)
      rwa [Addr.add_lit] at h1
theorem cell_set {w : World} {a : Addr} {v u : Value} (h : w.cell? a = some u) : (w.setCell a v).cell? a = some v := World.cell?_setCell_same _ _ _ h
theorem frozen_set {w : World} {a b : Addr} {v : Value} (h : w.frozen? a = false) : (w.setCell b v).frozen? a = false := by rw [World.frozen?_setCell]; exact h
theorem td_size : (Tryz.prog.info? 30).map (·.size) = some 3 := by kernel_rfl
theorem res_told {w : World} {tmps : Array Value} {tb : Nat} {a b c : Value} (hp : tmps.getD 10 undef = .pointer (some ⟨tb, 0, none⟩)) (hg : w.heap[tb]? = some (.cells #[a, b, c] 30 (0, 0))) : (results Tryz.f7 tmps).run Tryz.prog w = .ok (.agg #[a, b, c]) w :=
  results_cell_row rfl tmps w tb 30 _ _ _ hp hg Tryz.underlying30 rfl td_size
/-! Run -/
theorem nam_test : ((namesL.find? fun x => (⟨#[116, 101, 115, 116]⟩ : ByteArray) == bs x.1).map fun x => Value.func (.func x.2) #[] #[]) = some (.func (.func 30) #[] #[]) := by kernel_rfl
theorem nam_brk : ((namesL.find? fun x => (⟨#[91]⟩ : ByteArray) == bs x.1).map fun x => Value.func (.func x.2) #[] #[]) = some (.func (.func 31) #[] #[]) := by kernel_rfl
theorem LogIs.below {w w' : World} {lg : Value} {txt : List Nat} (h : LogIs w lg txt) (hb : Below w.heap.size w w') : LogIs w' lg txt := by
  rcases h with h | ⟨h0, g, off, cap, arr, fz, h1, h2, h3, h4⟩
  · exact .inl h
  · exact .inr ⟨h0, g, off, cap, arr, fz, h1, h2, by rw [hb.block g (Array.getElem?_eq_some_iff.1 h3).1]; exact h3, h4⟩
set_option maxHeartbeats 3200000 in
set_option maxRecDepth 100000 in
theorem run_QT (nm : ByteArray) (hg : ((namesL.find? fun x => nm == bs x.1).map fun x => Value.func (.func x.2) #[] #[]) = some (.func (.func 30) #[] #[])) {w : World} {fb fo : Nat} {l : List ByteArray} {o : Option Addr} {n cap : Nat} (hn : l.length = n) (hl : n ≤ 100) (hA : ArgV w o cap l) (s : Int) (txt : List Nat)
    (HC : ∀ (w' : World) (ub : Nat) (o' : Option Addr) (cap' : Nat), Below w.heap.size w w' → w.heap.size ≤ ub → ArgV w' o' cap' l → (0 < n → ∃ g, o' = some ⟨g, 0, none⟩ ∧ g ≠ ub) → w'.heap[ub]? = some (.cells (uArr fb fo nm o' n cap' (.int .i64 0)) 52 (0, 0)) →
      Calls Tryz.prog 30 #[.pointer (some ⟨ub, 0, none⟩)] w' fun e w'' => e = .returned (.tuple #[]) ∧ UEnd w' w'' ub s txt) :
    Calls Tryz.prog 7 #[.pointer (some ⟨fb, fo, none⟩), .string slB, .string nm, .slice o n cap, .slice none 0 0] w fun e w' => ∃ lg, e = .returned (.agg #[.int .i64 s, .slice none 0 0, lg]) ∧ Below w.heap.size w w' ∧ LogIs w' lg txt := by
  have HH : Hid (∀ (w' : World) (ub : Nat) (o' : Option Addr) (cap' : Nat), Below w.heap.size w w' → w.heap.size ≤ ub → ArgV w' o' cap' l → (0 < n → ∃ g, o' = some ⟨g, 0, none⟩ ∧ g ≠ ub) → w'.heap[ub]? = some (.cells (uArr fb fo nm o' n cap' (.int .i64 0)) 52 (0, 0)) →
      Calls Tryz.prog 30 #[.pointer (some ⟨ub, 0, none⟩)] w' fun e w'' => e = .returned (.tuple #[]) ∧ UEnd w' w'' ub s txt) := HC
  clear HC
  have HN : Hid (l.length = n) := hn
  clear hn
  have hb0 := (Below.refl w.heap.size w).alloc (Nat.le_refl _) (.cells #[.int .i64 0, .slice none 0 0, .slice none 0 0] 30)
  have HA : Hid (∀ w', Below w.heap.size w w' → ArgV w' o cap l) := fun w' hb => hA.below hb
  clear hA
  go_enter Tryz.func7, Tryz.ntmps7
  go_wp2_with fail
  go_at_call 14
  refine (all_st _).mono ?_
  rintro e w1 ⟨mb, rfl, hb1, hlk⟩
  have hlk1 := hlk nm 30 hg
  have hb01 := hb0.trans (hb1.mono hb0.size)
  clear hlk hg
  go_wp2_with (at_builtin; refine wpList_append_args rfl _ _ rfl rfl o n cap l HN.out rfl _ (HA.out _ hb01) hl ?_)
  intro o2 cap2 w2 hA2 hg2 hown2 hb2
  clear hown2 hlk1
  have hb02 := hb01.trans (hb2.mono hb01.size)
  go_wp2_with fail
  have hb3 : Below w2.heap.size w2 (w2.alloc (.cells #[.pointer (some ⟨fb, fo, none⟩), .string slB, .string nm, .slice o2 n cap2, .slice none 0 0, .int .i64 0, .slice none 0 0, .slice none 0 0] 52)) := (Below.refl _ _).alloc (Nat.le_refl _) _
  have hs12 := hb2.size
  have hs01 := hb1.size
  have htl : w.heap.size < w1.heap.size := by simp at hs01; omega
  go_at_call 30
  refine (HH.out _ w2.heap.size o2 cap2 (hb02.trans (hb3.mono hb02.size)) hb02.size (hA2.below hb3) (fun h => ?_) (heap_alloc_new _ _)).mono ?_
  · obtain ⟨g, h1, h2⟩ := hg2 h
    refine ⟨g, h1, ?_⟩
    have h3 : ArgV w2 o2 cap2 l := hA2
    rcases h3 with h3 | ⟨g', off', e1, e2, e3⟩
    · have := HN.out
      rw [h3] at this
      simp at this
      omega
    · have := e3.lt
      rw [h1] at e1
      cases e1
      omega
  rintro e w5 ⟨rfl, hu⟩
  obtain ⟨arr, fz, lg, hh5, hs8, hf5, a5, a6, a7, hlog⟩ := hu.ends
  have ht5 : w5.heap[w.heap.size]? = some (.cells #[.int .i64 0, .slice none 0 0, .slice none 0 0] 30) := by
    rw [hu.kept w.heap.size (by simp; omega) (by omega), hb3.block _ (by omega), hb2.block _ htl, hb1.block _ (by simp)]
    exact heap_alloc_new _ _
  have hlg : ∃ o3 n3 c3, lg = .slice o3 n3 c3 := by
    rcases hlog with ⟨_, h⟩ | ⟨_, g, off, c, _, _, h, _⟩
    · exact ⟨_, _, _, h⟩
    · exact ⟨_, _, _, h⟩
  obtain ⟨o3, n3, c3, rfl⟩ := hlg
  have hsz5 := hu.size
  have hne : w.heap.size ≠ w2.heap.size := by omega
  have hle : w2.heap.size < w5.heap.size := by simp at hsz5; omega
  have hgo : ∀ j, j ≠ w.heap.size → j ≠ w2.heap.size → ((((w5.setCell ⟨w2.heap.size, 6, none⟩ (.slice none 0 0)).setCell ⟨w.heap.size, 0, none⟩ (.int .i64 s)).setCell ⟨w.heap.size, 1, none⟩ (.slice none 0 0)).setCell ⟨w.heap.size, 2, none⟩ (.slice o3 n3 c3)).heap[j]? = w5.heap[j]? := fun j h1 h2 => by
    rw [set_other h1, set_other h1, set_other h1, set_other h2]
  have HE : Hid (((((w5.setCell ⟨w2.heap.size, 6, none⟩ (.slice none 0 0)).setCell ⟨w.heap.size, 0, none⟩ (.int .i64 s)).setCell ⟨w.heap.size, 1, none⟩ (.slice none 0 0)).setCell ⟨w.heap.size, 2, none⟩ (.slice o3 n3 c3)).heap[w.heap.size]? = some (.cells #[.int .i64 s, .slice none 0 0, .slice o3 n3 c3] 30 (0, 0)) ∧
      Below w.heap.size w ((((w5.setCell ⟨w2.heap.size, 6, none⟩ (.slice none 0 0)).setCell ⟨w.heap.size, 0, none⟩ (.int .i64 s)).setCell ⟨w.heap.size, 1, none⟩ (.slice none 0 0)).setCell ⟨w.heap.size, 2, none⟩ (.slice o3 n3 c3)) ∧
      LogIs ((((w5.setCell ⟨w2.heap.size, 6, none⟩ (.slice none 0 0)).setCell ⟨w.heap.size, 0, none⟩ (.int .i64 s)).setCell ⟨w.heap.size, 1, none⟩ (.slice none 0 0)).setCell ⟨w.heap.size, 2, none⟩ (.slice o3 n3 c3)) (.slice o3 n3 c3) txt) := by
    refine ⟨set_same (set_same (set_same ((set_other hne).trans ht5))), ⟨hu.os.trans hb02.os, hu.tape.trans hb02.tape, hu.output.trans hb02.output, ?_, fun j hj => ?_⟩, ?_⟩
    · rw [set_size, set_size, set_size, set_size]
      omega
    · rw [hgo j (by omega) (by omega), hu.kept j (by simp; omega) (by omega), hb3.block j (by omega), hb02.block j hj]
    · rcases hlog with h | ⟨h0, g, off, c, arr2, fz2, h1, h2, h3, h4⟩
      · exact .inl h
      · refine .inr ⟨h0, g, off, c, arr2, fz2, h1, h2, ?_, h4⟩
        rw [hgo g (fun e => ?_) (fun e => ?_)]
        · exact h3
        · rw [e, ht5] at h3
          injection h3 with h3
          injection h3 with _ h3 _
          exact absurd h3 (by decide)
        · rw [e, hh5] at h3
          injection h3 with h3
          injection h3 with _ h3 _
          exact absurd h3 (by decide)
  clear hgo
  have c5 : w5.cell? ⟨w2.heap.size, 5, none⟩ = some (.int .i64 s) := by rw [cell_u hh5]; exact a5
  have c6 : w5.cell? ⟨w2.heap.size, 6, none⟩ = some (.slice none 0 0) := by rw [cell_u hh5]; exact a6
  have c7 : w5.cell? ⟨w2.heap.size, 7, none⟩ = some (.slice o3 n3 c3) := by rw [cell_u hh5]; exact a7
  have n6 : w5.frozen? ⟨w2.heap.size, 6, none⟩ = false := nf_free hh5 hf5 (by omega)
  have t0 : w5.cell? ⟨w.heap.size, 0, none⟩ = some (.int .i64 0) := by rw [cell_u ht5]; rfl
  have t1 : w5.cell? ⟨w.heap.size, 1, none⟩ = some (.slice none 0 0) := by rw [cell_u ht5]; rfl
  have t2 : w5.cell? ⟨w.heap.size, 2, none⟩ = some (.slice none 0 0) := by rw [cell_u ht5]; rfl
  have hf0 : free 3 (0, 0) := fun i _ hc => by
    rcases hc with ⟨_, h⟩
    rcases h with h | h <;> simp at h
  have m0 : w5.frozen? ⟨w.heap.size, 0, none⟩ = false := nf_free ht5 hf0 (by omega)
  have m1 : w5.frozen? ⟨w.heap.size, 1, none⟩ = false := nf_free ht5 hf0 (by omega)
  have m2 : w5.frozen? ⟨w.heap.size, 2, none⟩ = false := nf_free ht5 hf0 (by omega)
  clear hh5 ht5 hu hlog hb2 hb02 hb01 hb0 hb1 hb3 hA2 hg2 HH HN HA a5 a6 a7 hs8 hf5 hs12 hs01 htl hsz5 hf0
  generalize w2.heap.size = ub at *
  go_wp2_with fail
  have hmin : min (0 : Int) 65536 = 0 := by decide
  go_region_held3 (fun w' => w'.cell? ⟨ub, 6, none⟩ = some (.slice none 0 0) ∧ w'.frozen? ⟨ub, 6, none⟩ = false)
    (first | exact ⟨c6, n6⟩ | exact ⟨cell_set c6, frozen_set n6⟩)
    (first
      | (go_at_call 15; refine (Tryz.bytes_Clone_nil _ _ _).mono ?_; rintro e w6 ⟨rfl, hw6⟩; subst hw6))
  all_goals
    go_wp2_with fail
    (try simp only [Exit.inBlock, Exit.then])
    exact bodyPost_ret (res_told rfl HE.out.1) rfl ⟨_, rfl, HE.out.2.1.drew, HE.out.2.2⟩
set_option maxHeartbeats 3200000 in
set_option maxRecDepth 100000 in
theorem run_QB (nm : ByteArray) (hg : ((namesL.find? fun x => nm == bs x.1).map fun x => Value.func (.func x.2) #[] #[]) = some (.func (.func 31) #[] #[])) {w : World} {fb fo : Nat} {l : List ByteArray} {o : Option Addr} {n cap : Nat} (hn : l.length = n) (hl : n ≤ 100) (hA : ArgV w o cap l) (s : Int) (txt : List Nat)
    (HC : ∀ (w' : World) (ub : Nat) (o' : Option Addr) (cap' : Nat), Below w.heap.size w w' → w.heap.size ≤ ub → ArgV w' o' cap' l → (0 < n → ∃ g, o' = some ⟨g, 0, none⟩ ∧ g ≠ ub) → w'.heap[ub]? = some (.cells (uArr fb fo nm o' n cap' (.int .i64 0)) 52 (0, 0)) →
      Calls Tryz.prog 31 #[.pointer (some ⟨ub, 0, none⟩)] w' fun e w'' => e = .returned (.tuple #[]) ∧ UEnd w' w'' ub s txt) :
    Calls Tryz.prog 7 #[.pointer (some ⟨fb, fo, none⟩), .string slB, .string nm, .slice o n cap, .slice none 0 0] w fun e w' => ∃ lg, e = .returned (.agg #[.int .i64 s, .slice none 0 0, lg]) ∧ Below w.heap.size w w' ∧ LogIs w' lg txt := by
  have HH : Hid (∀ (w' : World) (ub : Nat) (o' : Option Addr) (cap' : Nat), Below w.heap.size w w' → w.heap.size ≤ ub → ArgV w' o' cap' l → (0 < n → ∃ g, o' = some ⟨g, 0, none⟩ ∧ g ≠ ub) → w'.heap[ub]? = some (.cells (uArr fb fo nm o' n cap' (.int .i64 0)) 52 (0, 0)) →
      Calls Tryz.prog 31 #[.pointer (some ⟨ub, 0, none⟩)] w' fun e w'' => e = .returned (.tuple #[]) ∧ UEnd w' w'' ub s txt) := HC
  clear HC
  have HN : Hid (l.length = n) := hn
  clear hn
  have hb0 := (Below.refl w.heap.size w).alloc (Nat.le_refl _) (.cells #[.int .i64 0, .slice none 0 0, .slice none 0 0] 30)
  have HA : Hid (∀ w', Below w.heap.size w w' → ArgV w' o cap l) := fun w' hb => hA.below hb
  clear hA
  go_enter Tryz.func7, Tryz.ntmps7
  go_wp2_with fail
  go_at_call 14
  refine (all_st _).mono ?_
  rintro e w1 ⟨mb, rfl, hb1, hlk⟩
  have hlk1 := hlk nm 31 hg
  have hb01 := hb0.trans (hb1.mono hb0.size)
  clear hlk hg
  go_wp2_with (at_builtin; refine wpList_append_args rfl _ _ rfl rfl o n cap l HN.out rfl _ (HA.out _ hb01) hl ?_)
  intro o2 cap2 w2 hA2 hg2 hown2 hb2
  clear hown2 hlk1
  have hb02 := hb01.trans (hb2.mono hb01.size)
  go_wp2_with fail
  have hb3 : Below w2.heap.size w2 (w2.alloc (.cells #[.pointer (some ⟨fb, fo, none⟩), .string slB, .string nm, .slice o2 n cap2, .slice none 0 0, .int .i64 0, .slice none 0 0, .slice none 0 0] 52)) := (Below.refl _ _).alloc (Nat.le_refl _) _
  have hs12 := hb2.size
  have hs01 := hb1.size
  have htl : w.heap.size < w1.heap.size := by simp at hs01; omega
  go_at_call 31
  refine (HH.out _ w2.heap.size o2 cap2 (hb02.trans (hb3.mono hb02.size)) hb02.size (hA2.below hb3) (fun h => ?_) (heap_alloc_new _ _)).mono ?_
  · obtain ⟨g, h1, h2⟩ := hg2 h
    refine ⟨g, h1, ?_⟩
    have h3 : ArgV w2 o2 cap2 l := hA2
    rcases h3 with h3 | ⟨g', off', e1, e2, e3⟩
    · have := HN.out
      rw [h3] at this
      simp at this
      omega
    · have := e3.lt
      rw [h1] at e1
      cases e1
      omega
  rintro e w5 ⟨rfl, hu⟩
  obtain ⟨arr, fz, lg, hh5, hs8, hf5, a5, a6, a7, hlog⟩ := hu.ends
  have ht5 : w5.heap[w.heap.size]? = some (.cells #[.int .i64 0, .slice none 0 0, .slice none 0 0] 30) := by
    rw [hu.kept w.heap.size (by simp; omega) (by omega), hb3.block _ (by omega), hb2.block _ htl, hb1.block _ (by simp)]
    exact heap_alloc_new _ _
  have hlg : ∃ o3 n3 c3, lg = .slice o3 n3 c3 := by
    rcases hlog with ⟨_, h⟩ | ⟨_, g, off, c, _, _, h, _⟩
    · exact ⟨_, _, _, h⟩
    · exact ⟨_, _, _, h⟩
  obtain ⟨o3, n3, c3, rfl⟩ := hlg
  have hsz5 := hu.size
  have hne : w.heap.size ≠ w2.heap.size := by omega
  have hle : w2.heap.size < w5.heap.size := by simp at hsz5; omega
  have hgo : ∀ j, j ≠ w.heap.size → j ≠ w2.heap.size → ((((w5.setCell ⟨w2.heap.size, 6, none⟩ (.slice none 0 0)).setCell ⟨w.heap.size, 0, none⟩ (.int .i64 s)).setCell ⟨w.heap.size, 1, none⟩ (.slice none 0 0)).setCell ⟨w.heap.size, 2, none⟩ (.slice o3 n3 c3)).heap[j]? = w5.heap[j]? := fun j h1 h2 => by
    rw [set_other h1, set_other h1, set_other h1, set_other h2]
  have HE : Hid (((((w5.setCell ⟨w2.heap.size, 6, none⟩ (.slice none 0 0)).setCell ⟨w.heap.size, 0, none⟩ (.int .i64 s)).setCell ⟨w.heap.size, 1, none⟩ (.slice none 0 0)).setCell ⟨w.heap.size, 2, none⟩ (.slice o3 n3 c3)).heap[w.heap.size]? = some (.cells #[.int .i64 s, .slice none 0 0, .slice o3 n3 c3] 30 (0, 0)) ∧
      Below w.heap.size w ((((w5.setCell ⟨w2.heap.size, 6, none⟩ (.slice none 0 0)).setCell ⟨w.heap.size, 0, none⟩ (.int .i64 s)).setCell ⟨w.heap.size, 1, none⟩ (.slice none 0 0)).setCell ⟨w.heap.size, 2, none⟩ (.slice o3 n3 c3)) ∧
      LogIs ((((w5.setCell ⟨w2.heap.size, 6, none⟩ (.slice none 0 0)).setCell ⟨w.heap.size, 0, none⟩ (.int .i64 s)).setCell ⟨w.heap.size, 1, none⟩ (.slice none 0 0)).setCell ⟨w.heap.size, 2, none⟩ (.slice o3 n3 c3)) (.slice o3 n3 c3) txt) := by
    refine ⟨set_same (set_same (set_same ((set_other hne).trans ht5))), ⟨hu.os.trans hb02.os, hu.tape.trans hb02.tape, hu.output.trans hb02.output, ?_, fun j hj => ?_⟩, ?_⟩
    · rw [set_size, set_size, set_size, set_size]
      omega
    · rw [hgo j (by omega) (by omega), hu.kept j (by simp; omega) (by omega), hb3.block j (by omega), hb02.block j hj]
    · rcases hlog with h | ⟨h0, g, off, c, arr2, fz2, h1, h2, h3, h4⟩
      · exact .inl h
      · refine .inr ⟨h0, g, off, c, arr2, fz2, h1, h2, ?_, h4⟩
        rw [hgo g (fun e => ?_) (fun e => ?_)]
        · exact h3
        · rw [e, ht5] at h3
          injection h3 with h3
          injection h3 with _ h3 _
          exact absurd h3 (by decide)
        · rw [e, hh5] at h3
          injection h3 with h3
          injection h3 with _ h3 _
          exact absurd h3 (by decide)
  clear hgo
  have c5 : w5.cell? ⟨w2.heap.size, 5, none⟩ = some (.int .i64 s) := by rw [cell_u hh5]; exact a5
  have c6 : w5.cell? ⟨w2.heap.size, 6, none⟩ = some (.slice none 0 0) := by rw [cell_u hh5]; exact a6
  have c7 : w5.cell? ⟨w2.heap.size, 7, none⟩ = some (.slice o3 n3 c3) := by rw [cell_u hh5]; exact a7
  have n6 : w5.frozen? ⟨w2.heap.size, 6, none⟩ = false := nf_free hh5 hf5 (by omega)
  have t0 : w5.cell? ⟨w.heap.size, 0, none⟩ = some (.int .i64 0) := by rw [cell_u ht5]; rfl
  have t1 : w5.cell? ⟨w.heap.size, 1, none⟩ = some (.slice none 0 0) := by rw [cell_u ht5]; rfl
  have t2 : w5.cell? ⟨w.heap.size, 2, none⟩ = some (.slice none 0 0) := by rw [cell_u ht5]; rfl
  have hf0 : free 3 (0, 0) := fun i _ hc => by
    rcases hc with ⟨_, h⟩
    rcases h with h | h <;> simp at h
  have m0 : w5.frozen? ⟨w.heap.size, 0, none⟩ = false := nf_free ht5 hf0 (by omega)
  have m1 : w5.frozen? ⟨w.heap.size, 1, none⟩ = false := nf_free ht5 hf0 (by omega)
  have m2 : w5.frozen? ⟨w.heap.size, 2, none⟩ = false := nf_free ht5 hf0 (by omega)
  clear hh5 ht5 hu hlog hb2 hb02 hb01 hb0 hb1 hb3 hA2 hg2 HH HN HA a5 a6 a7 hs8 hf5 hs12 hs01 htl hsz5 hf0
  generalize w2.heap.size = ub at *
  go_wp2_with fail
  have hmin : min (0 : Int) 65536 = 0 := by decide
  go_region_held3 (fun w' => w'.cell? ⟨ub, 6, none⟩ = some (.slice none 0 0) ∧ w'.frozen? ⟨ub, 6, none⟩ = false)
    (first | exact ⟨c6, n6⟩ | exact ⟨cell_set c6, frozen_set n6⟩)
    (first
      | (go_at_call 15; refine (Tryz.bytes_Clone_nil _ _ _).mono ?_; rintro e w6 ⟨rfl, hw6⟩; subst hw6))
  all_goals
    go_wp2_with fail
    (try simp only [Exit.inBlock, Exit.then])
    exact bodyPost_ret (res_told rfl HE.out.1) rfl ⟨_, rfl, HE.out.2.1.drew, HE.out.2.2⟩
end
end Go.Proofs.YtnafpdchpddloaaGreatDoor
