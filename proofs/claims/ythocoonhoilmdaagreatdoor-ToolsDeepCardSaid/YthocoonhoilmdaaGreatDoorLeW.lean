/-
  Run, walked; what the calls of the law do.
-/
import Derived.Test.YthocoonhoilmdaaGreatDoorRmZ
import Derived.Test.YthocoonhoilmdaaGreatDoorMlW
import Derived.Test.YthocoonhoilmdaaGreatDoorXMxAL
import Derived.BigQuiet
import Derived.Deep.QuietTactic
import Derived.Deep.RegionLaw
import Derived.Deep.RegionWith
import Derived.Deep.RegionHeld3
import Derived.RegionTactic
import Derived.WalkKit
import Derived.WalkSpells
import Derived.StillTactics
import Derived.LoopIn
import Derived.RowKit3
import Derived.Below
import Derived.OwnWalk
import Derived.KernelRfl
open Go Go.Mx Go.RowKit
namespace Go.Proofs.YthocoonhoilmdaaGreatDoor
set_option maxRecDepth 100000
noncomputable section
/-! Run of mkdir and of rm, walked -/
theorem But2.drew {w w' : World} {fb mb : Nat} (h : But2 w w' fb mb) : But2 w w'.drew fb mb := ⟨h.size, h.os, h.tape, h.output, h.kept⟩
theorem run_end2 {w w2 w5 : World} {fb mb ub : Nat} {s : Int} {o2 : Option Addr} {m2 c2 : Nat} {P : World → Prop} (hP : ∀ w1 w2 : World, w2.heap[fb]? = w1.heap[fb]? → w2.heap[mb]? = w1.heap[mb]? → P w1 → P w2) (hfb : fb < w.heap.size) (hmb : mb < w.heap.size) (hb02 : Below w.heap.size w w2) (hub : ub = w2.heap.size) (hlt : w.heap.size < w2.heap.size) (ht : w2.heap[w.heap.size]? = some (.cells #[.int .i64 0, .slice none 0 0, .slice none 0 0] 33 (0, 0))) (hk : But2 w2 w5 fb mb) (hp : P w5) :
    ((((w5.setCell ⟨ub, 6, none⟩ (.slice none 0 0)).setCell ⟨w.heap.size, 0, none⟩ (.int .i64 s)).setCell ⟨w.heap.size, 1, none⟩ (.slice none 0 0)).setCell ⟨w.heap.size, 2, none⟩ (.slice o2 m2 c2)).heap[w.heap.size]? = some (.cells #[.int .i64 s, .slice none 0 0, .slice o2 m2 c2] 33 (0, 0)) ∧
    But2 w ((((w5.setCell ⟨ub, 6, none⟩ (.slice none 0 0)).setCell ⟨w.heap.size, 0, none⟩ (.int .i64 s)).setCell ⟨w.heap.size, 1, none⟩ (.slice none 0 0)).setCell ⟨w.heap.size, 2, none⟩ (.slice o2 m2 c2)) fb mb ∧
    P ((((w5.setCell ⟨ub, 6, none⟩ (.slice none 0 0)).setCell ⟨w.heap.size, 0, none⟩ (.int .i64 s)).setCell ⟨w.heap.size, 1, none⟩ (.slice none 0 0)).setCell ⟨w.heap.size, 2, none⟩ (.slice o2 m2 c2)) := by
  subst hub
  have ht5 : w5.heap[w.heap.size]? = some (.cells #[.int .i64 0, .slice none 0 0, .slice none 0 0] 33 (0, 0)) := by
    rw [hk.kept _ hlt (by omega) (by omega)]
    exact ht
  have hne : w.heap.size ≠ w2.heap.size := by omega
  have hoth : ∀ j, j < w.heap.size → ((((w5.setCell ⟨w2.heap.size, 6, none⟩ (.slice none 0 0)).setCell ⟨w.heap.size, 0, none⟩ (.int .i64 s)).setCell ⟨w.heap.size, 1, none⟩ (.slice none 0 0)).setCell ⟨w.heap.size, 2, none⟩ (.slice o2 m2 c2)).heap[j]? = w5.heap[j]? := fun j hj => by
    rw [set_other (by omega), set_other (by omega), set_other (by omega), set_other (by omega)]
  refine ⟨set_same (set_same (set_same ((set_other hne).trans ht5))), ⟨?_, hk.os.trans hb02.os, hk.tape.trans hb02.tape, hk.output.trans hb02.output, fun j h1 h2 h3 => ?_⟩, hP _ _ (hoth fb hfb) (hoth mb hmb) hp⟩
  · rw [set_size, set_size, set_size, set_size]
    have := hk.size
    omega
  · rw [hoth j h1, hk.kept j (by omega) h2 h3, hb02.block j h1]
theorem nam_mk : ((namesL.find? fun x => (⟨#[109, 107, 100, 105, 114]⟩ : ByteArray) == bs x.1).map fun x => Value.func (.func x.2) #[] #[]) = some (.func (.func 32) #[] #[]) := by kernel_rfl
set_option maxHeartbeats 3200000 in
set_option maxRecDepth 100000 in
theorem run_mk {w : World} {fb mb : Nat} {l : List ByteArray} {o : Option Addr} {n cap : Nat} (hn : l.length = n) (hl : n ≤ 100) (hA : ArgV w o cap l) (s : Int) {P : World → Prop} (hP : ∀ w1 w2 : World, w2.heap[fb]? = w1.heap[fb]? → w2.heap[mb]? = w1.heap[mb]? → P w1 → P w2) (hfb : fb < w.heap.size) (hmb : mb < w.heap.size)
    (HC : ∀ (w0 : World) (o' : Option Addr) (cap' : Nat), Below w.heap.size w w0 → ArgV w0 o' cap' l →
      Calls Tryz.prog 32 #[.pointer (some ⟨w0.heap.size, 0, none⟩)] (w0.alloc (.cells #[.pointer (some ⟨fb, 0, none⟩), .string slB, .string ⟨#[109, 107, 100, 105, 114]⟩, .slice o' n cap', .slice none 0 0, .int .i64 0, .slice none 0 0, .slice none 0 0] 59)) fun e w'' => e = .returned (.tuple #[]) ∧ ∃ A' lb, US w'' w'' w0.heap.size (.pointer (some ⟨fb, 0, none⟩)) (.string slB) (.string ⟨#[109, 107, 100, 105, 114]⟩) A' (.slice none 0 0) s [] lb ∧ But2 w0 w'' fb mb ∧ P w'') :
    Calls Tryz.prog 9 #[.pointer (some ⟨fb, 0, none⟩), .string slB, .string ⟨#[109, 107, 100, 105, 114]⟩, .slice o n cap, .slice none 0 0] w fun e w' => ∃ o2 m2 c2, e = .returned (.agg #[.int .i64 s, .slice none 0 0, .slice o2 m2 c2]) ∧ But2 w w' fb mb ∧ P w' := by
  have HH : Hid (∀ (w0 : World) (o' : Option Addr) (cap' : Nat), Below w.heap.size w w0 → ArgV w0 o' cap' l →
      Calls Tryz.prog 32 #[.pointer (some ⟨w0.heap.size, 0, none⟩)] (w0.alloc (.cells #[.pointer (some ⟨fb, 0, none⟩), .string slB, .string ⟨#[109, 107, 100, 105, 114]⟩, .slice o' n cap', .slice none 0 0, .int .i64 0, .slice none 0 0, .slice none 0 0] 59)) fun e w'' => e = .returned (.tuple #[]) ∧ ∃ A' lb, US w'' w'' w0.heap.size (.pointer (some ⟨fb, 0, none⟩)) (.string slB) (.string ⟨#[109, 107, 100, 105, 114]⟩) A' (.slice none 0 0) s [] lb ∧ But2 w0 w'' fb mb ∧ P w'') := HC
  clear HC
  have HN : Hid (l.length = n) := hn
  clear hn
  have hb0 := (Below.refl w.heap.size w).alloc (Nat.le_refl _) (.cells #[.int .i64 0, .slice none 0 0, .slice none 0 0] 33)
  have HA : Hid (∀ w', Below w.heap.size w w' → ArgV w' o cap l) := fun w' hb => hA.below hb
  have HP : Hid (∀ w1 w2 : World, w2.heap[fb]? = w1.heap[fb]? → w2.heap[mb]? = w1.heap[mb]? → P w1 → P w2) := hP
  clear hA hP
  go_enter Tryz.func9, Tryz.ntmps9
  go_wp2_with fail
  go_at_call 18
  refine (all_st _).mono ?_
  rintro e w1 ⟨mp, rfl, hb1, hlk⟩
  have hlk1 := hlk ⟨#[109, 107, 100, 105, 114]⟩ 32 nam_mk
  have hb01 := hb0.trans (hb1.mono hb0.size)
  clear hlk
  go_wp2_with (at_builtin; refine wpList_append_args rfl _ _ rfl rfl o n cap l HN.out rfl _ (HA.out _ hb01) hl ?_)
  intro o2 cap2 w2 hA2 hg2 hown2 hb2
  clear hown2 hlk1 hg2
  have hb02 := hb01.trans (hb2.mono hb01.size)
  have hs12 := hb2.size
  have hs01 := hb1.size
  have htl : w.heap.size < w1.heap.size := by simp at hs01; omega
  have ht2 : w2.heap[w.heap.size]? = some (.cells #[.int .i64 0, .slice none 0 0, .slice none 0 0] 33 (0, 0)) := by
    rw [hb2.block _ htl, hb1.block _ (by simp)]
    exact heap_alloc_new _ _
  go_wp2_with fail
  go_at_call 32
  refine (HH.out w2 o2 cap2 hb02 hA2).mono ?_
  rintro e w5 ⟨rfl, A', lb, hu, hk, hp⟩
  obtain ⟨O, G, hh5, hO, hG, _, hO0, hG0⟩ := hu.ex
  have hO1 := hO0.2 rfl
  subst hO1
  obtain ⟨go, gc, rfl, _, _, _⟩ := own_data hG hG0
  obtain ⟨m2, hm2⟩ : ∃ m, lb.length = m := ⟨_, rfl⟩
  rw [hm2] at hh5
  have ht5 : w5.heap[w.heap.size]? = some (.cells #[.int .i64 0, .slice none 0 0, .slice none 0 0] 33) := by
    rw [hk.kept _ (by omega) (by omega) (by omega)]
    exact ht2
  obtain ⟨ub, hub⟩ : ∃ ub, ub = w2.heap.size := ⟨_, rfl⟩
  have HE : Hid (_ ∧ _ ∧ _) := run_end2 (s := s) (o2 := go) (m2 := m2) (c2 := gc) HP.out hfb hmb hb02 hub (by omega) ht2 hk hp
  have hul := hu.lt
  rw [← hub] at hh5 hul
  have c5 : w5.cell? ⟨ub, 5, none⟩ = some (.int .i64 s) := by rw [cell_u hh5]; rfl
  have c6 : w5.cell? ⟨ub, 6, none⟩ = some (.slice none 0 0) := by rw [cell_u hh5]; rfl
  have c7 : w5.cell? ⟨ub, 7, none⟩ = some (.slice go m2 gc) := by rw [cell_u hh5]; rfl
  have n6 : w5.frozen? ⟨ub, 6, none⟩ = false := nf_free hh5 free8 (by omega)
  have t0 : w5.cell? ⟨w.heap.size, 0, none⟩ = some (.int .i64 0) := by rw [cell_u ht5]; rfl
  have t1 : w5.cell? ⟨w.heap.size, 1, none⟩ = some (.slice none 0 0) := by rw [cell_u ht5]; rfl
  have t2 : w5.cell? ⟨w.heap.size, 2, none⟩ = some (.slice none 0 0) := by rw [cell_u ht5]; rfl
  have hf0 : free 3 (0, 0) := fun i _ hc => by
    rcases hc with ⟨_, h⟩
    rcases h with h | h <;> simp at h
  have m0 : w5.frozen? ⟨w.heap.size, 0, none⟩ = false := nf_free ht5 hf0 (by omega)
  have m1 : w5.frozen? ⟨w.heap.size, 1, none⟩ = false := nf_free ht5 hf0 (by omega)
  have m2' : w5.frozen? ⟨w.heap.size, 2, none⟩ = false := nf_free ht5 hf0 (by omega)
  have hne : w.heap.size ≠ ub := by omega
  have hwl : w.heap.size < w5.heap.size := by omega
  have hul1 : ub < w5.heap.size := by omega
  have hmin0 : min (0 : Int) 65536 = 0 := by decide
  have HPD : Hid (∀ w1 : World, P w1 → P w1.drew) := fun w1 h => HP.out w1 w1.drew rfl rfl h
  rw [← hub]
  clear hh5 ht5 hu hb2 hb02 hb01 hb0 hb1 hA2 HH HN HA hf0 hs12 hs01 htl ht2 hO hG hO0 hG0 hm2 hk hp HP hub
  go_wp2_with fail
  go_region_held3 (fun w' => w'.cell? ⟨ub, 6, none⟩ = some (.slice none 0 0) ∧ w'.frozen? ⟨ub, 6, none⟩ = false)
    (first | exact ⟨c6, n6⟩ | exact ⟨d6, k6⟩ | exact ⟨cell_set d6, frozen_set k6⟩)
    (first
      | (go_at_call 19; refine (Tryz.bytes_Clone_nil _ _ _).mono ?_; rintro e w6 ⟨rfl, hw6⟩; subst hw6; have d6 := c6; have k6 := n6))
  have hT := HE.out.1
  have hB := HE.out.2.1
  have hp := HE.out.2.2
  all_goals
    go_wp2_with fail
    (try simp only [Exit.inBlock, Exit.then])
    first
      | exact bodyPost_ret (res_told rfl hT) rfl ⟨_, _, _, rfl, hB.drew, HPD.out _ hp⟩
      | exact bodyPost_ret (res_told rfl hT) rfl ⟨_, _, _, rfl, hB, hp⟩
theorem nam_rm : ((namesL.find? fun x => (⟨#[114, 109]⟩ : ByteArray) == bs x.1).map fun x => Value.func (.func x.2) #[] #[]) = some (.func (.func 31) #[] #[]) := by kernel_rfl
set_option maxHeartbeats 3200000 in
set_option maxRecDepth 100000 in
theorem run_rm {w : World} {fb mb : Nat} {l : List ByteArray} {o : Option Addr} {n cap : Nat} (hn : l.length = n) (hl : n ≤ 100) (hA : ArgV w o cap l) (s : Int) {P : World → Prop} (hP : ∀ w1 w2 : World, w2.heap[fb]? = w1.heap[fb]? → w2.heap[mb]? = w1.heap[mb]? → P w1 → P w2) (hfb : fb < w.heap.size) (hmb : mb < w.heap.size)
    (HC : ∀ (w0 : World) (o' : Option Addr) (cap' : Nat), Below w.heap.size w w0 → ArgV w0 o' cap' l →
      Calls Tryz.prog 31 #[.pointer (some ⟨w0.heap.size, 0, none⟩)] (w0.alloc (.cells #[.pointer (some ⟨fb, 0, none⟩), .string slB, .string ⟨#[114, 109]⟩, .slice o' n cap', .slice none 0 0, .int .i64 0, .slice none 0 0, .slice none 0 0] 59)) fun e w'' => e = .returned (.tuple #[]) ∧ ∃ A' lb, US w'' w'' w0.heap.size (.pointer (some ⟨fb, 0, none⟩)) (.string slB) (.string ⟨#[114, 109]⟩) A' (.slice none 0 0) s [] lb ∧ But2 w0 w'' fb mb ∧ P w'') :
    Calls Tryz.prog 9 #[.pointer (some ⟨fb, 0, none⟩), .string slB, .string ⟨#[114, 109]⟩, .slice o n cap, .slice none 0 0] w fun e w' => ∃ o2 m2 c2, e = .returned (.agg #[.int .i64 s, .slice none 0 0, .slice o2 m2 c2]) ∧ But2 w w' fb mb ∧ P w' := by
  have HH : Hid (∀ (w0 : World) (o' : Option Addr) (cap' : Nat), Below w.heap.size w w0 → ArgV w0 o' cap' l →
      Calls Tryz.prog 31 #[.pointer (some ⟨w0.heap.size, 0, none⟩)] (w0.alloc (.cells #[.pointer (some ⟨fb, 0, none⟩), .string slB, .string ⟨#[114, 109]⟩, .slice o' n cap', .slice none 0 0, .int .i64 0, .slice none 0 0, .slice none 0 0] 59)) fun e w'' => e = .returned (.tuple #[]) ∧ ∃ A' lb, US w'' w'' w0.heap.size (.pointer (some ⟨fb, 0, none⟩)) (.string slB) (.string ⟨#[114, 109]⟩) A' (.slice none 0 0) s [] lb ∧ But2 w0 w'' fb mb ∧ P w'') := HC
  clear HC
  have HN : Hid (l.length = n) := hn
  clear hn
  have hb0 := (Below.refl w.heap.size w).alloc (Nat.le_refl _) (.cells #[.int .i64 0, .slice none 0 0, .slice none 0 0] 33)
  have HA : Hid (∀ w', Below w.heap.size w w' → ArgV w' o cap l) := fun w' hb => hA.below hb
  have HP : Hid (∀ w1 w2 : World, w2.heap[fb]? = w1.heap[fb]? → w2.heap[mb]? = w1.heap[mb]? → P w1 → P w2) := hP
  clear hA hP
  go_enter Tryz.func9, Tryz.ntmps9
  go_wp2_with fail
  go_at_call 18
  refine (all_st _).mono ?_
  rintro e w1 ⟨mp, rfl, hb1, hlk⟩
  have hlk1 := hlk ⟨#[114, 109]⟩ 31 nam_rm
  have hb01 := hb0.trans (hb1.mono hb0.size)
  clear hlk
  go_wp2_with (at_builtin; refine wpList_append_args rfl _ _ rfl rfl o n cap l HN.out rfl _ (HA.out _ hb01) hl ?_)
  intro o2 cap2 w2 hA2 hg2 hown2 hb2
  clear hown2 hlk1 hg2
  have hb02 := hb01.trans (hb2.mono hb01.size)
  have hs12 := hb2.size
  have hs01 := hb1.size
  have htl : w.heap.size < w1.heap.size := by simp at hs01; omega
  have ht2 : w2.heap[w.heap.size]? = some (.cells #[.int .i64 0, .slice none 0 0, .slice none 0 0] 33 (0, 0)) := by
    rw [hb2.block _ htl, hb1.block _ (by simp)]
    exact heap_alloc_new _ _
  go_wp2_with fail
  go_at_call 31
  refine (HH.out w2 o2 cap2 hb02 hA2).mono ?_
  rintro e w5 ⟨rfl, A', lb, hu, hk, hp⟩
  obtain ⟨O, G, hh5, hO, hG, _, hO0, hG0⟩ := hu.ex
  have hO1 := hO0.2 rfl
  subst hO1
  obtain ⟨go, gc, rfl, _, _, _⟩ := own_data hG hG0
  obtain ⟨m2, hm2⟩ : ∃ m, lb.length = m := ⟨_, rfl⟩
  rw [hm2] at hh5
  have ht5 : w5.heap[w.heap.size]? = some (.cells #[.int .i64 0, .slice none 0 0, .slice none 0 0] 33) := by
    rw [hk.kept _ (by omega) (by omega) (by omega)]
    exact ht2
  obtain ⟨ub, hub⟩ : ∃ ub, ub = w2.heap.size := ⟨_, rfl⟩
  have HE : Hid (_ ∧ _ ∧ _) := run_end2 (s := s) (o2 := go) (m2 := m2) (c2 := gc) HP.out hfb hmb hb02 hub (by omega) ht2 hk hp
  have hul := hu.lt
  rw [← hub] at hh5 hul
  have c5 : w5.cell? ⟨ub, 5, none⟩ = some (.int .i64 s) := by rw [cell_u hh5]; rfl
  have c6 : w5.cell? ⟨ub, 6, none⟩ = some (.slice none 0 0) := by rw [cell_u hh5]; rfl
  have c7 : w5.cell? ⟨ub, 7, none⟩ = some (.slice go m2 gc) := by rw [cell_u hh5]; rfl
  have n6 : w5.frozen? ⟨ub, 6, none⟩ = false := nf_free hh5 free8 (by omega)
  have t0 : w5.cell? ⟨w.heap.size, 0, none⟩ = some (.int .i64 0) := by rw [cell_u ht5]; rfl
  have t1 : w5.cell? ⟨w.heap.size, 1, none⟩ = some (.slice none 0 0) := by rw [cell_u ht5]; rfl
  have t2 : w5.cell? ⟨w.heap.size, 2, none⟩ = some (.slice none 0 0) := by rw [cell_u ht5]; rfl
  have hf0 : free 3 (0, 0) := fun i _ hc => by
    rcases hc with ⟨_, h⟩
    rcases h with h | h <;> simp at h
  have m0 : w5.frozen? ⟨w.heap.size, 0, none⟩ = false := nf_free ht5 hf0 (by omega)
  have m1 : w5.frozen? ⟨w.heap.size, 1, none⟩ = false := nf_free ht5 hf0 (by omega)
  have m2' : w5.frozen? ⟨w.heap.size, 2, none⟩ = false := nf_free ht5 hf0 (by omega)
  have hne : w.heap.size ≠ ub := by omega
  have hwl : w.heap.size < w5.heap.size := by omega
  have hul1 : ub < w5.heap.size := by omega
  have hmin0 : min (0 : Int) 65536 = 0 := by decide
  have HPD : Hid (∀ w1 : World, P w1 → P w1.drew) := fun w1 h => HP.out w1 w1.drew rfl rfl h
  rw [← hub]
  clear hh5 ht5 hu hb2 hb02 hb01 hb0 hb1 hA2 HH HN HA hf0 hs12 hs01 htl ht2 hO hG hO0 hG0 hm2 hk hp HP hub
  go_wp2_with fail
  go_region_held3 (fun w' => w'.cell? ⟨ub, 6, none⟩ = some (.slice none 0 0) ∧ w'.frozen? ⟨ub, 6, none⟩ = false)
    (first | exact ⟨c6, n6⟩ | exact ⟨d6, k6⟩ | exact ⟨cell_set d6, frozen_set k6⟩)
    (first
      | (go_at_call 19; refine (Tryz.bytes_Clone_nil _ _ _).mono ?_; rintro e w6 ⟨rfl, hw6⟩; subst hw6; have d6 := c6; have k6 := n6))
  have hT := HE.out.1
  have hB := HE.out.2.1
  have hp := HE.out.2.2
  all_goals
    go_wp2_with fail
    (try simp only [Exit.inBlock, Exit.then])
    first
      | exact bodyPost_ret (res_told rfl hT) rfl ⟨_, _, _, rfl, hB.drew, HPD.out _ hp⟩
      | exact bodyPost_ret (res_told rfl hT) rfl ⟨_, _, _, rfl, hB, hp⟩
/-! what the law's calls do to the tree -/
/-- the law's own chain: its names, and a file x below -/
structure Chain (L : List ByteArray) (m : Nat) : Prop where
  ok : ∀ x ∈ L, NameOk x
  len : L.length = m + 1
  le : m ≤ 8
  pos : 1 ≤ m
theorem Chain.abs {L : List ByteArray} {m i : Nat} (h : Chain L m) (hi : 1 ≤ i) (him : i ≤ m + 1) : absF (pB (L.take i)) = (pB (L.take i), 0) := by
  have hl := h.len
  have hle := h.le
  exact absF_pB (take_ok h.ok i) (fun e => by have h0 : (L.take i).length = 0 := (by rw [e]; rfl); rw [List.length_take] at h0; omega) (by rw [List.length_take]; omega)
theorem Chain.small {L : List ByteArray} {m : Nat} (h : Chain L m) (i : Nat) : (pB (L.take i)).size ≤ 189 := pB_small h.ok (by rw [h.len]; have := h.le; omega) i
theorem Chain.not {L : List ByteArray} {m i : Nat} (h : Chain L m) (hi : 1 ≤ i) (him : i ≤ m + 1) {c : List UInt8} : (pB (L.take i)).data.toList ≠ 45 :: c := by
  have hl := h.len
  exact pB_not (take_ok h.ok i) (fun e => by have h0 : (L.take i).length = 0 := (by rw [e]; rfl); rw [List.length_take] at h0; omega) (by decide)
theorem argv_one {w : World} {o : Option Addr} {c : Nat} {l : List ByteArray} (h : ArgV w o c l) (h0 : l ≠ []) : ∃ g off, o = some ⟨g, off, none⟩ ∧ l.length ≤ c ∧ ArgsAt w g off l := by
  rcases h with h | h
  · exact absurd h h0
  · exact h
theorem go_mkp {w : World} {fb mb : Nat} {L : List ByteArray} {m j : Nat} (C : Chain L m) (hG : Grow fb mb L m j w) (hjm : j ≤ m) (hmx : MaxIs w) {o : Option Addr} {cap : Nat} (hA : ArgV w o cap [⟨#[45, 112]⟩, pB (L.take m)]) :
    Calls Tryz.prog 9 #[.pointer (some ⟨fb, 0, none⟩), .string slB, .string ⟨#[109, 107, 100, 105, 114]⟩, .slice o 2 cap, .slice none 0 0] w fun e w' => ∃ o2 m2 c2, e = .returned (.agg #[.int .i64 0, .slice none 0 0, .slice o2 m2 c2]) ∧ But2 w w' fb mb ∧ Grow fb mb L m m w' := by
  have hl := C.len
  have hle := C.le
  refine run_mk (l := [⟨#[45, 112]⟩, pB (L.take m)]) rfl (by simp) hA 0 (P := Grow fb mb L m m) Grow.same hG.size.1 hG.size.2 fun w0 o' cap' hb hA' => ?_
  obtain ⟨ga, goff, rfl, hc, hA2⟩ := argv_one hA' (by simp)
  exact mkdir_p (hG.below hb) hjm (hmx.below hmx.lt hb) C.ok C.pos (by omega) (by omega) ga goff cap' hA2 hc
theorem go_mks {w : World} {fb mb : Nat} {L : List ByteArray} {m : Nat} (C : Chain L m) (hG : Grow fb mb L m m w) (hmx : MaxIs w) {o : Option Addr} {cap : Nat} (hA : ArgV w o cap [pB (L.take m)]) :
    Calls Tryz.prog 9 #[.pointer (some ⟨fb, 0, none⟩), .string slB, .string ⟨#[109, 107, 100, 105, 114]⟩, .slice o 1 cap, .slice none 0 0] w fun e w' => ∃ o2 m2 c2, e = .returned (.agg #[.int .i64 1, .slice none 0 0, .slice o2 m2 c2]) ∧ But2 w w' fb mb ∧ Grow fb mb L m m w' := by
  have hl := C.len
  have hle := C.le
  refine run_mk (l := [pB (L.take m)]) rfl (by simp) hA 1 (P := Grow fb mb L m m) Grow.same hG.size.1 hG.size.2 fun w0 o' cap' hb hA' => ?_
  obtain ⟨ga, goff, rfl, hc, hA2⟩ := argv_one hA' (by simp)
  exact mkdir_s (hG.below hb) (hmx.below hmx.lt hb) C.ok C.pos (by omega) (by omega) ga goff cap' hA2 hc
/-- rm told an error -/
theorem rm_told {w0 X : World} {fb mb : Nat} {L : List ByteArray} {n j : Nat} {A : Value} {d q : Bool} {s : Int} (h : RmS w0 X fb A d q) (hT : Tre fb mb L n j w0) {e : Ending} {w' : World} (hQ : e = .returned (.tuple #[]) ∧ ∃ lb, US X w' w0.heap.size (.pointer (some ⟨fb, 0, none⟩)) (.string slB) (.string ⟨#[114, 109]⟩) A (.slice none 0 0) s [] lb) :
    e = .returned (.tuple #[]) ∧ ∃ A' lb, US w' w' w0.heap.size (.pointer (some ⟨fb, 0, none⟩)) (.string slB) (.string ⟨#[114, 109]⟩) A' (.slice none 0 0) s [] lb ∧ But2 w0 w' fb mb ∧ Tre fb mb L n j w' := by
  obtain ⟨h1, lb, h2⟩ := hQ
  have hbw : Below w0.heap.size w0 w' := h.below.trans h2.kept
  exact ⟨h1, _, lb, ⟨h2.ex, h2.box, h2.lt, Below.refl _ _⟩, But2.of fb mb hbw, hT.below hbw⟩
/-- rm took, or told nothing -/
theorem rm_done {w0 X : World} {fb mb : Nat} {L : List ByteArray} {n j : Nat} {A : Value} {d q : Bool} (h : RmS w0 X fb A d q) (hf : fb < w0.heap.size) (hm : mb < w0.heap.size) {e : Ending} {w' : World} (hQ : e = .returned (.tuple #[]) ∧ Tre fb mb L n j w' ∧ But2 X w' fb mb) :
    e = .returned (.tuple #[]) ∧ ∃ A' lb, US w' w' w0.heap.size (.pointer (some ⟨fb, 0, none⟩)) (.string slB) (.string ⟨#[114, 109]⟩) A' (.slice none 0 0) 0 [] lb ∧ But2 w0 w' fb mb ∧ Tre fb mb L n j w' := by
  obtain ⟨h1, h2, h3⟩ := hQ
  exact ⟨h1, _, [], h.us.but h3 hf hm, (But2.of fb mb h.below).trans h3, h2⟩
theorem RmS.c0 {w0 X : World} {fb : Nat} {A : Value} {d q : Bool} (h : RmS w0 X fb A d q) : X.cell? ⟨w0.heap.size, 0, none⟩ = some (.pointer (some ⟨fb, 0, none⟩)) := by rw [cell_u h.u]; rfl
theorem RmS.cu {w0 X : World} {fb : Nat} {A : Value} {d q : Bool} (h : RmS w0 X fb A d q) : X.cell? ⟨w0.heap.size + 1, 0, none⟩ = some (.pointer (some ⟨w0.heap.size, 0, none⟩)) := by rw [cell_u h.box]; rfl
/-- rm without a flag of a directory that is used -/
theorem go_rms {w : World} {fb mb : Nat} {L : List ByteArray} {m k : Nat} (C : Chain L m) (hT : Tre fb mb L m (m + 1) w) (hkm : k < m) (hmx : MaxIs w) {o : Option Addr} {cap : Nat} (hA : ArgV w o cap [pB (L.take (k + 1))]) :
    Calls Tryz.prog 9 #[.pointer (some ⟨fb, 0, none⟩), .string slB, .string ⟨#[114, 109]⟩, .slice o 1 cap, .slice none 0 0] w fun e w' => ∃ o2 m2 c2, e = .returned (.agg #[.int .i64 1, .slice none 0 0, .slice o2 m2 c2]) ∧ But2 w w' fb mb ∧ Tre fb mb L m (m + 1) w' := by
  have hl := C.len
  have hle := C.le
  refine run_rm (l := [pB (L.take (k + 1))]) rfl (by simp) hA 1 (P := Tre fb mb L m (m + 1)) Tre.same hT.size.1 hT.size.2 fun w0 o' cap' hb hA' => ?_
  obtain ⟨ga, goff, rfl, hc, hA2⟩ := argv_one hA' (by simp)
  have hsm := C.small (k + 1)
  refine rm_none hA2 hc (hmx.below hmx.lt hb) (by omega) (C.abs (by omega) (by omega)) (C.not (by omega) (by omega)) (C.not (by omega) (by omega)) (C.not (by omega) (by omega)) (C.not (by omega) (by omega)) fun X hX => ?_
  refine (rm1_fail (pB (L.take (k + 1))) (pB (L.take (k + 1))) (by omega) (by decide) err14 hX.us hX.cd hX.cq (rem_flat (R := fun w' => Below X.heap.size X w') hX.c0 (remove_used ((hT.below hb).below hX.below) ((hmx.below hmx.lt hb).below (hmx.below hmx.lt hb).lt hX.below) C.ok (by omega) (by omega) (by omega) (by omega)))).mono ?_
  intro e w' hQ
  exact rm_told hX (hT.below hb) hQ
/-- rm -r of a directory -/
theorem go_rmr {w : World} {fb mb : Nat} {L : List ByteArray} {m k : Nat} (C : Chain L m) (hT : Tre fb mb L m (m + 1) w) (hkm : k < m) (hmx : MaxIs w) {o : Option Addr} {cap : Nat} (hA : ArgV w o cap [⟨#[45, 114]⟩, pB (L.take (k + 1))]) :
    Calls Tryz.prog 9 #[.pointer (some ⟨fb, 0, none⟩), .string slB, .string ⟨#[114, 109]⟩, .slice o 2 cap, .slice none 0 0] w fun e w' => ∃ o2 m2 c2, e = .returned (.agg #[.int .i64 0, .slice none 0 0, .slice o2 m2 c2]) ∧ But2 w w' fb mb ∧ Tre fb mb L m k w' := by
  have hl := C.len
  have hle := C.le
  refine run_rm (l := [⟨#[45, 114]⟩, pB (L.take (k + 1))]) rfl (by simp) hA 0 (P := Tre fb mb L m k) Tre.same hT.size.1 hT.size.2 fun w0 o' cap' hb hA' => ?_
  obtain ⟨ga, goff, rfl, hc, hA2⟩ := argv_one hA' (by simp)
  have hsm := C.small (k + 1)
  have hz := (hT.below hb).size
  refine rm_r hA2 hc (hmx.below hmx.lt hb) (by omega) (C.abs (by omega) (by omega)) fun X hX => ?_
  have hzX := hX.size
  refine (rm1_ok (ub := w0.heap.size) (R := fun w' => Tre fb mb L m k w' ∧ But2 X w' fb mb) (pB (L.take (k + 1))) (pB (L.take (k + 1))) hX.cu hX.cd ((rem_deep (fb := fb) (mb := mb) (ub := w0.heap.size) (L := L) (n := m) (by omega) (by omega) (by omega) C.ok (by omega) (m - k) k (by omega) X hX.c0 ((hT.below hb).below hX.below) ((hmx.below hmx.lt hb).below (hmx.below hmx.lt hb).lt hX.below)).mono ?_)).mono ?_
  · rintro e w' ⟨h1, h2, h3⟩
    exact ⟨h1, ⟨h2, h3⟩, (h3.cell (by omega) (by omega) (by omega)).trans hX.cu, (h3.cell (by omega) (by omega) (by omega)).trans hX.cq⟩
  · intro e w' hQ
    exact rm_done hX hz.1 hz.2 hQ
/-- rm -rf of what is not there -/
theorem go_rmf {w : World} {fb mb : Nat} {L : List ByteArray} {m k : Nat} (C : Chain L m) (hT : Tre fb mb L m k w) (hkm : k < m) (hmx : MaxIs w) {o : Option Addr} {cap : Nat} (hA : ArgV w o cap [⟨#[45, 114, 102]⟩, pB (L.take (k + 1))]) :
    Calls Tryz.prog 9 #[.pointer (some ⟨fb, 0, none⟩), .string slB, .string ⟨#[114, 109]⟩, .slice o 2 cap, .slice none 0 0] w fun e w' => ∃ o2 m2 c2, e = .returned (.agg #[.int .i64 0, .slice none 0 0, .slice o2 m2 c2]) ∧ But2 w w' fb mb ∧ Tre fb mb L m k w' := by
  have hl := C.len
  have hle := C.le
  refine run_rm (l := [⟨#[45, 114, 102]⟩, pB (L.take (k + 1))]) rfl (by simp) hA 0 (P := Tre fb mb L m k) Tre.same hT.size.1 hT.size.2 fun w0 o' cap' hb hA' => ?_
  obtain ⟨ga, goff, rfl, hc, hA2⟩ := argv_one hA' (by simp)
  have hsm := C.small (k + 1)
  have hz := (hT.below hb).size
  refine rm_rf hA2 hc (hmx.below hmx.lt hb) (by omega) (C.abs (by omega) (by omega)) fun X hX => ?_
  have hzX := hX.size
  have hTX := (hT.below hb).below hX.below
  have hmX := (hmx.below hmx.lt hb).below (hmx.below hmx.lt hb).lt hX.below
  have hK := kind_tre hTX (Nat.le_refl k) (by omega) (by omega) (by omega) hmX C.ok (by omega)
  rw [if_neg (Nat.lt_irrefl k)] at hK
  have hRE := rem_leaf (p := pB (L.take (k + 1))) (k := 6) (R := fun w' => Below X.heap.size X w') hX.c0 hK (by decide) fun w1 hb1 => (remove_none (hTX.below hb1) (hmX.below hmX.lt hb1) C.ok (by omega) (by omega) (by omega)).mono fun e w' h => ⟨h.1, hb1.trans (h.2.mono hb1.size)⟩
  have hRE2 : Calls Tryz.prog 59 #[.pointer (some ⟨w0.heap.size, 0, none⟩), .string (pB (L.take (k + 1))), .bool true] X fun e w' => e = .returned (.int .i64 6) ∧ (Tre fb mb L m k w' ∧ But2 X w' fb mb) ∧ w'.cell? ⟨w0.heap.size + 1 + 1 + 1, 0, none⟩ = some (.bool true) := by
    refine hRE.mono ?_
    rintro e w' ⟨h1, h2⟩
    exact ⟨h1, ⟨hTX.below h2, But2.of fb mb h2⟩, (h2.cell (by show w0.heap.size + 1 + 1 + 1 < _; omega)).trans hX.cq⟩
  refine (rm1_quiet (ub := w0.heap.size) (R := fun w' => Tre fb mb L m k w' ∧ But2 X w' fb mb) (pB (L.take (k + 1))) (pB (L.take (k + 1))) hX.cu hX.cd hRE2).mono ?_
  intro e w' hQ
  exact rm_done hX hz.1 hz.2 hQ
/-- rm -r of what is not there -/
theorem go_rmn {w : World} {fb mb : Nat} {L : List ByteArray} {m k : Nat} (C : Chain L m) (hT : Tre fb mb L m k w) (hkm : k < m) (hmx : MaxIs w) {o : Option Addr} {cap : Nat} (hA : ArgV w o cap [⟨#[45, 114]⟩, pB (L.take (k + 1))]) :
    Calls Tryz.prog 9 #[.pointer (some ⟨fb, 0, none⟩), .string slB, .string ⟨#[114, 109]⟩, .slice o 2 cap, .slice none 0 0] w fun e w' => ∃ o2 m2 c2, e = .returned (.agg #[.int .i64 1, .slice none 0 0, .slice o2 m2 c2]) ∧ But2 w w' fb mb ∧ Tre fb mb L m k w' := by
  have hl := C.len
  have hle := C.le
  refine run_rm (l := [⟨#[45, 114]⟩, pB (L.take (k + 1))]) rfl (by simp) hA 1 (P := Tre fb mb L m k) Tre.same hT.size.1 hT.size.2 fun w0 o' cap' hb hA' => ?_
  obtain ⟨ga, goff, rfl, hc, hA2⟩ := argv_one hA' (by simp)
  have hsm := C.small (k + 1)
  refine rm_r hA2 hc (hmx.below hmx.lt hb) (by omega) (C.abs (by omega) (by omega)) fun X hX => ?_
  have hTX := (hT.below hb).below hX.below
  have hmX := (hmx.below hmx.lt hb).below (hmx.below hmx.lt hb).lt hX.below
  have hK := kind_tre hTX (Nat.le_refl k) (by omega) (by omega) (by omega) hmX C.ok (by omega)
  rw [if_neg (Nat.lt_irrefl k)] at hK
  have hRE := rem_leaf (p := pB (L.take (k + 1))) (k := 6) (R := fun w' => Below X.heap.size X w') hX.c0 hK (by decide) fun w1 hb1 => (remove_none (hTX.below hb1) (hmX.below hmX.lt hb1) C.ok (by omega) (by omega) (by omega)).mono fun e w' h => ⟨h.1, hb1.trans (h.2.mono hb1.size)⟩
  refine (rm1_fail (pB (L.take (k + 1))) (pB (L.take (k + 1))) (by omega) (by decide) err6 hX.us hX.cd hX.cq hRE).mono ?_
  intro e w' hQ
  exact rm_told hX (hT.below hb) hQ
theorem nodes_nil {L : List ByteArray} {n j : Nat} {T : TT} (N : Nodes L n T j) (hjn : j ≤ n) (q : ByteArray) (x : TN) (h : findT T q = some x) : x.2.1 = (none, 0, 0) := by
  unfold findT at h
  cases e : T.find? fun x => q == x.1 with
  | none => rw [e] at h; cases h
  | some y =>
    rw [e] at h
    have hx : y.2 = x := Option.some.inj h
    obtain ⟨i, hi, he⟩ := List.getElem_of_mem (List.mem_of_find?_eq_some e)
    have h2 := (N.at' i hi).2.2 (by have := N.len; omega)
    rw [he, hx] at h2
    exact h2
theorem all_tre {w : World} {fb mb : Nat} {L : List ByteArray} {n j : Nat} (hT : Tre fb mb L n j w) (hjn : j ≤ n) (hj : j ≤ L.length) (h9 : L.length ≤ 9) :
    Calls Tryz.prog 11 #[.pointer (some ⟨fb, 0, none⟩)] w fun e w' => ∃ o c, e = .returned (.slice o j c) ∧ Below w.heap.size w w' := by
  obtain ⟨T, u, c, hS⟩ := hT
  exact all_any hS.fs (by rw [hS.nodes.len]; omega) (nodes_nil hS.nodes hjn) j (by rw [front_root L, lowT_len hS.nodes hj (Nat.zero_le _)]; exact Nat.sub_zero j)
/-- a file of one byte is written below all -/
theorem write_x {w : World} {fb mb : Nat} {L : List ByteArray} {m : Nat} (C : Chain L m) (hG : Grow fb mb L m m w) (hmx : MaxIs w) (g : Nat) (hg : w.cell? ⟨g, 0, none⟩ = some (.int .u8 121)) (hgf : g ≠ fb) :
    Calls Tryz.prog 8 #[.pointer (some ⟨fb, 0, none⟩), .string (pB (L.take (m + 1))), .slice (some ⟨g, 0, none⟩) 1 1, .bool false] w fun e w' => e = .returned (.int .i64 0) ∧ Tre fb mb L m (m + 1) w' ∧ But2 w w' fb mb := by
  have hl := C.len
  have hle := C.le
  obtain ⟨T, hF, N⟩ := hG
  have hlen := N.len
  have hk := N.kind C.ok (by omega) (show m < L.length by omega)
  rw [if_neg (Nat.lt_irrefl m)] at hk
  have hgl : g < w.heap.size := World.block_lt_of_cell? w _ hg
  refine (write_bn hF.is hF.born hmx _ _ (by have := C.small (m + 1); omega) (N.fabs C.ok (by omega) (by omega) (by omega) (Nat.le_refl m) (Nat.le_refl m)) hk (N.gone (by omega) (Nat.le_refl m) (by omega)) (by omega) (some ⟨g, 0, none⟩) 1 1 (by omega) (by omega) (by omega) (by omega) (by omega) (by omega) (by omega) (DataAt w.heap.size [121]) fun w1 hb1 => ?_).mono ?_
  · refine cat_said hb1 _ [121] (some ⟨g, 0, none⟩) 1 (by decide) (.inr ⟨g, 0, rfl, hgl, hgf, fun j u hj => ?_⟩)
    match j, hj with
    | 0, hj =>
      rw [Addr.add_lit]
      have : u = Mx.byteV 121 := (Option.some.inj hj).symm
      rw [this]
      exact hg
    | j + 1, hj => cases hj
  · rintro e w' ⟨rfl, w5, o, c, hd, hF', hB, hN, hz, ho1, ho2, ho3, hk5⟩
    refine ⟨rfl, ⟨_, _, _, ⟨hF', hN⟩, N.push (by simp) (fun h => absurd h (Nat.lt_irrefl m)), fun x hx => ?_, by omega, by omega, by omega, by omega⟩, ⟨Nat.le_trans hz hB.size, hB.os.trans ho1, hB.tape.trans ho2, hB.output.trans ho3, fun j h1 h2 h3 => (hB.kept j (by omega) h2 h3).trans (hk5 j h1 h2)⟩⟩
    rcases List.mem_append.1 hx with hx | hx
    · obtain ⟨i, hi, rfl⟩ := List.getElem_of_mem hx
      rw [(N.at' i hi).2.2 (by omega)]
      exact Nat.zero_le _
    · rw [List.mem_singleton.1 hx]
      exact Nat.le_refl _
/-! the law of ToolsDeep, walked -/
theorem ret_int {k : IntKind} {a b : Int} (h : a = b) : Ending.returned (.int k a) = .returned (.int k b) := by rw [h]
theorem take_snoc (s : ByteArray) (k : Nat) (h : k < s.size) : s.data.toList.take (k + 1) = s.data.toList.take k ++ [s[k]] := by
  rw [List.take_succ_eq_append_getElem (by simpa using h)]; rfl
theorem idx_hit (s : ByteArray) (k n : Nat) (h : k < s.size) (hn : n < 256) (he : (s[k].toNat : Int) = n) (hne : ∀ d ∈ s.data.toList.take k, d.toNat ≠ n) : (k : Int) = Lib.indexByte s.data.toList (UInt8.ofNat n) := by
  have e : s.data.toList = s.data.toList.take k ++ (s[k] :: s.data.toList.drop (k + 1)) := by
    have hl : s.data.toList.length = s.size := rfl
    have : s.data.toList.drop k = s[k] :: s.data.toList.drop (k + 1) := List.drop_eq_getElem_cons (by omega)
    rw [← this, List.take_append_drop]
  rw [e, Mx.indexByte_skip hn hne]
  have ei : ∀ t, Lib.indexByte (s[k] :: t) (UInt8.ofNat n) = 0 := fun t => by
    have ej : Lib.indexByte (s[k] :: t) (UInt8.ofNat n) = if (s[k] == UInt8.ofNat n) = true then 0 else if Lib.indexByte t (UInt8.ofNat n) == -1 then -1 else Lib.indexByte t (UInt8.ofNat n) + 1 := rfl
    have e2 : s[k] = UInt8.ofNat n := by
      have : s[k].toNat = n := by omega
      rw [← this]; simp
    rw [ej, e2]; simp
  rw [ei, if_neg (by omega), List.length_take]
  have : s.data.toList.length = s.size := rfl
  omega
set_option maxHeartbeats 400000 in
theorem at_any (s : ByteArray) (n : Nat) (w : World) (hs : s.size ≤ maxLen) (hn : n < 256) :
    Calls Tryz.prog 10 #[.string s, .int .u8 (n : Int)] w fun e w' => e = .returned (.int .i64 (Lib.indexByte s.data.toList (UInt8.ofNat n))) ∧ w' = w := by
  unfold maxLen at hs
  go_enter Tryz.func10, Tryz.ntmps10
  go_wp2
  go_loop [5] (fun i => ∃ k : Nat, k ≤ s.size ∧ i = .int .i64 k ∧ ∀ d ∈ s.data.toList.take k, d.toNat ≠ n) (fun i => s.size - (intOf i).toNat)
  case atStart => exact ⟨0, Nat.zero_le _, rfl, by simp⟩
  case round =>
    obtain ⟨k, hk, rfl, hne⟩ := hrel
    by_cases hlt : k < s.size
    · have hh := fun he => idx_hit s k n hlt hn he hne
      have hts := take_snoc s k hlt
      have hnx : (s[k].toNat : Int) ≠ n → ∀ d ∈ s.data.toList.take (k + 1), d.toNat ≠ n := fun he d hd => by
        rw [hts] at hd
        rcases List.mem_append.1 hd with hd | hd
        · exact hne d hd
        · rw [List.mem_singleton.1 hd]; omega
      clear hts hne
      by_cases he : (s[k].toNat : Int) = n
      · have HS : Hid ((k : Int) = Lib.indexByte s.data.toList (UInt8.ofNat n)) := hh he
        clear hnx hh
        go_wp2
        all_goals first | (go_ret; exact ⟨ret_int HS.out, rfl⟩) | (exfalso; rename_i hb; simp [he] at hb; done)
      · have HN : Hid (∀ d ∈ s.data.toList.take (k + 1), d.toNat ≠ n) := hnx he
        clear hh hnx
        go_wp2
        go_round
        case rel => exact ⟨k + 1, by omega, by go_num, HN.out⟩
        case measure => simp [intOf]; omega
    · have e0 : s.data.toList.take k = s.data.toList := by
        have : s.data.toList.length = s.size := rfl
        exact List.take_of_length_le (by omega)
      rw [e0] at hne
      have HZ : Hid (Lib.indexByte s.data.toList (UInt8.ofNat n) = -1) := Mx.indexByte_none hn hne
      clear hne e0
      go_wp2
      go_ret
      exact ⟨ret_int HZ.out.symm, rfl⟩
set_option maxHeartbeats 1600000 in
set_option maxRecDepth 100000 in
theorem new_deep (w : World) : Calls Tryz.prog 6 #[.int .i64 30, .int .i64 100] w fun e w' => ∃ fb mb, e = .returned (.pointer (some ⟨fb, 0, none⟩)) ∧ FsB w' fb mb [] 30 100 0 0 ∧ Below w.heap.size w w' ∧ w.heap.size ≤ fb ∧ w.heap.size ≤ mb := by
  have hmm : (Instr.makeMap 41 none).run Tryz.prog w = .ok (.map (some w.heap.size)) (w.alloc (.map #[] 0)) := rfl
  have e1 : min (max (0 : Int) 30) 10000 = 30 := by decide
  have e2 : min (max (0 : Int) 100) 1048576 = 100 := by decide
  go_enter Tryz.func6, Tryz.ntmps6
  go_wp2
  go_ret
  have hm : ∀ o, ((w.alloc (.map #[] 0)).alloc o).heap[w.heap.size]? = some (.map #[] 0) := fun o => (Go.heap_alloc_old _ _ (by simp)).trans (heap_alloc_new _ _)
  refine ⟨_, w.heap.size, rfl, ⟨⟨?_, _, _, hm _, rfl⟩, _, _, hm _, by simp, by simp⟩, ((Below.refl _ _).alloc (Nat.le_refl _) _).alloc (by simp) _, by simp, Nat.le_refl _⟩
  have := heap_alloc_new (w.alloc (.map #[] 0)) (.cells #[.map (some w.heap.size), .int .i64 30, .int .i64 100, .int .i64 0, .int .i64 0] 43)
  simpa using this
/-- what a call told lies there, beside the file system -/
def ToldAt (w : World) (fb mb t : Nat) (s : Int) : Prop := w.cell? ⟨t, 0, none⟩ = some (.int .i64 s) ∧ t ≠ fb ∧ t ≠ mb
theorem ToldAt.but {w w' : World} {fb mb t : Nat} {s : Int} (h : ToldAt w fb mb t s) (hB : But2 w w' fb mb) : ToldAt w' fb mb t s := ⟨(hB.cell (World.block_lt_of_cell? w _ h.1) h.2.1 h.2.2).trans h.1, h.2⟩
theorem ToldAt.below {w w' : World} {fb mb t : Nat} {s : Int} (h : ToldAt w fb mb t s) (hB : Below w.heap.size w w') : ToldAt w' fb mb t s := h.but (But2.of fb mb hB)
theorem step_first {w X : World} {args : List ByteArray} (hX : X = w.alloc (.cells (args.map Value.string).toArray 9)) : Below w.heap.size w X ∧ ArgV X (some ⟨w.heap.size, 0, none⟩) args.length args := by
  refine ⟨by rw [hX]; exact (Below.refl _ _).alloc (Nat.le_refl _) _, .inr ⟨w.heap.size, 0, rfl, Nat.le_refl _, by rw [hX]; simp, fun k hk => ?_⟩⟩
  rw [hX, Nat.zero_add]
  exact new_cells w args 9 hk
theorem step_told {w X : World} {fb mb : Nat} (hf : fb < w.heap.size) (hm : mb < w.heap.size) {s : Int} {o2 : Option Addr} {m2 c2 : Nat} (hX : X = w.alloc (.cells #[.int .i64 s, .slice none 0 0, .slice o2 m2 c2] 33)) : Below w.heap.size w X ∧ ToldAt X fb mb w.heap.size s := by
  refine ⟨by rw [hX]; exact (Below.refl _ _).alloc (Nat.le_refl _) _, ?_, by omega, by omega⟩
  rw [hX, cell_u (heap_alloc_new _ _)]
  rfl
theorem step_next {w X : World} {fb mb : Nat} (hf : fb < w.heap.size) (hm : mb < w.heap.size) {s : Int} {o2 : Option Addr} {m2 c2 : Nat} {args : List ByteArray} (hX : X = (w.alloc (.cells #[.int .i64 s, .slice none 0 0, .slice o2 m2 c2] 33)).alloc (.cells (args.map Value.string).toArray 9)) : Below w.heap.size w X ∧ ToldAt X fb mb w.heap.size s ∧ ArgV X (some ⟨w.heap.size + 1, 0, none⟩) args.length args := by
  obtain ⟨h1, h2⟩ := step_told (X := w.alloc (.cells #[.int .i64 s, .slice none 0 0, .slice o2 m2 c2] 33)) hf hm rfl
  obtain ⟨h3, h4⟩ := step_first hX
  have e : (w.alloc (.cells #[.int .i64 s, .slice none 0 0, .slice o2 m2 c2] 33)).heap.size = w.heap.size + 1 := by simp
  rw [e] at h4
  exact ⟨h1.trans (h3.mono (by omega)), h2.below h3, h4⟩
theorem chain_of {ns : List ByteArray} {m : Nat} (hlen : ns.length = m) (hm1 : 1 ≤ m) (hm8 : m ≤ 8) (hN : ∀ x ∈ ns, NameOk x) : Chain (ns ++ [⟨#[120]⟩]) m := by
  refine ⟨fun x hx => ?_, by rw [List.length_append, hlen]; rfl, hm8, hm1⟩
  rcases List.mem_append.1 hx with hx | hx
  · exact hN x hx
  · rw [List.mem_singleton.1 hx]
    exact ⟨by decide, by decide, by decide, by decide, by decide⟩
theorem take_chain {ns : List ByteArray} {m i : Nat} (hlen : ns.length = m) (hi : i ≤ m) : (ns ++ [(⟨#[120]⟩ : ByteArray)]).take i = ns.take i := by
  rw [List.take_append_of_le_length (by omega)]
theorem chain_x {ns : List ByteArray} {m : Nat} (hlen : ns.length = m) : pB ns ++ (⟨#[47, 120]⟩ : ByteArray) = pB ((ns ++ [(⟨#[120]⟩ : ByteArray)]).take (m + 1)) := by
  have e : (ns ++ [(⟨#[120]⟩ : ByteArray)]).take (m + 1) = ns ++ [⟨#[120]⟩] := List.take_of_length_le (by rw [List.length_append, hlen]; exact Nat.le_refl _)
  rw [e, pB_app]
  rfl
/-- what the law holds by now: all that was there, and what was told -/
structure LS (W w : World) (fb mb : Nat) (l : List (Nat × Int)) : Prop where
  below : Below W.heap.size W w
  lefb : W.heap.size ≤ fb
  lemb : W.heap.size ≤ mb
  told : ∀ x ∈ l, ToldAt w fb mb x.1 x.2
theorem LS.but {W w w' : World} {fb mb : Nat} {l : List (Nat × Int)} (h : LS W w fb mb l) (hB : But2 w w' fb mb) : LS W w' fb mb l :=
  ⟨⟨hB.os.trans h.below.os, hB.tape.trans h.below.tape, hB.output.trans h.below.output, Nat.le_trans h.below.size hB.size, fun j hj => (hB.kept j (Nat.lt_of_lt_of_le hj h.below.size) (by have := h.lefb; omega) (by have := h.lemb; omega)).trans (h.below.block j hj)⟩, h.lefb, h.lemb, fun x hx => (h.told x hx).but hB⟩
theorem LS.mono {W w w' : World} {fb mb : Nat} {l : List (Nat × Int)} (h : LS W w fb mb l) (hB : Below w.heap.size w w') : LS W w' fb mb l := h.but (But2.of fb mb hB)
theorem LS.next {W w X : World} {fb mb : Nat} {l : List (Nat × Int)} (h : LS W w fb mb l) (hf : fb < w.heap.size ∧ mb < w.heap.size) {s : Int} {o2 : Option Addr} {m2 c2 : Nat} {args : List ByteArray} (hX : X = (w.alloc (.cells #[.int .i64 s, .slice none 0 0, .slice o2 m2 c2] 33)).alloc (.cells (args.map Value.string).toArray 9)) : LS W X fb mb ((w.heap.size, s) :: l) ∧ Below w.heap.size w X ∧ ArgV X (some ⟨w.heap.size + 1, 0, none⟩) args.length args := by
  obtain ⟨h1, h2, h3⟩ := step_next hf.1 hf.2 hX
  have h4 := h.mono h1
  exact ⟨⟨h4.below, h4.lefb, h4.lemb, fun x hx => by rcases List.mem_cons.1 hx with rfl | hx; exact h2; exact h4.told x hx⟩, h1, h3⟩
theorem LS.one {W w X : World} {fb mb : Nat} {l : List (Nat × Int)} (h : LS W w fb mb l) (hf : fb < w.heap.size ∧ mb < w.heap.size) {s : Int} {o2 : Option Addr} {m2 c2 : Nat} (hX : X = w.alloc (.cells #[.int .i64 s, .slice none 0 0, .slice o2 m2 c2] 33)) : LS W X fb mb ((w.heap.size, s) :: l) ∧ Below w.heap.size w X := by
  obtain ⟨h1, h2⟩ := step_told hf.1 hf.2 hX
  have h4 := h.mono h1
  exact ⟨⟨h4.below, h4.lefb, h4.lemb, fun x hx => by rcases List.mem_cons.1 hx with rfl | hx; exact h2; exact h4.told x hx⟩, h1⟩
end
end Go.Proofs.YthocoonhoilmdaaGreatDoor
