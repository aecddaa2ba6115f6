/-
  Run of cat, walked.
-/
import Derived.Test.YthocoonhoilmdaaGreatDoorCcY
import Derived.Test.YthocoonhoilmdaaGreatDoorXMxAL
import Derived.Deep.RegionLaw
import Derived.Deep.RegionWith
import Derived.Deep.RegionHeld3
import Derived.RegionTactic
import Derived.WalkKit
import Derived.WalkSpells
import Derived.StillTactics
import Derived.LoopIn
import Derived.RowKit3
import Derived.Below
import Derived.OwnWalk
import Derived.KernelRfl
open Go Go.Mx Go.RowKit
namespace Go.Proofs.YthocoonhoilmdaaGreatDoor
set_option maxRecDepth 100000
noncomputable section
/-! Run of cat, walked -/
theorem nam_cat : ((namesL.find? fun x => (⟨#[99, 97, 116]⟩ : ByteArray) == bs x.1).map fun x => Value.func (.func x.2) #[] #[]) = some (.func (.func 28) #[] #[]) := by kernel_rfl
def catB : ByteArray := ⟨#[99, 97, 116]⟩
/-- what Run's end leaves -/
structure RunEnd (w w' : World) (s : Int) (ob lb : List UInt8) (o1 : Option Addr) (c1 : Nat) (o2 : Option Addr) (c2 : Nat) : Prop where
  told : w'.heap[w.heap.size]? = some (.cells #[.int .i64 s, .slice o1 ob.length c1, .slice o2 lb.length c2] 33 (0, 0))
  below : Below w.heap.size w w'
  out : BytesV w' o1 ob
  log : BytesV w' o2 lb
theorem run_end {w w2 w5 w6 : World} {F C N A I : Value} {s : Int} {ob lb : List UInt8} {o1 o2 : Option Addr} {c1 c2 : Nat} (hb02 : Below w.heap.size w w2) (hlt : w.heap.size < w2.heap.size) (ht : w2.heap[w.heap.size]? = some (.cells #[.int .i64 0, .slice none 0 0, .slice none 0 0] 33 (0, 0))) (hu : US w2 w5 w2.heap.size F C N A I s ob lb) (hl : DataAt (w2.heap.size + 2) lb w5 o2) (hb6 : Below w5.heap.size w5 w6) (hd : DataAt w5.heap.size ob w6 o1) :
    RunEnd w ((((w6.setCell ⟨w2.heap.size, 6, none⟩ (.slice o1 ob.length c1)).setCell ⟨w.heap.size, 0, none⟩ (.int .i64 s)).setCell ⟨w.heap.size, 1, none⟩ (.slice o1 ob.length c1)).setCell ⟨w.heap.size, 2, none⟩ (.slice o2 lb.length c2)) s ob lb o1 c1 o2 c2 := by
  have hlt5 := hu.lt
  have ht6 : w6.heap[w.heap.size]? = some (.cells #[.int .i64 0, .slice none 0 0, .slice none 0 0] 33 (0, 0)) := by
    rw [hb6.block _ (by omega), hu.kept.block _ hlt]
    exact ht
  have hne : w.heap.size ≠ w2.heap.size := by omega
  have h5 := hu.kept
  refine ⟨set_same (set_same (set_same ((set_other hne).trans ht6))), ⟨hb6.os.trans (h5.os.trans hb02.os), hb6.tape.trans (h5.tape.trans hb02.tape), hb6.output.trans (h5.output.trans hb02.output), ?_, fun j hj => ?_⟩, ?_, ?_⟩
  · rw [set_size, set_size, set_size, set_size]
    have := hb6.size
    omega
  · rw [set_other (by omega), set_other (by omega), set_other (by omega), set_other (by omega), hb6.block j (by omega), h5.block j (by omega), hb02.block j hj]
  · exact ((((hd.set (by omega)).set (by omega)).set (by omega)).set (by omega)).bytesV
  · exact (((((hl.below hb6).set (by omega)).set (by omega)).set (by omega)).set (by omega)).bytesV
set_option maxHeartbeats 3200000 in
set_option maxRecDepth 100000 in
theorem run_cat {w : World} {fb : Nat} {l : List ByteArray} {o : Option Addr} {n cap : Nat} {io : Option Addr} {inn ic : Nat} (hn : l.length = n) (hl : n ≤ 100) (hA : ArgV w o cap l) (s : Int) (ob lb : List UInt8) (m m2 : Nat) (hm : ob.length = m) (hm1 : m ≤ 60000) (hm2 : lb.length = m2)
    (HC : ∀ (w0 : World) (o' : Option Addr) (cap' : Nat), Below w.heap.size w w0 → ArgV w0 o' cap' l →
      Calls Tryz.prog 28 #[.pointer (some ⟨w0.heap.size, 0, none⟩)] (w0.alloc (.cells #[.pointer (some ⟨fb, 0, none⟩), .string slB, .string ⟨#[99, 97, 116]⟩, .slice o' n cap', .slice io inn ic, .int .i64 0, .slice none 0 0, .slice none 0 0] 59)) fun e w'' => e = .returned (.tuple #[]) ∧ US w0 w'' w0.heap.size (.pointer (some ⟨fb, 0, none⟩)) (.string slB) (.string ⟨#[99, 97, 116]⟩) (.slice o' n cap') (.slice io inn ic) s ob lb) :
    Calls Tryz.prog 9 #[.pointer (some ⟨fb, 0, none⟩), .string slB, .string ⟨#[99, 97, 116]⟩, .slice o n cap, .slice io inn ic] w fun e w' => ∃ o1 c1 o2 c2, e = .returned (.agg #[.int .i64 s, .slice o1 m c1, .slice o2 m2 c2]) ∧ Below w.heap.size w w' ∧ BytesV w' o1 ob ∧ BytesV w' o2 lb := by
  have HH : Hid (∀ (w0 : World) (o' : Option Addr) (cap' : Nat), Below w.heap.size w w0 → ArgV w0 o' cap' l →
      Calls Tryz.prog 28 #[.pointer (some ⟨w0.heap.size, 0, none⟩)] (w0.alloc (.cells #[.pointer (some ⟨fb, 0, none⟩), .string slB, .string ⟨#[99, 97, 116]⟩, .slice o' n cap', .slice io inn ic, .int .i64 0, .slice none 0 0, .slice none 0 0] 59)) fun e w'' => e = .returned (.tuple #[]) ∧ US w0 w'' w0.heap.size (.pointer (some ⟨fb, 0, none⟩)) (.string slB) (.string ⟨#[99, 97, 116]⟩) (.slice o' n cap') (.slice io inn ic) s ob lb) := HC
  clear HC
  have HN : Hid (l.length = n) := hn
  clear hn
  have hb0 := (Below.refl w.heap.size w).alloc (Nat.le_refl _) (.cells #[.int .i64 0, .slice none 0 0, .slice none 0 0] 33)
  have HA : Hid (∀ w', Below w.heap.size w w' → ArgV w' o cap l) := fun w' hb => hA.below hb
  clear hA
  go_enter Tryz.func9, Tryz.ntmps9
  go_wp2_with fail
  go_at_call 18
  refine (all_st _).mono ?_
  rintro e w1 ⟨mb, rfl, hb1, hlk⟩
  have hlk1 := hlk ⟨#[99, 97, 116]⟩ 28 nam_cat
  have hb01 := hb0.trans (hb1.mono hb0.size)
  clear hlk
  go_wp2_with (at_builtin; refine wpList_append_args rfl _ _ rfl rfl o n cap l HN.out rfl _ (HA.out _ hb01) hl ?_)
  intro o2 cap2 w2 hA2 hg2 hown2 hb2
  clear hown2 hlk1 hg2
  have hb02 := hb01.trans (hb2.mono hb01.size)
  have hs12 := hb2.size
  have hs01 := hb1.size
  have htl : w.heap.size < w1.heap.size := by simp at hs01; omega
  have ht2 : w2.heap[w.heap.size]? = some (.cells #[.int .i64 0, .slice none 0 0, .slice none 0 0] 33 (0, 0)) := by
    rw [hb2.block _ htl, hb1.block _ (by simp)]
    exact heap_alloc_new _ _
  go_wp2_with fail
  go_at_call 28
  refine (HH.out w2 o2 cap2 hb02 hA2).mono ?_
  rintro e w5 ⟨rfl, hu⟩
  obtain ⟨O, G, hh5, hO, hG, _, hO0, hG0⟩ := hu.ex
  obtain ⟨oo, oc, rfl, hOd, hO1, hO2⟩ := own_data hO hO0
  obtain ⟨go, gc, rfl, hGd, _, _⟩ := own_data hG hG0
  have ht5 : w5.heap[w.heap.size]? = some (.cells #[.int .i64 0, .slice none 0 0, .slice none 0 0] 33) := by
    rw [hu.kept.block _ (by omega)]
    exact ht2
  have HE : Hid (∀ w6 o' c', Below w5.heap.size w5 w6 → DataAt w5.heap.size ob w6 o' → RunEnd w ((((w6.setCell ⟨w2.heap.size, 6, none⟩ (.slice o' m c')).setCell ⟨w.heap.size, 0, none⟩ (.int .i64 s)).setCell ⟨w.heap.size, 1, none⟩ (.slice o' m c')).setCell ⟨w.heap.size, 2, none⟩ (.slice go m2 gc)) s ob lb o' c' go gc) := fun w6 o' c' h1 h2 => by
    rw [← hm, ← hm2]
    exact run_end hb02 (by omega) ht2 hu hGd h1 h2
  have HCl : Hid (∀ w', Below w5.heap.size w5 w' → Calls Tryz.prog 19 #[.slice oo m oc] w' fun e w'' => ∃ o' c', e = .returned (.slice o' m c') ∧ Below w'.heap.size w' w'' ∧ DataAt w5.heap.size ob w'' o') := fun w' hb => by
    have := clone_data oc (by omega) (hOd.below hb)
    rw [hm] at this
    refine this.mono ?_
    rintro e w'' ⟨o', c', he, h1, h2⟩
    exact ⟨o', c', he, h1, h2.weak hb.size⟩
  rw [hm] at hh5 hO2
  rw [hm2] at hh5
  have hcase : (oo = none ∧ m = 0 ∧ oc = 0) ∨ ∃ g, oo = some ⟨g, 0, none⟩ ∧ m ≤ oc := by
    cases oo with
    | none =>
      rcases hOd with ⟨h, _⟩ | ⟨_, g, h, _⟩
      · subst h
        exact .inl ⟨rfl, hm.symm, hO1 rfl⟩
      · cases h
    | some a =>
      obtain ⟨h1, h2⟩ := hO2 a rfl
      exact .inr ⟨a.block, by rw [h1], h2⟩
  have c5 : w5.cell? ⟨w2.heap.size, 5, none⟩ = some (.int .i64 s) := by rw [cell_u hh5]; rfl
  have c6 : w5.cell? ⟨w2.heap.size, 6, none⟩ = some (.slice oo m oc) := by rw [cell_u hh5]; rfl
  have c7 : w5.cell? ⟨w2.heap.size, 7, none⟩ = some (.slice go m2 gc) := by rw [cell_u hh5]; rfl
  have n6 : w5.frozen? ⟨w2.heap.size, 6, none⟩ = false := nf_free hh5 free8 (by omega)
  have t0 : w5.cell? ⟨w.heap.size, 0, none⟩ = some (.int .i64 0) := by rw [cell_u ht5]; rfl
  have t1 : w5.cell? ⟨w.heap.size, 1, none⟩ = some (.slice none 0 0) := by rw [cell_u ht5]; rfl
  have t2 : w5.cell? ⟨w.heap.size, 2, none⟩ = some (.slice none 0 0) := by rw [cell_u ht5]; rfl
  have hf0 : free 3 (0, 0) := fun i _ hc => by
    rcases hc with ⟨_, h⟩
    rcases h with h | h <;> simp at h
  have m0 : w5.frozen? ⟨w.heap.size, 0, none⟩ = false := nf_free ht5 hf0 (by omega)
  have m1 : w5.frozen? ⟨w.heap.size, 1, none⟩ = false := nf_free ht5 hf0 (by omega)
  have m2' : w5.frozen? ⟨w.heap.size, 2, none⟩ = false := nf_free ht5 hf0 (by omega)
  have hul := hu.lt
  have hne : w.heap.size ≠ w2.heap.size := by omega
  have hwl : w.heap.size < w5.heap.size := by omega
  have hmin : min (m : Int) 65536 = m := by omega
  have HM : Hid (ob.length = m) := hm
  have HM2 : Hid (lb.length = m2) := hm2
  clear hh5 ht5 hu hb2 hb02 hb01 hb0 hb1 hA2 HH HN HA hf0 hs12 hs01 htl ht2 hO hG hO0 hG0 hOd hO1 hO2 hGd hm hm2
  generalize w2.heap.size = ub at *
  have hul1 : ub < w5.heap.size := by omega
  rcases hcase with ⟨rfl, rfl, rfl⟩ | ⟨g, rfl, hmo⟩
  · go_wp2_with fail
    have hmin0 : min (0 : Int) 65536 = 0 := by decide
    go_region_held3 (fun w' => w'.cell? ⟨ub, 6, none⟩ = some (.slice none 0 0) ∧ w'.frozen? ⟨ub, 6, none⟩ = false)
      (first | exact ⟨c6, n6⟩ | exact ⟨d6, k6⟩ | exact ⟨cell_set d6, frozen_set k6⟩)
      (first
        | (go_at_call 19; refine (Tryz.bytes_Clone_nil _ _ _).mono ?_; rintro e w6 ⟨rfl, hw6⟩; subst hw6; have d6 := c6; have k6 := n6))
    have HE5 := HE.out w5 none 0 (Below.refl _ _) (by
      have := HM.out
      exact .inl ⟨List.eq_nil_of_length_eq_zero this, rfl⟩)
    have ht5 := HE5.told
    rw [HM.out, HM2.out] at ht5
    all_goals
      go_wp2_with fail
      (try simp only [Exit.inBlock, Exit.then])
      first
        | exact bodyPost_ret (res_told rfl ht5) rfl ⟨_, _, _, _, rfl, HE5.below.drew, HE5.out, HE5.log⟩
        | exact bodyPost_ret (res_told rfl ht5) rfl ⟨_, _, _, _, rfl, HE5.below, HE5.out, HE5.log⟩
  · go_wp2_with fail
    go_region_law
      (first
        | (go_simp; go_at_call 19; refine (HCl.out _ ?_).mono ?_; (first | exact Below.refl _ _ | exact Below.drew (Below.refl _ _)); rintro e w6 ⟨o', c', rfl, hb6', hd6⟩; dsimp only; have hb6 : Below w5.heap.size w5 w6 := ⟨hb6'.os, hb6'.tape, hb6'.output, hb6'.size, hb6'.block⟩; have d6 := (hb6.cell (p := ⟨ub, 6, none⟩) (by exact hul1)).trans c6; have k6 := (hb6.frozen (p := ⟨ub, 6, none⟩) (by exact hul1)).trans n6; clear hb6'))
    all_goals
      have HE6 := HE.out w6 o' c' hb6 hd6
      have ht6 := HE6.told
      rw [HM.out, HM2.out] at ht6
      have x5 := (hb6.cell (p := ⟨ub, 5, none⟩) (by exact hul1)).trans c5
      have x7 := (hb6.cell (p := ⟨ub, 7, none⟩) (by exact hul1)).trans c7
      have y0 := (hb6.cell (p := ⟨w.heap.size, 0, none⟩) (by exact hwl)).trans t0
      have y1 := (hb6.cell (p := ⟨w.heap.size, 1, none⟩) (by exact hwl)).trans t1
      have y2 := (hb6.cell (p := ⟨w.heap.size, 2, none⟩) (by exact hwl)).trans t2
      have z0 := (hb6.frozen (p := ⟨w.heap.size, 0, none⟩) (by exact hwl)).trans m0
      have z1 := (hb6.frozen (p := ⟨w.heap.size, 1, none⟩) (by exact hwl)).trans m1
      have z2 := (hb6.frozen (p := ⟨w.heap.size, 2, none⟩) (by exact hwl)).trans m2'
      have hb6s := hb6.size
      clear HE HCl hb6 hd6 c5 c6 c7 n6 t0 t1 t2 m0 m1 m2'
      go_wp2_with fail
      (try simp only [Exit.inBlock, Exit.then])
      first
        | exact bodyPost_ret (res_told rfl ht6) rfl ⟨_, _, _, _, rfl, HE6.below, HE6.out, HE6.log⟩
        | exact bodyPost_ret (res_told rfl ht6) rfl ⟨_, _, _, _, rfl, HE6.below.drew, HE6.out, HE6.log⟩
end
end Go.Proofs.YthocoonhoilmdaaGreatDoor
