/-
  A scope is made, walked.
-/
import Derived.Test.YtaikgomojnfimaaGreatDoorBgW
import Derived.BigQuiet
import Derived.Deep.QuietTactic
import Derived.Deep.RegionLaw
import Derived.Deep.RegionWith
import Derived.Deep.RegionHeld3
import Derived.RegionTactic
import Derived.WalkKit
import Derived.WalkSpells
import Derived.StillTactics
import Derived.LoopIn
import Derived.RowKit3
import Derived.Below
import Derived.OwnWalk
import Derived.KernelRfl
open Go Go.Mx Go.RowKit
namespace Go.Proofs.YtaikgomojnfimaaGreatDoor
set_option maxRecDepth 100000
noncomputable section
/-! a scope is made -/
theorem ss_t : Tryz.prog.underlying 23 = some (.slice 9) := by kernel_rfl
theorem ss_i : (Tryz.prog.info? 9).map (fun i => (i.zero, i.size, i.bytes)) = some (some (.string ⟨#[]⟩), 1, 16) := by kernel_rfl
theorem own_texts {B : Nat} {w : World} {v : Value} {l : List ByteArray} (h : w.ownsRow B 9 1 v l.length (l.map Value.string)) : ∃ o c, v = .slice o l.length c ∧ TextsAt w o l ∧ l.length ≤ c := by
  rcases h.2 with ⟨e, e2⟩ | ⟨g, c, cur, rfl, r1, r2, r3, _⟩
  · exact ⟨none, 0, by rw [e, e2], .inl (List.eq_nil_of_length_eq_zero e2), by omega⟩
  · refine ⟨_, c, rfl, .inr ⟨g, 0, rfl, (Array.getElem?_eq_some_iff.1 r2).1, fun i hi => ?_⟩, r3⟩
    have h1 := h.cells (g := g) rfl i (.string l[i]) (by rw [List.getElem?_map, List.getElem?_eq_getElem hi]; rfl)
    rw [Addr.add_lit] at h1
    exact h1
theorem texts_cells {w : World} {g off : Nat} {l : List ByteArray} (h : ∀ i (h : i < l.length), w.cell? ⟨g, off + i, none⟩ = some (.string l[i])) : ∀ j u, (l.map Value.string)[j]? = some u → w.cell? ((⟨g, off, none⟩ : Addr).add j) = some u := by
  intro j u hj
  have hjl : j < l.length := by
    have := (List.getElem?_eq_some_iff.1 hj).1
    simpa using this
  rw [List.getElem?_map, List.getElem?_eq_getElem hjl] at hj
  rw [Addr.add_lit, h j hjl]
  exact hj
/-- what slices.Clone leaves -/
def CloneSaid (w : World) (l : List ByteArray) (n : Nat) (e : Ending) (w' : World) : Prop := ∃ o' c', e = .returned (.slice o' n c') ∧ TextsAt w' o' l ∧ n ≤ c' ∧ Below w.heap.size w w'
set_option maxHeartbeats 1600000 in
set_option maxRecDepth 100000 in
theorem sclone_any {w : World} (l : List ByteArray) (o : Option Addr) (c : Nat) (h : TextsAt w o l) (hl : l.length ≤ 40) : Calls Tryz.prog 15 #[.slice o l.length c] w fun e w' => CloneSaid w l l.length e w' := by
  obtain ⟨i0, hi, hz0, hz1, hz2⟩ := info_parts ss_i
  have heq := fun W => Lib.run_eql_slice_nil (P := Tryz.prog) W 23 9 o l.length c 0 0 ss_t
  have HT : Hid (∀ w', Below w.heap.size w w' → TextsAt w' o l) := fun w' hb => h.below hb
  cases o with
  | none =>
    have hl0 : l = [] := by
      rcases h with h | ⟨_, _, h, _⟩
      · exact h
      · cases h
    subst hl0
    clear h HT
    simp only [List.length_nil] at heq ⊢
    go_enter Tryz.func15, Tryz.ntmps15
    go_wp2
    go_ret
    exact ⟨none, 0, rfl, .inl rfl, Nat.le_refl _, Below.refl _ _⟩
  | some a =>
    obtain ⟨n, hn⟩ : ∃ n, l.length = n := ⟨_, rfl⟩
    have HN : Hid (l.length = n) := hn
    have hone : ∀ u ∈ l.map Value.string, u.oneCell' = true := by intro u hu; obtain ⟨x, _, rfl⟩ := List.mem_map.1 hu; rfl
    have hcells : Hid (∃ ad : Addr, ad = a ∧ ∀ w', Below w.heap.size w w' → ∀ j u, (l.map Value.string)[j]? = some u → w'.cell? (ad.add j) = some u) := by
      refine ⟨a, rfl, fun w' hb j u hj => ?_⟩
      rcases HT.out w' hb with h0 | ⟨g, off, e1, _, e3⟩
      · subst h0
        simp at hj
      · cases e1
        exact texts_cells e3 j u hj
    rw [hn] at heq hl ⊢
    clear h hn
    have hb1 : Below w.heap.size w (w.alloc (.cells #[] 9)) := (Below.refl _ _).alloc (Nat.le_refl _) _
    go_enter Tryz.func15, Tryz.ntmps15
    go_wp2_with (at_builtin; refine wpList_append_own _ rfl _ _ 23 rfl w.heap.size 9 i0 _ 1 16 ss_t hi hz0 hz1 hz2 rfl (by decide) _ _ _ rfl (World.ownsRow_made w #[] 0 (Nat.le_refl _) (Nat.zero_le _) rfl) a n c (l.map Value.string) rfl (by rw [List.length_map, HN.out]; omega) (by obtain ⟨ad, rfl, hc⟩ := hcells.out; exact hc _ hb1) hone (by unfold maxLen; omega) (by omega) (by simp) ?_)
    intro v7 w7 hown7 hgrow7 _
    have hb7 : Below w.heap.size w w7 := hb1.grown hgrow7 hb1.size (fun j hj => by
      have : j = w.heap.size := by simpa [Value.ownBlock] using hj.symm
      omega)
    obtain ⟨o', c', hv, h1, h2⟩ := own_texts (l := l) (by rw [HN.out]; exact hown7)
    rw [HN.out] at hv h2
    subst hv
    have HE : Hid (CloneSaid w l n (.returned (.slice o' n c')) w7) := ⟨o', c', rfl, h1, h2, hb7⟩
    clear hown7 hgrow7 h1 hcells hone HT
    go_wp2
    go_ret
    exact HE.out
/-- a scope's block -/
structure ScopeIs (w : World) (sb vb : Nat) (m : Option Nat) (M : ML) (oa : Option Addr) (ca : Nat) (al : List ByteArray) (st : Int) : Prop where
  s : w.heap[sb]? = some (.cells #[.pointer (some ⟨vb, 0, none⟩), .slice oa al.length ca, .int .i64 st, .string ⟨#[]⟩] 56 (0, 0))
  v : VIs w vb m M
  a : TextsAt w oa al
  room : al.length ≤ ca
theorem ScopeIs.below {w w' : World} {sb vb : Nat} {m : Option Nat} {M : ML} {oa : Option Addr} {ca : Nat} {al : List ByteArray} {st : Int} (h : ScopeIs w sb vb m M oa ca al st) (hb : Below w.heap.size w w') : ScopeIs w' sb vb m M oa ca al st :=
  ⟨by rw [hb.block sb (Array.getElem?_eq_some_iff.1 h.s).1]; exact h.s, h.v.below hb, h.a.below hb, h.room⟩
/-- what New leaves -/
def NewSaid (w : World) (M : ML) (al : List ByteArray) (st : Int) (e : Ending) (w' : World) : Prop := ∃ sb vb m oa ca, e = .returned (.pointer (some ⟨sb, 0, none⟩)) ∧ ScopeIs w' sb vb m M oa ca al st ∧ Below w.heap.size w w'
set_option maxHeartbeats 1600000 in
set_option maxRecDepth 100000 in
theorem new_some {w : World} {vb : Nat} {m : Option Nat} {M : ML} (hv : VIs w vb m M) (al : List ByteArray) (ao : Option Addr) (ac : Nat) (h : TextsAt w ao al) (hl : al.length ≤ 40) (st : Int) : Calls Tryz.prog 7 #[.pointer (some ⟨vb, 0, none⟩), .slice ao al.length ac, .int .i64 st] w fun e w' => NewSaid w M al st e w' := by
  have HC : Hid (∀ w', Below w.heap.size w w' → Calls Tryz.prog 15 #[.slice ao al.length ac] w' fun e w'' => CloneSaid w' al al.length e w'') := fun w' hb => sclone_any al ao ac (h.below hb) hl
  have HV : Hid (VIs w vb m M) := hv
  obtain ⟨n, hn⟩ : ∃ n, n = al.length := ⟨_, rfl⟩
  have HN : Hid (n = al.length) := hn
  rw [← hn] at HC ⊢
  clear hn h hv
  go_enter Tryz.func7, Tryz.ntmps7
  go_wp2_with fail
  go_at_call 15
  refine (HC.out _ (Below.refl _ _)).mono ?_
  rintro e w1 ⟨oa, ca, rfl, h1, h2, hb1⟩
  have HE : Hid (NewSaid w M al st (.returned (.pointer (some ⟨w1.heap.size, 0, none⟩))) (w1.alloc (.cells #[.pointer (some ⟨vb, 0, none⟩), .slice oa n ca, .int .i64 st, .string ⟨#[]⟩] 56))) := by
    have hb2 : Below w1.heap.size w1 (w1.alloc (.cells #[.pointer (some ⟨vb, 0, none⟩), .slice oa n ca, .int .i64 st, .string ⟨#[]⟩] 56)) := (Below.refl _ _).alloc (Nat.le_refl _) _
    exact ⟨_, vb, m, oa, ca, rfl, ⟨by rw [← HN.out]; exact heap_alloc_new _ _, (HV.out.below hb1).below hb2, h1.below hb2, by rw [← HN.out]; exact h2⟩, hb1.trans (hb2.mono hb1.size)⟩
  clear h1 HC
  go_wp2
  go_ret
  exact HE.out
set_option maxHeartbeats 1600000 in
set_option maxRecDepth 100000 in
theorem new_nil {w : World} (al : List ByteArray) (ao : Option Addr) (ac : Nat) (h : TextsAt w ao al) (hl : al.length ≤ 40) (st : Int) : Calls Tryz.prog 7 #[.pointer none, .slice ao al.length ac, .int .i64 st] w fun e w' => NewSaid w [] al st e w' := by
  have HC : Hid (∀ w', Below w.heap.size w w' → Calls Tryz.prog 15 #[.slice ao al.length ac] w' fun e w'' => CloneSaid w' al al.length e w'') := fun w' hb => sclone_any al ao ac (h.below hb) hl
  obtain ⟨n, hn⟩ : ∃ n, n = al.length := ⟨_, rfl⟩
  have HN : Hid (n = al.length) := hn
  rw [← hn] at HC ⊢
  clear hn h
  have hb0 : Below w.heap.size w (w.alloc (.cells #[.map none] 45)) := (Below.refl _ _).alloc (Nat.le_refl _) _
  have HV : Hid (VIs (w.alloc (.cells #[.map none] 45)) w.heap.size none []) := ⟨heap_alloc_new _ _, .inl ⟨rfl, rfl⟩⟩
  go_enter Tryz.func7, Tryz.ntmps7
  go_wp2_with fail
  go_at_call 15
  refine (HC.out _ hb0).mono ?_
  rintro e w1 ⟨oa, ca, rfl, h1, h2, hb1⟩
  have HE : Hid (NewSaid w [] al st (.returned (.pointer (some ⟨w1.heap.size, 0, none⟩))) (w1.alloc (.cells #[.pointer (some ⟨w.heap.size, 0, none⟩), .slice oa n ca, .int .i64 st, .string ⟨#[]⟩] 56))) := by
    have hb2 : Below w1.heap.size w1 (w1.alloc (.cells #[.pointer (some ⟨w.heap.size, 0, none⟩), .slice oa n ca, .int .i64 st, .string ⟨#[]⟩] 56)) := (Below.refl _ _).alloc (Nat.le_refl _) _
    exact ⟨_, w.heap.size, none, oa, ca, rfl, ⟨by rw [← HN.out]; exact heap_alloc_new _ _, (HV.out.below hb1).below hb2, h1.below hb2, by rw [← HN.out]; exact h2⟩, hb0.trans ((hb1.trans (hb2.mono hb1.size)).mono hb0.size)⟩
  clear h1 HC
  go_wp2
  go_ret
  exact HE.out
end
end Go.Proofs.YtaikgomojnfimaaGreatDoor
