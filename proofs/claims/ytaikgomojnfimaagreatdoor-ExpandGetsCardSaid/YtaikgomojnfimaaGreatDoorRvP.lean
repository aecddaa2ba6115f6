/-
  PutPair, walked.
-/
import Derived.Test.YtaikgomojnfimaaGreatDoorRvO
import Derived.BigQuiet
import Derived.Deep.QuietTactic
import Derived.Deep.RegionLaw
import Derived.Deep.RegionWith
import Derived.Deep.RegionHeld3
import Derived.RegionTactic
import Derived.WalkKit
import Derived.WalkSpells
import Derived.StillTactics
import Derived.LoopIn
import Derived.RowKit3
import Derived.Below
import Derived.OwnWalk
import Derived.KernelRfl
open Go Go.Mx Go.RowKit
namespace Go.Proofs.YtaikgomojnfimaaGreatDoor
set_option maxRecDepth 100000
noncomputable section
/-! PutPair -/
set_option maxHeartbeats 3200000 in
set_option maxRecDepth 100000 in
theorem putpair_any {w : World} {L : ML} {o : Option Addr} {cap : Nat} (hP : PairsAt w o L) (hroom : L.length ≤ cap) (hnil : o = none → cap = 0) (hL : L.length ≤ 1000) (key v : ByteArray) :
    Calls Tryz.prog 35 #[.slice o L.length cap, .agg #[.string key, .string v]] w fun e w' => PutSaid w L.length L key v e w' := by
  have HR : Hid (∀ w', Below w.heap.size w w' → PairsAt w' o L) := fun w' hb => hP.below hb
  obtain ⟨n, hn⟩ : ∃ n, n = L.length := ⟨_, rfl⟩
  have HN : Hid (n = L.length) := hn
  rw [← hn] at hroom hL ⊢
  clear hn hP
  obtain ⟨W1, hW1⟩ : ∃ W1, W1 = w.alloc (.cells #[.string key, .string v] 49) := ⟨_, rfl⟩
  have hb1 : Below w.heap.size w W1 := by rw [hW1]; exact (Below.refl _ _).alloc (Nat.le_refl _) _
  have hx1 : W1.heap[w.heap.size]? = some (.cells #[.string key, .string v] 49) := by rw [hW1]; exact heap_alloc_new _ _
  go_enter Tryz.func35, Tryz.ntmps35
  go_wp2_with fail
  rw [← hW1]
  have HB : Hid (Below w.heap.size w W1 ∧ W1.heap[w.heap.size]? = some (.cells #[.string key, .string v] 49)) := ⟨hb1, hx1⟩
  clear hW1 hb1 hx1
  go_loopw [5] (fun i wr => Below W1.heap.size W1 wr ∧ ∃ k : Nat, k ≤ n ∧ i = .int .i64 k ∧ ∀ j (h : j < L.length), j < k → (key == L[j].1) = false) (fun i _ => n - (intOf i).toNat)
  case atStart => exact ⟨Below.refl _ _, 0, Nat.zero_le _, rfl, fun _ _ h => absurd h (Nat.not_lt_zero _)⟩
  case round =>
    obtain ⟨hbr, k, hk, rfl, hno⟩ := hrel
    have hwl : w.heap.size < W1.heap.size := (Array.getElem?_eq_some_iff.1 HB.out.2).1
    have y0 : wr.cell? ⟨w.heap.size, 0, none⟩ = some (.string key) := (hbr.cell (by exact hwl)).trans (by rw [cell_u HB.out.2]; rfl)
    have y1 : wr.cell? ⟨w.heap.size, 1, none⟩ = some (.string v) := (hbr.cell (by exact hwl)).trans (by rw [cell_u HB.out.2]; rfl)
    have hbw := HB.out.1.trans (hbr.mono HB.out.1.size)
    by_cases hlt : k < n
    · have hkL : k < L.length := by rw [← HN.out]; exact hlt
      rcases HR.out wr hbw with h0 | ⟨g, off, rfl, hg, hcells⟩
      · rw [h0] at hkL; exact absurd hkL (Nat.not_lt_zero _)
      obtain ⟨x1, x2⟩ := hcells k hkL
      have hlt' : (k : Int) < (n : Int) := by omega
      obtain ⟨s1, hs1⟩ : ∃ s, s = L[k].1 := ⟨_, rfl⟩
      rw [← hs1] at x1
      have HS : Hid (s1 = L[k].1) := hs1
      clear hcells x2 hs1
      cases hle : Op.bytesLess s1.toList key.toList with
      | true =>
        have HO : Hid (∀ j (h : j < L.length), j < k + 1 → (key == L[j].1) = false) := fun j hj h1 => by
          by_cases e : j = k
          · subst e
            rw [← HS.out]
            cases h2 : key == s1 with
            | false => rfl
            | true => rw [ba_of h2, less_irr] at hle; cases hle
          · exact hno j hj (by omega)
        clear hno
        go_wp2_with fail
        go_quiet (fail)
        go_wp2
        go_roundw
        case rel => exact ⟨⟨hbr.os, hbr.tape, hbr.output, hbr.size, hbr.block⟩, k + 1, by omega, by go_num, HO.out⟩
        case measure => simp [intOf]; omega
      | false =>
        have HO : Hid (∀ j (h : j < L.length), j < k → (key == L[j].1) = false) := hno
        clear hno
        cases heq : s1 == key with
        | true =>
          have heq' := (tl_eq s1 key).trans heq
          go_wp2_with fail
          go_quiet (fail)
          go_wp2_with fail
          go_quiet (fail)
          go_wp2_with fail
          have hk2 : (L.take k).length = k := by rw [List.length_take]; omega
          have hd2 : (L.drop (k + 1)).length = n - (k + 1) := by rw [List.length_drop, ← HN.out]
          have HT : Hid (∀ w', Below w.heap.size w w' → PairsAt w' (some ⟨g, off, none⟩) (L.take k) ∧ PairsAt w' (some ⟨g, off, none⟩) L) := fun w' hb => ⟨(HR.out w' hb).take k, HR.out w' hb⟩
          have hbs := hbr.size
          have hkc : k ≤ cap := by omega
          have hkc2 : (k + 1) ≤ cap := by omega
          have hlc : L.length ≤ cap := by rw [← HN.out]; exact hroom
          go_region_law
            (first
              | (rw [if_pos (by rfl)]; refine wp_append_pairs _ _ rfl _ W1.heap.size (.slice none 0 0) [] rfl (World.ownsRow_nil _ _ _ _) (L.take k) k hk2 (some ⟨g, off, none⟩) cap rfl (by first | exact (HT.out _ ⟨hbw.os, hbw.tape, hbw.output, hbw.size, hbw.block⟩).1 | exact (HT.out _ (Below.alloc ⟨hbw.os, hbw.tape, hbw.output, hbw.size, hbw.block⟩ (by exact hbw.size) _)).1) (by first | (simp; done) | (simp; omega)) (by first | exact hbs | exact Nat.le_trans hbs (by simp)) ?_; intro v2 w2 hown2 hgr2; rw [List.nil_append] at hown2;
                 have hbW2 : Below W1.heap.size W1 w2 := (by refine Below.grown ?_ hgr2 ?_ ?_; (first | exact ⟨hbr.os, hbr.tape, hbr.output, hbr.size, hbr.block⟩ | (refine Below.alloc ?_ ?_ _; exact ⟨hbr.os, hbr.tape, hbr.output, hbr.size, hbr.block⟩; exact hbs)); (first | exact hbs | exact Nat.le_trans hbs (by simp)); (intro k h; cases h));
                 obtain ⟨o2, c2, hv2⟩ : ∃ o c, v2 = .slice o k c := (by obtain ⟨o, c, e, _⟩ := own_pairs hown2; exact ⟨o, c, by rw [e, hk2]⟩); subst hv2;
                 have z0 : w2.cell? ⟨w.heap.size, 0, none⟩ = some (.string key) := (hbW2.cell (by exact hwl)).trans (by rw [cell_u HB.out.2]; rfl); have z1 : w2.cell? ⟨w.heap.size, 1, none⟩ = some (.string v) := (hbW2.cell (by exact hwl)).trans (by rw [cell_u HB.out.2]; rfl))
              | (have hgB := hown2; clear hgB; rw [if_pos (by rfl)]; refine wp_append_pairs _ _ rfl _ W1.heap.size (.slice o2 k c2) (L.take k) rfl (by first | exact own_pairs_alloc hown2 _ | exact hown2) [(key, v)] 1 rfl _ 1 rfl (by first | exact one_pair w2 key v | exact (one_pair _ key v).below ⟨hgr2.os, hgr2.tape, hgr2.output, hgr2.size, fun j hj => hgr2.block j hj (fun h => by cases h)⟩) (by rw [hk2]; omega) (by first | exact Nat.le_trans hbW2.size (by simp) | exact hbW2.size) ?_; intro v3 w3 hown3 hgr3;
                 have hbW3 : Below W1.heap.size W1 w3 := (by refine Below.grown ?_ hgr3 ?_ ?_; (first | exact hbW2 | exact hbW2.alloc hbW2.size _); (first | exact hbW2.size | exact Nat.le_trans hbW2.size (by simp)); (exact fun j hj => (hown2.lt j hj).1));
                 obtain ⟨o3, m3, c3, hv3⟩ : ∃ o m c, v3 = .slice o m c := (by obtain ⟨o, c, e, _⟩ := own_pairs hown3; exact ⟨o, _, c, e⟩); subst hv3; clear hown2 hgr2 hgr3))
          all_goals
            have hbw3 := HB.out.1.trans (hbW3.mono HB.out.1.size)
            go_wp2_with (at_builtin; refine wpList_append_pairs rfl _ _ rfl _ W1.heap.size _ (L.take k ++ [(key, v)]) rfl (by exact hown3) (L.drop (k + 1)) (n - (k + 1)) hd2 _ _ rfl (by first | exact pairs_drop_if (HT.out _ hbw3).2 _ _ hlc | exact pairs_drop (HT.out _ hbw3).2 _ _ (.inl rfl)) (by first | (simp; done) | (simp; omega)) (by exact hbW3.size) ?_)
            all_goals
              intro v9 w9 hown9 hgr9
              have e1 : ((L.take k ++ [(key, v)]) ++ L.drop (k + 1)) = L.take k ++ (key, v) :: L.drop (k + 1) := by simp
              have e2 : ((L.take k ++ [(key, v)]) ++ L.drop (k + 1)).length = k + (n - (k + 1) + 1) := by rw [List.length_append, List.length_append, hk2, hd2]; simp; omega
              have hown9' : w9.ownsRow W1.heap.size 49 2 v9 ((L.take k ++ [(key, v)]) ++ L.drop (k + 1)).length (cellsP ((L.take k ++ [(key, v)]) ++ L.drop (k + 1))) := by first | (rw [e2, e1]; exact hown9) | (rw [e1]; simpa [hk2, hd2] using hown9)
              have hbW9 : Below w.heap.size w w9 := hbw3.grown hgr9 hbw3.size (fun j hj => Nat.le_trans (Nat.le_of_lt hwl) (hown3.lt j hj).1)
              have hEnd : Hid (PutSaid w n L key v (.returned v9) w9) := by rw [HN.out]; exact put_end (k := k) (tl := k + 1) HO.out (Nat.le_trans hk (Nat.le_of_eq HN.out)) (.inr ⟨rfl, hkL, by rw [ba_comm, ← HS.out]; exact heq⟩) hbW9 hown9'
              obtain ⟨o9, m9, c9, hv9⟩ : ∃ o m c, v9 = .slice o m c := by obtain ⟨o, c, e, _⟩ := own_pairs hown9'; exact ⟨o, _, c, e⟩
              subst hv9
              clear hown9 hown9' hgr9 e1 e2
              go_wp2
              go_ret
              exact hEnd.out
        | false =>
          have heq' := (tl_eq s1 key).trans heq
          go_wp2_with fail
          go_quiet (fail)
          go_wp2_with fail
          go_quiet (fail)
          go_wp2_with fail
          have hk2 : (L.take k).length = k := by rw [List.length_take]; omega
          have hd2 : (L.drop k).length = n - k := by rw [List.length_drop, ← HN.out]
          have HT : Hid (∀ w', Below w.heap.size w w' → PairsAt w' (some ⟨g, off, none⟩) (L.take k) ∧ PairsAt w' (some ⟨g, off, none⟩) L) := fun w' hb => ⟨(HR.out w' hb).take k, HR.out w' hb⟩
          have hbs := hbr.size
          have hkc : k ≤ cap := by omega
          have hkc2 : k ≤ cap := by omega
          have hlc : L.length ≤ cap := by rw [← HN.out]; exact hroom
          go_region_law
            (first
              | (rw [if_pos (by rfl)]; refine wp_append_pairs _ _ rfl _ W1.heap.size (.slice none 0 0) [] rfl (World.ownsRow_nil _ _ _ _) (L.take k) k hk2 (some ⟨g, off, none⟩) cap rfl (by first | exact (HT.out _ ⟨hbw.os, hbw.tape, hbw.output, hbw.size, hbw.block⟩).1 | exact (HT.out _ (Below.alloc ⟨hbw.os, hbw.tape, hbw.output, hbw.size, hbw.block⟩ (by exact hbw.size) _)).1) (by first | (simp; done) | (simp; omega)) (by first | exact hbs | exact Nat.le_trans hbs (by simp)) ?_; intro v2 w2 hown2 hgr2; rw [List.nil_append] at hown2;
                 have hbW2 : Below W1.heap.size W1 w2 := (by refine Below.grown ?_ hgr2 ?_ ?_; (first | exact ⟨hbr.os, hbr.tape, hbr.output, hbr.size, hbr.block⟩ | (refine Below.alloc ?_ ?_ _; exact ⟨hbr.os, hbr.tape, hbr.output, hbr.size, hbr.block⟩; exact hbs)); (first | exact hbs | exact Nat.le_trans hbs (by simp)); (intro k h; cases h));
                 obtain ⟨o2, c2, hv2⟩ : ∃ o c, v2 = .slice o k c := (by obtain ⟨o, c, e, _⟩ := own_pairs hown2; exact ⟨o, c, by rw [e, hk2]⟩); subst hv2;
                 have z0 : w2.cell? ⟨w.heap.size, 0, none⟩ = some (.string key) := (hbW2.cell (by exact hwl)).trans (by rw [cell_u HB.out.2]; rfl); have z1 : w2.cell? ⟨w.heap.size, 1, none⟩ = some (.string v) := (hbW2.cell (by exact hwl)).trans (by rw [cell_u HB.out.2]; rfl))
              | (have hgB := hown2; clear hgB; rw [if_pos (by rfl)]; refine wp_append_pairs _ _ rfl _ W1.heap.size (.slice o2 k c2) (L.take k) rfl (by first | exact own_pairs_alloc hown2 _ | exact hown2) [(key, v)] 1 rfl _ 1 rfl (by first | exact one_pair w2 key v | exact (one_pair _ key v).below ⟨hgr2.os, hgr2.tape, hgr2.output, hgr2.size, fun j hj => hgr2.block j hj (fun h => by cases h)⟩) (by rw [hk2]; omega) (by first | exact Nat.le_trans hbW2.size (by simp) | exact hbW2.size) ?_; intro v3 w3 hown3 hgr3;
                 have hbW3 : Below W1.heap.size W1 w3 := (by refine Below.grown ?_ hgr3 ?_ ?_; (first | exact hbW2 | exact hbW2.alloc hbW2.size _); (first | exact hbW2.size | exact Nat.le_trans hbW2.size (by simp)); (exact fun j hj => (hown2.lt j hj).1));
                 obtain ⟨o3, m3, c3, hv3⟩ : ∃ o m c, v3 = .slice o m c := (by obtain ⟨o, c, e, _⟩ := own_pairs hown3; exact ⟨o, _, c, e⟩); subst hv3; clear hown2 hgr2 hgr3))
          all_goals
            have hbw3 := HB.out.1.trans (hbW3.mono HB.out.1.size)
            go_wp2_with (at_builtin; refine wpList_append_pairs rfl _ _ rfl _ W1.heap.size _ (L.take k ++ [(key, v)]) rfl (by exact hown3) (L.drop k) (n - k) hd2 _ _ rfl (by first | exact pairs_drop_if (HT.out _ hbw3).2 _ _ hlc | exact pairs_drop (HT.out _ hbw3).2 _ _ (.inl rfl)) (by first | (simp; done) | (simp; omega)) (by exact hbW3.size) ?_)
            all_goals
              intro v9 w9 hown9 hgr9
              have e1 : ((L.take k ++ [(key, v)]) ++ L.drop k) = L.take k ++ (key, v) :: L.drop k := by simp
              have e2 : ((L.take k ++ [(key, v)]) ++ L.drop k).length = k + (n - k + 1) := by rw [List.length_append, List.length_append, hk2, hd2]; simp; omega
              have hown9' : w9.ownsRow W1.heap.size 49 2 v9 ((L.take k ++ [(key, v)]) ++ L.drop k).length (cellsP ((L.take k ++ [(key, v)]) ++ L.drop k)) := by first | (rw [e2, e1]; exact hown9) | (rw [e1]; simpa [hk2, hd2] using hown9)
              have hbW9 : Below w.heap.size w w9 := hbw3.grown hgr9 hbw3.size (fun j hj => Nat.le_trans (Nat.le_of_lt hwl) (hown3.lt j hj).1)
              have hEnd : Hid (PutSaid w n L key v (.returned v9) w9) := by rw [HN.out]; exact put_end (k := k) (tl := k) HO.out (Nat.le_trans hk (Nat.le_of_eq HN.out)) (.inl rfl) hbW9 hown9'
              obtain ⟨o9, m9, c9, hv9⟩ : ∃ o m c, v9 = .slice o m c := by obtain ⟨o, c, e, _⟩ := own_pairs hown9'; exact ⟨o, _, c, e⟩
              subst hv9
              clear hown9 hown9' hgr9 e1 e2
              go_wp2
              go_ret
              exact hEnd.out
    · have hkn : k = n := by omega
      subst hkn
      have HO : Hid (∀ j (h : j < L.length), j < k → (key == L[j].1) = false) := hno
      clear hno
      cases o with
      | none =>
        have hc0 := hnil rfl
        subst hc0
        have hk0 : k = 0 := by omega
        subst hk0
        go_wp2_with fail
        go_quiet (fail)
        go_wp2_with fail
        go_quiet (fail)
        go_wp2_with fail
        have hL0 : L = [] := List.eq_nil_of_length_eq_zero HN.out.symm
        have hD : L.drop 0 = [] := by rw [hL0]; rfl
        have hT0 : L.take 0 = [] := rfl
        have hbs := hbr.size
        go_region_law
          (first
            | (rw [if_pos (by rfl)]; refine wp_append_pairs _ _ rfl _ W1.heap.size (.slice none 0 0) [] rfl (World.ownsRow_nil _ _ _ _) [] 0 rfl none 0 rfl (.inl rfl) (by simp) (by first | exact hbs | exact Nat.le_trans hbs (by simp)) ?_; intro v2 w2 hown2 hgr2; rw [List.nil_append] at hown2;
               have hbW2 : Below W1.heap.size W1 w2 := (by refine Below.grown ?_ hgr2 ?_ ?_; (first | exact ⟨hbr.os, hbr.tape, hbr.output, hbr.size, hbr.block⟩ | (refine Below.alloc ?_ ?_ _; exact ⟨hbr.os, hbr.tape, hbr.output, hbr.size, hbr.block⟩; exact hbs)); (first | exact hbs | exact Nat.le_trans hbs (by simp)); (intro k h; cases h));
               obtain ⟨o2, c2, hv2⟩ : ∃ o c, v2 = .slice o 0 c := (by obtain ⟨o, c, e, _⟩ := own_pairs hown2; exact ⟨o, c, e⟩); subst hv2;
               have z0 : w2.cell? ⟨w.heap.size, 0, none⟩ = some (.string key) := (hbW2.cell (by exact hwl)).trans (by rw [cell_u HB.out.2]; rfl); have z1 : w2.cell? ⟨w.heap.size, 1, none⟩ = some (.string v) := (hbW2.cell (by exact hwl)).trans (by rw [cell_u HB.out.2]; rfl))
            | (have hgB := hown2; clear hgB; rw [if_pos (by rfl)]; refine wp_append_pairs _ _ rfl _ W1.heap.size (.slice o2 0 c2) [] rfl (by first | exact own_pairs_alloc hown2 _ | exact hown2) [(key, v)] 1 rfl _ 1 rfl (by first | exact one_pair w2 key v | exact (one_pair _ key v).below ⟨hgr2.os, hgr2.tape, hgr2.output, hgr2.size, fun j hj => hgr2.block j hj (fun h => by cases h)⟩) (by simp) (by first | exact Nat.le_trans hbW2.size (by simp) | exact hbW2.size) ?_; intro v3 w3 hown3 hgr3;
               have hbW3 : Below W1.heap.size W1 w3 := (by refine Below.grown ?_ hgr3 ?_ ?_; (first | exact hbW2 | exact hbW2.alloc hbW2.size _); (first | exact hbW2.size | exact Nat.le_trans hbW2.size (by simp)); (exact fun j hj => (hown2.lt j hj).1));
               obtain ⟨o3, m3, c3, hv3⟩ : ∃ o m c, v3 = .slice o m c := (by obtain ⟨o, c, e, _⟩ := own_pairs hown3; exact ⟨o, _, c, e⟩); subst hv3; clear hown2 hgr2 hgr3))
        all_goals
          have hbw3 := HB.out.1.trans (hbW3.mono HB.out.1.size)
          go_wp2_with (at_builtin; refine wpList_append_pairs rfl _ _ rfl _ W1.heap.size _ ([] ++ [(key, v)]) rfl (by exact hown3) [] 0 rfl _ _ rfl (.inl rfl) (by first | (simp; done) | (simp; omega)) (by exact hbW3.size) ?_)
          all_goals
            intro v9 w9 hown9 hgr9
            have hown9' : w9.ownsRow W1.heap.size 49 2 v9 ((L.take 0 ++ [(key, v)]) ++ L.drop 0).length (cellsP ((L.take 0 ++ [(key, v)]) ++ L.drop 0)) := by rw [hD, hT0, List.append_nil]; simpa using hown9
            have hbW9 : Below w.heap.size w w9 := hbw3.grown hgr9 hbw3.size (fun j hj => Nat.le_trans (Nat.le_of_lt hwl) (hown3.lt j hj).1)
            have hEnd : Hid (PutSaid w 0 L key v (.returned v9) w9) := by rw [HN.out]; exact put_end (k := 0) (tl := 0) HO.out (Nat.zero_le _) (.inl rfl) hbW9 hown9'
            obtain ⟨o9, m9, c9, hv9⟩ : ∃ o m c, v9 = .slice o m c := by obtain ⟨o, c, e, _⟩ := own_pairs hown9'; exact ⟨o, _, c, e⟩
            subst hv9
            clear hown9 hown9' hgr9
            go_wp2
            go_ret
            exact hEnd.out
      | some a =>
        go_wp2_with fail
        go_quiet (fail)
        go_wp2_with fail
        go_quiet (fail)
        go_wp2_with fail
        have hk2 : (L.take k).length = k := by rw [List.length_take, ← HN.out]; omega
        have hD : L.drop k = [] := List.drop_eq_nil_of_le (Nat.le_of_eq HN.out.symm)
        have HT : Hid (∀ w', Below w.heap.size w w' → PairsAt w' (some a) (L.take k) ∧ PairsAt w' (some a) L) := fun w' hb => ⟨(HR.out w' hb).take k, HR.out w' hb⟩
        have hbs := hbr.size
        have hkc : k ≤ cap := by omega
        have hkc2 : k ≤ cap := by omega
        have hlc : L.length ≤ cap := by rw [← HN.out]; exact hroom
        go_region_law
          (first
            | (rw [if_pos (by rfl)]; refine wp_append_pairs _ _ rfl _ W1.heap.size (.slice none 0 0) [] rfl (World.ownsRow_nil _ _ _ _) (L.take k) k hk2 (some a) cap rfl (by first | exact (HT.out _ ⟨hbw.os, hbw.tape, hbw.output, hbw.size, hbw.block⟩).1 | exact (HT.out _ (Below.alloc ⟨hbw.os, hbw.tape, hbw.output, hbw.size, hbw.block⟩ (by exact hbw.size) _)).1) (by first | (simp; done) | (simp; omega)) (by first | exact hbs | exact Nat.le_trans hbs (by simp)) ?_; intro v2 w2 hown2 hgr2; rw [List.nil_append] at hown2;
               have hbW2 : Below W1.heap.size W1 w2 := (by refine Below.grown ?_ hgr2 ?_ ?_; (first | exact ⟨hbr.os, hbr.tape, hbr.output, hbr.size, hbr.block⟩ | (refine Below.alloc ?_ ?_ _; exact ⟨hbr.os, hbr.tape, hbr.output, hbr.size, hbr.block⟩; exact hbs)); (first | exact hbs | exact Nat.le_trans hbs (by simp)); (intro k h; cases h));
               obtain ⟨o2, c2, hv2⟩ : ∃ o c, v2 = .slice o k c := (by obtain ⟨o, c, e, _⟩ := own_pairs hown2; exact ⟨o, c, by rw [e, hk2]⟩); subst hv2;
               have z0 : w2.cell? ⟨w.heap.size, 0, none⟩ = some (.string key) := (hbW2.cell (by exact hwl)).trans (by rw [cell_u HB.out.2]; rfl); have z1 : w2.cell? ⟨w.heap.size, 1, none⟩ = some (.string v) := (hbW2.cell (by exact hwl)).trans (by rw [cell_u HB.out.2]; rfl))
            | (have hgB := hown2; clear hgB; rw [if_pos (by rfl)]; refine wp_append_pairs _ _ rfl _ W1.heap.size (.slice o2 k c2) (L.take k) rfl (by first | exact own_pairs_alloc hown2 _ | exact hown2) [(key, v)] 1 rfl _ 1 rfl (by first | exact one_pair w2 key v | exact (one_pair _ key v).below ⟨hgr2.os, hgr2.tape, hgr2.output, hgr2.size, fun j hj => hgr2.block j hj (fun h => by cases h)⟩) (by rw [hk2]; omega) (by first | exact Nat.le_trans hbW2.size (by simp) | exact hbW2.size) ?_; intro v3 w3 hown3 hgr3;
               have hbW3 : Below W1.heap.size W1 w3 := (by refine Below.grown ?_ hgr3 ?_ ?_; (first | exact hbW2 | exact hbW2.alloc hbW2.size _); (first | exact hbW2.size | exact Nat.le_trans hbW2.size (by simp)); (exact fun j hj => (hown2.lt j hj).1));
               obtain ⟨o3, m3, c3, hv3⟩ : ∃ o m c, v3 = .slice o m c := (by obtain ⟨o, c, e, _⟩ := own_pairs hown3; exact ⟨o, _, c, e⟩); subst hv3; clear hown2 hgr2 hgr3))
        all_goals
          have hbw3 := HB.out.1.trans (hbW3.mono HB.out.1.size)
          go_wp2_with (at_builtin; refine wpList_append_pairs rfl _ _ rfl _ W1.heap.size _ (L.take k ++ [(key, v)]) rfl (by exact hown3) [] 0 rfl _ _ rfl (.inl rfl) (by first | (simp; done) | (simp; omega)) (by exact hbW3.size) ?_)
          all_goals
            intro v9 w9 hown9 hgr9
            have hown9' : w9.ownsRow W1.heap.size 49 2 v9 ((L.take k ++ [(key, v)]) ++ L.drop k).length (cellsP ((L.take k ++ [(key, v)]) ++ L.drop k)) := by rw [hD, List.append_nil]; simpa [hk2] using hown9
            have hbW9 : Below w.heap.size w w9 := hbw3.grown hgr9 hbw3.size (fun j hj => Nat.le_trans (Nat.le_of_lt hwl) (hown3.lt j hj).1)
            have hEnd : Hid (PutSaid w k L key v (.returned v9) w9) := by rw [HN.out]; exact put_end (k := k) (tl := k) HO.out (Nat.le_of_eq HN.out) (.inl rfl) hbW9 hown9'
            obtain ⟨o9, m9, c9, hv9⟩ : ∃ o m c, v9 = .slice o m c := by obtain ⟨o, c, e, _⟩ := own_pairs hown9'; exact ⟨o, _, c, e⟩
            subst hv9
            clear hown9 hown9' hgr9
            go_wp2
            go_ret
            exact hEnd.out
end
end Go.Proofs.YtaikgomojnfimaaGreatDoor
