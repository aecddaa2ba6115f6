/-
  The same given to both.
-/
import Derived.Test.YtaikgomojnfimaaGreatDoorRvS
import Derived.BigQuiet
import Derived.Deep.QuietTactic
import Derived.Deep.RegionLaw
import Derived.Deep.RegionWith
import Derived.Deep.RegionHeld3
import Derived.RegionTactic
import Derived.WalkKit
import Derived.WalkSpells
import Derived.StillTactics
import Derived.LoopIn
import Derived.RowKit3
import Derived.Below
import Derived.OwnWalk
import Derived.KernelRfl
open Go Go.Mx Go.RowKit
namespace Go.Proofs.YtaikgomojnfimaaGreatDoor
set_option maxRecDepth 100000
noncomputable section
/-! the law's set: both kinds of parameters are given the same -/
theorem RIs.butV {w w1 : World} {rb vb : Nat} {L M : ML} {o : Option Addr} {cap : Nat} {m : Option Nat} (h : RIs w rb L o cap) (hv : VIs w vb m M) (hb : ButV w w1 vb m) : RIs w1 rb L o cap := by
  have hlt : rb < w.heap.size := (Array.getElem?_eq_some_iff.1 h.r).1
  have n1 : rb ≠ vb := fun e => by
    have := h.r
    rw [e, hv.v] at this
    injection this with this
    injection this with _ this _
    exact absurd this (by decide)
  have nm : ∀ j, (∃ a t f, w.heap[j]? = some (.cells a t f)) → some j ≠ m := fun j hj e => by
    obtain ⟨a, t, f, hj⟩ := hj
    rcases hv.map with ⟨h1, _⟩ | ⟨mb, es, cl, h1, h2, _⟩
    · rw [h1] at e; cases e
    · rw [h1] at e
      cases e
      rw [h2] at hj
      cases hj
  refine ⟨by rw [hb.kept rb hlt n1 (nm rb ⟨_, _, _, h.r⟩)]; exact h.r, ?_, h.room⟩
  rcases h.rows with h0 | ⟨g, off, e1, e2, e3⟩
  · exact .inl h0
  · by_cases hL : L = []
    · exact .inl hL
    · have hz : 0 < L.length := List.length_pos_iff.2 hL
      have hc := (e3 0 hz).1
      have hcs : ∃ a t f, w.heap[g]? = some (.cells a t f) := by
        unfold World.cell? at hc
        split at hc
        · rename_i a t f hh; exact ⟨a, t, f, hh⟩
        · cases hc
      have ng : g ≠ vb := fun e => by
        rw [e, cell_u hv.v] at hc
        have hlen : off + 0 * 2 < 1 := by simpa using (Array.getElem?_eq_some_iff.1 hc).1
        have h0 : off + 0 * 2 = 0 := by omega
        rw [h0] at hc
        cases hc
      have hk := hb.kept g e2 ng (nm g hcs)
      refine .inr ⟨g, off, e1, Nat.lt_of_lt_of_le e2 hb.size, fun i hi => ?_⟩
      unfold World.cell? at e3 ⊢
      rw [hk]
      exact e3 i hi
/-- both kinds of parameters, in blocks of their own, look the same -/
structure SS (W w : World) (vb rb k : Nat) : Prop where
  below : Below W.heap.size W w
  levb : W.heap.size ≤ vb
  lerb : W.heap.size ≤ rb
  ex : ∃ m M L o cap, VIs w vb m M ∧ RIs w rb L o cap ∧ (o = none → cap = 0) ∧ (∀ q, look M q = look L q) ∧ M.length ≤ k ∧ L.length ≤ k ∧ (∀ mb, m = some mb → W.heap.size ≤ mb)
theorem setF_len (M : ML) (k v : ByteArray) : (setF M k v).length ≤ M.length + 1 := by
  unfold setF
  split
  · exact put_len M k v
  · omega
theorem look_setF {M L : ML} (h : ∀ q, look M q = look L q) (k v q : ByteArray) : look (setF M k v) q = look (setF L k v) q := by
  unfold setF
  split
  · rw [look_put, look_put, h q]
  · exact h q
/-- behind both Sets -/
theorem SS.step {W w w1 w2 : World} {vb rb k : Nat} {m : Option Nat} {M L : ML} {o : Option Addr} {cap : Nat} {s v : ByteArray} {e1 e2 : Ending} (hb : Below W.heap.size W w) (hvb : W.heap.size ≤ vb) (hrb : W.heap.size ≤ rb) (_hv : VIs w vb m M) (hr : RIs w rb L o cap) (hlook : ∀ q, look M q = look L q) (hM : M.length ≤ k) (hL : L.length ≤ k) (hm : ∀ mb, m = some mb → W.heap.size ≤ mb)
    (h1 : SetSaid w vb m (setF M s v) e1 w1) (h2 : RSetSaid w1 rb L.length (LookSet L s v) e2 w2) : SS W w2 vb rb (k + 1) := by
  obtain ⟨_, m', hv1, hb1, hm1⟩ := h1
  obtain ⟨_, L', o', cap', hr2, hn2, hl2, hlen2, k1, k2, k3, k4, k5⟩ := h2
  have hlt : rb < w.heap.size := (Array.getElem?_eq_some_iff.1 hr.r).1
  have hz1 := hb1.size
  have hz := hb.size
  have hne : vb ≠ rb := fun e => by
    have := hv1.v
    rw [e] at this
    have h3 : w1.heap[rb]? = w.heap[rb]? ∨ True := .inr trivial
    have h4 := (hr.butV _hv hb1).r
    rw [this] at h4
    injection h4 with h4
    injection h4 with _ h4 _
    exact absurd h4 (by decide)
  have hm' : ∀ mb, m' = some mb → W.heap.size ≤ mb := fun mb e => by
    rcases hm1 mb e with h | h
    · exact hm mb h
    · omega
  have hv2 : VIs w2 vb m' (setF M s v) := by
    refine ⟨by rw [k5 vb hv1.lt hne]; exact hv1.v, hv1.map.same fun mb e => ?_⟩
    rcases hv1.map with ⟨h3, _⟩ | ⟨mb', es, cl, h3, h4, _⟩
    · rw [h3] at e; cases e
    · rw [h3] at e
      cases e
      refine k5 mb (Array.getElem?_eq_some_iff.1 h4).1 fun e => ?_
      have h6 := (hr.butV _hv hb1).r
      rw [← e, h4] at h6
      cases h6
  refine ⟨⟨k1.trans (hb1.os.trans hb.os), k2.trans (hb1.tape.trans hb.tape), k3.trans (hb1.output.trans hb.output), by omega, fun j hj => ?_⟩, hvb, hrb, m', _, L', o', cap', hv2, hr2, hn2, fun q => by rw [hl2 q]; exact look_setF hlook s v q, Nat.le_trans (setF_len M s v) (by omega), by omega, hm'⟩
  rw [k5 j (by omega) (by omega), hb1.kept j (by omega) (by omega) (fun e => by have := hm j e.symm; omega)]
  exact hb.block j hj
set_option maxHeartbeats 3200000 in
set_option maxRecDepth 100000 in
theorem lset_any {W : World} (Ll : ML) (lo : Option Addr) (lc : Nat) (hP : PairsAt W lo Ll) (hl : Ll.length ≤ 40) (hsz : ∀ x ∈ Ll, x.1.size ≤ 1100000 ∧ x.2.size ≤ 1100000) :
    Calls Tryz.prog 6 #[.slice lo Ll.length lc] W fun e w' => ∃ vb rb, e = .returned (.tuple #[.pointer (some ⟨vb, 0, none⟩), .pointer (some ⟨rb, 0, none⟩)]) ∧ SS W w' vb rb Ll.length := by
  have HP : Hid (∀ w, Below W.heap.size W w → PairsAt w lo Ll) := fun w hb => hP.below hb
  have HZ : Hid (∀ x ∈ Ll, x.1.size ≤ 1100000 ∧ x.2.size ≤ 1100000) := hsz
  obtain ⟨n, hn⟩ : ∃ n, n = Ll.length := ⟨_, rfl⟩
  have HN : Hid (n = Ll.length) := hn
  rw [← hn] at hl ⊢
  clear hn hP hsz
  obtain ⟨W2, hW2⟩ : ∃ W2, W2 = (W.alloc (.cells #[.map none] 45)).alloc (.cells #[.slice none 0 0] 51) := ⟨_, rfl⟩
  have g0 : W2.heap[W.heap.size]? = some (.cells #[.map none] 45) := by rw [hW2, Go.heap_alloc_old _ _ (by simp)]; exact heap_alloc_new _ _
  have g1 : W2.heap[W.heap.size + 1]? = some (.cells #[.slice none 0 0] 51) := by
    have := heap_alloc_new (W.alloc (.cells #[.map none] 45)) (.cells #[.slice none 0 0] 51)
    rw [hW2]
    simpa using this
  have hb2 : Below W.heap.size W W2 := by rw [hW2]; exact ((Below.refl _ _).alloc (Nat.le_refl _) _).alloc (by simp) _
  have HS : Hid (SS W W2 W.heap.size (W.heap.size + 1) 0) := ⟨hb2, Nat.le_refl _, Nat.le_succ _, none, [], [], none, 0, ⟨g0, .inl ⟨rfl, rfl⟩⟩, ⟨g1, .inl rfl, Nat.le_refl _⟩, fun _ => rfl, fun _ => rfl, Nat.le_refl _, Nat.le_refl _, fun _ h => by cases h⟩
  clear g0 g1 hb2
  go_enter Tryz.func6, Tryz.ntmps6
  go_wp2_with fail
  rw [← hW2]
  clear hW2
  obtain ⟨vb, hvb⟩ : ∃ vb, vb = W.heap.size := ⟨_, rfl⟩
  obtain ⟨rb, hrb⟩ : ∃ rb, rb = W.heap.size + 1 := ⟨_, rfl⟩
  have HS' : Hid (SS W W2 vb rb 0) := by rw [hvb, hrb]; exact HS.out
  have HVR : Hid (vb = W.heap.size ∧ rb = W.heap.size + 1) := ⟨hvb, hrb⟩
  rw [← hrb, ← hvb]
  clear hvb hrb HS
  go_loopw [6] (fun i wr => ∃ k : Nat, k ≤ n ∧ i = .int .i64 k ∧ SS W wr vb rb k) (fun i _ => n - (intOf i).toNat)
  case atStart => exact ⟨0, Nat.zero_le _, rfl, HS'.out⟩
  case round =>
    obtain ⟨k, hk, rfl, hss⟩ := hrel
    by_cases hlt : k < n
    · have hkL : k < Ll.length := by rw [← HN.out]; exact hlt
      rcases HP.out W (Below.refl _ _) with h0 | ⟨g, off, rfl, hg, hcells⟩
      · rw [h0] at hkL; exact absurd hkL (Nat.not_lt_zero _)
      obtain ⟨x1, x2⟩ := hcells k hkL
      have HCW : Hid (W.cell? ⟨g, off + k * 2, none⟩ = some (.string Ll[k].1) ∧ W.cell? ⟨g, off + k * 2 + 1, none⟩ = some (.string Ll[k].2)) := ⟨x1, x2⟩
      have x1 := (hss.below.cell (p := ⟨g, off + k * 2, none⟩) (by exact hg)).trans x1
      have x2 := (hss.below.cell (p := ⟨g, off + k * 2 + 1, none⟩) (by exact hg)).trans x2
      have hlt' : (k : Int) < (n : Int) := by omega
      obtain ⟨z1, z2⟩ := HZ.out Ll[k] (List.getElem_mem hkL)
      obtain ⟨s1, hs1⟩ : ∃ s, s = Ll[k].1 := ⟨_, rfl⟩
      obtain ⟨s2, hs2⟩ : ∃ s, s = Ll[k].2 := ⟨_, rfl⟩
      rw [← hs1] at x1 z1
      rw [← hs2] at x2 z2
      have HK : Hid (s1 = Ll[k].1 ∧ s2 = Ll[k].2) := ⟨hs1, hs2⟩
      obtain ⟨m, M, L, o, cap, q1, q2, q3, q4, q5, q6, q7⟩ := hss.ex
      have HQ : Hid (Below W.heap.size W wr ∧ W.heap.size ≤ vb ∧ W.heap.size ≤ rb ∧ VIs wr vb m M ∧ RIs wr rb L o cap ∧ (o = none → cap = 0) ∧ (∀ q, look M q = look L q) ∧ M.length ≤ k ∧ L.length ≤ k ∧ (∀ mb, m = some mb → W.heap.size ≤ mb)) := ⟨hss.below, hss.levb, hss.lerb, q1, q2, q3, q4, q5, q6, q7⟩
      have HV : Hid (∀ w', w'.heap = wr.heap → w'.os = wr.os → w'.tape = wr.tape → w'.output = wr.output → Calls Tryz.prog 13 #[.pointer (some ⟨vb, 0, none⟩), .string s1, .string s2] w' fun e w'' => SetSaid wr vb m (setF M s1 s2) e w'') := fun w' h1 h2 h3 h4 => by
        have hb : Below wr.heap.size wr w' := ⟨h2, h3, h4, by rw [h1]; exact Nat.le_refl _, fun j _ => by rw [h1]⟩
        refine (vset_any (q1.below hb) (by omega) s1 s2 z1 z2).mono ?_
        rintro e w'' ⟨hx, m', g1, g2, g3⟩
        exact ⟨hx, m', g1, ⟨g2.os.trans h2, g2.tape.trans h3, g2.output.trans h4, by rw [← h1]; exact g2.size, fun j hj a b => by rw [← h1]; exact g2.kept j (by rw [h1]; exact hj) a b⟩, fun mb e => by rw [← h1]; exact g3 mb e⟩
      clear hcells hs1 hs2 hss q1 q2 q3 q4 q5 q6 q7
      have HC : Hid (∀ w1 e, SetSaid wr vb m (setF M s1 s2) e w1 → ∀ i, w1.cell? ⟨g, i, none⟩ = wr.cell? ⟨g, i, none⟩) := fun w1 e h i => by
        obtain ⟨_, _, _, hb1, _⟩ := h
        obtain ⟨b1, b2, _, _, _, _, _, _, _, b7⟩ := HQ.out
        have hz := b1.size
        unfold World.cell?
        rw [hb1.kept g (by omega) (by omega) (fun e => by have := b7 g e.symm; omega)]
      have HRS : Hid (∀ w1 e, SetSaid wr vb m (setF M s1 s2) e w1 → ∀ w', w'.heap = w1.heap → w'.os = w1.os → w'.tape = w1.tape → w'.output = w1.output → Calls Tryz.prog 14 #[.pointer (some ⟨rb, 0, none⟩), .string s1, .string s2] w' fun e w'' => (∃ x : Int, e = .returned (.int .i64 x)) ∧ SS W w'' vb rb (k + 1)) := fun w1 e h w' h1 h2 h3 h4 => by
        obtain ⟨b0, b1, b2, b3, b4, b5, b6, b7, b8, b9⟩ := HQ.out
        have hr1 : RIs w1 rb L o cap := by
          obtain ⟨_, _, _, hb1, _⟩ := h
          exact b4.butV b3 hb1
        have hb : Below w1.heap.size w1 w' := ⟨h2, h3, h4, by rw [h1]; exact Nat.le_refl _, fun j _ => by rw [h1]⟩
        refine (rset_any (hr1.below hb) b5 (by omega) s1 s2 z1 z2).mono ?_
        rintro e2 w2 ⟨hx, L', o', cap', c1, c2, c3, c4, c5, c6, c7, c8, c9⟩
        refine ⟨hx, SS.step (w1 := w1) b0 b1 b2 b3 b4 b6 b7 b8 b9 h (e2 := e2) ⟨hx, L', o', cap', c1, c2, c3, c4, c5.trans h2, c6.trans h3, c7.trans h4, by rw [← h1]; exact c8, fun j hj hne => by rw [← h1]; exact c9 j (by rw [h1]; exact hj) hne⟩⟩
      clear HQ
      go_wp2_with fail
      go_region_held3 (fun w' => w'.cell? ⟨g, off + k * 2, none⟩ = some (.string s1) ∧ w'.cell? ⟨g, off + k * 2 + 1, none⟩ = some (.string s2))
        (first | exact ⟨x1, x2⟩ | exact ⟨y1, y2⟩)
        (first
          | (go_at_call 13; refine (HV.out _ ?_ ?_ ?_ ?_).mono ?_; rfl; rfl; rfl; rfl; intro e w1 hsd; obtain ⟨xx, hxx⟩ := hsd.1; subst hxx; have y1 := (HC.out w1 _ hsd (off + k * 2)).trans x1; have y2 := (HC.out w1 _ hsd (off + k * 2 + 1)).trans x2))
      all_goals
        have HSD : Hid (∀ w', w'.heap = w1.heap → w'.os = w1.os → w'.tape = w1.tape → w'.output = w1.output → Calls Tryz.prog 14 #[.pointer (some ⟨rb, 0, none⟩), .string s1, .string s2] w' fun e w'' => (∃ x : Int, e = .returned (.int .i64 x)) ∧ SS W w'' vb rb (k + 1)) := HRS.out w1 _ hsd
        clear hsd HV HC HRS
        go_wp2_with fail
        go_region_held3 (fun w' => w'.cell? ⟨g, off + k * 2, none⟩ = some (.string s1) ∧ w'.cell? ⟨g, off + k * 2 + 1, none⟩ = some (.string s2))
          (first | exact ⟨y1, y2⟩ | exact ⟨u1, u2⟩)
          (first
            | (go_at_call 14; refine (HSD.out _ ?_ ?_ ?_ ?_).mono ?_; rfl; rfl; rfl; rfl; rintro e w2 ⟨⟨xx2, rfl⟩, hss2⟩; have u1 : w2.cell? ⟨g, off + k * 2, none⟩ = some (.string s1) := (by rw [HK.out.1]; exact (hss2.below.cell (p := ⟨g, off + k * 2, none⟩) (by exact hg)).trans (HCW.out.1)); have u2 : w2.cell? ⟨g, off + k * 2 + 1, none⟩ = some (.string s2) := (by rw [HK.out.2]; exact (hss2.below.cell (p := ⟨g, off + k * 2 + 1, none⟩) (by exact hg)).trans (HCW.out.2))))
        all_goals
          go_wp2
          go_roundw
          case rel => exact ⟨k + 1, by omega, by go_num, hss2⟩
          case measure => simp [intOf]; omega
    · have hkn : k = n := by omega
      subst hkn
      go_wp2
      go_ret2
      exact ⟨vb, rb, rfl, hss⟩
end
end Go.Proofs.YtaikgomojnfimaaGreatDoor
