/-
  The law, walked.
-/
import Derived.Test.YthocoonhoilmdaaGreatDoorCaW
import Derived.Test.YthocoonhoilmdaaGreatDoorXMxAL
import Derived.Deep.RegionLaw
import Derived.Deep.RegionWith
import Derived.Deep.RegionHeld3
import Derived.RegionTactic
import Derived.WalkKit
import Derived.WalkSpells
import Derived.StillTactics
import Derived.LoopIn
import Derived.RowKit3
import Derived.Below
import Derived.OwnWalk
import Derived.KernelRfl
open Go Go.Mx Go.RowKit
namespace Go.Proofs.YthocoonhoilmdaaGreatDoor
set_option maxRecDepth 100000
noncomputable section
/-! the law at few enough arguments -/
theorem txt_size (l : List UInt8) : (txt l).size = l.length := by
  show l.toArray.size = _
  simp
theorem txt_app (a b : List UInt8) : txt a ++ txt b = txt (a ++ b) := by
  apply ByteArray.ext
  simp [txt, ByteArray.data_append]
theorem log_app (l : List UInt8) (k : Nat) : ((txt l ++ (⟨#[99, 97, 116, 58, 32]⟩ : ByteArray)) ++ pk k) ++ (⟨#[58, 32, 101, 114, 114, 111, 114, 32, 54, 10]⟩ : ByteArray) = txt (l ++ msg k) := by
  apply ByteArray.ext
  simp [txt, ByteArray.data_append, pk, msg]
theorem sl_pk (k : Nat) : (⟨#[47]⟩ : ByteArray) ++ pk k = qk k := by
  apply ByteArray.ext
  simp [ByteArray.data_append, pk, qk]
theorem f_pk (k : Nat) : (⟨#[102]⟩ : ByteArray) ++ dk k = pk k := by
  apply ByteArray.ext
  simp [ByteArray.data_append, pk, dk]
theorem names_succ (k : Nat) : namesB k ++ [pk k] = namesB (k + 1) := by
  simp [namesB, List.range_succ]
set_option maxHeartbeats 3200000 in
set_option maxRecDepth 100000 in
theorem law_in {W : World} (hm : MaxIs W) (g : Nat → Bool) (L : Nat → List UInt8) (inL : List UInt8) (lo go io : Option Addr) (n lc gn gc inn ic : Nat) (hn : n ≤ 10) (hg : n ≤ gn) (hi : inn ≤ 200) (hin : inL.length = inn) (hI : BytesV W io inL)
    (hlo : n = 0 ∨ ∃ b off, lo = some ⟨b, off, none⟩ ∧ b < W.heap.size ∧ ∀ k, k < n → ∃ bo bc, W.cell? ⟨b, off + k, none⟩ = some (.slice bo (L k).length bc) ∧ BytesV W bo (L k))
    (hgo : n = 0 ∨ ∃ b off, go = some ⟨b, off, none⟩ ∧ b < W.heap.size ∧ ∀ k, k < n → W.cell? ⟨b, off + k, none⟩ = some (.bool (g k)))
    (hal : Calls Tryz.prog 5 #[] W fun e w' => e = .returned (.bool true) ∧ Below W.heap.size W w') :
    Calls Tryz.prog 3 #[.slice lo n lc, .slice go gn gc, .slice io inn ic] W fun e w' => e = .returned (.bool true) ∧ Below W.heap.size W w' := by
  have h1 : ¬ (10 : Int) < n := by omega
  have h2 : ¬ (gn : Int) < n := by omega
  have h3 : ¬ (200 : Int) < inn := by omega
  have HM : Hid (∀ w, Below W.heap.size W w → MaxIs w) := fun w hb => hm.below hm.lt hb
  have HI : Hid (BytesV W io inL ∧ inL.length = inn) := ⟨hI, hin⟩
  have HL : Hid (n = 0 ∨ ∃ b off, lo = some ⟨b, off, none⟩ ∧ ∀ w, Below W.heap.size W w → ∀ k, k < n → ∃ bo bc, w.cell? ⟨b, off + k, none⟩ = some (.slice bo (L k).length bc) ∧ BytesV W bo (L k)) := by
    rcases hlo with h | ⟨b, off, e, hb, h⟩
    · exact .inl h
    · refine .inr ⟨b, off, e, fun w hw k hk => ?_⟩
      obtain ⟨bo, bc, e1, e2⟩ := h k hk
      exact ⟨bo, bc, (hw.cell (by exact hb)).trans e1, e2⟩
  have HG : Hid (n = 0 ∨ ∃ b off, go = some ⟨b, off, none⟩ ∧ ∀ w, Below W.heap.size W w → ∀ k, k < n → w.cell? ⟨b, off + k, none⟩ = some (.bool (g k))) := by
    rcases hgo with h | ⟨b, off, e, hb, h⟩
    · exact .inl h
    · exact .inr ⟨b, off, e, fun w hw k hk => (hw.cell (by exact hb)).trans (h k hk)⟩
  clear hlo hgo hI hin hm
  go_enter Tryz.func3, Tryz.ntmps3
  go_wp2_with fail
  go_at_call 5
  refine hal.mono ?_
  rintro e w1 ⟨rfl, hb1⟩
  clear hal
  go_wp2_with fail
  go_at_call 6
  refine (new_any w1).mono ?_
  rintro e w2 ⟨fb, mb, rfl, hF2, hb12, hfb, hmb⟩
  have hb2 := hb1.trans (hb12.mono hb1.size)
  have hz1 := hb1.size
  have HLS : Hid (LS W w2 fb mb g L 0) := ⟨hb2, by omega, by omega, [], 0, hF2, TreeK.nil g L _ _, Int.le_refl _, by simp⟩
  clear hF2 hb12 hb1 hb2 hfb hmb hz1
  go_wp2
  go_loopw [9, 10, 11, 12] (fun args want log i wr => ∃ k : Nat, k ≤ n ∧ i = .int .i64 k ∧ want = .string (txt (outN g L k)) ∧ log = .string (txt (logN g k)) ∧ (∀ j, j < k → (L j).length ≤ 200) ∧ (∃ o c, args = .slice o k c) ∧ wr.ownsRow W.heap.size 9 1 args k ((namesB k).map Value.string) ∧ LS W wr fb mb g L k) (fun _ _ _ i _ => n - (intOf i).toNat)
  case atStart => exact ⟨0, Nat.zero_le _, rfl, rfl, rfl, fun _ h => absurd h (Nat.not_lt_zero _), ⟨none, 0, rfl⟩, World.ownsRow_nil _ _ _ _, HLS.out⟩
  case round =>
    obtain ⟨k, hk, rfl, rfl, rfl, hlk, ⟨ao, ac, rfl⟩, hown, hls⟩ := hrel
    have hbz := hls.below.size
    have hos := outN_len (g := g) (L := L) (k := k) hlk
    have hls2 := logN_len (g := g) (k := k)
    by_cases hkn : k < n
    · rcases HL.out with h0 | ⟨b, off, hlo, hlc⟩
      · omega
      rcases HG.out with h0 | ⟨b2, off2, hgo, hgc⟩
      · omega
      subst hlo
      subst hgo
      obtain ⟨bo, bc, hc0, hbv⟩ := hlc wr hls.below k hkn
      have hki : (k : Int) < (n : Int) := by omega
      have hki2 : (k : Int) < (gn : Int) := by omega
      have hk10 : k < 10 := by omega
      by_cases hlen : (L k).length ≤ 200
      · have hlen' : ¬ (200 : Int) < (L k).length := by omega
        have hfk := f_pk k
        have hq5 : (pk k).size = 2 := rfl
        have hq6 : (dk k).size = 1 := rfl
        go_wp2_with fail
        go_at_call 7
        refine (dig_any k hk10 _).mono ?_
        rintro e w3 ⟨rfl, hb3⟩
        have hown3 : w3.ownsRow W.heap.size 9 1 (.slice ao k ac) k ((namesB k).map Value.string) := by
          refine ⟨hown.1, ?_⟩
          rcases hown.2 with hn' | ⟨g', cap, cur, e1, e2, e3, rest⟩
          · exact .inl hn'
          · exact .inr ⟨g', cap, cur, e1, e2, by rw [hb3.block g' (Array.getElem?_eq_some_iff.1 e3).1]; exact e3, rest⟩
        have hls3 := hls.mono hb3
        have hz3 := hls3.below.size
        clear hown hls hb3 hc0
        go_wp2_with (at_builtin; refine wpList_append_more rfl _ _ rfl W.heap.size w3 hz3 (.slice ao k ac) k (namesB k) (namesB_len k) (by omega) rfl hown3 (pk k) rfl ?_)
        intro g4 c4 w4 hown4 hgr4
        have hown4' : w4.ownsRow W.heap.size 9 1 (.slice (some ⟨g4, 0, none⟩) (k + 1) c4) (k + 1) ((namesB (k + 1)).map Value.string) := by
          rw [← names_succ, List.map_append]
          exact hown4
        have hls4 := hls3.grown (namesB_len k) hown3 hgr4
        clear hown3 hls3 hgr4 hfk hown4
        obtain ⟨bo4, bc4, hc4, hbv4⟩ := hlc w4 hls4.below k hkn
        have hg4 := hgc w4 hls4.below k hkn
        have hq1 := txt_size (logN g k)
        have hq2 := txt_size (outN g L k)
        have hq3 := txt_size (L k)
        have hlk2 : ∀ j, j < k + 1 → (L j).length ≤ 200 := fun j hj => by
          by_cases e : j = k
          · rw [e]; exact hlen
          · exact hlk j (by omega)
        cases hgk : g k with
        | true =>
          rw [hgk] at hg4
          have hlog := log_app (logN g k) k
          have HE : Hid (outN g L (k + 1) = outN g L k ∧ logN g (k + 1) = logN g k ++ msg k) := ⟨by rw [outN, if_pos hgk, List.append_nil], by rw [logN, if_pos hgk]⟩
          go_wp2
          go_roundw
          case rel => exact ⟨k + 1, by omega, by go_num, by rw [HE.out.1], by rw [HE.out.2], hlk2, ⟨_, _, rfl⟩, hown4', hls4.skip hgk⟩
          case measure => simp [intOf]; omega
        | false =>
          rw [hgk] at hg4
          have hsl := sl_pk k
          have HE : Hid (outN g L (k + 1) = outN g L k ++ L k ∧ logN g (k + 1) = logN g k) := ⟨by rw [outN, hgk]; simp, by rw [logN, hgk]; simp⟩
          go_wp2_with fail
          go_at_call 8
          refine (write_step hls4 (HM.out W (Below.refl _ _)) hk10 hgk hlen bo4 bc4 hbv4).mono ?_
          rintro e w5 ⟨⟨v5, rfl⟩, hls5, hk5⟩
          have hown5 := hk5 _ _ _ hown4'
          clear hk5 hown4' hls4 hc4 hbv4 hg4 hsl
          obtain ⟨bo5, bc5, hc5, hbv5⟩ := hlc w5 hls5.below k hkn
          have hcv := conv_any bc5 (hbv5.below (Nat.le_refl _) hls5.below)
          have happ := txt_app (outN g L k) (L k)
          clear hbv5
          go_wp2
          go_roundw
          case rel => exact ⟨k + 1, by omega, by go_num, by rw [HE.out.1], by rw [HE.out.2], hlk2, ⟨_, _, rfl⟩, hown5, hls5⟩
          case measure => simp [intOf]; omega
      · have hlen' : (200 : Int) < (L k).length := by omega
        have hb := hls.below
        clear hown hls
        go_wp2
        go_ret
        exact ⟨rfl, hb⟩
    · have hkk : k = n := by omega
      subst hkk
      clear HL HG
      go_wp2_with (at_builtin; refine wpList_append_more rfl _ _ rfl W.heap.size wr hbz (.slice ao k ac) k (namesB k) (namesB_len k) (by omega) rfl hown ⟨#[45]⟩ rfl ?_)
      intro g4 c4 w4 hown4 hgr4
      have hown4' : w4.ownsRow W.heap.size 9 1 (.slice (some ⟨g4, 0, none⟩) (k + 1) c4) (k + 1) ((namesB k ++ [(⟨#[45]⟩ : ByteArray)]).map Value.string) := by
        rw [List.map_append]
        exact hown4
      have hls4 := hls.grown (namesB_len k) hown hgr4
      obtain ⟨hc4, hA4⟩ : k + 1 ≤ c4 ∧ ArgsAt w4 g4 0 (namesB k ++ [(⟨#[45]⟩ : ByteArray)]) := by
        rcases hown4'.2 with ⟨e, _⟩ | ⟨g2, cap2, cur, e, r1, r2, r3, _⟩
        · cases e
        · injection e with e1 e2 e3
          injection e1 with e1
          injection e1 with e1
          subst e1
          subst e3
          refine ⟨r3, ⟨(Array.getElem?_eq_some_iff.1 r2).1, fun j hj => ?_⟩⟩
          have h1 := hown4'.cells (g := g4) rfl j (.string (namesB k ++ [(⟨#[45]⟩ : ByteArray)])[j]) (by rw [List.getElem?_map, List.getElem?_eq_getElem hj]; rfl)
          rwa [Addr.add_lit] at h1
      have hcv := conv_any ic (HI.out.1.below (Nat.le_refl _) hls4.below)
      rw [HI.out.2] at hcv
      have happ := txt_app (outN g L k) inL
      have hq1 := txt_size (logN g k)
      have hq2 := txt_size (outN g L k)
      have hq3 := txt_size inL
      have hq4 := HI.out.2
      obtain ⟨m, hmo⟩ : ∃ m, (outN g L k ++ inL).length = m := ⟨_, rfl⟩
      obtain ⟨m2, hml⟩ : ∃ m, (logN g k).length = m := ⟨_, rfl⟩
      have hm1 : m ≤ 60000 := by rw [← hmo, List.length_append]; omega
      have HR : Hid (Calls Tryz.prog 9 #[.pointer (some ⟨fb, 0, none⟩), .string slB, .string ⟨#[99, 97, 116]⟩, .slice (some ⟨g4, 0, none⟩) (k + 1) c4, .slice io inn ic] w4 fun e w' => ∃ o1 c1 o2 c2, e = .returned (.agg #[.int .i64 (stN g k), .slice o1 m c1, .slice o2 m2 c2]) ∧ Below w4.heap.size w4 w' ∧ BytesV w' o1 (outN g L k ++ inL) ∧ BytesV w' o2 (logN g k)) := by
        refine run_cat (w := w4) (o := some ⟨g4, 0, none⟩) (cap := c4) (l := namesB k ++ [(⟨#[45]⟩ : ByteArray)]) (by simp [namesB]) (by omega) (show ArgV w4 (some ⟨g4, 0, none⟩) c4 (namesB k ++ [(⟨#[45]⟩ : ByteArray)]) from Or.inr ⟨g4, 0, rfl, by simpa [namesB] using hc4, hA4⟩) (stN g k) (outN g L k ++ inL) (logN g k) m m2 hmo hm1 hml fun w0 o' cap' hb hA' => ?_
        obtain ⟨T, used, hF, hT, _⟩ := hls4.fs
        have hb0 := hls4.below.trans (hb.mono hls4.below.size)
        rcases hA' with h0 | ⟨ga, goff, rfl, hc', hA⟩
        · simp at h0
        · exact cat_any k hn ⟨(hF.below hb).tree, HM.out w0 hb0⟩ (hT.below hb) hlk ga goff cap' hA (by simpa [namesB] using hc') io inn ic inL HI.out.2 hi (HI.out.1.below (Nat.le_refl _) hb0)
      have hbW := hls4.below
      clear hown hown4 hown4' hls hls4 hgr4 hA4
      go_wp2_with fail
      go_at_call 9
      refine HR.out.mono ?_
      rintro e w6 ⟨o1, c1, o2, c2, rfl, hb6, hv1, hv2⟩
      have hbW6 := hbW.trans (hb6.mono hbW.size)
      have hb7 : Below w6.heap.size w6 (w6.alloc (.cells #[.int .i64 (stN g k), .slice o1 m c1, .slice o2 m2 c2] 33)) := (Below.refl _ _).alloc (Nat.le_refl _) _
      have hbW7 := hbW6.trans (hb7.mono hbW6.size)
      have a0 : (w6.alloc (.cells #[.int .i64 (stN g k), .slice o1 m c1, .slice o2 m2 c2] 33)).cell? ⟨w6.heap.size, 0, none⟩ = some (.int .i64 (stN g k)) := by rw [cell_u (heap_alloc_new _ _)]; rfl
      have a1 : (w6.alloc (.cells #[.int .i64 (stN g k), .slice o1 m c1, .slice o2 m2 c2] 33)).cell? ⟨w6.heap.size, 1, none⟩ = some (.slice o1 m c1) := by rw [cell_u (heap_alloc_new _ _)]; rfl
      have a2 : (w6.alloc (.cells #[.int .i64 (stN g k), .slice o1 m c1, .slice o2 m2 c2] 33)).cell? ⟨w6.heap.size, 2, none⟩ = some (.slice o2 m2 c2) := by rw [cell_u (heap_alloc_new _ _)]; rfl
      have v1 := conv_any c1 (hv1.below (Nat.le_refl _) hb7)
      have v2 := conv_any c2 (hv2.below (Nat.le_refl _) hb7)
      rw [hmo] at v1
      rw [hml] at v2
      clear HR hv1 hv2 hb6 hb7 hbW hbW6 hcv happ hmo hml hq1 hq2 hq3 hq4 hls2 hos hlk
      rcases stN_log (g := g) k with ⟨hs, hl⟩ | ⟨hs, hl⟩
      · rw [hs] at a0 a1 a2 v1 v2 hbW7 ⊢
        have hz : ((txt (logN g k)).toList == []) = true := eqB (by rw [hl]; rfl)
        clear hs hl
        go_wp2
        go_ret
        exact ⟨rfl, hbW7⟩
      · rw [hs] at a0 a1 a2 v1 v2 hbW7 ⊢
        have hz : ((txt (logN g k)).toList == []) = false := neB (by simpa [txt] using hl)
        clear hs hl
        go_wp2
        go_ret
        exact ⟨rfl, hbW7⟩
end
end Go.Proofs.YthocoonhoilmdaaGreatDoor
