/-
  What lines and Play tell of a text of line ends and signs, and that the law holds.
-/
import Derived.Test.YtdkpggfooahnnaaGreatDoorProg
import Derived.Test.YtdkpggfooahnnaaGreatDoorHk
import Derived.Test.YtdkpggfooahnnaaGreatDoorLgP
import Derived.WalkKit
import Derived.WalkSpells
import Derived.StillTactics
import Derived.LoopIn
import Derived.RowKit3
import Derived.Below
import Derived.Lib.ConvBytes
import Derived.Lib.BufferRead
import Derived.Lib.Builder
import Derived.OwnWalk
open Go Go.Mx Go.RowKit
namespace Go.Proofs.YtdkpggfooahnnaaGreatDoor
theorem lg_info5 : (Tryz.prog.info? 5).map (fun i => (i.zero, i.size, i.bytes)) = some (some (.int .u8 0), 1, 1) := by kernel_rfl
theorem lg_t9 : Tryz.prog.underlying 9 = some .string := by kernel_rfl
theorem lg_t22 : Tryz.prog.underlying 23 = some (.slice 5) := by kernel_rfl
theorem lg_t5 : Tryz.prog.underlying 5 = some (.int .u8) := by kernel_rfl
theorem below_stays {w w' : World} (h : Stays w w') : Below w.heap.size w w' := ⟨h.os, h.tape, h.output, h.size, h.heap⟩
theorem fill_text {w : World} {B g n c m : Nat} (hn : n = c + m) (hown : w.ownsRow B 5 1 (.slice (some ⟨g, 0, none⟩) n n) n (fillC (lgL c m) n)) :
    (convert 23 9 (.slice (some ⟨g, 0, none⟩) n n)).run Tryz.prog w = .ok (.string (lgT c m)) w := by
  have hl := lgL_len c m
  have h := run_convert_bytes_back (P := Tryz.prog) w 23 9 5 ⟨g, 0, none⟩ n (lgL c m) lg_t22 lg_t5 lg_t9 (fun j hj => hown.cells (g := g) rfl j _ (by
    rw [fillC_get, if_pos hj, if_pos (by omega)]
    simp [bV, List.getD, List.getElem?_eq_getElem hj]))
  rw [hl, ← hn] at h
  exact h
/-- (*strings.Builder).String of a builder that holds nothing, whose buffer's cell is o -/
theorem str_any (b o : Nat) (w : World) (h : w.cell? ⟨b, o + 1, none⟩ = some (.slice none 0 0)) :
    Calls Tryz.prog 15 #[.pointer (some ⟨b, o, none⟩)] w fun e w' => e = .returned (.string ⟨#[]⟩) ∧ Below w.heap.size w w' := by
  have hUS : ∀ (W : World), (Builtin.unsafeString_ #[66, 3] 9 #[.pointer none, .int .i64 0]).run Tryz.prog W = .ok (.string .empty) W := fun W => Lib.run_unsafeString_none W _ _ _ none
  have hSD : ∀ (W : World), (Builtin.unsafeSliceData_ #[23] 66 #[.slice none 0 0]).run Tryz.prog W = .ok (.pointer none) W := fun _ => rfl
  go_enter Tryz.func15, Tryz.ntmps15
  go_wp2
  go_region
  all_goals (go_wp2; go_ret; exact ⟨rfl, Below.drew (Below.refl _ _)⟩)
set_option maxHeartbeats 800000 in
set_option maxRecDepth 100000 in
theorem lines_any (c m : Nat) (x : Int) (w : World) (hm : w.cell? ⟨0, 0, none⟩ = some (.int .i64 x)) (hs : c + m ≤ 300000) :
    Calls Tryz.prog 10 #[.string (lgT c m)] w fun e w' => e = .returned (.slice (some ⟨w.heap.size, 0, none⟩) (nLines c m) (c + 1)) ∧ w' = w.alloc (.cells ((lgP c m).map Value.string).toArray 9) := by
  have hS := Tryz.strings_Split (lgT c m) nlB x w (by rw [lgT_size]; omega) hm (by decide)
  rw [lg_count, lg_split] at hS
  obtain ⟨W1, hW1⟩ : ∃ W1, W1 = w.alloc (.cells ((lgP c m).map Value.string).toArray 9) := ⟨_, rfl⟩
  have hc : W1.cell? ⟨w.heap.size, c, none⟩ = some (.string (lgT 0 m)) := by rw [hW1]; exact cell_rows w _ _ (lgP_eq c m)
  rw [← hW1]
  have hS : Calls Tryz.prog 17 #[.string (lgT c m), .string nlB] w fun e w' => e = .returned (.slice (some ⟨w.heap.size, 0, none⟩) (c + 1) (c + 1)) ∧ w' = W1 := by
    rw [hW1]
    exact hS
  clear hW1
  by_cases hm0 : m = 0
  · subst hm0
    have hn : nLines c 0 = c := if_pos rfl
    rw [hn]
    have he : lgT 0 0 = ⟨#[]⟩ := rfl
    rw [he] at hc
    go_enter Tryz.func10, Tryz.ntmps10
    go_wp2_with fail
    go_at_call 17
    refine hS.mono ?_
    rintro e w1 ⟨rfl, hw⟩
    subst hw
    go_wp2
    go_ret
    exact ⟨rfl, rfl⟩
  · have hn : nLines c m = c + 1 := if_neg hm0
    rw [hn]
    obtain ⟨s, hsd⟩ : ∃ s, s = lgT 0 m := ⟨_, rfl⟩
    have hne := (lgT_ne hm0).2.1
    rw [← hsd] at hc hne
    clear hsd
    go_enter Tryz.func10, Tryz.ntmps10
    go_wp2_with fail
    go_at_call 17
    refine hS.mono ?_
    rintro e w1 ⟨rfl, hw⟩
    subst hw
    go_wp2
    go_ret
    exact ⟨rfl, rfl⟩
def errT : ByteArray := ⟨#[101, 114, 114, 111, 114, 32, 51, 10]⟩
theorem errT_eq : (errT.toList == [101, 114, 114, 111, 114, 32, 51, 10]) = true := by
  rw [ByteArray.toList_eq]
  rfl
def DecSaid (P : Program) (f : Nat) : Prop := ∀ w : World, Calls P f #[.int .i64 3] w fun e w' => e = .returned (.string ⟨#[51]⟩) ∧ Below w.heap.size w w'
def NewSaid (P : Program) (f : Nat) : Prop := ∀ w : World, Calls P f #[.int .i64 200, .int .i64 20000] w fun e w' => (∃ a, e = .returned (.pointer (some a))) ∧ Below w.heap.size w w'
def CmdSaid (P : Program) (f : Nat) : Prop := ∀ w : World, Calls P f #[] w fun e w' => (∃ v, e = .returned v) ∧ Below w.heap.size w w'
set_option maxHeartbeats 800000 in
set_option maxRecDepth 100000 in
theorem play_long (hde : DecSaid Tryz.prog 11) (c m : Nat) (x : Int) (w : World) (hm : w.cell? ⟨0, 0, none⟩ = some (.int .i64 x)) (hs : c + m ≤ 300000) (hl : 262144 < c + m ∨ 8000 < nLines c m) :
    Calls Tryz.prog 7 #[.string (lgT c m)] w fun e w' => e = .returned (.string errT) ∧ Below w.heap.size w w' := by
  have hL := lines_any c m x w hm hs
  have hz := lgT_size c m
  obtain ⟨s, hsd⟩ : ∃ s, s = lgT c m := ⟨_, rfl⟩
  obtain ⟨nl, hnl⟩ : ∃ nl, nl = nLines c m := ⟨_, rfl⟩
  have hb : nl ≤ c + 1 := by rw [hnl]; unfold nLines; split <;> omega
  rw [← hsd] at hL hz ⊢
  rw [← hnl] at hL hl
  obtain ⟨W1, hW1⟩ : ∃ W1, W1 = w.alloc (.cells ((lgP c m).map Value.string).toArray 9) := ⟨_, rfl⟩
  rw [← hW1] at hL
  have hbel : Below w.heap.size w W1 := by rw [hW1]; exact (Below.refl _ _).alloc (Nat.le_refl _) _
  clear hsd hnl hW1
  have hsz : (s.size : Int) = (c : Int) + (m : Int) := by omega
  by_cases h1 : 262144 < s.size
  · go_enter Tryz.func7, Tryz.ntmps7
    go_wp2_with fail
    go_at_call 10
    refine hL.mono ?_
    rintro e w1 ⟨rfl, hw⟩
    subst hw
    go_wp2_with fail
    go_at_call 11
    refine (hde _).mono ?_
    rintro e w2 ⟨rfl, hb2⟩
    go_wp2
    go_ret
    exact ⟨rfl, hbel.trans (hb2.mono hbel.size)⟩
  · have h2 : 8000 < nl := by omega
    go_enter Tryz.func7, Tryz.ntmps7
    go_wp2_with fail
    go_at_call 10
    refine hL.mono ?_
    rintro e w1 ⟨rfl, hw⟩
    subst hw
    go_wp2_with fail
    go_at_call 11
    refine (hde _).mono ?_
    rintro e w2 ⟨rfl, hb2⟩
    go_wp2
    go_ret
    exact ⟨rfl, hbel.trans (hb2.mono hbel.size)⟩
set_option maxHeartbeats 1600000 in
set_option maxRecDepth 100000 in
theorem play_short (hnw : NewSaid Tryz.prog 12) (hcm : CmdSaid Tryz.prog 13) (c m : Nat) (x : Int) (w : World) (hm : w.cell? ⟨0, 0, none⟩ = some (.int .i64 x)) (hs : c + m ≤ 262144) (hl : nLines c m ≤ 8000) :
    Calls Tryz.prog 7 #[.string (lgT c m)] w fun e w' => e = .returned (.string ⟨#[]⟩) ∧ Below w.heap.size w w' := by
  have hL := lines_any c m x w hm (by omega)
  have hz := lgT_size c m
  obtain ⟨s, hsd⟩ : ∃ s, s = lgT c m := ⟨_, rfl⟩
  obtain ⟨nl, hnl⟩ : ∃ nl, nl = nLines c m := ⟨_, rfl⟩
  rw [← hsd] at hL hz ⊢
  rw [← hnl] at hL hl
  obtain ⟨W1, hW1⟩ : ∃ W1, W1 = w.alloc (.cells ((lgP c m).map Value.string).toArray 9) := ⟨_, rfl⟩
  rw [← hW1] at hL
  have hbel : Below w.heap.size w W1 := by rw [hW1]; exact (Below.refl _ _).alloc (Nat.le_refl _) _
  have hgl : w.heap.size < W1.heap.size := by rw [hW1]; simp
  have hcell : Hid (∀ k, k < nl → (k < c ∧ W1.cell? ⟨w.heap.size, k, none⟩ = some (.string ⟨#[]⟩)) ∨ (∃ q : ByteArray, W1.cell? ⟨w.heap.size, k, none⟩ = some (.string q) ∧ 0 < q.size ∧ q.toList.isEmpty = false ∧ ∀ hp : 0 < q.size, ((q[0]'hp).toNat : Int) = 35)) := by
    intro k hk
    rw [hW1]
    by_cases hkc : k < c
    · exact .inl ⟨hkc, cell_rows w _ _ (lgP_lt hkc)⟩
    · have hm0 : m ≠ 0 := fun h => by rw [hnl, nLines, if_pos h] at hk; omega
      have hkc : k = c := by rw [hnl, nLines, if_neg hm0] at hk; omega
      subst hkc
      obtain ⟨q1, q2, q3⟩ := lgT_ne hm0
      exact .inr ⟨_, cell_rows w _ _ (lgP_eq k m), q1, q2, fun hp => by rw [q3 hp]; rfl⟩
  clear hsd hnl hW1
  have hsz : s.size ≤ 262144 := by omega
  clear hz hs
  go_enter Tryz.func7, Tryz.ntmps7
  go_wp2_with fail
  go_at_call 10
  refine hL.mono ?_
  rintro e w1 ⟨rfl, hw⟩
  subst hw
  go_wp2_with fail
  go_at_call 12
  refine (hnw _).mono ?_
  rintro e w2 ⟨⟨fa, rfl⟩, hb2⟩
  go_wp2_with fail
  go_at_call 13
  refine (hcm _).mono ?_
  rintro e w3 ⟨⟨cv, rfl⟩, hb3⟩
  have hg2 := hb2.size
  have hbf : w3.cell? ⟨w2.heap.size, 4, none⟩ = some (.slice none 0 0) := by
    rw [hb3.cell (p := ⟨w2.heap.size, 4, none⟩) (by show w2.heap.size < _; simp)]
    rw [World.cell?_alloc_at _ _ _ _ rfl]
    rfl
  have hbel3 : Below w1.heap.size w1 w3 := (hb2.alloc hg2 _).trans (hb3.mono (by simp; omega))
  have hcell3 : Hid (∀ k, k < nl → (k < c ∧ w3.cell? ⟨w.heap.size, k, none⟩ = some (.string ⟨#[]⟩)) ∨ (∃ q : ByteArray, w3.cell? ⟨w.heap.size, k, none⟩ = some (.string q) ∧ 0 < q.size ∧ q.toList.isEmpty = false ∧ ∀ hp : 0 < q.size, ((q[0]'hp).toNat : Int) = 35)) := by
    intro k hk
    have e := hbel3.cell (p := ⟨w.heap.size, k, none⟩) hgl
    rw [e]
    exact hcell.out k hk
  have hfin : Below w.heap.size w w3 := hbel.trans (hbel3.mono (by omega))
  have hST := str_any w2.heap.size 3 w3 hbf
  clear hb2 hb3 hbel3 hcell hL hbf hg2 hbel hgl hcm hnw hm
  go_wp2
  go_loop [27] (fun i => ∃ k : Nat, k ≤ nl ∧ i = .int .i64 k) (fun i => nl - (intOf i).toNat)
  case atStart => exact ⟨0, Nat.zero_le _, rfl⟩
  case round =>
    obtain ⟨k, hk, rfl⟩ := hrel
    by_cases hlt : k < nl
    · rcases hcell3.out k hlt with ⟨_, hc⟩ | ⟨q, hc, hq0, hqe, hq1⟩
      · go_wp2
        go_round
        case rel => exact ⟨k + 1, by omega, by go_num⟩
        case measure => simp [intOf]; omega
      · have hq2 := hq1 hq0
        clear hq1
        go_wp2
        go_round
        case rel => exact ⟨k + 1, by omega, by go_num⟩
        case measure => simp [intOf]; omega
    · have hkl : k = nl := by omega
      subst hkl
      go_wp2_with fail
      go_at_call 15
      refine hST.mono ?_
      rintro e w4 ⟨rfl, hb4⟩
      go_wp2
      go_ret
      exact ⟨rfl, hfin.trans (hb4.mono hfin.size)⟩
set_option maxHeartbeats 1600000 in
set_option maxRecDepth 100000 in
theorem long_out (x y : Int) (w : World) (hal : Calls Tryz.prog 6 #[] w fun e w' => e = .returned (.bool true) ∧ Below w.heap.size w w') (h : x < 0 ∨ 300000 < x ∨ y < 0 ∨ 9000 < y ∨ x < y) :
    Calls Tryz.prog 3 #[.int .i64 x, .int .i64 y] w fun e w' => e = .returned (.bool true) ∧ Below w.heap.size w w' := by
  by_cases h1 : x < 0
  rotate_left
  by_cases h2 : 300000 < x
  rotate_left
  by_cases h3 : y < 0
  rotate_left
  by_cases h4 : 9000 < y
  rotate_left
  have h5 : x < y := by omega
  all_goals
    clear h
    go_enter Tryz.func3, Tryz.ntmps3
    go_wp2_with fail
    go_at_call 6
    refine hal.mono ?_
    rintro e w1 ⟨rfl, hb1⟩
    clear hal
    go_wp2
    go_ret
    exact ⟨rfl, hb1⟩
def PlaySaid (P : Program) (f : Nat) (c m : Nat) (x : Int) : Prop := ∀ w : World, w.cell? ⟨0, 0, none⟩ = some (.int .i64 x) → Calls P f #[.string (lgT c m)] w fun e w' => e = .returned (.string (if 262144 < c + m ∨ 8000 < nLines c m then errT else ⟨#[]⟩)) ∧ Below w.heap.size w w'
theorem play_any (hde : DecSaid Tryz.prog 11) (hnw : NewSaid Tryz.prog 12) (hcm : CmdSaid Tryz.prog 13) (c m : Nat) (x : Int) (hs : c + m ≤ 300000) : PlaySaid Tryz.prog 7 c m x := by
  intro w hm
  by_cases h : 262144 < c + m ∨ 8000 < nLines c m
  · rw [if_pos h]
    exact play_long hde c m x w hm hs h
  · rw [if_neg h]
    exact play_short hnw hcm c m x w hm (by omega) (by omega)
theorem lt_cell {w : World} {g o : Nat} {v : Value} (h : w.cell? ⟨g, o, none⟩ = some v) : g < w.heap.size := by
  rcases Nat.lt_or_ge g w.heap.size with h' | h'
  · exact h'
  · simp [World.cell?, Array.getElem?_eq_none h'] at h
set_option maxHeartbeats 3200000 in
set_option maxRecDepth 100000 in
theorem long_in (c m n : Nat) (x : Int) (w : World) (hn : n = c + m) (hs : n ≤ 300000) (hc9 : c ≤ 9000) (hpl : PlaySaid Tryz.prog 7 c m x) (hm : w.cell? ⟨0, 0, none⟩ = some (.int .i64 x))
    (hal : Calls Tryz.prog 6 #[] w fun e w' => e = .returned (.bool true) ∧ Below w.heap.size w w') :
    Calls Tryz.prog 3 #[.int .i64 (n : Int), .int .i64 (c : Int)] w fun e w' => e = .returned (.bool true) ∧ Below w.heap.size w w' := by
  obtain ⟨i0, hi, hz0, hz1, hz2⟩ := info_parts lg_info5
  have hG := lt_cell hm
  have hcn : c ≤ n := by omega
  have HN : Hid (n = c + m) := hn
  have HP : Hid (PlaySaid Tryz.prog 7 c m x) := hpl
  have HM : Hid (w.cell? ⟨0, 0, none⟩ = some (.int .i64 x)) := hm
  clear hn hpl hm
  go_enter Tryz.func3, Tryz.ntmps3
  go_wp2_with fail
  go_at_call 6
  refine hal.mono ?_
  rintro e w1 ⟨rfl, hb1⟩
  clear hal
  have hg := hb1.size
  go_wp2_with (at_make; refine wpList_make_full _ rfl _ _ 23 rfl w.heap.size 5 i0 (.int .u8 0) 1 lg_t22 hi hz0 hz1 .i64 .i64 _ _ n rfl rfl rfl rfl (by rw [hz2]; omega) (by unfold maxLen; omega) hg ?_)
  intro w2 hown hgrow
  have e0 : (madeCells #[Value.int .u8 0] n).toList = fillC (lgL c m) 0 := by
    rw [fillC_zero, lgL_len, ← HN.out]
    exact toList_madeCells_one _ _
  rw [e0] at hown
  have hbel2 : Below w.heap.size w w2 := hb1.grown hgrow hg (fun k hk => by cases hk)
  clear hgrow e0 hb1 hz0 hz1 hz2 hi
  go_wp2
  go_loopw [7] (fun i wr => ∃ k : Nat, k ≤ n ∧ i = .int .i64 k ∧ wr.ownsRow w.heap.size 5 1 (.slice (some ⟨w1.heap.size, 0, none⟩) n n) n (fillC (lgL c m) k) ∧ Below w.heap.size w wr) (fun i _ => n - (intOf i).toNat)
  case atStart => exact ⟨0, Nat.zero_le _, rfl, hown, hbel2⟩
  case round =>
    obtain ⟨k, hk, rfl, ho, hb⟩ := hrel
    clear hown hbel2
    by_cases hlt : k < n
    · have hcl := ho.cellAt k (by omega)
      rw [fillC_get, if_pos (by rw [lgL_len, ← HN.out]; exact hlt), if_neg (by omega)] at hcl
      have hfz := ho.frozenAt k
      have hst := fill_step HN.out hlt ho
      have hst : Hid _ := hst
      clear ho
      by_cases hkc : k < c
      · go_wp2
        go_roundw
        case rel => exact ⟨k + 1, by omega, by go_num, hst.out.1 hkc, (hb.setCell (p := ⟨_, k, none⟩) hg _).setCell (p := ⟨_, k, none⟩) hg _⟩
        case measure => simp [intOf]; omega
      · go_wp2
        go_roundw
        case rel => exact ⟨k + 1, by omega, by go_num, hst.out.2 hkc, hb.setCell (p := ⟨_, k, none⟩) hg _⟩
        case measure => simp [intOf]; omega
    · have hkl : k = n := by omega
      subst hkl
      have htx := fill_text HN.out ho
      have hP := HP.out _ ((hb.cell (p := ⟨0, 0, none⟩) hG).trans HM.out)
      clear ho
      by_cases hm0 : m = 0
      · subst hm0
        have hnl : nLines c 0 = c := if_pos rfl
        rw [hnl, ← HN.out] at hP
        have hkc : k ≤ c := by have := HN.out; omega
        have hbig : ¬ 262144 < k := by omega
        by_cases hmany : 8000 < c
        · rw [if_pos (.inr hmany)] at hP
          go_wp2_with fail
          go_at_call 7
          refine hP.mono ?_
          rintro e w3 ⟨rfl, hb3⟩
          go_wp2
          go_ret
          exact ⟨congrArg (fun b => Ending.returned (.bool b)) errT_eq, hb.trans (hb3.mono hb.size)⟩
        · rw [if_neg (by omega)] at hP
          go_wp2_with fail
          go_at_call 7
          refine hP.mono ?_
          rintro e w3 ⟨rfl, hb3⟩
          go_wp2
          go_ret
          exact ⟨rfl, hb.trans (hb3.mono hb.size)⟩
      · have hkc : c < k := by have := HN.out; omega
        have hnl : nLines c m = c + 1 := if_neg hm0
        rw [hnl, ← HN.out] at hP
        by_cases hbig : 262144 < k
        · rw [if_pos (.inl hbig)] at hP
          go_wp2_with fail
          go_at_call 7
          refine hP.mono ?_
          rintro e w3 ⟨rfl, hb3⟩
          go_wp2
          go_ret
          exact ⟨congrArg (fun b => Ending.returned (.bool b)) errT_eq, hb.trans (hb3.mono hb.size)⟩
        · by_cases hmany : 8000 < c + 1
          · rw [if_pos (.inr hmany)] at hP
            go_wp2_with fail
            go_at_call 7
            refine hP.mono ?_
            rintro e w3 ⟨rfl, hb3⟩
            go_wp2
            go_ret
            exact ⟨congrArg (fun b => Ending.returned (.bool b)) errT_eq, hb.trans (hb3.mono hb.size)⟩
          · rw [if_neg (by omega)] at hP
            go_wp2_with fail
            go_at_call 7
            refine hP.mono ?_
            rintro e w3 ⟨rfl, hb3⟩
            go_wp2
            go_ret
            exact ⟨rfl, hb.trans (hb3.mono hb.size)⟩
theorem stays_of_below {w w' : World} (h : Below w.heap.size w w') : Stays w w' := ⟨h.size, h.os, h.tape, h.output, h.block⟩
theorem long_any (hde : DecSaid Tryz.prog 11) (hnw : NewSaid Tryz.prog 12) (hcm : CmdSaid Tryz.prog 13) (n0 n1 : Int) {W : World} (hal : Calls Tryz.prog 6 #[] W fun e w' => e = .returned (.bool true) ∧ Below W.heap.size W w')
    (hm : ∃ x, W.cell? ⟨0, 0, none⟩ = some (.int .i64 x)) : Calls Tryz.prog 3 #[.int .i64 n0, .int .i64 n1] W fun e W' => e = .returned (.bool true) ∧ Stays W W' := by
  obtain ⟨x, hm⟩ := hm
  by_cases h : n0 < 0 ∨ 300000 < n0 ∨ n1 < 0 ∨ 9000 < n1 ∨ n0 < n1
  · exact (long_out n0 n1 W hal h).mono fun e W' h => ⟨h.1, stays_of_below h.2⟩
  · obtain ⟨n, rfl⟩ := Int.eq_ofNat_of_zero_le (show 0 ≤ n0 by omega)
    obtain ⟨c, rfl⟩ := Int.eq_ofNat_of_zero_le (show 0 ≤ n1 by omega)
    obtain ⟨m, hn⟩ : ∃ m, n = c + m := ⟨n - c, by omega⟩
    exact (long_in c m n x W hn (by omega) (by omega) (play_any hde hnw hcm c m x (by omega)) hm hal).mono fun e W' h => ⟨h.1, stays_of_below h.2⟩
end Go.Proofs.YtdkpggfooahnnaaGreatDoor
