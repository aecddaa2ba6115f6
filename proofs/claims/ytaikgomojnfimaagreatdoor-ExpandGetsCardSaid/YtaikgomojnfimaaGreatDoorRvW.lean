/-
  The names of the reference, walked.
-/
import Derived.Test.YtaikgomojnfimaaGreatDoorMpY
import Derived.BigQuiet
import Derived.Deep.QuietTactic
import Derived.Deep.RegionLaw
import Derived.Deep.RegionWith
import Derived.Deep.RegionHeld3
import Derived.RegionTactic
import Derived.WalkKit
import Derived.WalkSpells
import Derived.StillTactics
import Derived.LoopIn
import Derived.RowKit3
import Derived.Below
import Derived.OwnWalk
import Derived.KernelRfl
open Go Go.Mx Go.RowKit
namespace Go.Proofs.YtaikgomojnfimaaGreatDoor
set_option maxRecDepth 100000
noncomputable section
/-! the reference's names, and a byte's place -/
set_option maxHeartbeats 1600000 in
set_option maxRecDepth 100000 in
theorem rrun_any (s : ByteArray) (hs : s.size ≤ 1100000) (w : World) : Calls Tryz.prog 55 #[.string s, .int .i64 0] w fun e w' => ∃ n : Nat, e = .returned (.int .i64 n) ∧ w' = w ∧ RunIs s n := by
  go_enter Tryz.func55, Tryz.ntmps55
  go_wp2
  go_loopw [5] (fun i wr => wr = w ∧ ∃ k : Nat, k ≤ s.size ∧ i = .int .i64 k ∧ ∀ j, j < k → okAt s j = true) (fun i _ => s.size - (intOf i).toNat)
  case atStart => exact ⟨rfl, 0, Nat.zero_le _, rfl, fun _ h => absurd h (Nat.not_lt_zero _)⟩
  case round =>
    obtain ⟨rfl, k, hk, rfl, hok⟩ := hrel
    by_cases hlt : k < s.size
    · have hw0 : IntKind.i64.wrap ((0 : Int) + (k : Int)) = (k : Int) := by rw [IntKind.wrap_i64]; omega
      have hlt' : (k : Int) < (s.size : Int) := by omega
      have he := okAt_eq hlt
      have hb := UInt8.toNat_lt s[k]
      have hS := rlet_any s[k].toNat hb wr
      have hD := rdig_any s[k].toNat hb wr
      have HN : Hid (okAt s k = true → ∀ j, j < k + 1 → okAt s j = true) := fun h j hj => by
        by_cases e : j = k
        · rw [e]; exact h
        · exact hok j (by omega)
      have HO : Hid (okAt s k = false → RunIs s k) := fun h => run_out hlt h
      clear hok
      cases hl : letF s[k].toNat with
      | true =>
        rw [hl] at he hS
        have HE := HN.out (by rw [he]; rfl)
        clear HN HO he hD
        have HE' : Hid (∀ j, j < k + 1 → okAt s j = true) := HE
        clear HE
        go_wp2_with fail
        go_at_call 78
        refine hS.mono ?_
        rintro e w1 ⟨rfl, hw1⟩
        subst hw1
        go_wp2
        go_roundw
        case rel => exact ⟨by first | trivial | rfl, k + 1, by omega, by go_num, HE'.out⟩
        case measure => simp [intOf]; omega
      | false =>
        rw [hl] at he hS
        by_cases h0 : 0 < k
        · have h0' : (0 : Int) < (k : Int) := by omega
          cases hd : digF s[k].toNat with
          | true =>
            have HE : Hid (∀ j, j < k + 1 → okAt s j = true) := HN.out (by rw [he, hd]; simp [h0])
            rw [hd] at hD
            clear HN HO he
            go_wp2_with fail
            go_at_call 78
            refine hS.mono ?_
            rintro e w1 ⟨rfl, hw1⟩
            subst hw1
            go_wp2_with fail
            go_at_call 43
            refine hD.mono ?_
            rintro e w2 ⟨rfl, hw2⟩
            subst hw2
            go_wp2
            go_roundw
            case rel => exact ⟨by first | trivial | rfl, k + 1, by omega, by go_num, HE.out⟩
            case measure => simp [intOf]; omega
          | false =>
            have HE : Hid (RunIs s k) := HO.out (by rw [he, hd]; simp)
            rw [hd] at hD
            clear HN HO he
            go_wp2_with fail
            go_at_call 78
            refine hS.mono ?_
            rintro e w1 ⟨rfl, hw1⟩
            subst hw1
            go_wp2_with fail
            go_at_call 43
            refine hD.mono ?_
            rintro e w2 ⟨rfl, hw2⟩
            subst hw2
            go_wp2
            go_ret
            exact ⟨k, rfl, rfl, HE.out⟩
        · have hk0 : k = 0 := by omega
          subst hk0
          have HE : Hid (RunIs s 0) := HO.out (by rw [he]; simp)
          clear HN HO he
          go_wp2_with fail
          go_at_call 78
          refine hS.mono ?_
          rintro e w1 ⟨rfl, hw1⟩
          subst hw1
          go_wp2
          go_ret
          exact ⟨0, rfl, rfl, HE.out⟩
    · have hkk : k = s.size := by omega
      subst hkk
      have HE : Hid (RunIs s s.size) := run_all hok
      clear hok
      go_wp2
      go_ret
      exact ⟨_, rfl, rfl, HE.out⟩
set_option maxHeartbeats 1600000 in
set_option maxRecDepth 100000 in
theorem rname_any (s : ByteArray) (hs : s.size ≤ 1100000) (w : World) : Calls Tryz.prog 33 #[.string s] w fun e w' => e = .returned (.bool (nameB s)) ∧ w' = w := by
  obtain ⟨b, hb⟩ : ∃ b, b = nameB s := ⟨_, rfl⟩
  have HB : Hid (b = nameB s) := hb
  rw [← hb]
  clear hb
  by_cases c1 : s.data.toList = []
  · have e0 := eqB c1
    have hb2 : b = false := by rw [HB.out]; simp [nameB, c1]
    subst hb2
    clear c1
    go_enter Tryz.func33, Tryz.ntmps33
    go_wp2
    go_ret
    exact ⟨rfl, rfl⟩
  · have e0 := neB c1
    by_cases c2 : s.size ≤ 60
    · have c2' : (s.size : Int) ≤ 60 := by omega
      have hR := rrun_any s hs w
      have HX : Hid (∀ n, RunIs s n → b = decide (n = s.size)) := fun n h => by rw [HB.out]; exact nameB_run c1 c2 h
      clear c1
      go_enter Tryz.func33, Tryz.ntmps33
      go_wp2_with fail
      go_at_call 55
      refine hR.mono ?_
      rintro e w1 ⟨n, rfl, hw1, hn⟩
      subst hw1
      have hx := HX.out n hn
      by_cases hq : n = s.size
      · rw [decide_eq_true hq] at hx
        subst hx
        subst hq
        go_wp2
        go_ret
        exact ⟨rfl, rfl⟩
      · rw [decide_eq_false hq] at hx
        subst hx
        have hq' : ((n : Int) == (s.size : Int)) = false := beq_eq_false_iff_ne.2 (by omega)
        go_wp2
        go_ret
        exact ⟨rfl, rfl⟩
    · have c2' : ¬ (s.size : Int) ≤ 60 := by omega
      have hb2 : b = false := by rw [HB.out]; simp [nameB, c2]
      subst hb2
      clear c1 c2
      go_enter Tryz.func33, Tryz.ntmps33
      go_wp2
      go_ret
      exact ⟨rfl, rfl⟩
theorem ret_int {k : IntKind} {a b : Int} (h : a = b) : Ending.returned (.int k a) = .returned (.int k b) := by rw [h]
theorem take_snoc (s : ByteArray) (k : Nat) (h : k < s.size) : s.data.toList.take (k + 1) = s.data.toList.take k ++ [s[k]] := by
  rw [List.take_succ_eq_append_getElem (by simpa using h)]; rfl
theorem idx_hit (s : ByteArray) (k n : Nat) (h : k < s.size) (hn : n < 256) (he : (s[k].toNat : Int) = n) (hne : ∀ d ∈ s.data.toList.take k, d.toNat ≠ n) : (k : Int) = Lib.indexByte s.data.toList (UInt8.ofNat n) := by
  have e : s.data.toList = s.data.toList.take k ++ (s[k] :: s.data.toList.drop (k + 1)) := by
    have hl : s.data.toList.length = s.size := rfl
    have : s.data.toList.drop k = s[k] :: s.data.toList.drop (k + 1) := List.drop_eq_getElem_cons (by omega)
    rw [← this, List.take_append_drop]
  rw [e, Mx.indexByte_skip hn hne]
  have ei : ∀ t, Lib.indexByte (s[k] :: t) (UInt8.ofNat n) = 0 := fun t => by
    have ej : Lib.indexByte (s[k] :: t) (UInt8.ofNat n) = if (s[k] == UInt8.ofNat n) = true then 0 else if Lib.indexByte t (UInt8.ofNat n) == -1 then -1 else Lib.indexByte t (UInt8.ofNat n) + 1 := rfl
    have e2 : s[k] = UInt8.ofNat n := by
      have : s[k].toNat = n := by omega
      rw [← this]; simp
    rw [ej, e2]; simp
  rw [ei, if_neg (by omega), List.length_take]
  have : s.data.toList.length = s.size := rfl
  omega
set_option maxHeartbeats 400000 in
theorem at_any (s : ByteArray) (n : Nat) (w : World) (hs : s.size ≤ maxLen) (hn : n < 256) :
    Calls Tryz.prog 34 #[.string s, .int .u8 (n : Int)] w fun e w' => e = .returned (.int .i64 (Lib.indexByte s.data.toList (UInt8.ofNat n))) ∧ w' = w := by
  unfold maxLen at hs
  go_enter Tryz.func34, Tryz.ntmps34
  go_wp2
  go_loop [5] (fun i => ∃ k : Nat, k ≤ s.size ∧ i = .int .i64 k ∧ ∀ d ∈ s.data.toList.take k, d.toNat ≠ n) (fun i => s.size - (intOf i).toNat)
  case atStart => exact ⟨0, Nat.zero_le _, rfl, by simp⟩
  case round =>
    obtain ⟨k, hk, rfl, hne⟩ := hrel
    by_cases hlt : k < s.size
    · have hh := fun he => idx_hit s k n hlt hn he hne
      have hts := take_snoc s k hlt
      have hnx : (s[k].toNat : Int) ≠ n → ∀ d ∈ s.data.toList.take (k + 1), d.toNat ≠ n := fun he d hd => by
        rw [hts] at hd
        rcases List.mem_append.1 hd with hd | hd
        · exact hne d hd
        · rw [List.mem_singleton.1 hd]; omega
      clear hts hne
      by_cases he : (s[k].toNat : Int) = n
      · have HS : Hid ((k : Int) = Lib.indexByte s.data.toList (UInt8.ofNat n)) := hh he
        clear hnx hh
        go_wp2
        all_goals first | (go_ret; exact ⟨ret_int HS.out, rfl⟩) | (exfalso; rename_i hb; simp [he] at hb; done)
      · have HN : Hid (∀ d ∈ s.data.toList.take (k + 1), d.toNat ≠ n) := hnx he
        clear hh hnx
        go_wp2
        go_round
        case rel => exact ⟨k + 1, by omega, by go_num, HN.out⟩
        case measure => simp [intOf]; omega
    · have e0 : s.data.toList.take k = s.data.toList := by
        have : s.data.toList.length = s.size := rfl
        exact List.take_of_length_le (by omega)
      rw [e0] at hne
      have HZ : Hid (Lib.indexByte s.data.toList (UInt8.ofNat n) = -1) := Mx.indexByte_none hn hne
      clear hne e0
      go_wp2
      go_ret
      exact ⟨ret_int HZ.out.symm, rfl⟩

end
end Go.Proofs.YtaikgomojnfimaaGreatDoor
