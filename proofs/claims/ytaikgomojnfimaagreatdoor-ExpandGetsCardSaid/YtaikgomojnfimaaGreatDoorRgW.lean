/-
  digits and number of the reference, walked.
-/
import Derived.Test.YtaikgomojnfimaaGreatDoorDgW
import Derived.Lib.Join
import Derived.BigQuiet
import Derived.Deep.QuietTactic
import Derived.Deep.RegionLaw
import Derived.Deep.RegionWith
import Derived.Deep.RegionHeld3
import Derived.RegionTactic
import Derived.WalkKit
import Derived.WalkSpells
import Derived.StillTactics
import Derived.LoopIn
import Derived.RowKit3
import Derived.Below
import Derived.OwnWalk
import Derived.KernelRfl
open Go Go.Mx Go.RowKit
namespace Go.Proofs.YtaikgomojnfimaaGreatDoor
set_option maxRecDepth 100000
noncomputable section
/-! the other scope -/
theorem join_snoc (l : List (List UInt8)) (y sep : List UInt8) (h : l ≠ []) : Lib.join (l ++ [y]) sep = Lib.join l sep ++ sep ++ y := by
  match l, h with
  | x :: r, _ =>
    rw [List.cons_append, Lib.join_cons, Lib.join_cons]
    simp [Lib.joinTail]
theorem joinA_one (x : ByteArray) : joinA [x] = x := by
  unfold joinA
  apply ByteArray.ext
  simp [Lib.join_one]
theorem joinA_snoc (l : List ByteArray) (y : ByteArray) (h : l ≠ []) : (joinA l ++ (⟨#[32]⟩ : ByteArray)) ++ y = joinA (l ++ [y]) := by
  unfold joinA
  rw [List.map_append, List.map_cons, List.map_nil, join_snoc _ _ _ (by simpa using h)]
  apply ByteArray.ext
  simp [ByteArray.data_append]
theorem digAll_iff (s : ByteArray) : digAll s = true ↔ ∀ j (h : j < s.size), digF s[j].toNat = true := by
  unfold digAll
  rw [List.all_eq_true]
  constructor
  · intro h j hj
    exact h _ (by
      have : s[j] = s.data.toList[j]'hj := rfl
      rw [this]
      exact List.getElem_mem _)
  · intro h c hc
    obtain ⟨j, hj, rfl⟩ := List.getElem_of_mem hc
    exact h j hj
theorem digB_no {s : ByteArray} {k : Nat} (hk : k < s.size) (h : digF s[k].toNat = false) : digB s = false := by
  unfold digB
  cases e : digAll s with
  | false => simp
  | true => rw [(digAll_iff s).1 e k hk] at h; cases h
set_option maxHeartbeats 1600000 in
set_option maxRecDepth 100000 in
theorem xdig_any (s : ByteArray) (hs : s.size ≤ 1100000) (w : World) : Calls Tryz.prog 24 #[.string s] w fun e w' => e = .returned (.bool (digB s)) ∧ w' = w := by
  obtain ⟨b, hb⟩ : ∃ b, b = digB s := ⟨_, rfl⟩
  have HB : Hid (b = digB s) := hb
  rw [← hb]
  clear hb
  go_enter Tryz.func24, Tryz.ntmps24
  go_wp2
  go_loopw [3] (fun i wr => wr = w ∧ ∃ k : Nat, k ≤ s.size ∧ i = .int .i64 k ∧ ∀ j (h : j < s.size), j < k → digF s[j].toNat = true) (fun i _ => s.size - (intOf i).toNat)
  case atStart => exact ⟨rfl, 0, Nat.zero_le _, rfl, fun _ _ h => absurd h (Nat.not_lt_zero _)⟩
  case round =>
    obtain ⟨rfl, k, hk, rfl, hok⟩ := hrel
    by_cases hlt : k < s.size
    · have hlt' : (k : Int) < (s.size : Int) := by omega
      have hD := rdig_any s[k].toNat (UInt8.toNat_lt s[k]) wr
      cases hd : digF s[k].toNat with
      | true =>
        have HE : Hid (∀ j (h : j < s.size), j < k + 1 → digF s[j].toNat = true) := fun j h1 h2 => by
          by_cases e : j = k
          · subst e; exact hd
          · exact hok j h1 (by omega)
        rw [hd] at hD
        clear hok hd
        go_wp2_with fail
        go_at_call 43
        refine hD.mono ?_
        rintro e w1 ⟨rfl, hw1⟩
        subst hw1
        go_wp2
        go_roundw
        case rel => exact ⟨by first | trivial | rfl, k + 1, by omega, by go_num, HE.out⟩
        case measure => simp [intOf]; omega
      | false =>
        have hb2 : b = false := by rw [HB.out]; exact digB_no hlt hd
        subst hb2
        rw [hd] at hD
        clear hok hd
        go_wp2_with fail
        go_at_call 43
        refine hD.mono ?_
        rintro e w1 ⟨rfl, hw1⟩
        subst hw1
        go_wp2
        go_ret
        exact ⟨rfl, rfl⟩
    · have hall : digAll s = true := (digAll_iff s).2 fun j hj => hok j hj (by omega)
      by_cases h0 : s.data.toList = []
      · have hb2 : b = false := by rw [HB.out]; simp [digB, h0]
        subst hb2
        have e0 := eqB h0
        clear hok hall h0
        go_wp2
        go_ret
        exact ⟨rfl, rfl⟩
      · have hb2 : b = true := by
          rw [HB.out]
          unfold digB
          rw [hall]
          cases hh : s.data.toList with
          | nil => exact absurd hh h0
          | cons _ _ => rfl
        subst hb2
        have e0 := neB h0
        clear hok hall h0
        go_wp2
        go_ret
        exact ⟨rfl, rfl⟩
theorem num_take {s : ByteArray} {k : Nat} (h : k < s.size) : (s.data.toList.take (k + 1)).foldl (fun n c => n * 10 + (c.toNat - 48)) 0 = (s.data.toList.take k).foldl (fun n c => n * 10 + (c.toNat - 48)) 0 * 10 + (s[k].toNat - 48) := by
  have h2 : k < s.data.toList.length := h
  have e : s.data.toList.take (k + 1) = s.data.toList.take k ++ [s[k]] := by
    rw [List.take_succ_eq_append_getElem h2]
    rfl
  rw [e, List.foldl_append]
  rfl
theorem dig_range {n : Nat} (h : digF n = true) : 48 ≤ n ∧ n ≤ 57 := by
  unfold digF at h
  simpa using h
set_option maxHeartbeats 1600000 in
set_option maxRecDepth 100000 in
theorem xnum_any (s : ByteArray) (hs : s.size ≤ 4) (hd : digAll s = true) (w : World) : Calls Tryz.prog 25 #[.string s] w fun e w' => e = .returned (.int .i64 (numN s)) ∧ w' = w := by
  have HD : Hid (∀ j (h : j < s.size), digF s[j].toNat = true) := (digAll_iff s).1 hd
  obtain ⟨r, hr⟩ : ∃ r : Nat, r = numN s := ⟨_, rfl⟩
  have HR : Hid (r = numN s) := hr
  rw [← hr]
  clear hr hd
  go_enter Tryz.func25, Tryz.ntmps25
  go_wp2
  go_loopw [3, 4] (fun acc i wr => wr = w ∧ ∃ k a : Nat, k ≤ s.size ∧ i = .int .i64 k ∧ acc = .int .i64 a ∧ a = (s.data.toList.take k).foldl (fun n c => n * 10 + (c.toNat - 48)) 0 ∧ a < 10 ^ k) (fun _ i _ => s.size - (intOf i).toNat)
  case atStart => exact ⟨rfl, 0, 0, Nat.zero_le _, rfl, rfl, rfl, by decide⟩
  case round =>
    obtain ⟨rfl, k, a, hk, rfl, rfl, ha, hlt10⟩ := hrel
    by_cases hlt : k < s.size
    · have hlt' : (k : Int) < (s.size : Int) := by omega
      obtain ⟨d1, d2⟩ := dig_range (HD.out k hlt)
      have h4 : a < 1000 := by
        have : 10 ^ k ≤ 10 ^ 3 := Nat.pow_le_pow_right (by decide) (by omega)
        omega
      have HE : Hid (a * 10 + (s[k].toNat - 48) = (s.data.toList.take (k + 1)).foldl (fun n c => n * 10 + (c.toNat - 48)) 0 ∧ a * 10 + (s[k].toNat - 48) < 10 ^ (k + 1)) := by
        rw [num_take hlt, ← ha]
        refine ⟨rfl, ?_⟩
        rw [Nat.pow_succ]
        omega
      have hv : (a : Int) * 10 + (s[k].toNat : Int) - 48 = ((a * 10 + (s[k].toNat - 48) : Nat) : Int) := by omega
      have w1 : IntKind.i64.wrap ((a : Int) * 10) = (a : Int) * 10 := by rw [IntKind.wrap_i64]; omega
      have w2 : IntKind.i64.wrap ((a : Int) * 10 + (s[k].toNat : Int)) = (a : Int) * 10 + (s[k].toNat : Int) := by rw [IntKind.wrap_i64]; omega
      have w3 : IntKind.i64.wrap ((a : Int) * 10 + (s[k].toNat : Int) - 48) = (a : Int) * 10 + (s[k].toNat : Int) - 48 := by rw [IntKind.wrap_i64]; omega
      clear ha
      have HV : Hid ((a : Int) * 10 + (s[k].toNat : Int) - 48 = ((a * 10 + (s[k].toNat - 48) : Nat) : Int)) := hv
      clear hv
      go_wp2
      go_roundw
      case rel => exact ⟨by first | trivial | rfl, k + 1, a * 10 + (s[k].toNat - 48), by omega, by go_num, by rw [HV.out], HE.out.1, HE.out.2⟩
      case measure => simp [intOf]; omega
    · have hkk : k = s.size := by omega
      have hrr : r = a := by
        rw [HR.out, ha, hkk]
        unfold numN
        rw [List.take_of_length_le (by exact Nat.le_refl _)]
      subst hrr
      clear ha
      go_wp2
      go_ret
      exact ⟨rfl, rfl⟩
end
end Go.Proofs.YtaikgomojnfimaaGreatDoor
