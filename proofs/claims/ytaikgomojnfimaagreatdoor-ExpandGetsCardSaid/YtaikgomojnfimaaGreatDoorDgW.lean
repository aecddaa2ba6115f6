/-
  Decimals of the reference, walked.
-/
import Derived.Test.YtaikgomojnfimaaGreatDoorGtW
import Derived.Test.YtaikgomojnfimaaGreatDoorXMxQ
import Derived.Lib.ItoaNum
import Derived.BigQuiet
import Derived.Deep.QuietTactic
import Derived.Deep.RegionLaw
import Derived.Deep.RegionWith
import Derived.Deep.RegionHeld3
import Derived.RegionTactic
import Derived.WalkKit
import Derived.WalkSpells
import Derived.StillTactics
import Derived.LoopIn
import Derived.RowKit3
import Derived.Below
import Derived.OwnWalk
import Derived.KernelRfl
open Go Go.Mx Go.RowKit
namespace Go.Proofs.YtaikgomojnfimaaGreatDoor
set_option maxRecDepth 100000
noncomputable section
/-! the reference's decimals -/
def decS (n : Nat) : ByteArray := ⟨(Lib.decDigits n).toArray⟩
theorem dig_one (d : Nat) (h : d < 10) : ({ data := #[48, 49, 50, 51, 52, 53, 54, 55, 56, 57] } : ByteArray).extract d (d + 1) = ⟨#[UInt8.ofNat (48 + d)]⟩ := by
  match d, h with
  | 0, _ => decide
  | 1, _ => decide
  | 2, _ => decide
  | 3, _ => decide
  | 4, _ => decide
  | 5, _ => decide
  | 6, _ => decide
  | 7, _ => decide
  | 8, _ => decide
  | 9, _ => decide
theorem decS_small {n : Nat} (h : n < 10) : decS n = ⟨#[UInt8.ofNat (48 + n)]⟩ := by
  unfold decS
  rw [Lib.decDigits_one h]
theorem decS_big {n : Nat} (h : ¬ n < 10) : decS (n / 10) ++ ({ data := #[48, 49, 50, 51, 52, 53, 54, 55, 56, 57] } : ByteArray).extract (n % 10) (n % 10 + 1) = decS n := by
  rw [dig_one (n % 10) (by omega)]
  have e : Lib.decDigits n = Lib.decDigits (n / 10) ++ [UInt8.ofNat (48 + n % 10)] := by rw [Lib.decDigits, dif_neg h]
  unfold decS
  rw [e]
  apply ByteArray.ext
  simp
theorem nDigits_le (u : Nat) : Lib.nDigits u ≤ u + 1 := by
  induction u using Nat.strongRecOn with
  | _ u ih =>
    by_cases h : u < 10
    · rw [Lib.nDigits_small h]; omega
    · rw [Lib.nDigits_big h]
      have := ih (u / 10) (by omega)
      omega
theorem decS_size (u : Nat) : (decS u).size ≤ u + 1 := by
  have e : (decS u).size = (Lib.decDigits u).length := by unfold decS; simp [ByteArray.size]
  rw [e, Lib.decDigits_length]
  exact nDigits_le u
theorem ret_str {a b : ByteArray} (h : a = b) : Ending.returned (.string a) = .returned (.string b) := by rw [h]
set_option maxHeartbeats 800000 in
set_option maxRecDepth 10000 in
theorem digits_small (n : Nat) (h : n < 10) (w : World) : Calls Tryz.prog 23 #[.int .i64 (n : Int)] w fun e w' => e = .returned (.string (decS n)) ∧ w' = w := by
  have e1 : ((n : Int) % 10) = n := by omega
  go_enter Tryz.func23, Tryz.ntmps23
  go_wp2
  go_ret
  exact ⟨ret_str ((dig_one n h).trans (decS_small h).symm), rfl⟩
set_option maxHeartbeats 800000 in
set_option maxRecDepth 100000 in
theorem digits_step (n : Nat) (h9 : (9 : Int) < n) (hn : (n : Int) ≤ 9223372036854775807) (w : World) (ih : Calls Tryz.prog 23 #[.int .i64 ((n / 10 : Nat) : Int)] w fun e w' => e = .returned (.string (decS (n / 10))) ∧ w' = w) :
    Calls Tryz.prog 23 #[.int .i64 (n : Int)] w fun e w' => e = .returned (.string (decS n)) ∧ w' = w := by
  have ih' : Calls Tryz.prog 23 #[.int .i64 ((n : Int) / 10)] w fun e w' => e = .returned (.string (decS (n / 10))) ∧ w' = w := ih
  have HS : Hid (decS (n / 10) ++ ({ data := #[48, 49, 50, 51, 52, 53, 54, 55, 56, 57] } : ByteArray).extract (n % 10) (n % 10 + 1) = decS n) := decS_big (by omega)
  have hsz : (decS (n / 10)).size + (({ data := #[48, 49, 50, 51, 52, 53, 54, 55, 56, 57] } : ByteArray).extract (n % 10) (n % 10 + 1)).size ≤ 9223372036854775807 := by
    rw [dig_one (n % 10) (by omega)]
    have h1 := decS_size (n / 10)
    have h2 : ({ data := #[UInt8.ofNat (48 + n % 10)] } : ByteArray).size = 1 := rfl
    omega
  clear ih
  go_enter Tryz.func23, Tryz.ntmps23
  go_wp2_with (go_at_call 23; refine ih'.mono ?_; rintro e w' ⟨rfl, rfl⟩)
  go_ret
  exact ⟨ret_str HS.out, rfl⟩
theorem digits_any : ∀ (n : Nat), (n : Int) ≤ 9223372036854775807 → ∀ w : World, Calls Tryz.prog 23 #[.int .i64 (n : Int)] w fun e w' => e = .returned (.string (decS n)) ∧ w' = w := by
  intro n
  induction n using Nat.strongRecOn with
  | _ n ih =>
    intro hn w
    by_cases h : n < 10
    · exact digits_small n h w
    · exact digits_step n (by omega) hn w (ih (n / 10) (by omega) (by omega) w)

def itoaS (n : Int) : ByteArray := ⟨(Lib.itoa n).toArray⟩
theorem itoaS_pos (n : Nat) : itoaS (n : Int) = decS n := by
  unfold itoaS decS Lib.itoa
  rw [if_neg (by omega)]
  simp
theorem itoaS_neg {n : Nat} (h : 0 < n) : itoaS (-(n : Int)) = (⟨#[45]⟩ : ByteArray) ++ decS n := by
  unfold itoaS decS Lib.itoa
  rw [if_pos (by omega)]
  apply ByteArray.ext
  simp
theorem itoaS_min : itoaS (-9223372036854775808) = ⟨#[45, 57, 50, 50, 51, 51, 55, 50, 48, 51, 54, 56, 53, 52, 55, 55, 53, 56, 48, 56]⟩ := by
  unfold itoaS Lib.itoa
  rw [if_pos (by decide)]
  apply ByteArray.ext
  simp [Lib.decDigits]
set_option maxHeartbeats 800000 in
set_option maxRecDepth 100000 in
theorem int_pos (n : Nat) (hn : (n : Int) ≤ 9223372036854775807) (w : World) : Calls Tryz.prog 22 #[.int .i64 (n : Int)] w fun e w' => e = .returned (.string (itoaS n)) ∧ w' = w := by
  have ih := digits_any n hn w
  have HS : Hid (itoaS (n : Int) = decS n) := itoaS_pos n
  go_enter Tryz.func22, Tryz.ntmps22
  go_wp2_with (go_at_call 23; refine ih.mono ?_; rintro e w' ⟨rfl, rfl⟩)
  go_ret
  exact ⟨ret_str HS.out.symm, rfl⟩
set_option maxHeartbeats 800000 in
set_option maxRecDepth 100000 in
theorem int_neg (m : Nat) (h0 : 0 < (m : Int)) (hn : (m : Int) ≤ 9223372036854775807) (w : World) : Calls Tryz.prog 22 #[.int .i64 (-(m : Int))] w fun e w' => e = .returned (.string (itoaS (-(m : Int)))) ∧ w' = w := by
  have ih := digits_any m hn w
  have HS : Hid (itoaS (-(m : Int)) = (⟨#[45]⟩ : ByteArray) ++ decS m) := itoaS_neg (by omega)
  have hsz := decS_size m
  have h2 : (decS m).size ≤ 9223372036854775806 := by
    by_cases h : m < 10
    · omega
    · have e : (decS m).size = (Lib.decDigits m).length := by unfold decS; simp [ByteArray.size]
      rw [e, Lib.decDigits_length, Lib.nDigits_big h]
      have := nDigits_le (m / 10)
      omega
  clear hsz
  go_enter Tryz.func22, Tryz.ntmps22
  go_wp2_with (go_at_call 23; refine ih.mono ?_; rintro e w' ⟨rfl, rfl⟩)
  go_ret
  exact ⟨ret_str HS.out.symm, rfl⟩
set_option maxHeartbeats 800000 in
set_option maxRecDepth 100000 in
theorem int_min (w : World) : Calls Tryz.prog 22 #[.int .i64 (-9223372036854775808)] w fun e w' => e = .returned (.string (itoaS (-9223372036854775808))) ∧ w' = w := by
  have HS : Hid (itoaS (-9223372036854775808) = ⟨#[45, 57, 50, 50, 51, 51, 55, 50, 48, 51, 54, 56, 53, 52, 55, 55, 53, 56, 48, 56]⟩) := itoaS_min
  go_enter Tryz.func22, Tryz.ntmps22
  go_wp2
  go_ret
  exact ⟨ret_str HS.out.symm, rfl⟩
theorem int_any (n : Int) (h1 : -9223372036854775808 ≤ n) (h2 : n ≤ 9223372036854775807) (w : World) : Calls Tryz.prog 22 #[.int .i64 n] w fun e w' => e = .returned (.string (itoaS n)) ∧ w' = w := by
  by_cases h : n = -9223372036854775808
  · subst h
    exact int_min w
  · by_cases h0 : 0 ≤ n
    · obtain ⟨m, rfl⟩ := Int.eq_ofNat_of_zero_le h0
      exact int_pos m h2 w
    · obtain ⟨m, hm⟩ : ∃ m : Nat, n = -(m : Int) := ⟨n.natAbs, by omega⟩
      subst hm
      exact int_neg m (by omega) (by omega) w

end
end Go.Proofs.YtaikgomojnfimaaGreatDoor
