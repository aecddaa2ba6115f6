/-
  What number tells of the decimals of any number.
-/
import Derived.Test.YteoeiinpiihpoaaGreatDoorShW
import Derived.Test.YteoeiinpiihpoaaGreatDoorDgW
import Derived.Test.YteoeiinpiihpoaaGreatDoorXNumF
import Derived.WalkKit
import Derived.WalkSpells
import Derived.StillTactics
import Derived.LoopIn
import Derived.RowKit3
import Derived.Below
import Derived.Lib.ItoaNum
import Derived.Lib.AtoiErrMem
import Derived.Lib.ItoaLen
open Go Go.RowKit
namespace Go.Proofs.YteoeiinpiihpoaaGreatDoor
theorem dec10 : ∀ (j : Nat) b, ({ data := #[48, 49, 50, 51, 52, 53, 54, 55, 56, 57] } : ByteArray).data.toList[j]? = some b → b.toNat < 128 := ascii_of_all (by decide)
theorem num_prefix (n : Int) (w : World) : Calls Tryz.prog 26 #[.string (itoaS n), .string ⟨#[45]⟩] w fun e w' => e = .returned (.string (decS n.natAbs)) ∧ w' = w :=
  (Tryz.strings_TrimPrefix (itoaS n) ⟨#[45]⟩ w).mono fun e w' h => ⟨h.1.trans (by
    have : Lib.trimPrefix (itoaS n).data.toList (⟨#[45]⟩ : ByteArray).data.toList = Lib.decDigits n.natAbs := by
      show Lib.trimPrefix (Lib.itoa n).toArray.toList [45] = _
      rw [List.toList_toArray]
      exact Mx.trim_itoa n
    rw [this]
    rfl), h.2⟩
theorem h116 : (Tryz.prog.info? (Tryz.lays160_ren.t 116)).map (fun i => (i.zero, i.size)) = some (some (.agg (Array.replicate 256 (.bool false))), 256) := by kernel_rfl
theorem num_trim (u : Nat) (h : Lib.nDigits u ≤ 18) (w : World) : Calls Tryz.prog 27 #[.string (decS u), .string ⟨#[48, 49, 50, 51, 52, 53, 54, 55, 56, 57]⟩] w fun e w' => e = .returned (.string ⟨#[]⟩) ∧ Below w.heap.size w w' :=
  (Any.strings_Trim_laid Tryz.lays160 h116 (decS u) ⟨#[48, 49, 50, 51, 52, 53, 54, 55, 56, 57]⟩ w (by
    have e : (decS u).size = (Lib.decDigits u).length := by unfold decS; simp [ByteArray.size]
    rw [e, Lib.decDigits_length]; omega) (by decide) dec10).mono fun e w' h => ⟨h.1.trans (by
    have : Lib.trimS (decS u).data.toList (⟨#[48, 49, 50, 51, 52, 53, 54, 55, 56, 57]⟩ : ByteArray).data.toList = [] := by
      show Lib.trimS (Lib.decDigits u).toArray.toList _ = _
      rw [List.toList_toArray]
      exact Mx.trim_dec u
    rw [this]), h.2⟩
theorem num_atoi (n : Int) (h1 : -9223372036854775808 ≤ n) (h2 : n ≤ 9223372036854775807) (w : World) : Calls Tryz.prog 28 #[.string (itoaS n)] w fun e w' => e = .returned (.tuple #[.int .i64 n, .nilIface]) ∧ Below w.heap.size w w' :=
  (Tryz.strconv_Atoi_ok (itoaS n) (by
    have e : (itoaS n).size = (Lib.itoa n).length := by unfold itoaS; simp [ByteArray.size]
    have := Lib.itoa_length_le n h1 h2
    omega) n (by
    show Lib.atoiAll (Lib.itoa n).toArray.toList = _
    rw [List.toList_toArray]
    exact Mx.atoi_itoa h1 h2) w).mono fun e w' h => ⟨h.1, by
    rcases h.2 with h | ⟨t, h⟩
    · rw [h]; exact Below.refl _ _
    · rw [h]; exact Lib.bytesWorld_below w _ t⟩
theorem dec_size (u : Nat) : (decS u).size = Lib.nDigits u := by
  have e : (decS u).size = (Lib.decDigits u).length := by unfold decS; simp [ByteArray.size]
  rw [e, Lib.decDigits_length]
theorem dec_some (u : Nat) : (decS u).toList.isEmpty = false := by
  rw [ByteArray.toList_eq]
  have : (decS u).data.toList = Lib.decDigits u := by unfold decS; simp
  rw [this]
  cases e : Lib.decDigits u with
  | nil => exact absurd e (Mx.dec_ne u)
  | cons c r => rfl
set_option maxHeartbeats 800000 in
set_option maxRecDepth 100000 in
theorem number_mid (n : Int) (h1 : -1000000000000000000 < n) (h2 : n < 1000000000000000000) (w : World) : Calls Tryz.prog 18 #[.string (itoaS n)] w fun e w' => e = .returned (.tuple #[.int .i64 n, .bool true]) ∧ Below w.heap.size w w' := by
  have hd : Lib.nDigits n.natAbs ≤ 18 := Mx.nDigits_le' 17 _ (by omega)
  have e := dec_size n.natAbs
  have he := dec_some n.natAbs
  have HP := num_prefix n w
  have HT := num_trim n.natAbs hd
  have HA := num_atoi n (by omega) (by omega)
  generalize decS n.natAbs = d at *
  generalize itoaS n = s at *
  go_enter Tryz.func18, Tryz.ntmps18
  go_wp2_with (first
    | (go_at_call 26; refine HP.mono ?_; rintro e w1 ⟨rfl, rfl⟩)
    | (go_at_call 27; refine (HT _).mono ?_; rintro e w1 ⟨rfl, hw1⟩)
    | (go_at_call 28; refine (HA _).mono ?_; rintro e w2 ⟨rfl, hw2⟩))
  go_ret2
  exact ⟨rfl, hw1.trans ⟨hw2.os, hw2.tape, hw2.output, hw2.size, fun k hk => hw2.block k (Nat.lt_of_lt_of_le hk hw1.size)⟩⟩
set_option maxHeartbeats 800000 in
set_option maxRecDepth 100000 in
theorem number_long (n : Int) (h1 : n ≤ -1000000000000000000 ∨ 1000000000000000000 ≤ n) (w : World) : Calls Tryz.prog 18 #[.string (itoaS n)] w fun e w' => e = .returned (.tuple #[.int .i64 0, .bool false]) ∧ Below w.heap.size w w' := by
  have hd : 18 < Lib.nDigits n.natAbs := Mx.nDigits_ge (k := 18) (by omega)
  have e := dec_size n.natAbs
  have he := dec_some n.natAbs
  have HP := num_prefix n w
  generalize decS n.natAbs = d at *
  generalize itoaS n = s at *
  go_enter Tryz.func18, Tryz.ntmps18
  go_wp2_with (go_at_call 26; refine HP.mono ?_; rintro e w1 ⟨rfl, rfl⟩)
  go_ret2
  exact ⟨rfl, Below.refl _ _⟩
end Go.Proofs.YteoeiinpiihpoaaGreatDoor
