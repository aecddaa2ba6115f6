/-
  What quartermasterref1.At tells of any text.
-/
import Derived.Test.YtdkpggfooahnnaaGreatDoorProg
import Derived.Test.YtdkpggfooahnnaaGreatDoorXMxQ
import Derived.WalkKit
import Derived.WalkSpells
import Derived.StillTactics
import Derived.LoopIn
import Derived.RowKit3
import Derived.Below
open Go Go.RowKit
namespace Go.Proofs.YtdkpggfooahnnaaGreatDoor
set_option maxRecDepth 100000
theorem ret_int {k : IntKind} {a b : Int} (h : a = b) : Ending.returned (.int k a) = .returned (.int k b) := by rw [h]
theorem take_snoc (s : ByteArray) (k : Nat) (h : k < s.size) : s.data.toList.take (k + 1) = s.data.toList.take k ++ [s[k]] := by
  rw [List.take_succ_eq_append_getElem (by simpa using h)]; rfl
theorem idx_hit (s : ByteArray) (k n : Nat) (h : k < s.size) (hn : n < 256) (he : (s[k].toNat : Int) = n) (hne : ∀ d ∈ s.data.toList.take k, d.toNat ≠ n) : (k : Int) = Lib.indexByte s.data.toList (UInt8.ofNat n) := by
  have e : s.data.toList = s.data.toList.take k ++ (s[k] :: s.data.toList.drop (k + 1)) := by
    have hl : s.data.toList.length = s.size := rfl
    have : s.data.toList.drop k = s[k] :: s.data.toList.drop (k + 1) := List.drop_eq_getElem_cons (by omega)
    rw [← this, List.take_append_drop]
  rw [e, Mx.indexByte_skip hn hne]
  have ei : ∀ t, Lib.indexByte (s[k] :: t) (UInt8.ofNat n) = 0 := fun t => by
    have ej : Lib.indexByte (s[k] :: t) (UInt8.ofNat n) = if (s[k] == UInt8.ofNat n) = true then 0 else if Lib.indexByte t (UInt8.ofNat n) == -1 then -1 else Lib.indexByte t (UInt8.ofNat n) + 1 := rfl
    have e2 : s[k] = UInt8.ofNat n := by
      have : s[k].toNat = n := by omega
      rw [← this]; simp
    rw [ej, e2]; simp
  rw [ei, if_neg (by omega), List.length_take]
  have : s.data.toList.length = s.size := rfl
  omega
set_option maxHeartbeats 400000 in
theorem at_any (s : ByteArray) (n : Nat) (w : World) (hs : s.size ≤ maxLen) (hn : n < 256) :
    Calls Tryz.prog 8 #[.string s, .int .u8 (n : Int)] w fun e w' => e = .returned (.int .i64 (Lib.indexByte s.data.toList (UInt8.ofNat n))) ∧ w' = w := by
  unfold maxLen at hs
  go_enter Tryz.func8, Tryz.ntmps8
  go_wp2
  go_loop [5] (fun i => ∃ k : Nat, k ≤ s.size ∧ i = .int .i64 k ∧ ∀ d ∈ s.data.toList.take k, d.toNat ≠ n) (fun i => s.size - (intOf i).toNat)
  case atStart => exact ⟨0, Nat.zero_le _, rfl, by simp⟩
  case round =>
    obtain ⟨k, hk, rfl, hne⟩ := hrel
    by_cases hlt : k < s.size
    · have hh := fun he => idx_hit s k n hlt hn he hne
      have hts := take_snoc s k hlt
      have hnx : (s[k].toNat : Int) ≠ n → ∀ d ∈ s.data.toList.take (k + 1), d.toNat ≠ n := fun he d hd => by
        rw [hts] at hd
        rcases List.mem_append.1 hd with hd | hd
        · exact hne d hd
        · rw [List.mem_singleton.1 hd]; omega
      clear hts hne
      by_cases he : (s[k].toNat : Int) = n
      · have HS : Hid ((k : Int) = Lib.indexByte s.data.toList (UInt8.ofNat n)) := hh he
        clear hnx hh
        go_wp2
        all_goals first | (go_ret; exact ⟨ret_int HS.out, rfl⟩) | (exfalso; rename_i hb; simp [he] at hb; done)
      · have HN : Hid (∀ d ∈ s.data.toList.take (k + 1), d.toNat ≠ n) := hnx he
        clear hh hnx
        go_wp2
        go_round
        case rel => exact ⟨k + 1, by omega, by go_num, HN.out⟩
        case measure => simp [intOf]; omega
    · have e0 : s.data.toList.take k = s.data.toList := by
        have : s.data.toList.length = s.size := rfl
        exact List.take_of_length_le (by omega)
      rw [e0] at hne
      have HZ : Hid (Lib.indexByte s.data.toList (UInt8.ofNat n) = -1) := Mx.indexByte_none hn hne
      clear hne e0
      go_wp2
      go_ret
      exact ⟨ret_int HZ.out.symm, rfl⟩
end Go.Proofs.YtdkpggfooahnnaaGreatDoor
