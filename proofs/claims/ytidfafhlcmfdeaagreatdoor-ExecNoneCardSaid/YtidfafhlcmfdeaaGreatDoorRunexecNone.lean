/-
  The runs of execNone: at every input. No condition.
-/
import Derived.Test.YtidfafhlcmfdeaaGreatDoorRunexecNone0
import Derived.Test.YtidfafhlcmfdeaaGreatDoorRunexecNone1
import Derived.Test.YtidfafhlcmfdeaaGreatDoorRunexecNone2
import Derived.Test.YtidfafhlcmfdeaaGreatDoorRunexecNone3
open Go Go.Mx
namespace Go.Proofs.YtidfafhlcmfdeaaGreatDoor
set_option maxRecDepth 1000000
noncomputable section
theorem xn_fn : Tryz.prog.funcs[3]? = some Tryz.f3 := by kernel_rfl
theorem xn_body : ∃ c, Tryz.f3.body = some c := ⟨_, rfl⟩
theorem xn_words : ∀ n, n ≤ 40 → ∀ τ, xnRun τ (.cons (.w (atomsV 97 122 n 12 .nil)) .nil) (12 + n) = true
  | 0, _ => xn_w0
  | 1, _ => xn_w1
  | 2, _ => xn_w2
  | 3, _ => xn_w3
  | 4, _ => xn_w4
  | 5, _ => xn_w5
  | 6, _ => xn_w6
  | 7, _ => xn_w7
  | 8, _ => xn_w8
  | 9, _ => xn_w9
  | 10, _ => xn_w10
  | 11, _ => xn_w11
  | 12, _ => xn_w12
  | 13, _ => xn_w13
  | 14, _ => xn_w14
  | 15, _ => xn_w15
  | 16, _ => xn_w16
  | 17, _ => xn_w17
  | 18, _ => xn_w18
  | 19, _ => xn_w19
  | 20, _ => xn_w20
  | 21, _ => xn_w21
  | 22, _ => xn_w22
  | 23, _ => xn_w23
  | 24, _ => xn_w24
  | 25, _ => xn_w25
  | 26, _ => xn_w26
  | 27, _ => xn_w27
  | 28, _ => xn_w28
  | 29, _ => xn_w29
  | 30, _ => xn_w30
  | 31, _ => xn_w31
  | 32, _ => xn_w32
  | 33, _ => xn_w33
  | 34, _ => xn_w34
  | 35, _ => xn_w35
  | 36, _ => xn_w36
  | 37, _ => xn_w37
  | 38, _ => xn_w38
  | 39, _ => xn_w39
  | 40, _ => xn_w40
  | n + 41, h => absurd h (by omega)
theorem xn_calls0 (s : ByteArray) (hz0 : s.size ≤ maxLen) {W : World} (tab : HasTables tbl W) : Calls Tryz.prog 3 #[.string s] W fun e W' => e = .returned (.bool true) ∧ Stays W W' := by
  obtain ⟨cd, hb⟩ := xn_body
  have hz : s.size ≤ 9223372036854775807 := hz0
  rcases words 97 122 40 s with h | ⟨h, hw⟩ | ⟨k, d, h, hk, hp, hd⟩
  · exact top_run_x follows nameOK hkBok xn_fn hb tblIn (vals := [s.size]) (nx := 13) rfl (args := .cons (.y .nil 12 41 9223372036854775807) .nil) ⟨_, _, rfl, VR_long (atomsR_at (j := 0) rfl) ⟨by omega, hz⟩, rfl⟩ (fun τ => xn_l τ) tab
  · exact top_run_x follows nameOK hkBok xn_fn hb tblIn (vals := s.data.toList.map UInt8.toNat) (nx := 12 + s.size) (by rw [List.length_map]; rfl) (args := .cons (.w (atomsV 97 122 s.size 12 .nil)) .nil) ⟨_, _, rfl, VR_word rfl hw (fun j c hj => atomsR_at (by simp [hj])), rfl⟩ (xn_words s.size h) tab
  · have hlt : k < s.size := (List.getElem?_eq_some_iff.1 hk).1
    have hl0 : s.data.toList.length = s.size := rfl
    have hvl : ((s.data.toList.take (k + 1)).map UInt8.toNat ++ [s.size]).length = k + 2 := by rw [List.length_append, List.length_map, List.length_take, hl0, Nat.min_eq_left (by omega)]; rfl
    have hvals : ∀ (j : Nat) c, s.data.toList[j]? = some c → j ≤ k → ((s.data.toList.take (k + 1)).map UInt8.toNat ++ [s.size])[j]? = some c.toNat := fun j c hj hjk => by
      have hjl := (List.getElem?_eq_some_iff.1 hj).1
      rw [List.getElem?_append_left (by rw [List.length_map, List.length_take, hl0]; omega), List.getElem?_map, List.getElem?_take_of_lt (by omega), hj]
      rfl
    have hlast : ((s.data.toList.take (k + 1)).map UInt8.toNat ++ [s.size])[k + 1]? = some s.size := by
      rw [List.getElem?_append_right (by rw [List.length_map, List.length_take, hl0]; omega), List.length_map, List.length_take, hl0, Nat.min_eq_left (by omega), Nat.sub_self]
      rfl
    rcases hd with hd | hd
    · exact top_run_x follows nameOK hkBok xn_fn hb tblIn (vals := ((s.data.toList.take (k + 1)).map UInt8.toNat ++ [s.size])) (nx := 12 + k + 2) (by rw [hvl]; omega) (args := .cons (.y (atomsV 97 122 k 12 (.cons (.x (12 + k) .u8 0 96) .nil)) (12 + k + 1) (k + 1) 40) .nil) ⟨_, _, rfl, VR_front hk hp ⟨Nat.zero_le _, by omega⟩ (fun j c hj hjk => atomsR_at (hvals j c hj hjk)) (atomsR_at (j := k + 1) hlast) ⟨hlt, h⟩, rfl⟩ (fun τ => allN_spec (xn_flo τ) k (by omega)) tab
    · exact top_run_x follows nameOK hkBok xn_fn hb tblIn (vals := ((s.data.toList.take (k + 1)).map UInt8.toNat ++ [s.size])) (nx := 12 + k + 2) (by rw [hvl]; omega) (args := .cons (.y (atomsV 97 122 k 12 (.cons (.x (12 + k) .u8 123 255) .nil)) (12 + k + 1) (k + 1) 40) .nil) ⟨_, _, rfl, VR_front hk hp ⟨by omega, by have := UInt8.toNat_lt d; omega⟩ (fun j c hj hjk => atomsR_at (hvals j c hj hjk)) (atomsR_at (j := k + 1) hlast) ⟨hlt, h⟩, rfl⟩ (fun τ => allN_spec (xn_fhi τ) k (by omega)) tab
theorem xn_calls (s : ByteArray) (hz : s.size ≤ maxLen) {W : World} (tab : HasTables tbl W) : Calls Tryz.prog 3 #[.string s] W fun e W' => e = .returned (.bool true) ∧ Stays W W' := xn_calls0 s hz tab
end
end Go.Proofs.YtidfafhlcmfdeaaGreatDoor
