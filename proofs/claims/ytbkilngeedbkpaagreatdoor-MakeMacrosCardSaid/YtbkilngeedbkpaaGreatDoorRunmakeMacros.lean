/-
  The runs of makeMacros: at every input. No condition.
-/
import Derived.Test.YtbkilngeedbkpaaGreatDoorRunmakeMacros0
import Derived.Test.YtbkilngeedbkpaaGreatDoorRunmakeMacros1
import Derived.Test.YtbkilngeedbkpaaGreatDoorRunmakeMacros2
import Derived.Test.YtbkilngeedbkpaaGreatDoorRunmakeMacros3
import Derived.Test.YtbkilngeedbkpaaGreatDoorRunmakeMacros4
import Derived.Test.YtbkilngeedbkpaaGreatDoorRunmakeMacros5
import Derived.Test.YtbkilngeedbkpaaGreatDoorRunmakeMacros6
import Derived.Test.YtbkilngeedbkpaaGreatDoorRunmakeMacros7
import Derived.Test.YtbkilngeedbkpaaGreatDoorRunmakeMacros8
open Go Go.Mx
namespace Go.Proofs.YtbkilngeedbkpaaGreatDoor
set_option maxRecDepth 1000000
noncomputable section
theorem xm_fn : Tryz.prog.funcs[4]? = some Tryz.f4 := by kernel_rfl
theorem xm_body : ∃ c, Tryz.f4.body = some c := ⟨_, rfl⟩
theorem xm_words : ∀ (g : Bool) (n : Nat), n ≤ 60 → ∀ τ, xmRun τ (.cons (.w (atomsV 97 122 n 12 .nil)) (.cons (.b g) .nil)) (12 + n) = true
  | true, 0, _ => xm_w0t
  | false, 0, _ => xm_w0f
  | true, 1, _ => xm_w1t
  | false, 1, _ => xm_w1f
  | true, 2, _ => xm_w2t
  | false, 2, _ => xm_w2f
  | true, 3, _ => xm_w3t
  | false, 3, _ => xm_w3f
  | true, 4, _ => xm_w4t
  | false, 4, _ => xm_w4f
  | true, 5, _ => xm_w5t
  | false, 5, _ => xm_w5f
  | true, 6, _ => xm_w6t
  | false, 6, _ => xm_w6f
  | true, 7, _ => xm_w7t
  | false, 7, _ => xm_w7f
  | true, 8, _ => xm_w8t
  | false, 8, _ => xm_w8f
  | true, 9, _ => xm_w9t
  | false, 9, _ => xm_w9f
  | true, 10, _ => xm_w10t
  | false, 10, _ => xm_w10f
  | true, 11, _ => xm_w11t
  | false, 11, _ => xm_w11f
  | true, 12, _ => xm_w12t
  | false, 12, _ => xm_w12f
  | true, 13, _ => xm_w13t
  | false, 13, _ => xm_w13f
  | true, 14, _ => xm_w14t
  | false, 14, _ => xm_w14f
  | true, 15, _ => xm_w15t
  | false, 15, _ => xm_w15f
  | true, 16, _ => xm_w16t
  | false, 16, _ => xm_w16f
  | true, 17, _ => xm_w17t
  | false, 17, _ => xm_w17f
  | true, 18, _ => xm_w18t
  | false, 18, _ => xm_w18f
  | true, 19, _ => xm_w19t
  | false, 19, _ => xm_w19f
  | true, 20, _ => xm_w20t
  | false, 20, _ => xm_w20f
  | true, 21, _ => xm_w21t
  | false, 21, _ => xm_w21f
  | true, 22, _ => xm_w22t
  | false, 22, _ => xm_w22f
  | true, 23, _ => xm_w23t
  | false, 23, _ => xm_w23f
  | true, 24, _ => xm_w24t
  | false, 24, _ => xm_w24f
  | true, 25, _ => xm_w25t
  | false, 25, _ => xm_w25f
  | true, 26, _ => xm_w26t
  | false, 26, _ => xm_w26f
  | true, 27, _ => xm_w27t
  | false, 27, _ => xm_w27f
  | true, 28, _ => xm_w28t
  | false, 28, _ => xm_w28f
  | true, 29, _ => xm_w29t
  | false, 29, _ => xm_w29f
  | true, 30, _ => xm_w30t
  | false, 30, _ => xm_w30f
  | true, 31, _ => xm_w31t
  | false, 31, _ => xm_w31f
  | true, 32, _ => xm_w32t
  | false, 32, _ => xm_w32f
  | true, 33, _ => xm_w33t
  | false, 33, _ => xm_w33f
  | true, 34, _ => xm_w34t
  | false, 34, _ => xm_w34f
  | true, 35, _ => xm_w35t
  | false, 35, _ => xm_w35f
  | true, 36, _ => xm_w36t
  | false, 36, _ => xm_w36f
  | true, 37, _ => xm_w37t
  | false, 37, _ => xm_w37f
  | true, 38, _ => xm_w38t
  | false, 38, _ => xm_w38f
  | true, 39, _ => xm_w39t
  | false, 39, _ => xm_w39f
  | true, 40, _ => xm_w40t
  | false, 40, _ => xm_w40f
  | true, 41, _ => xm_w41t
  | false, 41, _ => xm_w41f
  | true, 42, _ => xm_w42t
  | false, 42, _ => xm_w42f
  | true, 43, _ => xm_w43t
  | false, 43, _ => xm_w43f
  | true, 44, _ => xm_w44t
  | false, 44, _ => xm_w44f
  | true, 45, _ => xm_w45t
  | false, 45, _ => xm_w45f
  | true, 46, _ => xm_w46t
  | false, 46, _ => xm_w46f
  | true, 47, _ => xm_w47t
  | false, 47, _ => xm_w47f
  | true, 48, _ => xm_w48t
  | false, 48, _ => xm_w48f
  | true, 49, _ => xm_w49t
  | false, 49, _ => xm_w49f
  | true, 50, _ => xm_w50t
  | false, 50, _ => xm_w50f
  | true, 51, _ => xm_w51t
  | false, 51, _ => xm_w51f
  | true, 52, _ => xm_w52t
  | false, 52, _ => xm_w52f
  | true, 53, _ => xm_w53t
  | false, 53, _ => xm_w53f
  | true, 54, _ => xm_w54t
  | false, 54, _ => xm_w54f
  | true, 55, _ => xm_w55t
  | false, 55, _ => xm_w55f
  | true, 56, _ => xm_w56t
  | false, 56, _ => xm_w56f
  | true, 57, _ => xm_w57t
  | false, 57, _ => xm_w57f
  | true, 58, _ => xm_w58t
  | false, 58, _ => xm_w58f
  | true, 59, _ => xm_w59t
  | false, 59, _ => xm_w59f
  | true, 60, _ => xm_w60t
  | false, 60, _ => xm_w60f
  | _, n + 61, h => absurd h (by omega)
theorem xm_calls0 (s : ByteArray) (hz0 : s.size ≤ maxLen) (g : Bool) {W : World} (tab : HasTables tbl W) : Calls Tryz.prog 4 #[.string s, .bool g] W fun e W' => e = .returned (.bool true) ∧ Stays W W' := by
  obtain ⟨cd, hb⟩ := xm_body
  have hz : s.size ≤ 9223372036854775807 := hz0
  rcases words 97 122 60 s with h | ⟨h, hw⟩ | ⟨k, d, h, hk, hp, hd⟩
  · exact top_run_x follows nameOK hkJok xm_fn hb tblIn (vals := [s.size]) (nx := 13) rfl (args := .cons (.y .nil 12 61 9223372036854775807) (.cons (.b g) .nil)) ⟨_, _, rfl, VR_long (atomsR_at (j := 0) rfl) ⟨by omega, hz⟩, _, _, rfl, VRb _ _, rfl⟩ (fun τ => xm_l g τ) tab
  · exact top_run_x follows nameOK hkJok xm_fn hb tblIn (vals := s.data.toList.map UInt8.toNat) (nx := 12 + s.size) (by rw [List.length_map]; rfl) (args := .cons (.w (atomsV 97 122 s.size 12 .nil)) (.cons (.b g) .nil)) ⟨_, _, rfl, VR_word rfl hw (fun j c hj => atomsR_at (by simp [hj])), _, _, rfl, VRb _ _, rfl⟩ (xm_words g s.size h) tab
  · have hlt : k < s.size := (List.getElem?_eq_some_iff.1 hk).1
    have hl0 : s.data.toList.length = s.size := rfl
    have hvl : ((s.data.toList.take (k + 1)).map UInt8.toNat ++ [s.size]).length = k + 2 := by rw [List.length_append, List.length_map, List.length_take, hl0, Nat.min_eq_left (by omega)]; rfl
    have hvals : ∀ (j : Nat) c, s.data.toList[j]? = some c → j ≤ k → ((s.data.toList.take (k + 1)).map UInt8.toNat ++ [s.size])[j]? = some c.toNat := fun j c hj hjk => by
      have hjl := (List.getElem?_eq_some_iff.1 hj).1
      rw [List.getElem?_append_left (by rw [List.length_map, List.length_take, hl0]; omega), List.getElem?_map, List.getElem?_take_of_lt (by omega), hj]
      rfl
    have hlast : ((s.data.toList.take (k + 1)).map UInt8.toNat ++ [s.size])[k + 1]? = some s.size := by
      rw [List.getElem?_append_right (by rw [List.length_map, List.length_take, hl0]; omega), List.length_map, List.length_take, hl0, Nat.min_eq_left (by omega), Nat.sub_self]
      rfl
    rcases hd with hd | hd
    · exact top_run_x follows nameOK hkJok xm_fn hb tblIn (vals := ((s.data.toList.take (k + 1)).map UInt8.toNat ++ [s.size])) (nx := 12 + k + 2) (by rw [hvl]; omega) (args := .cons (.y (atomsV 97 122 k 12 (.cons (.x (12 + k) .u8 0 96) .nil)) (12 + k + 1) (k + 1) 60) (.cons (.b g) .nil)) ⟨_, _, rfl, VR_front hk hp ⟨Nat.zero_le _, by omega⟩ (fun j c hj hjk => atomsR_at (hvals j c hj hjk)) (atomsR_at (j := k + 1) hlast) ⟨hlt, h⟩, _, _, rfl, VRb _ _, rfl⟩ (fun τ => allN_spec (xm_flo g τ) k (by omega)) tab
    · exact top_run_x follows nameOK hkJok xm_fn hb tblIn (vals := ((s.data.toList.take (k + 1)).map UInt8.toNat ++ [s.size])) (nx := 12 + k + 2) (by rw [hvl]; omega) (args := .cons (.y (atomsV 97 122 k 12 (.cons (.x (12 + k) .u8 123 255) .nil)) (12 + k + 1) (k + 1) 60) (.cons (.b g) .nil)) ⟨_, _, rfl, VR_front hk hp ⟨by omega, by have := UInt8.toNat_lt d; omega⟩ (fun j c hj hjk => atomsR_at (hvals j c hj hjk)) (atomsR_at (j := k + 1) hlast) ⟨hlt, h⟩, _, _, rfl, VRb _ _, rfl⟩ (fun τ => allN_spec (xm_fhi g τ) k (by omega)) tab
theorem xm_calls (s : ByteArray) (hz : s.size ≤ maxLen) (g : Bool) {W : World} (tab : HasTables tbl W) : Calls Tryz.prog 4 #[.string s, .bool g] W fun e W' => e = .returned (.bool true) ∧ Stays W W' := xm_calls0 s hz g tab
end
end Go.Proofs.YtbkilngeedbkpaaGreatDoor
