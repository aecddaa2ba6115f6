/-
  The runs of expandNone: at every input. No condition.
-/
import Derived.Test.YtdgcioinbegmgaaGreatDoorRunexpandNone0
import Derived.Test.YtdgcioinbegmgaaGreatDoorRunexpandNone1
import Derived.Test.YtdgcioinbegmgaaGreatDoorRunexpandNone2
open Go Go.Mx
namespace Go.Proofs.YtdgcioinbegmgaaGreatDoor
set_option maxRecDepth 1000000
noncomputable section
theorem enn_fn : Tryz.prog.funcs[4]? = some Tryz.f4 := by kernel_rfl
theorem enn_body : ∃ c, Tryz.f4.body = some c := ⟨_, rfl⟩
theorem enn_words (m : Nat) : ∀ n, n ≤ 60 → ∀ τ, ennRun τ (.cons (.i .i64 (Int.negSucc m)) (.cons (.w (atomsV 1 255 n 8 .nil)) .nil)) (8 + n) = true
  | 0, _ => enn_w0 m
  | 1, _ => enn_w1 m
  | 2, _ => enn_w2 m
  | 3, _ => enn_w3 m
  | 4, _ => enn_w4 m
  | 5, _ => enn_w5 m
  | 6, _ => enn_w6 m
  | 7, _ => enn_w7 m
  | 8, _ => enn_w8 m
  | 9, _ => enn_w9 m
  | 10, _ => enn_w10 m
  | 11, _ => enn_w11 m
  | 12, _ => enn_w12 m
  | 13, _ => enn_w13 m
  | 14, _ => enn_w14 m
  | 15, _ => enn_w15 m
  | 16, _ => enn_w16 m
  | 17, _ => enn_w17 m
  | 18, _ => enn_w18 m
  | 19, _ => enn_w19 m
  | 20, _ => enn_w20 m
  | 21, _ => enn_w21 m
  | 22, _ => enn_w22 m
  | 23, _ => enn_w23 m
  | 24, _ => enn_w24 m
  | 25, _ => enn_w25 m
  | 26, _ => enn_w26 m
  | 27, _ => enn_w27 m
  | 28, _ => enn_w28 m
  | 29, _ => enn_w29 m
  | 30, _ => enn_w30 m
  | 31, _ => enn_w31 m
  | 32, _ => enn_w32 m
  | 33, _ => enn_w33 m
  | 34, _ => enn_w34 m
  | 35, _ => enn_w35 m
  | 36, _ => enn_w36 m
  | 37, _ => enn_w37 m
  | 38, _ => enn_w38 m
  | 39, _ => enn_w39 m
  | 40, _ => enn_w40 m
  | 41, _ => enn_w41 m
  | 42, _ => enn_w42 m
  | 43, _ => enn_w43 m
  | 44, _ => enn_w44 m
  | 45, _ => enn_w45 m
  | 46, _ => enn_w46 m
  | 47, _ => enn_w47 m
  | 48, _ => enn_w48 m
  | 49, _ => enn_w49 m
  | 50, _ => enn_w50 m
  | 51, _ => enn_w51 m
  | 52, _ => enn_w52 m
  | 53, _ => enn_w53 m
  | 54, _ => enn_w54 m
  | 55, _ => enn_w55 m
  | 56, _ => enn_w56 m
  | 57, _ => enn_w57 m
  | 58, _ => enn_w58 m
  | 59, _ => enn_w59 m
  | 60, _ => enn_w60 m
  | n + 61, h => absurd h (by omega)
theorem enn_calls0 (s : ByteArray) (hz0 : s.size ≤ maxLen) (m : Nat) {W : World} (tab : HasTables tbl W) : Calls Tryz.prog 4 #[.int .i64 (Int.negSucc m), .string s] W fun e W' => e = .returned (.bool true) ∧ Stays W W' := by
  obtain ⟨cd, hb⟩ := enn_body
  have hz : s.size ≤ 9223372036854775807 := hz0
  rcases words 1 255 60 s with h | ⟨h, hw⟩ | ⟨k, d, h, hk, hp, hd⟩
  · exact top_run_x follows nameOK hkBok enn_fn hb tblIn (vals := [s.size]) (nx := 9) rfl (args := .cons (.i .i64 (Int.negSucc m)) (.cons (.y .nil 8 61 9223372036854775807) .nil)) ⟨_, _, rfl, VRi _ _ _, _, _, rfl, VR_long (atomsR_at (j := 0) rfl) ⟨by omega, hz⟩, rfl⟩ (fun τ => enn_l m τ) tab
  · exact top_run_x follows nameOK hkBok enn_fn hb tblIn (vals := s.data.toList.map UInt8.toNat) (nx := 8 + s.size) (by rw [List.length_map]; rfl) (args := .cons (.i .i64 (Int.negSucc m)) (.cons (.w (atomsV 1 255 s.size 8 .nil)) .nil)) ⟨_, _, rfl, VRi _ _ _, _, _, rfl, VR_word rfl hw (fun j c hj => atomsR_at (by simp [hj])), rfl⟩ (enn_words m s.size h) tab
  · have hlt : k < s.size := (List.getElem?_eq_some_iff.1 hk).1
    have hl0 : s.data.toList.length = s.size := rfl
    have hvl : ((s.data.toList.take (k + 1)).map UInt8.toNat ++ [s.size]).length = k + 2 := by rw [List.length_append, List.length_map, List.length_take, hl0, Nat.min_eq_left (by omega)]; rfl
    have hvals : ∀ (j : Nat) c, s.data.toList[j]? = some c → j ≤ k → ((s.data.toList.take (k + 1)).map UInt8.toNat ++ [s.size])[j]? = some c.toNat := fun j c hj hjk => by
      have hjl := (List.getElem?_eq_some_iff.1 hj).1
      rw [List.getElem?_append_left (by rw [List.length_map, List.length_take, hl0]; omega), List.getElem?_map, List.getElem?_take_of_lt (by omega), hj]
      rfl
    have hlast : ((s.data.toList.take (k + 1)).map UInt8.toNat ++ [s.size])[k + 1]? = some s.size := by
      rw [List.getElem?_append_right (by rw [List.length_map, List.length_take, hl0]; omega), List.length_map, List.length_take, hl0, Nat.min_eq_left (by omega), Nat.sub_self]
      rfl
    rcases hd with hd | hd
    · exact top_run_x follows nameOK hkBok enn_fn hb tblIn (vals := ((s.data.toList.take (k + 1)).map UInt8.toNat ++ [s.size])) (nx := 8 + k + 2) (by rw [hvl]; omega) (args := .cons (.i .i64 (Int.negSucc m)) (.cons (.y (atomsV 1 255 k 8 (.cons (.x (8 + k) .u8 0 0) .nil)) (8 + k + 1) (k + 1) 60) .nil)) ⟨_, _, rfl, VRi _ _ _, _, _, rfl, VR_front hk hp ⟨Nat.zero_le _, by omega⟩ (fun j c hj hjk => atomsR_at (hvals j c hj hjk)) (atomsR_at (j := k + 1) hlast) ⟨hlt, h⟩, rfl⟩ (fun τ => allN_spec (enn_flo m τ) k (by omega)) tab
    · exact absurd (UInt8.toNat_lt d) (by omega)
theorem enz_fn : Tryz.prog.funcs[4]? = some Tryz.f4 := by kernel_rfl
theorem enz_body : ∃ c, Tryz.f4.body = some c := ⟨_, rfl⟩
theorem enz_words : ∀ n, n ≤ 60 → ∀ τ, enzRun τ (.cons (.i .i64 (Int.ofNat 0)) (.cons (.w (atomsV 1 255 n 8 .nil)) .nil)) (8 + n) = true
  | 0, _ => enz_w0
  | 1, _ => enz_w1
  | 2, _ => enz_w2
  | 3, _ => enz_w3
  | 4, _ => enz_w4
  | 5, _ => enz_w5
  | 6, _ => enz_w6
  | 7, _ => enz_w7
  | 8, _ => enz_w8
  | 9, _ => enz_w9
  | 10, _ => enz_w10
  | 11, _ => enz_w11
  | 12, _ => enz_w12
  | 13, _ => enz_w13
  | 14, _ => enz_w14
  | 15, _ => enz_w15
  | 16, _ => enz_w16
  | 17, _ => enz_w17
  | 18, _ => enz_w18
  | 19, _ => enz_w19
  | 20, _ => enz_w20
  | 21, _ => enz_w21
  | 22, _ => enz_w22
  | 23, _ => enz_w23
  | 24, _ => enz_w24
  | 25, _ => enz_w25
  | 26, _ => enz_w26
  | 27, _ => enz_w27
  | 28, _ => enz_w28
  | 29, _ => enz_w29
  | 30, _ => enz_w30
  | 31, _ => enz_w31
  | 32, _ => enz_w32
  | 33, _ => enz_w33
  | 34, _ => enz_w34
  | 35, _ => enz_w35
  | 36, _ => enz_w36
  | 37, _ => enz_w37
  | 38, _ => enz_w38
  | 39, _ => enz_w39
  | 40, _ => enz_w40
  | 41, _ => enz_w41
  | 42, _ => enz_w42
  | 43, _ => enz_w43
  | 44, _ => enz_w44
  | 45, _ => enz_w45
  | 46, _ => enz_w46
  | 47, _ => enz_w47
  | 48, _ => enz_w48
  | 49, _ => enz_w49
  | 50, _ => enz_w50
  | 51, _ => enz_w51
  | 52, _ => enz_w52
  | 53, _ => enz_w53
  | 54, _ => enz_w54
  | 55, _ => enz_w55
  | 56, _ => enz_w56
  | 57, _ => enz_w57
  | 58, _ => enz_w58
  | 59, _ => enz_w59
  | 60, _ => enz_w60
  | n + 61, h => absurd h (by omega)
theorem enz_calls0 (s : ByteArray) (hz0 : s.size ≤ maxLen) {W : World} (tab : HasTables tbl W) : Calls Tryz.prog 4 #[.int .i64 (Int.ofNat 0), .string s] W fun e W' => e = .returned (.bool true) ∧ Stays W W' := by
  obtain ⟨cd, hb⟩ := enz_body
  have hz : s.size ≤ 9223372036854775807 := hz0
  rcases words 1 255 60 s with h | ⟨h, hw⟩ | ⟨k, d, h, hk, hp, hd⟩
  · exact top_run_x follows nameOK hkBok enz_fn hb tblIn (vals := [s.size]) (nx := 9) rfl (args := .cons (.i .i64 (Int.ofNat 0)) (.cons (.y .nil 8 61 9223372036854775807) .nil)) ⟨_, _, rfl, VRi _ _ _, _, _, rfl, VR_long (atomsR_at (j := 0) rfl) ⟨by omega, hz⟩, rfl⟩ (fun τ => enz_l τ) tab
  · exact top_run_x follows nameOK hkBok enz_fn hb tblIn (vals := s.data.toList.map UInt8.toNat) (nx := 8 + s.size) (by rw [List.length_map]; rfl) (args := .cons (.i .i64 (Int.ofNat 0)) (.cons (.w (atomsV 1 255 s.size 8 .nil)) .nil)) ⟨_, _, rfl, VRi _ _ _, _, _, rfl, VR_word rfl hw (fun j c hj => atomsR_at (by simp [hj])), rfl⟩ (enz_words s.size h) tab
  · have hlt : k < s.size := (List.getElem?_eq_some_iff.1 hk).1
    have hl0 : s.data.toList.length = s.size := rfl
    have hvl : ((s.data.toList.take (k + 1)).map UInt8.toNat ++ [s.size]).length = k + 2 := by rw [List.length_append, List.length_map, List.length_take, hl0, Nat.min_eq_left (by omega)]; rfl
    have hvals : ∀ (j : Nat) c, s.data.toList[j]? = some c → j ≤ k → ((s.data.toList.take (k + 1)).map UInt8.toNat ++ [s.size])[j]? = some c.toNat := fun j c hj hjk => by
      have hjl := (List.getElem?_eq_some_iff.1 hj).1
      rw [List.getElem?_append_left (by rw [List.length_map, List.length_take, hl0]; omega), List.getElem?_map, List.getElem?_take_of_lt (by omega), hj]
      rfl
    have hlast : ((s.data.toList.take (k + 1)).map UInt8.toNat ++ [s.size])[k + 1]? = some s.size := by
      rw [List.getElem?_append_right (by rw [List.length_map, List.length_take, hl0]; omega), List.length_map, List.length_take, hl0, Nat.min_eq_left (by omega), Nat.sub_self]
      rfl
    rcases hd with hd | hd
    · exact top_run_x follows nameOK hkBok enz_fn hb tblIn (vals := ((s.data.toList.take (k + 1)).map UInt8.toNat ++ [s.size])) (nx := 8 + k + 2) (by rw [hvl]; omega) (args := .cons (.i .i64 (Int.ofNat 0)) (.cons (.y (atomsV 1 255 k 8 (.cons (.x (8 + k) .u8 0 0) .nil)) (8 + k + 1) (k + 1) 60) .nil)) ⟨_, _, rfl, VRi _ _ _, _, _, rfl, VR_front hk hp ⟨Nat.zero_le _, by omega⟩ (fun j c hj hjk => atomsR_at (hvals j c hj hjk)) (atomsR_at (j := k + 1) hlast) ⟨hlt, h⟩, rfl⟩ (fun τ => allN_spec (enz_flo τ) k (by omega)) tab
    · exact absurd (UInt8.toNat_lt d) (by omega)
theorem enp_fn : Tryz.prog.funcs[4]? = some Tryz.f4 := by kernel_rfl
theorem enp_body : ∃ c, Tryz.f4.body = some c := ⟨_, rfl⟩
theorem enp_words (m : Nat) : ∀ n, n ≤ 60 → ∀ τ, enpRun τ (.cons (.i .i64 (Int.ofNat (m + 5))) (.cons (.w (atomsV 1 255 n 8 .nil)) .nil)) (8 + n) = true
  | 0, _ => enp_w0 m
  | 1, _ => enp_w1 m
  | 2, _ => enp_w2 m
  | 3, _ => enp_w3 m
  | 4, _ => enp_w4 m
  | 5, _ => enp_w5 m
  | 6, _ => enp_w6 m
  | 7, _ => enp_w7 m
  | 8, _ => enp_w8 m
  | 9, _ => enp_w9 m
  | 10, _ => enp_w10 m
  | 11, _ => enp_w11 m
  | 12, _ => enp_w12 m
  | 13, _ => enp_w13 m
  | 14, _ => enp_w14 m
  | 15, _ => enp_w15 m
  | 16, _ => enp_w16 m
  | 17, _ => enp_w17 m
  | 18, _ => enp_w18 m
  | 19, _ => enp_w19 m
  | 20, _ => enp_w20 m
  | 21, _ => enp_w21 m
  | 22, _ => enp_w22 m
  | 23, _ => enp_w23 m
  | 24, _ => enp_w24 m
  | 25, _ => enp_w25 m
  | 26, _ => enp_w26 m
  | 27, _ => enp_w27 m
  | 28, _ => enp_w28 m
  | 29, _ => enp_w29 m
  | 30, _ => enp_w30 m
  | 31, _ => enp_w31 m
  | 32, _ => enp_w32 m
  | 33, _ => enp_w33 m
  | 34, _ => enp_w34 m
  | 35, _ => enp_w35 m
  | 36, _ => enp_w36 m
  | 37, _ => enp_w37 m
  | 38, _ => enp_w38 m
  | 39, _ => enp_w39 m
  | 40, _ => enp_w40 m
  | 41, _ => enp_w41 m
  | 42, _ => enp_w42 m
  | 43, _ => enp_w43 m
  | 44, _ => enp_w44 m
  | 45, _ => enp_w45 m
  | 46, _ => enp_w46 m
  | 47, _ => enp_w47 m
  | 48, _ => enp_w48 m
  | 49, _ => enp_w49 m
  | 50, _ => enp_w50 m
  | 51, _ => enp_w51 m
  | 52, _ => enp_w52 m
  | 53, _ => enp_w53 m
  | 54, _ => enp_w54 m
  | 55, _ => enp_w55 m
  | 56, _ => enp_w56 m
  | 57, _ => enp_w57 m
  | 58, _ => enp_w58 m
  | 59, _ => enp_w59 m
  | 60, _ => enp_w60 m
  | n + 61, h => absurd h (by omega)
theorem enp_calls0 (s : ByteArray) (hz0 : s.size ≤ maxLen) (m : Nat) {W : World} (tab : HasTables tbl W) : Calls Tryz.prog 4 #[.int .i64 (Int.ofNat (m + 5)), .string s] W fun e W' => e = .returned (.bool true) ∧ Stays W W' := by
  obtain ⟨cd, hb⟩ := enp_body
  have hz : s.size ≤ 9223372036854775807 := hz0
  rcases words 1 255 60 s with h | ⟨h, hw⟩ | ⟨k, d, h, hk, hp, hd⟩
  · exact top_run_x follows nameOK hkBok enp_fn hb tblIn (vals := [s.size]) (nx := 9) rfl (args := .cons (.i .i64 (Int.ofNat (m + 5))) (.cons (.y .nil 8 61 9223372036854775807) .nil)) ⟨_, _, rfl, VRi _ _ _, _, _, rfl, VR_long (atomsR_at (j := 0) rfl) ⟨by omega, hz⟩, rfl⟩ (fun τ => enp_l m τ) tab
  · exact top_run_x follows nameOK hkBok enp_fn hb tblIn (vals := s.data.toList.map UInt8.toNat) (nx := 8 + s.size) (by rw [List.length_map]; rfl) (args := .cons (.i .i64 (Int.ofNat (m + 5))) (.cons (.w (atomsV 1 255 s.size 8 .nil)) .nil)) ⟨_, _, rfl, VRi _ _ _, _, _, rfl, VR_word rfl hw (fun j c hj => atomsR_at (by simp [hj])), rfl⟩ (enp_words m s.size h) tab
  · have hlt : k < s.size := (List.getElem?_eq_some_iff.1 hk).1
    have hl0 : s.data.toList.length = s.size := rfl
    have hvl : ((s.data.toList.take (k + 1)).map UInt8.toNat ++ [s.size]).length = k + 2 := by rw [List.length_append, List.length_map, List.length_take, hl0, Nat.min_eq_left (by omega)]; rfl
    have hvals : ∀ (j : Nat) c, s.data.toList[j]? = some c → j ≤ k → ((s.data.toList.take (k + 1)).map UInt8.toNat ++ [s.size])[j]? = some c.toNat := fun j c hj hjk => by
      have hjl := (List.getElem?_eq_some_iff.1 hj).1
      rw [List.getElem?_append_left (by rw [List.length_map, List.length_take, hl0]; omega), List.getElem?_map, List.getElem?_take_of_lt (by omega), hj]
      rfl
    have hlast : ((s.data.toList.take (k + 1)).map UInt8.toNat ++ [s.size])[k + 1]? = some s.size := by
      rw [List.getElem?_append_right (by rw [List.length_map, List.length_take, hl0]; omega), List.length_map, List.length_take, hl0, Nat.min_eq_left (by omega), Nat.sub_self]
      rfl
    rcases hd with hd | hd
    · exact top_run_x follows nameOK hkBok enp_fn hb tblIn (vals := ((s.data.toList.take (k + 1)).map UInt8.toNat ++ [s.size])) (nx := 8 + k + 2) (by rw [hvl]; omega) (args := .cons (.i .i64 (Int.ofNat (m + 5))) (.cons (.y (atomsV 1 255 k 8 (.cons (.x (8 + k) .u8 0 0) .nil)) (8 + k + 1) (k + 1) 60) .nil)) ⟨_, _, rfl, VRi _ _ _, _, _, rfl, VR_front hk hp ⟨Nat.zero_le _, by omega⟩ (fun j c hj hjk => atomsR_at (hvals j c hj hjk)) (atomsR_at (j := k + 1) hlast) ⟨hlt, h⟩, rfl⟩ (fun τ => allN_spec (enp_flo m τ) k (by omega)) tab
    · exact absurd (UInt8.toNat_lt d) (by omega)
theorem en_few (s : ByteArray) (k : Int) {W : World} (tab : HasTables tbl W) (h : ∀ τ, ennRun τ (.cons (.i .i64 k) (.cons .nil .nil)) 8 = true) : Calls Tryz.prog 4 #[.int .i64 k, .string s] W fun e W' => e = .returned (.bool true) ∧ Stays W W' := by
  obtain ⟨cd, hb⟩ := enn_body
  exact top_run_x follows nameOK hkBok enn_fn hb tblIn (vals := []) (nx := 8) rfl (args := .cons (.i .i64 k) (.cons .nil .nil)) ⟨_, _, rfl, VRi _ _ _, _, _, rfl, by simp only [VR], rfl⟩ h tab
theorem en_calls (k : Int) (s : ByteArray) (hz : s.size ≤ maxLen) {W : World} (tab : HasTables tbl W) : Calls Tryz.prog 4 #[.int .i64 k, .string s] W fun e W' => e = .returned (.bool true) ∧ Stays W W' := by
  cases k with
  | negSucc m => exact enn_calls0 s hz m tab
  | ofNat m =>
    match m with
    | 0 => exact enz_calls0 s hz tab
    | 1 => exact en_few s _ tab en_k1
    | 2 => exact en_few s _ tab en_k2
    | 3 => exact en_few s _ tab en_k3
    | 4 => exact en_few s _ tab en_k4
    | m + 5 => exact enp_calls0 s hz m tab
end
end Go.Proofs.YtdgcioinbegmgaaGreatDoor
