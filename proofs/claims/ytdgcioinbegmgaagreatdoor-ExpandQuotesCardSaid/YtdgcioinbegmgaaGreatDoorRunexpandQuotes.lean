/-
  The runs of expandQuotes: at every input. No condition.
-/
import Derived.Test.YtdgcioinbegmgaaGreatDoorRunexpandQuotes0
import Derived.Test.YtdgcioinbegmgaaGreatDoorRunexpandQuotes1
import Derived.Test.YtdgcioinbegmgaaGreatDoorRunexpandQuotes2
open Go Go.Mx
namespace Go.Proofs.YtdgcioinbegmgaaGreatDoor
set_option maxRecDepth 1000000
noncomputable section
theorem eq_fn : Tryz.prog.funcs[3]? = some Tryz.f3 := by kernel_rfl
theorem eq_body : ∃ c, Tryz.f3.body = some c := ⟨_, rfl⟩
theorem eq_words : ∀ (g : Bool) (n : Nat), n ≤ 100 → ∀ τ, eqRun τ (.cons (.w (atomsV 1 255 n 8 .nil)) (.cons (.b g) .nil)) (8 + n) = true
  | true, 0, _ => eq_w0t
  | false, 0, _ => eq_w0f
  | true, 1, _ => eq_w1t
  | false, 1, _ => eq_w1f
  | true, 2, _ => eq_w2t
  | false, 2, _ => eq_w2f
  | true, 3, _ => eq_w3t
  | false, 3, _ => eq_w3f
  | true, 4, _ => eq_w4t
  | false, 4, _ => eq_w4f
  | true, 5, _ => eq_w5t
  | false, 5, _ => eq_w5f
  | true, 6, _ => eq_w6t
  | false, 6, _ => eq_w6f
  | true, 7, _ => eq_w7t
  | false, 7, _ => eq_w7f
  | true, 8, _ => eq_w8t
  | false, 8, _ => eq_w8f
  | true, 9, _ => eq_w9t
  | false, 9, _ => eq_w9f
  | true, 10, _ => eq_w10t
  | false, 10, _ => eq_w10f
  | true, 11, _ => eq_w11t
  | false, 11, _ => eq_w11f
  | true, 12, _ => eq_w12t
  | false, 12, _ => eq_w12f
  | true, 13, _ => eq_w13t
  | false, 13, _ => eq_w13f
  | true, 14, _ => eq_w14t
  | false, 14, _ => eq_w14f
  | true, 15, _ => eq_w15t
  | false, 15, _ => eq_w15f
  | true, 16, _ => eq_w16t
  | false, 16, _ => eq_w16f
  | true, 17, _ => eq_w17t
  | false, 17, _ => eq_w17f
  | true, 18, _ => eq_w18t
  | false, 18, _ => eq_w18f
  | true, 19, _ => eq_w19t
  | false, 19, _ => eq_w19f
  | true, 20, _ => eq_w20t
  | false, 20, _ => eq_w20f
  | true, 21, _ => eq_w21t
  | false, 21, _ => eq_w21f
  | true, 22, _ => eq_w22t
  | false, 22, _ => eq_w22f
  | true, 23, _ => eq_w23t
  | false, 23, _ => eq_w23f
  | true, 24, _ => eq_w24t
  | false, 24, _ => eq_w24f
  | true, 25, _ => eq_w25t
  | false, 25, _ => eq_w25f
  | true, 26, _ => eq_w26t
  | false, 26, _ => eq_w26f
  | true, 27, _ => eq_w27t
  | false, 27, _ => eq_w27f
  | true, 28, _ => eq_w28t
  | false, 28, _ => eq_w28f
  | true, 29, _ => eq_w29t
  | false, 29, _ => eq_w29f
  | true, 30, _ => eq_w30t
  | false, 30, _ => eq_w30f
  | true, 31, _ => eq_w31t
  | false, 31, _ => eq_w31f
  | true, 32, _ => eq_w32t
  | false, 32, _ => eq_w32f
  | true, 33, _ => eq_w33t
  | false, 33, _ => eq_w33f
  | true, 34, _ => eq_w34t
  | false, 34, _ => eq_w34f
  | true, 35, _ => eq_w35t
  | false, 35, _ => eq_w35f
  | true, 36, _ => eq_w36t
  | false, 36, _ => eq_w36f
  | true, 37, _ => eq_w37t
  | false, 37, _ => eq_w37f
  | true, 38, _ => eq_w38t
  | false, 38, _ => eq_w38f
  | true, 39, _ => eq_w39t
  | false, 39, _ => eq_w39f
  | true, 40, _ => eq_w40t
  | false, 40, _ => eq_w40f
  | true, 41, _ => eq_w41t
  | false, 41, _ => eq_w41f
  | true, 42, _ => eq_w42t
  | false, 42, _ => eq_w42f
  | true, 43, _ => eq_w43t
  | false, 43, _ => eq_w43f
  | true, 44, _ => eq_w44t
  | false, 44, _ => eq_w44f
  | true, 45, _ => eq_w45t
  | false, 45, _ => eq_w45f
  | true, 46, _ => eq_w46t
  | false, 46, _ => eq_w46f
  | true, 47, _ => eq_w47t
  | false, 47, _ => eq_w47f
  | true, 48, _ => eq_w48t
  | false, 48, _ => eq_w48f
  | true, 49, _ => eq_w49t
  | false, 49, _ => eq_w49f
  | true, 50, _ => eq_w50t
  | false, 50, _ => eq_w50f
  | true, 51, _ => eq_w51t
  | false, 51, _ => eq_w51f
  | true, 52, _ => eq_w52t
  | false, 52, _ => eq_w52f
  | true, 53, _ => eq_w53t
  | false, 53, _ => eq_w53f
  | true, 54, _ => eq_w54t
  | false, 54, _ => eq_w54f
  | true, 55, _ => eq_w55t
  | false, 55, _ => eq_w55f
  | true, 56, _ => eq_w56t
  | false, 56, _ => eq_w56f
  | true, 57, _ => eq_w57t
  | false, 57, _ => eq_w57f
  | true, 58, _ => eq_w58t
  | false, 58, _ => eq_w58f
  | true, 59, _ => eq_w59t
  | false, 59, _ => eq_w59f
  | true, 60, _ => eq_w60t
  | false, 60, _ => eq_w60f
  | true, 61, _ => eq_w61t
  | false, 61, _ => eq_w61f
  | true, 62, _ => eq_w62t
  | false, 62, _ => eq_w62f
  | true, 63, _ => eq_w63t
  | false, 63, _ => eq_w63f
  | true, 64, _ => eq_w64t
  | false, 64, _ => eq_w64f
  | true, 65, _ => eq_w65t
  | false, 65, _ => eq_w65f
  | true, 66, _ => eq_w66t
  | false, 66, _ => eq_w66f
  | true, 67, _ => eq_w67t
  | false, 67, _ => eq_w67f
  | true, 68, _ => eq_w68t
  | false, 68, _ => eq_w68f
  | true, 69, _ => eq_w69t
  | false, 69, _ => eq_w69f
  | true, 70, _ => eq_w70t
  | false, 70, _ => eq_w70f
  | true, 71, _ => eq_w71t
  | false, 71, _ => eq_w71f
  | true, 72, _ => eq_w72t
  | false, 72, _ => eq_w72f
  | true, 73, _ => eq_w73t
  | false, 73, _ => eq_w73f
  | true, 74, _ => eq_w74t
  | false, 74, _ => eq_w74f
  | true, 75, _ => eq_w75t
  | false, 75, _ => eq_w75f
  | true, 76, _ => eq_w76t
  | false, 76, _ => eq_w76f
  | true, 77, _ => eq_w77t
  | false, 77, _ => eq_w77f
  | true, 78, _ => eq_w78t
  | false, 78, _ => eq_w78f
  | true, 79, _ => eq_w79t
  | false, 79, _ => eq_w79f
  | true, 80, _ => eq_w80t
  | false, 80, _ => eq_w80f
  | true, 81, _ => eq_w81t
  | false, 81, _ => eq_w81f
  | true, 82, _ => eq_w82t
  | false, 82, _ => eq_w82f
  | true, 83, _ => eq_w83t
  | false, 83, _ => eq_w83f
  | true, 84, _ => eq_w84t
  | false, 84, _ => eq_w84f
  | true, 85, _ => eq_w85t
  | false, 85, _ => eq_w85f
  | true, 86, _ => eq_w86t
  | false, 86, _ => eq_w86f
  | true, 87, _ => eq_w87t
  | false, 87, _ => eq_w87f
  | true, 88, _ => eq_w88t
  | false, 88, _ => eq_w88f
  | true, 89, _ => eq_w89t
  | false, 89, _ => eq_w89f
  | true, 90, _ => eq_w90t
  | false, 90, _ => eq_w90f
  | true, 91, _ => eq_w91t
  | false, 91, _ => eq_w91f
  | true, 92, _ => eq_w92t
  | false, 92, _ => eq_w92f
  | true, 93, _ => eq_w93t
  | false, 93, _ => eq_w93f
  | true, 94, _ => eq_w94t
  | false, 94, _ => eq_w94f
  | true, 95, _ => eq_w95t
  | false, 95, _ => eq_w95f
  | true, 96, _ => eq_w96t
  | false, 96, _ => eq_w96f
  | true, 97, _ => eq_w97t
  | false, 97, _ => eq_w97f
  | true, 98, _ => eq_w98t
  | false, 98, _ => eq_w98f
  | true, 99, _ => eq_w99t
  | false, 99, _ => eq_w99f
  | true, 100, _ => eq_w100t
  | false, 100, _ => eq_w100f
  | _, n + 101, h => absurd h (by omega)
theorem eq_calls0 (s : ByteArray) (hz0 : s.size ≤ maxLen) (g : Bool) {W : World} (tab : HasTables tbl W) : Calls Tryz.prog 3 #[.string s, .bool g] W fun e W' => e = .returned (.bool true) ∧ Stays W W' := by
  obtain ⟨cd, hb⟩ := eq_body
  have hz : s.size ≤ 9223372036854775807 := hz0
  rcases words 1 255 100 s with h | ⟨h, hw⟩ | ⟨k, d, h, hk, hp, hd⟩
  · exact top_run_x follows nameOK hkBok eq_fn hb tblIn (vals := [s.size]) (nx := 9) rfl (args := .cons (.y .nil 8 101 9223372036854775807) (.cons (.b g) .nil)) ⟨_, _, rfl, VR_long (atomsR_at (j := 0) rfl) ⟨by omega, hz⟩, _, _, rfl, VRb _ _, rfl⟩ (fun τ => eq_l g τ) tab
  · exact top_run_x follows nameOK hkBok eq_fn hb tblIn (vals := s.data.toList.map UInt8.toNat) (nx := 8 + s.size) (by rw [List.length_map]; rfl) (args := .cons (.w (atomsV 1 255 s.size 8 .nil)) (.cons (.b g) .nil)) ⟨_, _, rfl, VR_word rfl hw (fun j c hj => atomsR_at (by simp [hj])), _, _, rfl, VRb _ _, rfl⟩ (eq_words g s.size h) tab
  · have hlt : k < s.size := (List.getElem?_eq_some_iff.1 hk).1
    have hl0 : s.data.toList.length = s.size := rfl
    have hvl : ((s.data.toList.take (k + 1)).map UInt8.toNat ++ [s.size]).length = k + 2 := by rw [List.length_append, List.length_map, List.length_take, hl0, Nat.min_eq_left (by omega)]; rfl
    have hvals : ∀ (j : Nat) c, s.data.toList[j]? = some c → j ≤ k → ((s.data.toList.take (k + 1)).map UInt8.toNat ++ [s.size])[j]? = some c.toNat := fun j c hj hjk => by
      have hjl := (List.getElem?_eq_some_iff.1 hj).1
      rw [List.getElem?_append_left (by rw [List.length_map, List.length_take, hl0]; omega), List.getElem?_map, List.getElem?_take_of_lt (by omega), hj]
      rfl
    have hlast : ((s.data.toList.take (k + 1)).map UInt8.toNat ++ [s.size])[k + 1]? = some s.size := by
      rw [List.getElem?_append_right (by rw [List.length_map, List.length_take, hl0]; omega), List.length_map, List.length_take, hl0, Nat.min_eq_left (by omega), Nat.sub_self]
      rfl
    rcases hd with hd | hd
    · exact top_run_x follows nameOK hkBok eq_fn hb tblIn (vals := ((s.data.toList.take (k + 1)).map UInt8.toNat ++ [s.size])) (nx := 8 + k + 2) (by rw [hvl]; omega) (args := .cons (.y (atomsV 1 255 k 8 (.cons (.x (8 + k) .u8 0 0) .nil)) (8 + k + 1) (k + 1) 100) (.cons (.b g) .nil)) ⟨_, _, rfl, VR_front hk hp ⟨Nat.zero_le _, by omega⟩ (fun j c hj hjk => atomsR_at (hvals j c hj hjk)) (atomsR_at (j := k + 1) hlast) ⟨hlt, h⟩, _, _, rfl, VRb _ _, rfl⟩ (fun τ => allN_spec (eq_flo g τ) k (by omega)) tab
    · exact absurd (UInt8.toNat_lt d) (by omega)
theorem eq_calls (s : ByteArray) (hz : s.size ≤ maxLen) (g : Bool) {W : World} (tab : HasTables tbl W) : Calls Tryz.prog 3 #[.string s, .bool g] W fun e W' => e = .returned (.bool true) ∧ Stays W W' := eq_calls0 s hz g tab
end
end Go.Proofs.YtdgcioinbegmgaaGreatDoor
