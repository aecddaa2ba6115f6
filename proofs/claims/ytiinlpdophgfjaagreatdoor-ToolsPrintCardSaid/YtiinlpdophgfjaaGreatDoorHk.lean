/-
  Some functions are met by their answers. No condition.
-/
import Derived.Test.YtiinlpdophgfjaaGreatDoorTab
import Derived.Test.YtiinlpdophgfjaaGreatDoorXMxQ
import Derived.Test.YtiinlpdophgfjaaGreatDoorXRowK6
open Go Go.Mx
namespace Go.Proofs.YtiinlpdophgfjaaGreatDoor
set_option maxRecDepth 1000000
noncomputable section
def tbl : List (Nat × V) := []
theorem tblIn : inT 9 tbl = true := rfl
theorem tabs (W : World) : HasTables tbl W := fun p hp => by cases hp
def hk0 : List (Nat × HookF) := [(174, hkO (hkOr hkIndexByte hkIndexByteW) hkIndexByteO), (216, hkOr hkCount hkCountW), (122, hkNoEscape), (123, hkO (hkMakeNoZero 5) (hkMakeNoZeroO 5))]
theorem h174a : HookOk Tryz.prog 9 174 hkIndexByte := hkIndexByte_ok (fn := Tryz.f174) (by kernel_rfl) (by kernel_rfl) (by kernel_rfl) (by kernel_rfl) (by kernel_rfl)
theorem h174b : HookOk Tryz.prog 9 174 hkIndexByteW := hkIndexByteW_ok (fn := Tryz.f174) (by kernel_rfl) (by kernel_rfl) (by kernel_rfl) (by kernel_rfl) (by kernel_rfl)
theorem h174o : HookOk Tryz.prog 9 174 hkIndexByteO := hkIndexByteO_ok (fn := Tryz.f174) (by kernel_rfl) (by kernel_rfl) (by kernel_rfl) (by kernel_rfl) (by kernel_rfl)
theorem h174ab : HookOk Tryz.prog 9 174 (hkOr hkIndexByte hkIndexByteW) := hkOr_ok h174a h174b
theorem h174 : HookOk Tryz.prog 9 174 (hkO (hkOr hkIndexByte hkIndexByteW) hkIndexByteO) := hkO_ok h174ab h174o
theorem h216a : HookOk Tryz.prog 9 216 hkCount := hkCount_ok (fn := Tryz.f216) (by kernel_rfl) (by kernel_rfl) (by kernel_rfl) (by kernel_rfl) (by kernel_rfl)
theorem h216b : HookOk Tryz.prog 9 216 hkCountW := hkCountW_ok (fn := Tryz.f216) (by kernel_rfl) (by kernel_rfl) (by kernel_rfl) (by kernel_rfl) (by kernel_rfl)
theorem h216 : HookOk Tryz.prog 9 216 (hkOr hkCount hkCountW) := hkOr_ok h216a h216b
theorem h122 : HookOk Tryz.prog 9 122 hkNoEscape := hkNoEscape_ok (fn := Tryz.f122) (by kernel_rfl) (by kernel_rfl) (by kernel_rfl) (by kernel_rfl) (by kernel_rfl)
theorem h123a : HookOk Tryz.prog 9 123 (hkMakeNoZero 5) := hkMakeNoZero_ok (fn := Tryz.f123) (ps := Tryz.f123.params) (t := Tryz.f123.resultTypes[0]!) (by kernel_rfl) (by kernel_rfl) (by kernel_rfl) (by kernel_rfl) (by kernel_rfl) (by kernel_rfl)
theorem h123b : HookOk Tryz.prog 9 123 (hkMakeNoZeroO 5) := hkMakeNoZeroO_ok (fn := Tryz.f123) (ps := Tryz.f123.params) (t := Tryz.f123.resultTypes[0]!) (by kernel_rfl) (by kernel_rfl) (by kernel_rfl) (by kernel_rfl) (by kernel_rfl) (by kernel_rfl)
theorem h123 : HookOk Tryz.prog 9 123 (hkO (hkMakeNoZero 5) (hkMakeNoZeroO 5)) := hkO_ok h123a h123b
theorem hk0ok : HKok Tryz.prog 9 (hkL hk0) := hkL_ok (by
  intro p hp
  simp only [hk0, List.mem_cons, List.not_mem_nil, or_false] at hp
  rcases hp with rfl | rfl | rfl | rfl
  · exact h174
  · exact h216
  · exact h122
  · exact h123)
theorem alive4 (τ : Nat → Nat) : mkTK τ tbl .leaf (fun h0 => run Tryz.prog 9 (hkL hk0) 100000 4 .nil h0 9 (fun v _ _ => isB true v) (fun _ _ _ => false)) = true := by kernel_rfl
def hkB : List (Nat × HookF) := [(174, hkO (hkOr hkIndexByte hkIndexByteW) hkIndexByteO), (216, hkOr hkCount hkCountW), (122, hkNoEscape), (123, hkO (hkMakeNoZero 5) (hkMakeNoZeroO 5)), (4, memo tbl true)]
theorem hkBok : HKok Tryz.prog 9 (hkL hkB) := hkL_ok (by
  intro p hp
  simp only [hkB, List.mem_cons, List.not_mem_nil, or_false] at hp
  rcases hp with rfl | rfl | rfl | rfl | rfl
  · exact h174
  · exact h216
  · exact h122
  · exact h123
  · exact memo_ok follows nameOK hk0ok tblIn alive4)
end
end Go.Proofs.YtiinlpdophgfjaaGreatDoor
