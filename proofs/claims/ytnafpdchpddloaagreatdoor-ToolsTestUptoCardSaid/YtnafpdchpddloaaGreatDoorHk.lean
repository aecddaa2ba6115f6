/-
  Some functions are met by their answers. No condition.
-/
import Derived.Test.YtnafpdchpddloaaGreatDoorTab
import Derived.Test.YtnafpdchpddloaaGreatDoorXMxQ
import Derived.Test.YtnafpdchpddloaaGreatDoorXRowK6
open Go Go.Mx
namespace Go.Proofs.YtnafpdchpddloaaGreatDoor
set_option maxRecDepth 1000000
noncomputable section
def tbl : List (Nat × V) := []
theorem tblIn : inT 9 tbl = true := rfl
theorem tabs (W : World) : HasTables tbl W := fun p hp => by cases hp
def hk0 : List (Nat × HookF) := [(157, hkO (hkOr hkIndexByte hkIndexByteW) hkIndexByteO), (161, hkOr hkCount hkCountW), (131, hkNoEscape), (132, hkO (hkMakeNoZero 5) (hkMakeNoZeroO 5))]
theorem h157a : HookOk Tryz.prog 9 157 hkIndexByte := hkIndexByte_ok (fn := Tryz.f157) (by kernel_rfl) (by kernel_rfl) (by kernel_rfl) (by kernel_rfl) (by kernel_rfl)
theorem h157b : HookOk Tryz.prog 9 157 hkIndexByteW := hkIndexByteW_ok (fn := Tryz.f157) (by kernel_rfl) (by kernel_rfl) (by kernel_rfl) (by kernel_rfl) (by kernel_rfl)
theorem h157o : HookOk Tryz.prog 9 157 hkIndexByteO := hkIndexByteO_ok (fn := Tryz.f157) (by kernel_rfl) (by kernel_rfl) (by kernel_rfl) (by kernel_rfl) (by kernel_rfl)
theorem h157ab : HookOk Tryz.prog 9 157 (hkOr hkIndexByte hkIndexByteW) := hkOr_ok h157a h157b
theorem h157 : HookOk Tryz.prog 9 157 (hkO (hkOr hkIndexByte hkIndexByteW) hkIndexByteO) := hkO_ok h157ab h157o
theorem h161a : HookOk Tryz.prog 9 161 hkCount := hkCount_ok (fn := Tryz.f161) (by kernel_rfl) (by kernel_rfl) (by kernel_rfl) (by kernel_rfl) (by kernel_rfl)
theorem h161b : HookOk Tryz.prog 9 161 hkCountW := hkCountW_ok (fn := Tryz.f161) (by kernel_rfl) (by kernel_rfl) (by kernel_rfl) (by kernel_rfl) (by kernel_rfl)
theorem h161 : HookOk Tryz.prog 9 161 (hkOr hkCount hkCountW) := hkOr_ok h161a h161b
theorem h131 : HookOk Tryz.prog 9 131 hkNoEscape := hkNoEscape_ok (fn := Tryz.f131) (by kernel_rfl) (by kernel_rfl) (by kernel_rfl) (by kernel_rfl) (by kernel_rfl)
theorem h132a : HookOk Tryz.prog 9 132 (hkMakeNoZero 5) := hkMakeNoZero_ok (fn := Tryz.f132) (ps := Tryz.f132.params) (t := Tryz.f132.resultTypes[0]!) (by kernel_rfl) (by kernel_rfl) (by kernel_rfl) (by kernel_rfl) (by kernel_rfl) (by kernel_rfl)
theorem h132b : HookOk Tryz.prog 9 132 (hkMakeNoZeroO 5) := hkMakeNoZeroO_ok (fn := Tryz.f132) (ps := Tryz.f132.params) (t := Tryz.f132.resultTypes[0]!) (by kernel_rfl) (by kernel_rfl) (by kernel_rfl) (by kernel_rfl) (by kernel_rfl) (by kernel_rfl)
theorem h132 : HookOk Tryz.prog 9 132 (hkO (hkMakeNoZero 5) (hkMakeNoZeroO 5)) := hkO_ok h132a h132b
theorem hk0ok : HKok Tryz.prog 9 (hkL hk0) := hkL_ok (by
  intro p hp
  simp only [hk0, List.mem_cons, List.not_mem_nil, or_false] at hp
  rcases hp with rfl | rfl | rfl | rfl
  · exact h157
  · exact h161
  · exact h131
  · exact h132)
theorem alive4 (τ : Nat → Nat) : mkTK τ tbl .leaf (fun h0 => run Tryz.prog 9 (hkL hk0) 100000 4 .nil h0 9 (fun v _ _ => isB true v) (fun _ _ _ => false)) = true := by kernel_rfl
def hkB : List (Nat × HookF) := [(157, hkO (hkOr hkIndexByte hkIndexByteW) hkIndexByteO), (161, hkOr hkCount hkCountW), (131, hkNoEscape), (132, hkO (hkMakeNoZero 5) (hkMakeNoZeroO 5)), (4, memo tbl true)]
theorem hkBok : HKok Tryz.prog 9 (hkL hkB) := hkL_ok (by
  intro p hp
  simp only [hkB, List.mem_cons, List.not_mem_nil, or_false] at hp
  rcases hp with rfl | rfl | rfl | rfl | rfl
  · exact h157
  · exact h161
  · exact h131
  · exact h132
  · exact memo_ok follows nameOK hk0ok tblIn alive4)
end
end Go.Proofs.YtnafpdchpddloaaGreatDoor
