/-
  Some functions are met by their answers. No condition.
-/
import Derived.Test.YteoeiinpiihpoaaGreatDoorTab
import Derived.Test.YteoeiinpiihpoaaGreatDoorXMxQ
import Derived.Test.YteoeiinpiihpoaaGreatDoorXRowK6
open Go Go.Mx
namespace Go.Proofs.YteoeiinpiihpoaaGreatDoor
set_option maxRecDepth 1000000
noncomputable section
def tbl : List (Nat × V) := []
theorem tblIn : inT 8 tbl = true := rfl
theorem tabs (W : World) : HasTables tbl W := fun p hp => by cases hp
def hk0 : List (Nat × HookF) := [(86, hkO (hkOr hkIndexByte hkIndexByteW) hkIndexByteO), (89, hkOr hkCount hkCountW), (90, hkNoEscape), (91, hkO (hkMakeNoZero 5) (hkMakeNoZeroO 5))]
theorem h86a : HookOk Tryz.prog 8 86 hkIndexByte := hkIndexByte_ok (fn := Tryz.f86) (by kernel_rfl) (by kernel_rfl) (by kernel_rfl) (by kernel_rfl) (by kernel_rfl)
theorem h86b : HookOk Tryz.prog 8 86 hkIndexByteW := hkIndexByteW_ok (fn := Tryz.f86) (by kernel_rfl) (by kernel_rfl) (by kernel_rfl) (by kernel_rfl) (by kernel_rfl)
theorem h86o : HookOk Tryz.prog 8 86 hkIndexByteO := hkIndexByteO_ok (fn := Tryz.f86) (by kernel_rfl) (by kernel_rfl) (by kernel_rfl) (by kernel_rfl) (by kernel_rfl)
theorem h86ab : HookOk Tryz.prog 8 86 (hkOr hkIndexByte hkIndexByteW) := hkOr_ok h86a h86b
theorem h86 : HookOk Tryz.prog 8 86 (hkO (hkOr hkIndexByte hkIndexByteW) hkIndexByteO) := hkO_ok h86ab h86o
theorem h89a : HookOk Tryz.prog 8 89 hkCount := hkCount_ok (fn := Tryz.f89) (by kernel_rfl) (by kernel_rfl) (by kernel_rfl) (by kernel_rfl) (by kernel_rfl)
theorem h89b : HookOk Tryz.prog 8 89 hkCountW := hkCountW_ok (fn := Tryz.f89) (by kernel_rfl) (by kernel_rfl) (by kernel_rfl) (by kernel_rfl) (by kernel_rfl)
theorem h89 : HookOk Tryz.prog 8 89 (hkOr hkCount hkCountW) := hkOr_ok h89a h89b
theorem h90 : HookOk Tryz.prog 8 90 hkNoEscape := hkNoEscape_ok (fn := Tryz.f90) (by kernel_rfl) (by kernel_rfl) (by kernel_rfl) (by kernel_rfl) (by kernel_rfl)
theorem h91a : HookOk Tryz.prog 8 91 (hkMakeNoZero 5) := hkMakeNoZero_ok (fn := Tryz.f91) (ps := Tryz.f91.params) (t := Tryz.f91.resultTypes[0]!) (by kernel_rfl) (by kernel_rfl) (by kernel_rfl) (by kernel_rfl) (by kernel_rfl) (by kernel_rfl)
theorem h91b : HookOk Tryz.prog 8 91 (hkMakeNoZeroO 5) := hkMakeNoZeroO_ok (fn := Tryz.f91) (ps := Tryz.f91.params) (t := Tryz.f91.resultTypes[0]!) (by kernel_rfl) (by kernel_rfl) (by kernel_rfl) (by kernel_rfl) (by kernel_rfl) (by kernel_rfl)
theorem h91 : HookOk Tryz.prog 8 91 (hkO (hkMakeNoZero 5) (hkMakeNoZeroO 5)) := hkO_ok h91a h91b
theorem hk0ok : HKok Tryz.prog 8 (hkL hk0) := hkL_ok (by
  intro p hp
  simp only [hk0, List.mem_cons, List.not_mem_nil, or_false] at hp
  rcases hp with rfl | rfl | rfl | rfl
  · exact h86
  · exact h89
  · exact h90
  · exact h91)
theorem alive4 (τ : Nat → Nat) : mkTK τ tbl .leaf (fun h0 => run Tryz.prog 8 (hkL hk0) 100000 4 .nil h0 8 (fun v _ _ => isB true v) (fun _ _ _ => false)) = true := by kernel_rfl
def hkB : List (Nat × HookF) := [(86, hkO (hkOr hkIndexByte hkIndexByteW) hkIndexByteO), (89, hkOr hkCount hkCountW), (90, hkNoEscape), (91, hkO (hkMakeNoZero 5) (hkMakeNoZeroO 5)), (4, memo tbl true)]
theorem hkBok : HKok Tryz.prog 8 (hkL hkB) := hkL_ok (by
  intro p hp
  simp only [hkB, List.mem_cons, List.not_mem_nil, or_false] at hp
  rcases hp with rfl | rfl | rfl | rfl | rfl
  · exact h86
  · exact h89
  · exact h90
  · exact h91
  · exact memo_ok follows nameOK hk0ok tblIn alive4)
end
end Go.Proofs.YteoeiinpiihpoaaGreatDoor
