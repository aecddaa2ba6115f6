/-
  Some functions are met by their answers. No condition.
-/
import Derived.Test.YtdblbhbbddkmhaaGreatDoorTab
import Derived.Test.YtdblbhbbddkmhaaGreatDoorXMxQ
import Derived.Test.YtdblbhbbddkmhaaGreatDoorXRowK6
open Go Go.Mx
namespace Go.Proofs.YtdblbhbbddkmhaaGreatDoor
set_option maxRecDepth 1000000
noncomputable section
def tbl : List (Nat × V) := []
theorem tblIn : inT 8 tbl = true := rfl
theorem tabs (W : World) : HasTables tbl W := fun p hp => by cases hp
def hk0 : List (Nat × HookF) := [(78, hkO (hkOr hkIndexByte hkIndexByteW) hkIndexByteO), (81, hkOr hkCount hkCountW), (82, hkNoEscape), (83, hkO (hkMakeNoZero 5) (hkMakeNoZeroO 5))]
theorem h78a : HookOk Tryz.prog 8 78 hkIndexByte := hkIndexByte_ok (fn := Tryz.f78) (by kernel_rfl) (by kernel_rfl) (by kernel_rfl) (by kernel_rfl) (by kernel_rfl)
theorem h78b : HookOk Tryz.prog 8 78 hkIndexByteW := hkIndexByteW_ok (fn := Tryz.f78) (by kernel_rfl) (by kernel_rfl) (by kernel_rfl) (by kernel_rfl) (by kernel_rfl)
theorem h78o : HookOk Tryz.prog 8 78 hkIndexByteO := hkIndexByteO_ok (fn := Tryz.f78) (by kernel_rfl) (by kernel_rfl) (by kernel_rfl) (by kernel_rfl) (by kernel_rfl)
theorem h78ab : HookOk Tryz.prog 8 78 (hkOr hkIndexByte hkIndexByteW) := hkOr_ok h78a h78b
theorem h78 : HookOk Tryz.prog 8 78 (hkO (hkOr hkIndexByte hkIndexByteW) hkIndexByteO) := hkO_ok h78ab h78o
theorem h81a : HookOk Tryz.prog 8 81 hkCount := hkCount_ok (fn := Tryz.f81) (by kernel_rfl) (by kernel_rfl) (by kernel_rfl) (by kernel_rfl) (by kernel_rfl)
theorem h81b : HookOk Tryz.prog 8 81 hkCountW := hkCountW_ok (fn := Tryz.f81) (by kernel_rfl) (by kernel_rfl) (by kernel_rfl) (by kernel_rfl) (by kernel_rfl)
theorem h81 : HookOk Tryz.prog 8 81 (hkOr hkCount hkCountW) := hkOr_ok h81a h81b
theorem h82 : HookOk Tryz.prog 8 82 hkNoEscape := hkNoEscape_ok (fn := Tryz.f82) (by kernel_rfl) (by kernel_rfl) (by kernel_rfl) (by kernel_rfl) (by kernel_rfl)
theorem h83a : HookOk Tryz.prog 8 83 (hkMakeNoZero 5) := hkMakeNoZero_ok (fn := Tryz.f83) (ps := Tryz.f83.params) (t := Tryz.f83.resultTypes[0]!) (by kernel_rfl) (by kernel_rfl) (by kernel_rfl) (by kernel_rfl) (by kernel_rfl) (by kernel_rfl)
theorem h83b : HookOk Tryz.prog 8 83 (hkMakeNoZeroO 5) := hkMakeNoZeroO_ok (fn := Tryz.f83) (ps := Tryz.f83.params) (t := Tryz.f83.resultTypes[0]!) (by kernel_rfl) (by kernel_rfl) (by kernel_rfl) (by kernel_rfl) (by kernel_rfl) (by kernel_rfl)
theorem h83 : HookOk Tryz.prog 8 83 (hkO (hkMakeNoZero 5) (hkMakeNoZeroO 5)) := hkO_ok h83a h83b
theorem hk0ok : HKok Tryz.prog 8 (hkL hk0) := hkL_ok (by
  intro p hp
  simp only [hk0, List.mem_cons, List.not_mem_nil, or_false] at hp
  rcases hp with rfl | rfl | rfl | rfl
  · exact h78
  · exact h81
  · exact h82
  · exact h83)
theorem alive4 (τ : Nat → Nat) : mkTK τ tbl .leaf (fun h0 => run Tryz.prog 8 (hkL hk0) 100000 4 .nil h0 8 (fun v _ _ => isB true v) (fun _ _ _ => false)) = true := by kernel_rfl
def hkB : List (Nat × HookF) := [(78, hkO (hkOr hkIndexByte hkIndexByteW) hkIndexByteO), (81, hkOr hkCount hkCountW), (82, hkNoEscape), (83, hkO (hkMakeNoZero 5) (hkMakeNoZeroO 5)), (4, memo tbl true)]
theorem hkBok : HKok Tryz.prog 8 (hkL hkB) := hkL_ok (by
  intro p hp
  simp only [hkB, List.mem_cons, List.not_mem_nil, or_false] at hp
  rcases hp with rfl | rfl | rfl | rfl | rfl
  · exact h78
  · exact h81
  · exact h82
  · exact h83
  · exact memo_ok follows nameOK hk0ok tblIn alive4)
end
end Go.Proofs.YtdblbhbbddkmhaaGreatDoor
