/-
  Some functions are met by their answers. No condition.
-/
import Derived.Test.YthocoonhoilmdaaGreatDoorTab
import Derived.Test.YthocoonhoilmdaaGreatDoorXMxQ
import Derived.Test.YthocoonhoilmdaaGreatDoorXRowK6
open Go Go.Mx
namespace Go.Proofs.YthocoonhoilmdaaGreatDoor
set_option maxRecDepth 1000000
noncomputable section
def tbl : List (Nat × V) := []
theorem tblIn : inT 9 tbl = true := rfl
theorem tabs (W : World) : HasTables tbl W := fun p hp => by cases hp
def hk0 : List (Nat × HookF) := [(180, hkO (hkOr hkIndexByte hkIndexByteW) hkIndexByteO), (184, hkOr hkCount hkCountW), (156, hkNoEscape), (157, hkO (hkMakeNoZero 5) (hkMakeNoZeroO 5))]
theorem h180a : HookOk Tryz.prog 9 180 hkIndexByte := hkIndexByte_ok (fn := Tryz.f180) (by kernel_rfl) (by kernel_rfl) (by kernel_rfl) (by kernel_rfl) (by kernel_rfl)
theorem h180b : HookOk Tryz.prog 9 180 hkIndexByteW := hkIndexByteW_ok (fn := Tryz.f180) (by kernel_rfl) (by kernel_rfl) (by kernel_rfl) (by kernel_rfl) (by kernel_rfl)
theorem h180o : HookOk Tryz.prog 9 180 hkIndexByteO := hkIndexByteO_ok (fn := Tryz.f180) (by kernel_rfl) (by kernel_rfl) (by kernel_rfl) (by kernel_rfl) (by kernel_rfl)
theorem h180ab : HookOk Tryz.prog 9 180 (hkOr hkIndexByte hkIndexByteW) := hkOr_ok h180a h180b
theorem h180 : HookOk Tryz.prog 9 180 (hkO (hkOr hkIndexByte hkIndexByteW) hkIndexByteO) := hkO_ok h180ab h180o
theorem h184a : HookOk Tryz.prog 9 184 hkCount := hkCount_ok (fn := Tryz.f184) (by kernel_rfl) (by kernel_rfl) (by kernel_rfl) (by kernel_rfl) (by kernel_rfl)
theorem h184b : HookOk Tryz.prog 9 184 hkCountW := hkCountW_ok (fn := Tryz.f184) (by kernel_rfl) (by kernel_rfl) (by kernel_rfl) (by kernel_rfl) (by kernel_rfl)
theorem h184 : HookOk Tryz.prog 9 184 (hkOr hkCount hkCountW) := hkOr_ok h184a h184b
theorem h156 : HookOk Tryz.prog 9 156 hkNoEscape := hkNoEscape_ok (fn := Tryz.f156) (by kernel_rfl) (by kernel_rfl) (by kernel_rfl) (by kernel_rfl) (by kernel_rfl)
theorem h157a : HookOk Tryz.prog 9 157 (hkMakeNoZero 5) := hkMakeNoZero_ok (fn := Tryz.f157) (ps := Tryz.f157.params) (t := Tryz.f157.resultTypes[0]!) (by kernel_rfl) (by kernel_rfl) (by kernel_rfl) (by kernel_rfl) (by kernel_rfl) (by kernel_rfl)
theorem h157b : HookOk Tryz.prog 9 157 (hkMakeNoZeroO 5) := hkMakeNoZeroO_ok (fn := Tryz.f157) (ps := Tryz.f157.params) (t := Tryz.f157.resultTypes[0]!) (by kernel_rfl) (by kernel_rfl) (by kernel_rfl) (by kernel_rfl) (by kernel_rfl) (by kernel_rfl)
theorem h157 : HookOk Tryz.prog 9 157 (hkO (hkMakeNoZero 5) (hkMakeNoZeroO 5)) := hkO_ok h157a h157b
theorem hk0ok : HKok Tryz.prog 9 (hkL hk0) := hkL_ok (by
  intro p hp
  simp only [hk0, List.mem_cons, List.not_mem_nil, or_false] at hp
  rcases hp with rfl | rfl | rfl | rfl
  · exact h180
  · exact h184
  · exact h156
  · exact h157)
theorem alive5 (τ : Nat → Nat) : mkTK τ tbl .leaf (fun h0 => run Tryz.prog 9 (hkL hk0) 100000 5 .nil h0 9 (fun v _ _ => isB true v) (fun _ _ _ => false)) = true := by kernel_rfl
def hkB : List (Nat × HookF) := [(180, hkO (hkOr hkIndexByte hkIndexByteW) hkIndexByteO), (184, hkOr hkCount hkCountW), (156, hkNoEscape), (157, hkO (hkMakeNoZero 5) (hkMakeNoZeroO 5)), (5, memo tbl true)]
theorem hkBok : HKok Tryz.prog 9 (hkL hkB) := hkL_ok (by
  intro p hp
  simp only [hkB, List.mem_cons, List.not_mem_nil, or_false] at hp
  rcases hp with rfl | rfl | rfl | rfl | rfl
  · exact h180
  · exact h184
  · exact h156
  · exact h157
  · exact memo_ok follows nameOK hk0ok tblIn alive5)
end
end Go.Proofs.YthocoonhoilmdaaGreatDoor
