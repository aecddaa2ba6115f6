/-
  Some functions are met by their answers. No condition.
-/
import Derived.Test.YtoflpofblogmcaaGreatDoorTab
import Derived.Test.YtoflpofblogmcaaGreatDoorXMxQ
import Derived.Test.YtoflpofblogmcaaGreatDoorXRowK6
open Go Go.Mx
namespace Go.Proofs.YtoflpofblogmcaaGreatDoor
set_option maxRecDepth 1000000
noncomputable section
def tbl : List (Nat × V) := []
theorem tblIn : inT 8 tbl = true := rfl
theorem tabs (W : World) : HasTables tbl W := fun p hp => by cases hp
def hk0 : List (Nat × HookF) := [(55, hkO (hkOr hkIndexByte hkIndexByteW) hkIndexByteO), (54, hkNoEscape), (149, hkO (hkMakeNoZero 5) (hkMakeNoZeroO 5))]
theorem h55a : HookOk Tryz.prog 8 55 hkIndexByte := hkIndexByte_ok (fn := Tryz.f55) (by kernel_rfl) (by kernel_rfl) (by kernel_rfl) (by kernel_rfl) (by kernel_rfl)
theorem h55b : HookOk Tryz.prog 8 55 hkIndexByteW := hkIndexByteW_ok (fn := Tryz.f55) (by kernel_rfl) (by kernel_rfl) (by kernel_rfl) (by kernel_rfl) (by kernel_rfl)
theorem h55o : HookOk Tryz.prog 8 55 hkIndexByteO := hkIndexByteO_ok (fn := Tryz.f55) (by kernel_rfl) (by kernel_rfl) (by kernel_rfl) (by kernel_rfl) (by kernel_rfl)
theorem h55ab : HookOk Tryz.prog 8 55 (hkOr hkIndexByte hkIndexByteW) := hkOr_ok h55a h55b
theorem h55 : HookOk Tryz.prog 8 55 (hkO (hkOr hkIndexByte hkIndexByteW) hkIndexByteO) := hkO_ok h55ab h55o
theorem h54 : HookOk Tryz.prog 8 54 hkNoEscape := hkNoEscape_ok (fn := Tryz.f54) (by kernel_rfl) (by kernel_rfl) (by kernel_rfl) (by kernel_rfl) (by kernel_rfl)
theorem h149a : HookOk Tryz.prog 8 149 (hkMakeNoZero 5) := hkMakeNoZero_ok (fn := Tryz.f149) (ps := Tryz.f149.params) (t := Tryz.f149.resultTypes[0]!) (by kernel_rfl) (by kernel_rfl) (by kernel_rfl) (by kernel_rfl) (by kernel_rfl) (by kernel_rfl)
theorem h149b : HookOk Tryz.prog 8 149 (hkMakeNoZeroO 5) := hkMakeNoZeroO_ok (fn := Tryz.f149) (ps := Tryz.f149.params) (t := Tryz.f149.resultTypes[0]!) (by kernel_rfl) (by kernel_rfl) (by kernel_rfl) (by kernel_rfl) (by kernel_rfl) (by kernel_rfl)
theorem h149 : HookOk Tryz.prog 8 149 (hkO (hkMakeNoZero 5) (hkMakeNoZeroO 5)) := hkO_ok h149a h149b
theorem hk0ok : HKok Tryz.prog 8 (hkL hk0) := hkL_ok (by
  intro p hp
  simp only [hk0, List.mem_cons, List.not_mem_nil, or_false] at hp
  rcases hp with rfl | rfl | rfl
  · exact h55
  · exact h54
  · exact h149)
theorem alive4 (τ : Nat → Nat) : mkTK τ tbl .leaf (fun h0 => run Tryz.prog 8 (hkL hk0) 100000 4 .nil h0 8 (fun v _ _ => isB true v) (fun _ _ _ => false)) = true := by kernel_rfl
def hkB : List (Nat × HookF) := [(55, hkO (hkOr hkIndexByte hkIndexByteW) hkIndexByteO), (54, hkNoEscape), (149, hkO (hkMakeNoZero 5) (hkMakeNoZeroO 5)), (4, memo tbl true)]
theorem hkBok : HKok Tryz.prog 8 (hkL hkB) := hkL_ok (by
  intro p hp
  simp only [hkB, List.mem_cons, List.not_mem_nil, or_false] at hp
  rcases hp with rfl | rfl | rfl | rfl
  · exact h55
  · exact h54
  · exact h149
  · exact memo_ok follows nameOK hk0ok tblIn alive4)
end
end Go.Proofs.YtoflpofblogmcaaGreatDoor
