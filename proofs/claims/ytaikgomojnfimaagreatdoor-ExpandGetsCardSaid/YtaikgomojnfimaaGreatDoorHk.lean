/-
  Some functions are met by their answers. No condition.
-/
import Derived.Test.YtaikgomojnfimaaGreatDoorTab
import Derived.Test.YtaikgomojnfimaaGreatDoorXMxQ
import Derived.Test.YtaikgomojnfimaaGreatDoorXRowK6
open Go Go.Mx
namespace Go.Proofs.YtaikgomojnfimaaGreatDoor
set_option maxRecDepth 1000000
noncomputable section
def tbl : List (Nat × V) := []
theorem tblIn : inT 8 tbl = true := rfl
theorem tabs (W : World) : HasTables tbl W := fun p hp => by cases hp
def hk0 : List (Nat × HookF) := [(120, hkO (hkOr hkIndexByte hkIndexByteW) hkIndexByteO), (83, hkNoEscape), (84, hkO (hkMakeNoZero 5) (hkMakeNoZeroO 5))]
theorem h120a : HookOk Tryz.prog 8 120 hkIndexByte := hkIndexByte_ok (fn := Tryz.f120) (by kernel_rfl) (by kernel_rfl) (by kernel_rfl) (by kernel_rfl) (by kernel_rfl)
theorem h120b : HookOk Tryz.prog 8 120 hkIndexByteW := hkIndexByteW_ok (fn := Tryz.f120) (by kernel_rfl) (by kernel_rfl) (by kernel_rfl) (by kernel_rfl) (by kernel_rfl)
theorem h120o : HookOk Tryz.prog 8 120 hkIndexByteO := hkIndexByteO_ok (fn := Tryz.f120) (by kernel_rfl) (by kernel_rfl) (by kernel_rfl) (by kernel_rfl) (by kernel_rfl)
theorem h120ab : HookOk Tryz.prog 8 120 (hkOr hkIndexByte hkIndexByteW) := hkOr_ok h120a h120b
theorem h120 : HookOk Tryz.prog 8 120 (hkO (hkOr hkIndexByte hkIndexByteW) hkIndexByteO) := hkO_ok h120ab h120o
theorem h83 : HookOk Tryz.prog 8 83 hkNoEscape := hkNoEscape_ok (fn := Tryz.f83) (by kernel_rfl) (by kernel_rfl) (by kernel_rfl) (by kernel_rfl) (by kernel_rfl)
theorem h84a : HookOk Tryz.prog 8 84 (hkMakeNoZero 5) := hkMakeNoZero_ok (fn := Tryz.f84) (ps := Tryz.f84.params) (t := Tryz.f84.resultTypes[0]!) (by kernel_rfl) (by kernel_rfl) (by kernel_rfl) (by kernel_rfl) (by kernel_rfl) (by kernel_rfl)
theorem h84b : HookOk Tryz.prog 8 84 (hkMakeNoZeroO 5) := hkMakeNoZeroO_ok (fn := Tryz.f84) (ps := Tryz.f84.params) (t := Tryz.f84.resultTypes[0]!) (by kernel_rfl) (by kernel_rfl) (by kernel_rfl) (by kernel_rfl) (by kernel_rfl) (by kernel_rfl)
theorem h84 : HookOk Tryz.prog 8 84 (hkO (hkMakeNoZero 5) (hkMakeNoZeroO 5)) := hkO_ok h84a h84b
theorem hk0ok : HKok Tryz.prog 8 (hkL hk0) := hkL_ok (by
  intro p hp
  simp only [hk0, List.mem_cons, List.not_mem_nil, or_false] at hp
  rcases hp with rfl | rfl | rfl
  · exact h120
  · exact h83
  · exact h84)
theorem alive4 (τ : Nat → Nat) : mkTK τ tbl .leaf (fun h0 => run Tryz.prog 8 (hkL hk0) 100000 4 .nil h0 8 (fun v _ _ => isB true v) (fun _ _ _ => false)) = true := by kernel_rfl
def hkB : List (Nat × HookF) := [(120, hkO (hkOr hkIndexByte hkIndexByteW) hkIndexByteO), (83, hkNoEscape), (84, hkO (hkMakeNoZero 5) (hkMakeNoZeroO 5)), (4, memo tbl true)]
theorem hkBok : HKok Tryz.prog 8 (hkL hkB) := hkL_ok (by
  intro p hp
  simp only [hkB, List.mem_cons, List.not_mem_nil, or_false] at hp
  rcases hp with rfl | rfl | rfl | rfl
  · exact h120
  · exact h83
  · exact h84
  · exact memo_ok follows nameOK hk0ok tblIn alive4)
end
end Go.Proofs.YtaikgomojnfimaaGreatDoor
