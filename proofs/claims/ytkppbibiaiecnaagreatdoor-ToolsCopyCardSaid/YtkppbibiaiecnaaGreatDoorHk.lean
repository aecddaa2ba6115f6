/-
  Some functions are met by their answers. No condition.
-/
import Derived.Test.YtkppbibiaiecnaaGreatDoorTab
import Derived.Test.YtkppbibiaiecnaaGreatDoorXMxP
import Derived.Test.YtkppbibiaiecnaaGreatDoorXRowK5
open Go Go.Mx
namespace Go.Proofs.YtkppbibiaiecnaaGreatDoor
set_option maxRecDepth 1000000
noncomputable section
def tbl : List (Nat × V) := []
theorem tblIn : inT 9 tbl = true := rfl
theorem tabs (W : World) : HasTables tbl W := fun p hp => by cases hp
def hk0 : List (Nat × HookF) := [(178, hkO (hkOr hkIndexByte hkIndexByteW) hkIndexByteO), (188, hkOr hkCount hkCountW), (126, hkNoEscape), (127, hkO (hkMakeNoZero 5) (hkMakeNoZeroO 5))]
theorem h178a : HookOk Tryz.prog 9 178 hkIndexByte := hkIndexByte_ok (fn := Tryz.f178) (by kernel_rfl) (by kernel_rfl) (by kernel_rfl) (by kernel_rfl) (by kernel_rfl)
theorem h178b : HookOk Tryz.prog 9 178 hkIndexByteW := hkIndexByteW_ok (fn := Tryz.f178) (by kernel_rfl) (by kernel_rfl) (by kernel_rfl) (by kernel_rfl) (by kernel_rfl)
theorem h178o : HookOk Tryz.prog 9 178 hkIndexByteO := hkIndexByteO_ok (fn := Tryz.f178) (by kernel_rfl) (by kernel_rfl) (by kernel_rfl) (by kernel_rfl) (by kernel_rfl)
theorem h178ab : HookOk Tryz.prog 9 178 (hkOr hkIndexByte hkIndexByteW) := hkOr_ok h178a h178b
theorem h178 : HookOk Tryz.prog 9 178 (hkO (hkOr hkIndexByte hkIndexByteW) hkIndexByteO) := hkO_ok h178ab h178o
theorem h188a : HookOk Tryz.prog 9 188 hkCount := hkCount_ok (fn := Tryz.f188) (by kernel_rfl) (by kernel_rfl) (by kernel_rfl) (by kernel_rfl) (by kernel_rfl)
theorem h188b : HookOk Tryz.prog 9 188 hkCountW := hkCountW_ok (fn := Tryz.f188) (by kernel_rfl) (by kernel_rfl) (by kernel_rfl) (by kernel_rfl) (by kernel_rfl)
theorem h188 : HookOk Tryz.prog 9 188 (hkOr hkCount hkCountW) := hkOr_ok h188a h188b
theorem h126 : HookOk Tryz.prog 9 126 hkNoEscape := hkNoEscape_ok (fn := Tryz.f126) (by kernel_rfl) (by kernel_rfl) (by kernel_rfl) (by kernel_rfl) (by kernel_rfl)
theorem h127a : HookOk Tryz.prog 9 127 (hkMakeNoZero 5) := hkMakeNoZero_ok (fn := Tryz.f127) (ps := Tryz.f127.params) (t := Tryz.f127.resultTypes[0]!) (by kernel_rfl) (by kernel_rfl) (by kernel_rfl) (by kernel_rfl) (by kernel_rfl) (by kernel_rfl)
theorem h127b : HookOk Tryz.prog 9 127 (hkMakeNoZeroO 5) := hkMakeNoZeroO_ok (fn := Tryz.f127) (ps := Tryz.f127.params) (t := Tryz.f127.resultTypes[0]!) (by kernel_rfl) (by kernel_rfl) (by kernel_rfl) (by kernel_rfl) (by kernel_rfl) (by kernel_rfl)
theorem h127 : HookOk Tryz.prog 9 127 (hkO (hkMakeNoZero 5) (hkMakeNoZeroO 5)) := hkO_ok h127a h127b
theorem hk0ok : HKok Tryz.prog 9 (hkL hk0) := hkL_ok (by
  intro p hp
  simp only [hk0, List.mem_cons, List.not_mem_nil, or_false] at hp
  rcases hp with rfl | rfl | rfl | rfl
  · exact h178
  · exact h188
  · exact h126
  · exact h127)
theorem alive5 (τ : Nat → Nat) : mkTK τ tbl .leaf (fun h0 => run Tryz.prog 9 (hkL hk0) 100000 5 .nil h0 9 (fun v _ _ => isB true v) (fun _ _ _ => false)) = true := by kernel_rfl
def hkB : List (Nat × HookF) := [(178, hkO (hkOr hkIndexByte hkIndexByteW) hkIndexByteO), (188, hkOr hkCount hkCountW), (126, hkNoEscape), (127, hkO (hkMakeNoZero 5) (hkMakeNoZeroO 5)), (5, memo tbl true)]
theorem hkBok : HKok Tryz.prog 9 (hkL hkB) := hkL_ok (by
  intro p hp
  simp only [hkB, List.mem_cons, List.not_mem_nil, or_false] at hp
  rcases hp with rfl | rfl | rfl | rfl | rfl
  · exact h178
  · exact h188
  · exact h126
  · exact h127
  · exact memo_ok follows nameOK hk0ok tblIn alive5)
end
end Go.Proofs.YtkppbibiaiecnaaGreatDoor
