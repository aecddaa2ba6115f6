/-
  Some functions are met by their answers. No condition.
-/
import Derived.Test.YtpodnhoafbbkkaaGreatDoorTab
import Derived.Test.YtpodnhoafbbkkaaGreatDoorXMxQ
import Derived.Test.YtpodnhoafbbkkaaGreatDoorXRowK6
open Go Go.Mx
namespace Go.Proofs.YtpodnhoafbbkkaaGreatDoor
set_option maxRecDepth 1000000
noncomputable section
def tbl : List (Nat × V) := []
theorem tblIn : inT 8 tbl = true := rfl
theorem tabs (W : World) : HasTables tbl W := fun p hp => by cases hp
def hk0 : List (Nat × HookF) := [(53, hkO (hkOr hkIndexByte hkIndexByteW) hkIndexByteO), (52, hkNoEscape), (147, hkO (hkMakeNoZero 5) (hkMakeNoZeroO 5))]
theorem h53a : HookOk Tryz.prog 8 53 hkIndexByte := hkIndexByte_ok (fn := Tryz.f53) (by kernel_rfl) (by kernel_rfl) (by kernel_rfl) (by kernel_rfl) (by kernel_rfl)
theorem h53b : HookOk Tryz.prog 8 53 hkIndexByteW := hkIndexByteW_ok (fn := Tryz.f53) (by kernel_rfl) (by kernel_rfl) (by kernel_rfl) (by kernel_rfl) (by kernel_rfl)
theorem h53o : HookOk Tryz.prog 8 53 hkIndexByteO := hkIndexByteO_ok (fn := Tryz.f53) (by kernel_rfl) (by kernel_rfl) (by kernel_rfl) (by kernel_rfl) (by kernel_rfl)
theorem h53ab : HookOk Tryz.prog 8 53 (hkOr hkIndexByte hkIndexByteW) := hkOr_ok h53a h53b
theorem h53 : HookOk Tryz.prog 8 53 (hkO (hkOr hkIndexByte hkIndexByteW) hkIndexByteO) := hkO_ok h53ab h53o
theorem h52 : HookOk Tryz.prog 8 52 hkNoEscape := hkNoEscape_ok (fn := Tryz.f52) (by kernel_rfl) (by kernel_rfl) (by kernel_rfl) (by kernel_rfl) (by kernel_rfl)
theorem h147a : HookOk Tryz.prog 8 147 (hkMakeNoZero 5) := hkMakeNoZero_ok (fn := Tryz.f147) (ps := Tryz.f147.params) (t := Tryz.f147.resultTypes[0]!) (by kernel_rfl) (by kernel_rfl) (by kernel_rfl) (by kernel_rfl) (by kernel_rfl) (by kernel_rfl)
theorem h147b : HookOk Tryz.prog 8 147 (hkMakeNoZeroO 5) := hkMakeNoZeroO_ok (fn := Tryz.f147) (ps := Tryz.f147.params) (t := Tryz.f147.resultTypes[0]!) (by kernel_rfl) (by kernel_rfl) (by kernel_rfl) (by kernel_rfl) (by kernel_rfl) (by kernel_rfl)
theorem h147 : HookOk Tryz.prog 8 147 (hkO (hkMakeNoZero 5) (hkMakeNoZeroO 5)) := hkO_ok h147a h147b
theorem hk0ok : HKok Tryz.prog 8 (hkL hk0) := hkL_ok (by
  intro p hp
  simp only [hk0, List.mem_cons, List.not_mem_nil, or_false] at hp
  rcases hp with rfl | rfl | rfl
  · exact h53
  · exact h52
  · exact h147)
theorem alive4 (τ : Nat → Nat) : mkTK τ tbl .leaf (fun h0 => run Tryz.prog 8 (hkL hk0) 100000 4 .nil h0 8 (fun v _ _ => isB true v) (fun _ _ _ => false)) = true := by kernel_rfl
def hkB : List (Nat × HookF) := [(53, hkO (hkOr hkIndexByte hkIndexByteW) hkIndexByteO), (52, hkNoEscape), (147, hkO (hkMakeNoZero 5) (hkMakeNoZeroO 5)), (4, memo tbl true)]
theorem hkBok : HKok Tryz.prog 8 (hkL hkB) := hkL_ok (by
  intro p hp
  simp only [hkB, List.mem_cons, List.not_mem_nil, or_false] at hp
  rcases hp with rfl | rfl | rfl | rfl
  · exact h53
  · exact h52
  · exact h147
  · exact memo_ok follows nameOK hk0ok tblIn alive4)
end
end Go.Proofs.YtpodnhoafbbkkaaGreatDoor
