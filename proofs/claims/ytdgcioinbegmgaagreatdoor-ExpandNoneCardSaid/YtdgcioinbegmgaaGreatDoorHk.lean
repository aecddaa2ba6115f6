/-
  Some functions are met by their answers. No condition.
-/
import Derived.Test.YtdgcioinbegmgaaGreatDoorTab
import Derived.Test.YtdgcioinbegmgaaGreatDoorXMxK
import Derived.Test.YtdgcioinbegmgaaGreatDoorXRowK3
open Go Go.Mx
namespace Go.Proofs.YtdgcioinbegmgaaGreatDoor
set_option maxRecDepth 1000000
noncomputable section
def tbl : List (Nat × V) := []
theorem tblIn : inT 8 tbl = true := rfl
theorem tabs (W : World) : HasTables tbl W := fun p hp => by cases hp
def hk0 : List (Nat × HookF) := [(64, hkOr hkIndexByte hkIndexByteW), (63, hkNoEscape), (148, hkMakeNoZero 5)]
theorem h64 : HookOk Tryz.prog 8 64 (hkOr hkIndexByte hkIndexByteW) := hkOr_ok (hkIndexByte_ok (fn := Tryz.f64) (by kernel_rfl) (by kernel_rfl) (by kernel_rfl) (by kernel_rfl) (by kernel_rfl)) (hkIndexByteW_ok (fn := Tryz.f64) (by kernel_rfl) (by kernel_rfl) (by kernel_rfl) (by kernel_rfl) (by kernel_rfl))
theorem h63 : HookOk Tryz.prog 8 63 hkNoEscape := hkNoEscape_ok (fn := Tryz.f63) (by kernel_rfl) (by kernel_rfl) (by kernel_rfl) (by kernel_rfl) (by kernel_rfl)
theorem h148 : HookOk Tryz.prog 8 148 (hkMakeNoZero 5) := hkMakeNoZero_ok (fn := Tryz.f148) (ps := Tryz.f148.params) (t := Tryz.f148.resultTypes[0]!) (by kernel_rfl) (by kernel_rfl) (by kernel_rfl) (by kernel_rfl) (by kernel_rfl) (by kernel_rfl)
theorem hk0ok : HKok Tryz.prog 8 (hkL hk0) := hkL_ok (by
  intro p hp
  simp only [hk0, List.mem_cons, List.not_mem_nil, or_false] at hp
  rcases hp with rfl | rfl | rfl
  · exact h64
  · exact h63
  · exact h148
)
theorem alive5 (τ : Nat → Nat) : mkTK τ tbl .leaf (fun h0 => run Tryz.prog 8 (hkL hk0) 100000 5 .nil h0 8 (fun v _ _ => isB true v) (fun _ _ _ => false)) = true := by kernel_rfl
def hkB : List (Nat × HookF) := [(64, hkOr hkIndexByte hkIndexByteW), (63, hkNoEscape), (148, hkMakeNoZero 5), (5, memo tbl true)]
theorem hkBok : HKok Tryz.prog 8 (hkL hkB) := hkL_ok (by
  intro p hp
  simp only [hkB, List.mem_cons, List.not_mem_nil, or_false] at hp
  rcases hp with rfl | rfl | rfl | rfl
  · exact h64
  · exact h63
  · exact h148
  · exact memo_ok follows nameOK hk0ok tblIn alive5
)
end
end Go.Proofs.YtdgcioinbegmgaaGreatDoor
