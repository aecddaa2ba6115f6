/-
  Some functions are met by their answers. No condition.
-/
import Derived.Test.YtfmcnkepidedpaaGreatDoorTab
import Derived.Test.YtfmcnkepidedpaaGreatDoorXMxQ
import Derived.Test.YtfmcnkepidedpaaGreatDoorXRowK6
import Derived.Test.YtfmcnkepidedpaaGreatDoorAtW
open Go Go.Mx
namespace Go.Proofs.YtfmcnkepidedpaaGreatDoor
set_option maxRecDepth 1000000
noncomputable section
def tbl : List (Nat × V) := []
theorem tblIn : inT 8 tbl = true := rfl
theorem tabs (W : World) : HasTables tbl W := fun p hp => by cases hp
def hk0 : List (Nat × HookF) := [(58, hkO (hkOr hkIndexByte hkIndexByteW) hkIndexByteO), (57, hkNoEscape), (151, hkO (hkMakeNoZero 5) (hkMakeNoZeroO 5)), (6, hkAtO)]
theorem h58a : HookOk Tryz.prog 8 58 hkIndexByte := hkIndexByte_ok (fn := Tryz.f58) (by kernel_rfl) (by kernel_rfl) (by kernel_rfl) (by kernel_rfl) (by kernel_rfl)
theorem h58b : HookOk Tryz.prog 8 58 hkIndexByteW := hkIndexByteW_ok (fn := Tryz.f58) (by kernel_rfl) (by kernel_rfl) (by kernel_rfl) (by kernel_rfl) (by kernel_rfl)
theorem h58o : HookOk Tryz.prog 8 58 hkIndexByteO := hkIndexByteO_ok (fn := Tryz.f58) (by kernel_rfl) (by kernel_rfl) (by kernel_rfl) (by kernel_rfl) (by kernel_rfl)
theorem h58ab : HookOk Tryz.prog 8 58 (hkOr hkIndexByte hkIndexByteW) := hkOr_ok h58a h58b
theorem h58 : HookOk Tryz.prog 8 58 (hkO (hkOr hkIndexByte hkIndexByteW) hkIndexByteO) := hkO_ok h58ab h58o
theorem h57 : HookOk Tryz.prog 8 57 hkNoEscape := hkNoEscape_ok (fn := Tryz.f57) (by kernel_rfl) (by kernel_rfl) (by kernel_rfl) (by kernel_rfl) (by kernel_rfl)
theorem h151a : HookOk Tryz.prog 8 151 (hkMakeNoZero 5) := hkMakeNoZero_ok (fn := Tryz.f151) (ps := Tryz.f151.params) (t := Tryz.f151.resultTypes[0]!) (by kernel_rfl) (by kernel_rfl) (by kernel_rfl) (by kernel_rfl) (by kernel_rfl) (by kernel_rfl)
theorem h151b : HookOk Tryz.prog 8 151 (hkMakeNoZeroO 5) := hkMakeNoZeroO_ok (fn := Tryz.f151) (ps := Tryz.f151.params) (t := Tryz.f151.resultTypes[0]!) (by kernel_rfl) (by kernel_rfl) (by kernel_rfl) (by kernel_rfl) (by kernel_rfl) (by kernel_rfl)
theorem h151 : HookOk Tryz.prog 8 151 (hkO (hkMakeNoZero 5) (hkMakeNoZeroO 5)) := hkO_ok h151a h151b
theorem atBody : ∃ c, Tryz.f6.body = some c := ⟨_, rfl⟩
theorem h6 : HookOk Tryz.prog 8 6 hkAtO := by
  obtain ⟨c, hb⟩ := atBody
  exact hkAtO_ok nameOK (fn := Tryz.f6) (by kernel_rfl) hb fun b n w h1 h2 => (at_any b n w h1 h2).mono fun e w' h => ⟨h.1, by rw [h.2]; exact stays_same w⟩
theorem hk0ok : HKok Tryz.prog 8 (hkL hk0) := hkL_ok (by
  intro p hp
  simp only [hk0, List.mem_cons, List.not_mem_nil, or_false] at hp
  rcases hp with rfl | rfl | rfl | rfl
  · exact h58
  · exact h57
  · exact h151
  · exact h6)
theorem alive5 (τ : Nat → Nat) : mkTK τ tbl .leaf (fun h0 => run Tryz.prog 8 (hkL hk0) 100000 5 .nil h0 8 (fun v _ _ => isB true v) (fun _ _ _ => false)) = true := by kernel_rfl
def hkB : List (Nat × HookF) := [(58, hkO (hkOr hkIndexByte hkIndexByteW) hkIndexByteO), (57, hkNoEscape), (151, hkO (hkMakeNoZero 5) (hkMakeNoZeroO 5)), (6, hkAtO), (5, memo tbl true)]
theorem hkBok : HKok Tryz.prog 8 (hkL hkB) := hkL_ok (by
  intro p hp
  simp only [hkB, List.mem_cons, List.not_mem_nil, or_false] at hp
  rcases hp with rfl | rfl | rfl | rfl | rfl
  · exact h58
  · exact h57
  · exact h151
  · exact h6
  · exact memo_ok follows nameOK hk0ok tblIn alive5)
end
end Go.Proofs.YtfmcnkepidedpaaGreatDoor
