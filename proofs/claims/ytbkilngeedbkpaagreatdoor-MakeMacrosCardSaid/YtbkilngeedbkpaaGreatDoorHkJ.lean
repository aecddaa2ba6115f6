/-
  A set of bytes that are not known. No condition.
-/
import Derived.Test.YtbkilngeedbkpaaGreatDoorHkC
import Derived.Test.YtbkilngeedbkpaaGreatDoorAdW
import Derived.Test.YtbkilngeedbkpaaGreatDoorHsW
open Go Go.Mx Go.Lib Go.RowKit Go.Shelf
namespace Go.Proofs.YtbkilngeedbkpaaGreatDoor
set_option maxRecDepth 1000000
noncomputable section
theorem adBody : ∃ c, Tryz.f402.body = some c := ⟨_, rfl⟩
theorem adOk : HookOk Tryz.prog 12 402 (hkAdd (hkRun R0 402)) := by
  obtain ⟨c, hb⟩ := adBody
  exact hkAdd_ok nameOK (fn := Tryz.f402) (by kernel_rfl) hb (hkRun_ok r0) add_said
theorem hsBody : ∃ c, Tryz.f478.body = some c := ⟨_, rfl⟩
theorem hsOk : HookOk Tryz.prog 12 478 (hkHas (hkRun R0 478)) := by
  obtain ⟨c, hb⟩ := hsBody
  exact hkHas_ok nameOK (fn := Tryz.f478) (by kernel_rfl) hb (hkRun_ok r0) has_said
def hkA : List (Nat × HookF) := (402, hkAdd (hkRun R0 402)) :: (478, hkHas (hkRun R0 478)) :: hkP
theorem hkAok : HKok Tryz.prog 12 (hkL hkA) := hkL_cons adOk (hkL_cons hsOk hkPok)
def RN : CK := run Tryz.prog 12 (hkL hkA) 100000
theorem rN : CKok Tryz.prog 12 RN := run_sound follows nameOK hkAok 100000
def hkJ : List (Nat × HookF) := (298, hkFi2) :: (402, hkAdd (hkRun R0 402)) :: (406, hkNF RN 406) :: hkD
theorem hkJok : HKok Tryz.prog 12 (hkL hkJ) := hkL_cons fi2 (hkL_cons adOk (hkL_cons (hkNF_ok rN) hkDok))
end
end Go.Proofs.YtbkilngeedbkpaaGreatDoor
