/-
  Int and number are met by their contracts. No condition.
-/
import Derived.Test.YteoeiinpiihpoaaGreatDoorHk
import Derived.Test.YteoeiinpiihpoaaGreatDoorXNumF
import Derived.Test.YteoeiinpiihpoaaGreatDoorDgW
import Derived.Test.YteoeiinpiihpoaaGreatDoorNuW
open Go Go.Mx Go.Lib Go.RowKit
namespace Go.Proofs.YteoeiinpiihpoaaGreatDoor
set_option maxRecDepth 1000000
noncomputable section
theorem stays_same (w : World) : Stays w w := ⟨Nat.le_refl _, rfl, rfl, rfl, fun _ _ => rfl⟩
theorem stays_below {w w' : World} (h : Below w.heap.size w w') : Stays w w' := ⟨h.size, h.os, h.tape, h.output, h.block⟩
theorem inBody : ∃ c, Tryz.f7.body = some c := ⟨_, rfl⟩
theorem nuBody : ∃ c, Tryz.f18.body = some c := ⟨_, rfl⟩
theorem c7 : HookOk Tryz.prog 8 7 (hkDec (Int.negSucc 9223372036854775807)) := by
  obtain ⟨c, hb⟩ := inBody
  exact hkDec_ok nameOK (by decide) (fn := Tryz.f7) (by kernel_rfl) hb fun n w h1 h2 => (int_any n h1 h2 w).mono fun e w' h => ⟨h.1, by rw [h.2]; exact stays_same w⟩
theorem c18 : HookOk Tryz.prog 8 18 (hkNum 999999999999999999) := by
  obtain ⟨c, hb⟩ := nuBody
  exact hkNum_ok nameOK (by decide) (fn := Tryz.f18) (by kernel_rfl) hb (fun n w h1 h2 => (number_mid n (by omega) (by omega) w).mono fun e w' h => ⟨h.1, stays_below h.2⟩)
    (fun n w _ _ h => (number_long n (by omega) w).mono fun e w' h => ⟨h.1, stays_below h.2⟩)
def hkC : List (Nat × HookF) := (7, hkDec (Int.negSucc 9223372036854775807)) :: (18, hkNum 999999999999999999) :: hkB
theorem hkCok : HKok Tryz.prog 8 (hkL hkC) := hkL_cons c7 (hkL_cons c18 hkBok)
end
end Go.Proofs.YteoeiinpiihpoaaGreatDoor
