/-
  At, Digits, Itoa, Index and Count are met by contracts. No condition.
-/
import Derived.Test.YtdkpggfooahnnaaGreatDoorIt0
import Derived.Test.YtdkpggfooahnnaaGreatDoorIt1
import Derived.Test.YtdkpggfooahnnaaGreatDoorIt2
import Derived.Test.YtdkpggfooahnnaaGreatDoorIt3
import Derived.Test.YtdkpggfooahnnaaGreatDoorAtW
import Derived.Test.YtdkpggfooahnnaaGreatDoorDgW
import Derived.Test.YtdkpggfooahnnaaGreatDoorXMxAQ
open Go Go.Mx Go.Lib Go.RowKit Go.Shelf
namespace Go.Proofs.YtdkpggfooahnnaaGreatDoor
set_option maxRecDepth 1000000
noncomputable section
theorem stays_sameF (w : World) : Stays w w := ⟨Nat.le_refl _, rfl, rfl, rfl, fun _ _ => rfl⟩
theorem stays_belowF {w w' : World} (h : Below w.heap.size w w') : Stays w w' := ⟨h.size, h.os, h.tape, h.output, h.block⟩
theorem dgBodyF : ∃ c, Tryz.f16.body = some c := ⟨_, rfl⟩
theorem atBody : ∃ c, Tryz.f8.body = some c := ⟨_, rfl⟩
theorem ixBody : ∃ c, Tryz.f60.body = some c := ⟨_, rfl⟩
theorem itAll (τ : Nat → Nat) (n : Nat) (h : n ≤ 2100) : mkTK τ tbl .leaf (fun h0 => R0 18 (.cons (.i .i64 (Int.ofNat (n))) .nil) h0 12 (fun v _ _ => isDg4 (n) v) (fun _ _ _ => false)) = true := by
  by_cases h1 : n < 525
  · exact allN_spec (it0 τ) n h1
  by_cases h2 : n < 1050
  · have := allN_spec (it1 τ) (n - 525) (by omega)
    rwa [Nat.sub_add_cancel (by omega)] at this
  by_cases h3 : n < 1575
  · have := allN_spec (it2 τ) (n - 1050) (by omega)
    rwa [Nat.sub_add_cancel (by omega)] at this
  · have := allN_spec (it3 τ) (n - 1575) (by omega)
    rwa [Nat.sub_add_cancel (by omega)] at this
theorem itOk : HookOk Tryz.prog 12 18 (hkDecR tbl 2100 (hkRun R0 18)) := hkDecR_ok r0 (hkRun_ok r0) tblIn (by decide) itAll
theorem dgOk : HookOk Tryz.prog 12 16 (hkDecN (hkRun R0 16)) := by
  obtain ⟨c, hb⟩ := dgBodyF
  refine hkDecN_ok nameOK (fn := Tryz.f16) (by kernel_rfl) hb (hkRun_ok r0) fun n w h1 h2 => ?_
  obtain ⟨m, rfl⟩ := Int.eq_ofNat_of_zero_le h1
  exact (digits_any m h2 w).mono fun e w' h => ⟨h.1.trans (congrArg (fun x => Ending.returned (.string x)) (itoaS_pos m).symm), by rw [h.2]; exact stays_sameF w⟩
def hkAt1 : HookF := fun args h nx K => arg0 args fun x _ => ropK x fun c => atMost c 1000000 fun _ => hkIndexByteP args h nx K
theorem atOk : HookOk Tryz.prog 12 8 hkAt1 := by
  obtain ⟨c, hb⟩ := atBody
  exact hkAt_ok nameOK (fn := Tryz.f8) (by kernel_rfl) hb fun s n w h1 h2 => (at_any s n w (by unfold maxLen; omega) h2).mono fun e w' h => ⟨h.1, by rw [h.2]; exact stays_sameF w⟩
theorem ixOk : HookOk Tryz.prog 12 60 (hkIx (hkRun R0 60)) := by
  obtain ⟨c, hb⟩ := ixBody
  exact hkIx_ok nameOK (fn := Tryz.f60) (by kernel_rfl) hb (hkRun_ok r0) fun s c w h1 => (Tryz.strings_Index_one s c w).mono fun e w' h => ⟨h.1, by rw [h.2]; exact stays_sameF w⟩
theorem csqOk : HookOk Tryz.prog 12 94 (hkO (hkOr hkCount hkCountW) hkCountQ) := hkO_ok h94 (hkCountQ_ok (fn := Tryz.f94) (by kernel_rfl) (by kernel_rfl) (by kernel_rfl) (by kernel_rfl) (by kernel_rfl))
def hkY : List (Nat × HookF) := (60, hkIx (hkRun R0 60)) :: (8, hkAt1) :: (16, hkDecN (hkRun R0 16)) :: (18, hkDecR tbl 2100 (hkRun R0 18)) :: (94, hkO (hkOr hkCount hkCountW) hkCountQ) :: hkD
theorem hkYok : HKok Tryz.prog 12 (hkL hkY) := hkL_cons ixOk (hkL_cons atOk (hkL_cons dgOk (hkL_cons itOk (hkL_cons csqOk hkDok))))
end
end Go.Proofs.YtdkpggfooahnnaaGreatDoor
