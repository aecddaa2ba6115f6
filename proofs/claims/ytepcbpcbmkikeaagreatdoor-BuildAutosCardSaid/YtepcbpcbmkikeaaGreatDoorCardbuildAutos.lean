/-
  The tied card of buildAutos: for every input the law returns true, and the listed variables hold what the program lays.
-/
import Derived.Test.YtepcbpcbmkikeaaGreatDoorRowbuildAutos
import Derived.Test.YtepcbpcbmkikeaaGreatDoorOwnTie
import Derived.Test.YtepcbpcbmkikeaaGreatDoorXGoesK
import Derived.SevenTiedAt
open Go Go.Mx
namespace Go.Proofs.YtepcbpcbmkikeaaGreatDoor
set_option maxRecDepth 1000000
noncomputable section
theorem buildAutos_tie : Rows.buildAutosRow.laidByTextAt .later Tryz.pinned [.pinned, .data, .data, .data, .data, .data, .listed, .sentinel, .sentinel] true :=
  OpenClaim.laidByTextAt_pinned rfl rfl tieOwn rfl rfl rfl rfl (fun y hy _e => by
    simp only [Rows.buildAutosRow, List.zip_cons_cons, List.zip_nil_right, List.mem_cons, List.mem_nil_iff, or_false] at hy
    rcases hy with rfl | rfl | rfl | rfl | rfl | rfl | rfl | rfl | rfl
    · exact ⟨pin1, pin2⟩
    · cases _e
    · cases _e
    · cases _e
    · cases _e
    · cases _e
    · cases _e
    · cases _e
    · cases _e
    ) listed1
theorem buildAutos_wfText : Rows.buildAutosRow.wfByText (OpenSpec.ofChange Rows.buildAutosSpec) = true := by kernel_rfl
theorem buildAutos_mainIs : Tryz.pinned.checked.prog.mainIs = some (true, "a8ff6be4fd5cd9d5c5dd8e1c123853d524c286d16a869f77d232d11aab2cdc15".toList) := by kernel_rfl
theorem buildAutos_looks : true = Tryz.pinned.checked.prog.looks [] := by kernel_rfl
theorem buildAutos_wants : ([3, 46].all fun u => !Tryz.prog.wantsStandIn u) = true := by kernel_rfl
theorem goes_0 : ((dropP 80 Tryz.prog.funcs.toList 0).take 80).all (fun fn => !fn.goes) = true := by kernel_rfl
theorem goes_1 : ((dropP 80 Tryz.prog.funcs.toList 1).take 80).all (fun fn => !fn.goes) = true := by kernel_rfl
theorem goes_2 : ((dropP 80 Tryz.prog.funcs.toList 2).take 80).all (fun fn => !fn.goes) = true := by kernel_rfl
theorem goes_3 : ((dropP 80 Tryz.prog.funcs.toList 3).take 80).all (fun fn => !fn.goes) = true := by kernel_rfl
theorem goes_4 : ((dropP 80 Tryz.prog.funcs.toList 4).take 80).all (fun fn => !fn.goes) = true := by kernel_rfl
theorem goes_5 : ((dropP 80 Tryz.prog.funcs.toList 5).take 80).all (fun fn => !fn.goes) = true := by kernel_rfl
theorem goes_6 : ((dropP 80 Tryz.prog.funcs.toList 6).take 80).all (fun fn => !fn.goes) = true := by kernel_rfl
theorem goes_7 : (dropP 80 Tryz.prog.funcs.toList 7).all (fun fn => !fn.goes) = true := by kernel_rfl
theorem goes_all : Tryz.prog.funcs.toList.all (fun fn => !fn.goes) = true := all_parts 80 goes_0 (all_parts 80 goes_1 (all_parts 80 goes_2 (all_parts 80 goes_3 (all_parts 80 goes_4 (all_parts 80 goes_5 (all_parts 80 goes_6 (goes_7)))))))
theorem buildAutos_goes : false = Rows.buildAutosRow.goesBy Tryz.pinned.checked.prog := goesBy_none goes_all rfl
theorem buildAutos_card : Rows.BuildAutosCardSaid :=
  Claim7.holds_tied_plain_at .later [] [.pinned, .data, .data, .data, .data, .data, .listed, .sentinel, .sentinel] true (true, "a8ff6be4fd5cd9d5c5dd8e1c123853d524c286d16a869f77d232d11aab2cdc15") true
    buildAutos_holds (fun _ h => by cases h) buildAutos_wfText (fun _ h => by cases h) buildAutos_tie rfl ⟨rfl, rfl⟩ buildAutos_mainIs rfl
    (fun g fn hf hfn => by
      obtain rfl : g = 5 := Option.some.inj (buildAutos_named1.symm.trans hf) |>.symm
      obtain rfl : fn = Tryz.f5 := (Option.some.inj (buildAutos_fn.symm.trans hfn)).symm
      exact ⟨buildAutos_looks, fun j t ht => by
        rw [buildAutos_params] at ht
        have hm : t ∈ [3, 46] := by simpa using Array.mem_of_getElem? ht
        exact (show Tryz.prog.wantsStandIn t = false by simpa using List.all_eq_true.1 buildAutos_wants t hm)⟩)
    buildAutos_goes
#print axioms buildAutos_card
end
end Go.Proofs.YtepcbpcbmkikeaaGreatDoor
