/-
  The tied card of makeNames: for every input the law returns true, and the listed variables hold what the program lays.
-/
import Derived.Test.YtepcbpcbmkikeaaGreatDoorRowmakeNames
import Derived.Test.YtepcbpcbmkikeaaGreatDoorOwnTie
import Derived.Test.YtepcbpcbmkikeaaGreatDoorXGoesK
import Derived.SevenTiedAt
open Go Go.Mx
namespace Go.Proofs.YtepcbpcbmkikeaaGreatDoor
set_option maxRecDepth 1000000
noncomputable section
theorem makeNames_tie : Rows.makeNamesRow.laidByTextAt .later Tryz.pinned [.pinned, .data, .data, .data, .data, .data, .listed, .sentinel, .sentinel] true :=
  OpenClaim.laidByTextAt_pinned rfl rfl tieOwn rfl rfl rfl rfl (fun y hy _e => by
    simp only [Rows.makeNamesRow, List.zip_cons_cons, List.zip_nil_right, List.mem_cons, List.mem_nil_iff, or_false] at hy
    rcases hy with rfl | rfl | rfl | rfl | rfl | rfl | rfl | rfl | rfl
    · exact ⟨pin1, pin2⟩
    · cases _e
    · cases _e
    · cases _e
    · cases _e
    · cases _e
    · cases _e
    · cases _e
    · cases _e
    ) listed1
theorem makeNames_wfText : Rows.makeNamesRow.wfByText (OpenSpec.ofChange Rows.makeNamesSpec) = true := by kernel_rfl
theorem makeNames_mainIs : Tryz.pinned.checked.prog.mainIs = some (true, "a8ff6be4fd5cd9d5c5dd8e1c123853d524c286d16a869f77d232d11aab2cdc15".toList) := by kernel_rfl
theorem makeNames_looks : true = Tryz.pinned.checked.prog.looks [] := by kernel_rfl
theorem makeNames_wants : ([4, 4, 4, 4].all fun u => !Tryz.prog.wantsStandIn u) = true := by kernel_rfl
theorem goes_0 : ((dropP 80 Tryz.prog.funcs.toList 0).take 80).all (fun fn => !fn.goes) = true := by kernel_rfl
theorem goes_1 : ((dropP 80 Tryz.prog.funcs.toList 1).take 80).all (fun fn => !fn.goes) = true := by kernel_rfl
theorem goes_2 : ((dropP 80 Tryz.prog.funcs.toList 2).take 80).all (fun fn => !fn.goes) = true := by kernel_rfl
theorem goes_3 : ((dropP 80 Tryz.prog.funcs.toList 3).take 80).all (fun fn => !fn.goes) = true := by kernel_rfl
theorem goes_4 : ((dropP 80 Tryz.prog.funcs.toList 4).take 80).all (fun fn => !fn.goes) = true := by kernel_rfl
theorem goes_5 : ((dropP 80 Tryz.prog.funcs.toList 5).take 80).all (fun fn => !fn.goes) = true := by kernel_rfl
theorem goes_6 : ((dropP 80 Tryz.prog.funcs.toList 6).take 80).all (fun fn => !fn.goes) = true := by kernel_rfl
theorem goes_7 : (dropP 80 Tryz.prog.funcs.toList 7).all (fun fn => !fn.goes) = true := by kernel_rfl
theorem goes_all : Tryz.prog.funcs.toList.all (fun fn => !fn.goes) = true := all_parts 80 goes_0 (all_parts 80 goes_1 (all_parts 80 goes_2 (all_parts 80 goes_3 (all_parts 80 goes_4 (all_parts 80 goes_5 (all_parts 80 goes_6 (goes_7)))))))
theorem makeNames_goes : false = Rows.makeNamesRow.goesBy Tryz.pinned.checked.prog := goesBy_none goes_all rfl
theorem makeNames_card : Rows.MakeNamesCardSaid :=
  Claim7.holds_tied_plain_at .later [] [.pinned, .data, .data, .data, .data, .data, .listed, .sentinel, .sentinel] true (true, "a8ff6be4fd5cd9d5c5dd8e1c123853d524c286d16a869f77d232d11aab2cdc15") true
    makeNames_holds (fun _ h => by cases h) makeNames_wfText (fun _ h => by cases h) makeNames_tie rfl ⟨rfl, rfl⟩ makeNames_mainIs rfl
    (fun g fn hf hfn => by
      obtain rfl : g = 7 := Option.some.inj (makeNames_named1.symm.trans hf) |>.symm
      obtain rfl : fn = Tryz.f7 := (Option.some.inj (makeNames_fn.symm.trans hfn)).symm
      exact ⟨makeNames_looks, fun j t ht => by
        rw [makeNames_params] at ht
        have hm : t ∈ [4, 4, 4, 4] := by simpa using Array.mem_of_getElem? ht
        exact (show Tryz.prog.wantsStandIn t = false by simpa using List.all_eq_true.1 makeNames_wants t hm)⟩)
    makeNames_goes
#print axioms makeNames_card
end
end Go.Proofs.YtepcbpcbmkikeaaGreatDoor
