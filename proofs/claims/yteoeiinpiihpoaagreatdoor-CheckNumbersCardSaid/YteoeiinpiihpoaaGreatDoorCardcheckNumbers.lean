/-
  The tied card of checkNumbers: for every input the law returns true, and the listed variables hold what the program lays.
-/
import Derived.Test.YteoeiinpiihpoaaGreatDoorRowcheckNumbers
import Derived.Test.YteoeiinpiihpoaaGreatDoorOwnTie
import Derived.Test.YteoeiinpiihpoaaGreatDoorXGoesK
import Derived.SevenTiedAt
open Go Go.Mx
namespace Go.Proofs.YteoeiinpiihpoaaGreatDoor
set_option maxRecDepth 1000000
noncomputable section
theorem checkNumbers_tie : Rows.checkNumbersRow.laidByTextAt .later Tryz.pinned [.data, .data, .data, .data, .sentinel, .sentinel, .pinned] true :=
  OpenClaim.laidByTextAt_pinned rfl rfl tieOwn rfl rfl rfl rfl (fun y hy _e => by
    simp only [Rows.checkNumbersRow, List.zip_cons_cons, List.zip_nil_right, List.mem_cons, List.mem_nil_iff, or_false] at hy
    rcases hy with rfl | rfl | rfl | rfl | rfl | rfl | rfl
    · cases _e
    · cases _e
    · cases _e
    · cases _e
    · cases _e
    · cases _e
    · exact ⟨pin1, pin2⟩
    ) listed1
theorem checkNumbers_wfText : Rows.checkNumbersRow.wfByText (OpenSpec.ofChange Rows.checkNumbersSpec) = true := by kernel_rfl
theorem checkNumbers_mainIs : Tryz.pinned.checked.prog.mainIs = some (true, "7fb76699afe2bbb69a081c641fef15af3a3fd9752ee812826e45a05907246ca2".toList) := by kernel_rfl
theorem checkNumbers_looks : true = Tryz.pinned.checked.prog.looks [] := by kernel_rfl
theorem checkNumbers_wants : ([3, 3, 3].all fun u => !Tryz.prog.wantsStandIn u) = true := by kernel_rfl
theorem goes_0 : ((dropP 80 Tryz.prog.funcs.toList 0).take 80).all (fun fn => !fn.goes) = true := by kernel_rfl
theorem goes_1 : (dropP 80 Tryz.prog.funcs.toList 1).all (fun fn => !fn.goes) = true := by kernel_rfl
theorem goes_all : Tryz.prog.funcs.toList.all (fun fn => !fn.goes) = true := all_parts 80 goes_0 (goes_1)
theorem checkNumbers_goes : false = Rows.checkNumbersRow.goesBy Tryz.pinned.checked.prog := goesBy_none goes_all rfl
theorem checkNumbers_card : Rows.CheckNumbersCardSaid :=
  Claim7.holds_tied_plain_at .later [] [.data, .data, .data, .data, .sentinel, .sentinel, .pinned] true (true, "7fb76699afe2bbb69a081c641fef15af3a3fd9752ee812826e45a05907246ca2") true
    checkNumbers_holds (fun _ h => by cases h) checkNumbers_wfText (fun _ h => by cases h) checkNumbers_tie rfl ⟨rfl, rfl⟩ checkNumbers_mainIs rfl
    (fun g fn hf hfn => by
      obtain rfl : g = 3 := Option.some.inj (checkNumbers_named1.symm.trans hf) |>.symm
      obtain rfl : fn = Tryz.f3 := (Option.some.inj (checkNumbers_fn.symm.trans hfn)).symm
      exact ⟨checkNumbers_looks, fun j t ht => by
        rw [checkNumbers_params] at ht
        have hm : t ∈ [3, 3, 3] := by simpa using Array.mem_of_getElem? ht
        exact (show Tryz.prog.wantsStandIn t = false by simpa using List.all_eq_true.1 checkNumbers_wants t hm)⟩)
    checkNumbers_goes
#print axioms checkNumbers_card
end
end Go.Proofs.YteoeiinpiihpoaaGreatDoor
