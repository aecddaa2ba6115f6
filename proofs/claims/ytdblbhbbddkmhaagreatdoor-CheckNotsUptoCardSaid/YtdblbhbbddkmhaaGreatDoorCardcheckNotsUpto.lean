/-
  The tied card of checkNotsUpto: for every input the law returns true, and the listed variables hold what the program lays.
-/
import Derived.Test.YtdblbhbbddkmhaaGreatDoorRowcheckNotsUpto
import Derived.Test.YtdblbhbbddkmhaaGreatDoorOwnTie
import Derived.Test.YtdblbhbbddkmhaaGreatDoorXGoesK
import Derived.SevenTiedAt
open Go Go.Mx
namespace Go.Proofs.YtdblbhbbddkmhaaGreatDoor
set_option maxRecDepth 1000000
noncomputable section
theorem checkNotsUpto_tie : Rows.checkNotsUptoRow.laidByTextAt .later Tryz.pinned [.data, .data, .data, .data, .sentinel, .sentinel, .pinned] true :=
  OpenClaim.laidByTextAt_pinned rfl rfl tieOwn rfl rfl rfl rfl (fun y hy _e => by
    simp only [Rows.checkNotsUptoRow, List.zip_cons_cons, List.zip_nil_right, List.mem_cons, List.mem_nil_iff, or_false] at hy
    rcases hy with rfl | rfl | rfl | rfl | rfl | rfl | rfl
    · cases _e
    · cases _e
    · cases _e
    · cases _e
    · cases _e
    · cases _e
    · exact ⟨pin1, pin2⟩
    ) listed1
theorem checkNotsUpto_wfText : Rows.checkNotsUptoRow.wfByText (Rows.OpenSpec.upto Rows.checkNotsSpec) = true := by kernel_rfl
theorem checkNotsUpto_mainIs : Tryz.pinned.checked.prog.mainIs = some (true, "29aedec6dc811c0311ffdf7b9c76eba38c5078d4dd1524167c102a514a36e98d".toList) := by kernel_rfl
theorem checkNotsUpto_looks : true = Tryz.pinned.checked.prog.looks [] := by kernel_rfl
theorem checkNotsUpto_wants : ([22].all fun u => !Tryz.prog.wantsStandIn u) = true := by kernel_rfl
theorem goes_0 : ((dropP 80 Tryz.prog.funcs.toList 0).take 80).all (fun fn => !fn.goes) = true := by kernel_rfl
theorem goes_1 : (dropP 80 Tryz.prog.funcs.toList 1).all (fun fn => !fn.goes) = true := by kernel_rfl
theorem goes_all : Tryz.prog.funcs.toList.all (fun fn => !fn.goes) = true := all_parts 80 goes_0 (goes_1)
theorem checkNotsUpto_goes : false = Rows.checkNotsUptoRow.goesBy Tryz.pinned.checked.prog := goesBy_none goes_all rfl
theorem checkNotsUpto_card : Rows.CheckNotsUptoCardSaid :=
  Claim7.holds_tied_plain_at .later [] [.data, .data, .data, .data, .sentinel, .sentinel, .pinned] true (true, "29aedec6dc811c0311ffdf7b9c76eba38c5078d4dd1524167c102a514a36e98d") true
    checkNotsUpto_holds (fun _ h => by cases h) checkNotsUpto_wfText (fun _ h => by cases h) checkNotsUpto_tie rfl ⟨rfl, rfl⟩ checkNotsUpto_mainIs rfl
    (fun g fn hf hfn => by
      obtain rfl : g = 3 := Option.some.inj (checkNotsUpto_named1.symm.trans hf) |>.symm
      obtain rfl : fn = Tryz.f3 := (Option.some.inj (checkNotsUpto_fn.symm.trans hfn)).symm
      exact ⟨checkNotsUpto_looks, fun j t ht => by
        rw [checkNotsUpto_params] at ht
        have hm : t ∈ [22] := by simpa using Array.mem_of_getElem? ht
        exact (show Tryz.prog.wantsStandIn t = false by simpa using List.all_eq_true.1 checkNotsUpto_wants t hm)⟩)
    checkNotsUpto_goes
#print axioms checkNotsUpto_card
end
end Go.Proofs.YtdblbhbbddkmhaaGreatDoor
