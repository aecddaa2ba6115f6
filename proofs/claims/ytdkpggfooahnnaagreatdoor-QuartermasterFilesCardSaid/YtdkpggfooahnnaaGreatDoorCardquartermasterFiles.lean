/-
  The tied card of quartermasterFiles: for every input the law returns true, and the listed variables hold what the program lays.
-/
import Derived.Test.YtdkpggfooahnnaaGreatDoorRowquartermasterFiles
import Derived.Test.YtdkpggfooahnnaaGreatDoorOwnTie
import Derived.Test.YtdkpggfooahnnaaGreatDoorXGoesK
import Derived.SevenTiedAt
open Go Go.Mx
namespace Go.Proofs.YtdkpggfooahnnaaGreatDoor
set_option maxRecDepth 1000000
noncomputable section
theorem quartermasterFiles_tie : Rows.quartermasterFilesRow.laidByTextAt .later Tryz.pinned [.pinned, .data, .data, .data, .data, .data, .listed, .sentinel, .sentinel] true :=
  OpenClaim.laidByTextAt_pinned rfl rfl tieOwn rfl rfl rfl rfl (fun y hy _e => by
    simp only [Rows.quartermasterFilesRow, List.zip_cons_cons, List.zip_nil_right, List.mem_cons, List.mem_nil_iff, or_false] at hy
    rcases hy with rfl | rfl | rfl | rfl | rfl | rfl | rfl | rfl | rfl
    · exact ⟨pin1, pin2⟩
    · cases _e
    · cases _e
    · cases _e
    · cases _e
    · cases _e
    · cases _e
    · cases _e
    · cases _e
    ) listed1
theorem quartermasterFiles_wfText : Rows.quartermasterFilesRow.wfByText (OpenSpec.ofChange Rows.quartermasterFilesSpec) = true := by kernel_rfl
theorem quartermasterFiles_mainIs : Tryz.pinned.checked.prog.mainIs = some (true, "8b30c1278c6aafdfbeb136c2c2b3e4f8148ee7010c3996f975841ca4e10b5756".toList) := by kernel_rfl
theorem quartermasterFiles_looks : true = Tryz.pinned.checked.prog.looks [] := by kernel_rfl
theorem quartermasterFiles_wants : ([26].all fun u => !Tryz.prog.wantsStandIn u) = true := by kernel_rfl
theorem goes_0 : ((dropP 80 Tryz.prog.funcs.toList 0).take 80).all (fun fn => !fn.goes) = true := by kernel_rfl
theorem goes_1 : ((dropP 80 Tryz.prog.funcs.toList 1).take 80).all (fun fn => !fn.goes) = true := by kernel_rfl
theorem goes_2 : ((dropP 80 Tryz.prog.funcs.toList 2).take 80).all (fun fn => !fn.goes) = true := by kernel_rfl
theorem goes_3 : ((dropP 80 Tryz.prog.funcs.toList 3).take 80).all (fun fn => !fn.goes) = true := by kernel_rfl
theorem goes_4 : ((dropP 80 Tryz.prog.funcs.toList 4).take 80).all (fun fn => !fn.goes) = true := by kernel_rfl
theorem goes_5 : ((dropP 80 Tryz.prog.funcs.toList 5).take 80).all (fun fn => !fn.goes) = true := by kernel_rfl
theorem goes_6 : ((dropP 80 Tryz.prog.funcs.toList 6).take 80).all (fun fn => !fn.goes) = true := by kernel_rfl
theorem goes_7 : ((dropP 80 Tryz.prog.funcs.toList 7).take 80).all (fun fn => !fn.goes) = true := by kernel_rfl
theorem goes_8 : (dropP 80 Tryz.prog.funcs.toList 8).all (fun fn => !fn.goes) = true := by kernel_rfl
theorem goes_all : Tryz.prog.funcs.toList.all (fun fn => !fn.goes) = true := all_parts 80 goes_0 (all_parts 80 goes_1 (all_parts 80 goes_2 (all_parts 80 goes_3 (all_parts 80 goes_4 (all_parts 80 goes_5 (all_parts 80 goes_6 (all_parts 80 goes_7 (goes_8))))))))
theorem quartermasterFiles_goes : false = Rows.quartermasterFilesRow.goesBy Tryz.pinned.checked.prog := goesBy_none goes_all rfl
theorem quartermasterFiles_card : Rows.QuartermasterFilesCardSaid :=
  Claim7.holds_tied_plain_at .later [] [.pinned, .data, .data, .data, .data, .data, .listed, .sentinel, .sentinel] true (true, "8b30c1278c6aafdfbeb136c2c2b3e4f8148ee7010c3996f975841ca4e10b5756") true
    quartermasterFiles_holds (fun _ h => by cases h) quartermasterFiles_wfText (fun _ h => by cases h) quartermasterFiles_tie rfl ⟨rfl, rfl⟩ quartermasterFiles_mainIs rfl
    (fun g fn hf hfn => by
      obtain rfl : g = 4 := Option.some.inj (quartermasterFiles_named1.symm.trans hf) |>.symm
      obtain rfl : fn = Tryz.f4 := (Option.some.inj (quartermasterFiles_fn.symm.trans hfn)).symm
      exact ⟨quartermasterFiles_looks, fun j t ht => by
        rw [quartermasterFiles_params] at ht
        have hm : t ∈ [26] := by simpa using Array.mem_of_getElem? ht
        exact (show Tryz.prog.wantsStandIn t = false by simpa using List.all_eq_true.1 quartermasterFiles_wants t hm)⟩)
    quartermasterFiles_goes
#print axioms quartermasterFiles_card
end
end Go.Proofs.YtdkpggfooahnnaaGreatDoor
