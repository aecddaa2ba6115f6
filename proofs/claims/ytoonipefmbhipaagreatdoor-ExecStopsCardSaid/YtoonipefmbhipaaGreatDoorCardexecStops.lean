/-
  The tied card of execStops: for every input the law returns true, and the listed variables hold what the program lays.
-/
import Derived.Test.YtoonipefmbhipaaGreatDoorRowexecStops
import Derived.Test.YtoonipefmbhipaaGreatDoorOwnTie
import Derived.Test.YtoonipefmbhipaaGreatDoorXGoesK
import Derived.SevenTiedAt
open Go Go.Mx
namespace Go.Proofs.YtoonipefmbhipaaGreatDoor
set_option maxRecDepth 1000000
noncomputable section
theorem execStops_tie : Rows.execStopsRow.laidByTextAt .later Tryz.pinned [.pinned, .data, .data, .listed, .data, .data, .data, .sentinel, .sentinel] true :=
  OpenClaim.laidByTextAt_pinned rfl rfl tieOwn rfl rfl rfl rfl (fun y hy _e => by
    simp only [Rows.execStopsRow, List.zip_cons_cons, List.zip_nil_right, List.mem_cons, List.mem_nil_iff, or_false] at hy
    rcases hy with rfl | rfl | rfl | rfl | rfl | rfl | rfl | rfl | rfl
    · exact ⟨pin1, pin2⟩
    · cases _e
    · cases _e
    · cases _e
    · cases _e
    · cases _e
    · cases _e
    · cases _e
    · cases _e
    ) listed1
theorem execStops_wfText : Rows.execStopsRow.wfByText (OpenSpec.ofChange Rows.execStopsSpec) = true := by kernel_rfl
theorem execStops_mainIs : Tryz.pinned.checked.prog.mainIs = some (true, "399050a5718fe38dc91ed432adf003e397225b2ca20cbd00ba9e778a882428b0".toList) := by kernel_rfl
theorem execStops_looks : true = Tryz.pinned.checked.prog.looks [] := by kernel_rfl
theorem execStops_wants : ([3, 3].all fun u => !Tryz.prog.wantsStandIn u) = true := by kernel_rfl
theorem goes_0 : ((dropP 80 Tryz.prog.funcs.toList 0).take 80).all (fun fn => !fn.goes) = true := by kernel_rfl
theorem goes_1 : ((dropP 80 Tryz.prog.funcs.toList 1).take 80).all (fun fn => !fn.goes) = true := by kernel_rfl
theorem goes_2 : ((dropP 80 Tryz.prog.funcs.toList 2).take 80).all (fun fn => !fn.goes) = true := by kernel_rfl
theorem goes_3 : ((dropP 80 Tryz.prog.funcs.toList 3).take 80).all (fun fn => !fn.goes) = true := by kernel_rfl
theorem goes_4 : ((dropP 80 Tryz.prog.funcs.toList 4).take 80).all (fun fn => !fn.goes) = true := by kernel_rfl
theorem goes_5 : ((dropP 80 Tryz.prog.funcs.toList 5).take 80).all (fun fn => !fn.goes) = true := by kernel_rfl
theorem goes_6 : (dropP 80 Tryz.prog.funcs.toList 6).all (fun fn => !fn.goes) = true := by kernel_rfl
theorem goes_all : Tryz.prog.funcs.toList.all (fun fn => !fn.goes) = true := all_parts 80 goes_0 (all_parts 80 goes_1 (all_parts 80 goes_2 (all_parts 80 goes_3 (all_parts 80 goes_4 (all_parts 80 goes_5 (goes_6))))))
theorem execStops_goes : false = Rows.execStopsRow.goesBy Tryz.pinned.checked.prog := goesBy_none goes_all rfl
theorem execStops_card : Rows.ExecStopsCardSaid :=
  Claim7.holds_tied_plain_at .later [] [.pinned, .data, .data, .listed, .data, .data, .data, .sentinel, .sentinel] true (true, "399050a5718fe38dc91ed432adf003e397225b2ca20cbd00ba9e778a882428b0") true
    execStops_holds (fun _ h => by cases h) execStops_wfText (fun _ h => by cases h) execStops_tie rfl ⟨rfl, rfl⟩ execStops_mainIs rfl
    (fun g fn hf hfn => by
      obtain rfl : g = 3 := Option.some.inj (execStops_named1.symm.trans hf) |>.symm
      obtain rfl : fn = Tryz.f3 := (Option.some.inj (execStops_fn.symm.trans hfn)).symm
      exact ⟨execStops_looks, fun j t ht => by
        rw [execStops_params] at ht
        have hm : t ∈ [3, 3] := by simpa using Array.mem_of_getElem? ht
        exact (show Tryz.prog.wantsStandIn t = false by simpa using List.all_eq_true.1 execStops_wants t hm)⟩)
    execStops_goes
#print axioms execStops_card
end
end Go.Proofs.YtoonipefmbhipaaGreatDoor
