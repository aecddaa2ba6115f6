/-
  The tied card of toolsDeep: for every input the law returns true, and the listed variables hold what the program lays.
-/
import Derived.Test.YthocoonhoilmdaaGreatDoorRowtoolsDeep
import Derived.Test.YthocoonhoilmdaaGreatDoorOwnTie
import Derived.Test.YthocoonhoilmdaaGreatDoorXGoesK
import Derived.SevenTiedAt
open Go Go.Mx
namespace Go.Proofs.YthocoonhoilmdaaGreatDoor
set_option maxRecDepth 1000000
noncomputable section
theorem toolsDeep_tie : Rows.toolsDeepRow.laidByTextAt .later Tryz.pinned [.data, .data, .data, .data, .sentinel, .sentinel, .pinned] true :=
  OpenClaim.laidByTextAt_pinned rfl rfl tieOwn rfl rfl rfl rfl (fun y hy _e => by
    simp only [Rows.toolsDeepRow, List.zip_cons_cons, List.zip_nil_right, List.mem_cons, List.mem_nil_iff, or_false] at hy
    rcases hy with rfl | rfl | rfl | rfl | rfl | rfl | rfl
    · cases _e
    · cases _e
    · cases _e
    · cases _e
    · cases _e
    · cases _e
    · exact ⟨pin1, pin2⟩
    ) listed1
theorem toolsDeep_wfText : Rows.toolsDeepRow.wfByText (OpenSpec.ofChange Rows.toolsDeepSpec) = true := by kernel_rfl
theorem toolsDeep_mainIs : Tryz.pinned.checked.prog.mainIs = some (true, "4453ed2e4cb83ea368189bac7bc7412f29f6521b01581f8f60d97c811efa7359".toList) := by kernel_rfl
theorem toolsDeep_looks : true = Tryz.pinned.checked.prog.looks [] := by kernel_rfl
theorem toolsDeep_wants : ([28, 3].all fun u => !Tryz.prog.wantsStandIn u) = true := by kernel_rfl
theorem goes_0 : ((dropP 80 Tryz.prog.funcs.toList 0).take 80).all (fun fn => !fn.goes) = true := by kernel_rfl
theorem goes_1 : ((dropP 80 Tryz.prog.funcs.toList 1).take 80).all (fun fn => !fn.goes) = true := by kernel_rfl
theorem goes_2 : ((dropP 80 Tryz.prog.funcs.toList 2).take 80).all (fun fn => !fn.goes) = true := by kernel_rfl
theorem goes_3 : (dropP 80 Tryz.prog.funcs.toList 3).all (fun fn => !fn.goes) = true := by kernel_rfl
theorem goes_all : Tryz.prog.funcs.toList.all (fun fn => !fn.goes) = true := all_parts 80 goes_0 (all_parts 80 goes_1 (all_parts 80 goes_2 (goes_3)))
theorem toolsDeep_goes : false = Rows.toolsDeepRow.goesBy Tryz.pinned.checked.prog := goesBy_none goes_all rfl
theorem toolsDeep_card : Rows.ToolsDeepCardSaid :=
  Claim7.holds_tied_plain_at .later [] [.data, .data, .data, .data, .sentinel, .sentinel, .pinned] true (true, "4453ed2e4cb83ea368189bac7bc7412f29f6521b01581f8f60d97c811efa7359") true
    toolsDeep_holds (fun _ h => by cases h) toolsDeep_wfText (fun _ h => by cases h) toolsDeep_tie rfl ⟨rfl, rfl⟩ toolsDeep_mainIs rfl
    (fun g fn hf hfn => by
      obtain rfl : g = 4 := Option.some.inj (toolsDeep_named1.symm.trans hf) |>.symm
      obtain rfl : fn = Tryz.f4 := (Option.some.inj (toolsDeep_fn.symm.trans hfn)).symm
      exact ⟨toolsDeep_looks, fun j t ht => by
        rw [toolsDeep_params] at ht
        have hm : t ∈ [28, 3] := by simpa using Array.mem_of_getElem? ht
        exact (show Tryz.prog.wantsStandIn t = false by simpa using List.all_eq_true.1 toolsDeep_wants t hm)⟩)
    toolsDeep_goes
#print axioms toolsDeep_card
end
end Go.Proofs.YthocoonhoilmdaaGreatDoor
