/-
  The tied card of toolsTestUpto: for every input the law returns true, and the listed variables hold what the program lays.
-/
import Derived.Test.YtnafpdchpddloaaGreatDoorRowtoolsTestUpto
import Derived.Test.YtnafpdchpddloaaGreatDoorOwnTie
import Derived.Test.YtnafpdchpddloaaGreatDoorXGoesK
import Derived.SevenTiedAt
open Go Go.Mx
namespace Go.Proofs.YtnafpdchpddloaaGreatDoor
set_option maxRecDepth 1000000
noncomputable section
theorem toolsTestUpto_tie : Rows.toolsTestUptoRow.laidByTextAt .later Tryz.pinned [.data, .data, .data, .data, .sentinel, .sentinel, .pinned] true :=
  OpenClaim.laidByTextAt_pinned rfl rfl tieOwn rfl rfl rfl rfl (fun y hy _e => by
    simp only [Rows.toolsTestUptoRow, List.zip_cons_cons, List.zip_nil_right, List.mem_cons, List.mem_nil_iff, or_false] at hy
    rcases hy with rfl | rfl | rfl | rfl | rfl | rfl | rfl
    · cases _e
    · cases _e
    · cases _e
    · cases _e
    · cases _e
    · cases _e
    · exact ⟨pin1, pin2⟩
    ) listed1
theorem toolsTestUpto_wfText : Rows.toolsTestUptoRow.wfByText (Rows.OpenSpec.upto Rows.toolsTestSpec) = true := by kernel_rfl
theorem toolsTestUpto_mainIs : Tryz.pinned.checked.prog.mainIs = some (true, "c841c1b7fc6ca4031332ed30dd678d54cc9f1115b094706af3846007b169c0c7".toList) := by kernel_rfl
theorem toolsTestUpto_looks : true = Tryz.pinned.checked.prog.looks [] := by kernel_rfl
theorem toolsTestUpto_wants : ([22].all fun u => !Tryz.prog.wantsStandIn u) = true := by kernel_rfl
theorem goes_0 : ((dropP 80 Tryz.prog.funcs.toList 0).take 80).all (fun fn => !fn.goes) = true := by kernel_rfl
theorem goes_1 : ((dropP 80 Tryz.prog.funcs.toList 1).take 80).all (fun fn => !fn.goes) = true := by kernel_rfl
theorem goes_2 : ((dropP 80 Tryz.prog.funcs.toList 2).take 80).all (fun fn => !fn.goes) = true := by kernel_rfl
theorem goes_3 : (dropP 80 Tryz.prog.funcs.toList 3).all (fun fn => !fn.goes) = true := by kernel_rfl
theorem goes_all : Tryz.prog.funcs.toList.all (fun fn => !fn.goes) = true := all_parts 80 goes_0 (all_parts 80 goes_1 (all_parts 80 goes_2 (goes_3)))
theorem toolsTestUpto_goes : false = Rows.toolsTestUptoRow.goesBy Tryz.pinned.checked.prog := goesBy_none goes_all rfl
theorem toolsTestUpto_card : Rows.ToolsTestUptoCardSaid :=
  Claim7.holds_tied_plain_at .later [] [.data, .data, .data, .data, .sentinel, .sentinel, .pinned] true (true, "c841c1b7fc6ca4031332ed30dd678d54cc9f1115b094706af3846007b169c0c7") true
    toolsTestUpto_holds (fun _ h => by cases h) toolsTestUpto_wfText (fun _ h => by cases h) toolsTestUpto_tie rfl ⟨rfl, rfl⟩ toolsTestUpto_mainIs rfl
    (fun g fn hf hfn => by
      obtain rfl : g = 3 := Option.some.inj (toolsTestUpto_named1.symm.trans hf) |>.symm
      obtain rfl : fn = Tryz.f3 := (Option.some.inj (toolsTestUpto_fn.symm.trans hfn)).symm
      exact ⟨toolsTestUpto_looks, fun j t ht => by
        rw [toolsTestUpto_params] at ht
        have hm : t ∈ [22] := by simpa using Array.mem_of_getElem? ht
        exact (show Tryz.prog.wantsStandIn t = false by simpa using List.all_eq_true.1 toolsTestUpto_wants t hm)⟩)
    toolsTestUpto_goes
#print axioms toolsTestUpto_card
end
end Go.Proofs.YtnafpdchpddloaaGreatDoor
