/-
  The tied card of toolsCopy: for every input the law returns true, and the listed variables hold what the program lays.
-/
import Derived.Test.YtkppbibiaiecnaaGreatDoorRowtoolsCopy
import Derived.Test.YtkppbibiaiecnaaGreatDoorOwnTie
import Derived.Test.YtkppbibiaiecnaaGreatDoorXGoesK
import Derived.SevenTiedAt
open Go Go.Mx
namespace Go.Proofs.YtkppbibiaiecnaaGreatDoor
set_option maxRecDepth 1000000
noncomputable section
theorem toolsCopy_tie : Rows.toolsCopyRow.laidByTextAt .later Tryz.pinned [.data, .data, .data, .data, .sentinel, .sentinel, .pinned] true :=
  OpenClaim.laidByTextAt_pinned rfl rfl tieOwn rfl rfl rfl rfl (fun y hy _e => by
    simp only [Rows.toolsCopyRow, List.zip_cons_cons, List.zip_nil_right, List.mem_cons, List.mem_nil_iff, or_false] at hy
    rcases hy with rfl | rfl | rfl | rfl | rfl | rfl | rfl
    · cases _e
    · cases _e
    · cases _e
    · cases _e
    · cases _e
    · cases _e
    · exact ⟨pin1, pin2⟩
    ) listed1
theorem toolsCopy_wfText : Rows.toolsCopyRow.wfByText (OpenSpec.ofChange Rows.toolsCopySpec) = true := by kernel_rfl
theorem toolsCopy_mainIs : Tryz.pinned.checked.prog.mainIs = some (true, "0a9c90bfd90aa32757cd1413d4a7ddbb7d4312981c5d94d2dc3ae137698e6218".toList) := by kernel_rfl
theorem toolsCopy_looks : true = Tryz.pinned.checked.prog.looks [] := by kernel_rfl
theorem toolsCopy_wants : ([24, 24, 4].all fun u => !Tryz.prog.wantsStandIn u) = true := by kernel_rfl
theorem goes_0 : ((dropP 80 Tryz.prog.funcs.toList 0).take 80).all (fun fn => !fn.goes) = true := by kernel_rfl
theorem goes_1 : ((dropP 80 Tryz.prog.funcs.toList 1).take 80).all (fun fn => !fn.goes) = true := by kernel_rfl
theorem goes_2 : ((dropP 80 Tryz.prog.funcs.toList 2).take 80).all (fun fn => !fn.goes) = true := by kernel_rfl
theorem goes_3 : (dropP 80 Tryz.prog.funcs.toList 3).all (fun fn => !fn.goes) = true := by kernel_rfl
theorem goes_all : Tryz.prog.funcs.toList.all (fun fn => !fn.goes) = true := all_parts 80 goes_0 (all_parts 80 goes_1 (all_parts 80 goes_2 (goes_3)))
theorem toolsCopy_goes : false = Rows.toolsCopyRow.goesBy Tryz.pinned.checked.prog := goesBy_none goes_all rfl
theorem toolsCopy_card : Rows.ToolsCopyCardSaid :=
  Claim7.holds_tied_plain_at .later [] [.data, .data, .data, .data, .sentinel, .sentinel, .pinned] true (true, "0a9c90bfd90aa32757cd1413d4a7ddbb7d4312981c5d94d2dc3ae137698e6218") true
    toolsCopy_holds (fun _ h => by cases h) toolsCopy_wfText (fun _ h => by cases h) toolsCopy_tie rfl ⟨rfl, rfl⟩ toolsCopy_mainIs rfl
    (fun g fn hf hfn => by
      obtain rfl : g = 4 := Option.some.inj (toolsCopy_named1.symm.trans hf) |>.symm
      obtain rfl : fn = Tryz.f4 := (Option.some.inj (toolsCopy_fn.symm.trans hfn)).symm
      exact ⟨toolsCopy_looks, fun j t ht => by
        rw [toolsCopy_params] at ht
        have hm : t ∈ [24, 24, 4] := by simpa using Array.mem_of_getElem? ht
        exact (show Tryz.prog.wantsStandIn t = false by simpa using List.all_eq_true.1 toolsCopy_wants t hm)⟩)
    toolsCopy_goes
#print axioms toolsCopy_card
end
end Go.Proofs.YtkppbibiaiecnaaGreatDoor
