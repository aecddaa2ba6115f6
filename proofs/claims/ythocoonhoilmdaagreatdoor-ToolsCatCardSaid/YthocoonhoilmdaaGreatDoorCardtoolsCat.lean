/-
  The tied card of toolsCat: for every input the law returns true, and the listed variables hold what the program lays.
-/
import Derived.Test.YthocoonhoilmdaaGreatDoorRowtoolsCat
import Derived.Test.YthocoonhoilmdaaGreatDoorOwnTie
import Derived.Test.YthocoonhoilmdaaGreatDoorXGoesK
import Derived.SevenTiedAt
open Go Go.Mx
namespace Go.Proofs.YthocoonhoilmdaaGreatDoor
set_option maxRecDepth 1000000
noncomputable section
theorem toolsCat_tie : Rows.toolsCatRow.laidByTextAt .later Tryz.pinned [.data, .data, .data, .data, .sentinel, .sentinel, .pinned] true :=
  OpenClaim.laidByTextAt_pinned rfl rfl tieOwn rfl rfl rfl rfl (fun y hy _e => by
    simp only [Rows.toolsCatRow, List.zip_cons_cons, List.zip_nil_right, List.mem_cons, List.mem_nil_iff, or_false] at hy
    rcases hy with rfl | rfl | rfl | rfl | rfl | rfl | rfl
    · cases _e
    · cases _e
    · cases _e
    · cases _e
    · cases _e
    · cases _e
    · exact ⟨pin1, pin2⟩
    ) listed1
theorem toolsCat_wfText : Rows.toolsCatRow.wfByText (OpenSpec.ofChange Rows.toolsCatSpec) = true := by kernel_rfl
theorem toolsCat_mainIs : Tryz.pinned.checked.prog.mainIs = some (true, "4453ed2e4cb83ea368189bac7bc7412f29f6521b01581f8f60d97c811efa7359".toList) := by kernel_rfl
theorem toolsCat_looks : true = Tryz.pinned.checked.prog.looks [] := by kernel_rfl
theorem toolsCat_wants : ([22, 23, 24].all fun u => !Tryz.prog.wantsStandIn u) = true := by kernel_rfl
theorem goes_0 : ((dropP 80 Tryz.prog.funcs.toList 0).take 80).all (fun fn => !fn.goes) = true := by kernel_rfl
theorem goes_1 : ((dropP 80 Tryz.prog.funcs.toList 1).take 80).all (fun fn => !fn.goes) = true := by kernel_rfl
theorem goes_2 : ((dropP 80 Tryz.prog.funcs.toList 2).take 80).all (fun fn => !fn.goes) = true := by kernel_rfl
theorem goes_3 : (dropP 80 Tryz.prog.funcs.toList 3).all (fun fn => !fn.goes) = true := by kernel_rfl
theorem goes_all : Tryz.prog.funcs.toList.all (fun fn => !fn.goes) = true := all_parts 80 goes_0 (all_parts 80 goes_1 (all_parts 80 goes_2 (goes_3)))
theorem toolsCat_goes : false = Rows.toolsCatRow.goesBy Tryz.pinned.checked.prog := goesBy_none goes_all rfl
theorem toolsCat_card : Rows.ToolsCatCardSaid :=
  Claim7.holds_tied_plain_at .later [] [.data, .data, .data, .data, .sentinel, .sentinel, .pinned] true (true, "4453ed2e4cb83ea368189bac7bc7412f29f6521b01581f8f60d97c811efa7359") true
    toolsCat_holds (fun _ h => by cases h) toolsCat_wfText (fun _ h => by cases h) toolsCat_tie rfl ⟨rfl, rfl⟩ toolsCat_mainIs rfl
    (fun g fn hf hfn => by
      obtain rfl : g = 3 := Option.some.inj (toolsCat_named1.symm.trans hf) |>.symm
      obtain rfl : fn = Tryz.f3 := (Option.some.inj (toolsCat_fn.symm.trans hfn)).symm
      exact ⟨toolsCat_looks, fun j t ht => by
        rw [toolsCat_params] at ht
        have hm : t ∈ [22, 23, 24] := by simpa using Array.mem_of_getElem? ht
        exact (show Tryz.prog.wantsStandIn t = false by simpa using List.all_eq_true.1 toolsCat_wants t hm)⟩)
    toolsCat_goes
#print axioms toolsCat_card
end
end Go.Proofs.YthocoonhoilmdaaGreatDoor
