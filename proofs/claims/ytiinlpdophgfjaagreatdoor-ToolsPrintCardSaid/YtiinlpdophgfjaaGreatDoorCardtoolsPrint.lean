/-
  The tied card of toolsPrint: for every input the law returns true, and the listed variables hold what the program lays.
-/
import Derived.Test.YtiinlpdophgfjaaGreatDoorRowtoolsPrint
import Derived.Test.YtiinlpdophgfjaaGreatDoorOwnTie
import Derived.Test.YtiinlpdophgfjaaGreatDoorXGoesK
import Derived.SevenTiedAt
open Go Go.Mx
namespace Go.Proofs.YtiinlpdophgfjaaGreatDoor
set_option maxRecDepth 1000000
noncomputable section
theorem toolsPrint_tie : Rows.toolsPrintRow.laidByTextAt .later Tryz.pinned [.data, .data, .data, .data, .sentinel, .sentinel, .pinned] true :=
  OpenClaim.laidByTextAt_pinned rfl rfl tieOwn rfl rfl rfl rfl (fun y hy _e => by
    simp only [Rows.toolsPrintRow, List.zip_cons_cons, List.zip_nil_right, List.mem_cons, List.mem_nil_iff, or_false] at hy
    rcases hy with rfl | rfl | rfl | rfl | rfl | rfl | rfl
    · cases _e
    · cases _e
    · cases _e
    · cases _e
    · cases _e
    · cases _e
    · exact ⟨pin1, pin2⟩
    ) listed1
theorem toolsPrint_wfText : Rows.toolsPrintRow.wfByText (OpenSpec.ofChange Rows.toolsPrintSpec) = true := by kernel_rfl
theorem toolsPrint_mainIs : Tryz.pinned.checked.prog.mainIs = some (true, "7bb02ee22b8daabf08f90d34580d9747a1fe6cec78c44e99d02768f3fdb14441".toList) := by kernel_rfl
theorem toolsPrint_looks : true = Tryz.pinned.checked.prog.looks [] := by kernel_rfl
theorem toolsPrint_wants : ([9, 3, 22].all fun u => !Tryz.prog.wantsStandIn u) = true := by kernel_rfl
theorem goes_0 : ((dropP 80 Tryz.prog.funcs.toList 0).take 80).all (fun fn => !fn.goes) = true := by kernel_rfl
theorem goes_1 : ((dropP 80 Tryz.prog.funcs.toList 1).take 80).all (fun fn => !fn.goes) = true := by kernel_rfl
theorem goes_2 : ((dropP 80 Tryz.prog.funcs.toList 2).take 80).all (fun fn => !fn.goes) = true := by kernel_rfl
theorem goes_3 : (dropP 80 Tryz.prog.funcs.toList 3).all (fun fn => !fn.goes) = true := by kernel_rfl
theorem goes_all : Tryz.prog.funcs.toList.all (fun fn => !fn.goes) = true := all_parts 80 goes_0 (all_parts 80 goes_1 (all_parts 80 goes_2 (goes_3)))
theorem toolsPrint_goes : false = Rows.toolsPrintRow.goesBy Tryz.pinned.checked.prog := goesBy_none goes_all rfl
theorem toolsPrint_card : Rows.ToolsPrintCardSaid :=
  Claim7.holds_tied_plain_at .later [] [.data, .data, .data, .data, .sentinel, .sentinel, .pinned] true (true, "7bb02ee22b8daabf08f90d34580d9747a1fe6cec78c44e99d02768f3fdb14441") true
    toolsPrint_holds (fun _ h => by cases h) toolsPrint_wfText (fun _ h => by cases h) toolsPrint_tie rfl ⟨rfl, rfl⟩ toolsPrint_mainIs rfl
    (fun g fn hf hfn => by
      obtain rfl : g = 3 := Option.some.inj (toolsPrint_named1.symm.trans hf) |>.symm
      obtain rfl : fn = Tryz.f3 := (Option.some.inj (toolsPrint_fn.symm.trans hfn)).symm
      exact ⟨toolsPrint_looks, fun j t ht => by
        rw [toolsPrint_params] at ht
        have hm : t ∈ [9, 3, 22] := by simpa using Array.mem_of_getElem? ht
        exact (show Tryz.prog.wantsStandIn t = false by simpa using List.all_eq_true.1 toolsPrint_wants t hm)⟩)
    toolsPrint_goes
#print axioms toolsPrint_card
end
end Go.Proofs.YtiinlpdophgfjaaGreatDoor
