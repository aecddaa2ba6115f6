/-
  The tied card of buildFails: for every input the law returns true, and the listed variables hold what the program lays.
-/
import Derived.Test.YtbkilngeedbkpaaGreatDoorRowbuildFails
import Derived.Test.YtbkilngeedbkpaaGreatDoorOwnTieM
import Derived.Test.YtbkilngeedbkpaaGreatDoorXGoesK
import Derived.SevenTiedAt
open Go Go.Mx
namespace Go.Proofs.YtbkilngeedbkpaaGreatDoor
set_option maxRecDepth 1000000
noncomputable section
theorem buildFails_tie : Rows.buildFailsRow.laidByTextAt .later Tryz.pinned [.pinned, .data, .data, .data, .data, .data, .listed, .sentinel, .sentinel] true :=
  OpenClaim.laidByTextAt_pinned rfl rfl tieOwn rfl rfl rfl rfl (fun y hy _e => by
    simp only [Rows.buildFailsRow, List.zip_cons_cons, List.zip_nil_right, List.mem_cons, List.mem_nil_iff, or_false] at hy
    rcases hy with rfl | rfl | rfl | rfl | rfl | rfl | rfl | rfl | rfl
    · exact ⟨pin1, pin2⟩
    · cases _e
    · cases _e
    · cases _e
    · cases _e
    · cases _e
    · cases _e
    · cases _e
    · cases _e
    ) listed1
theorem buildFails_wfText : Rows.buildFailsRow.wfByText (OpenSpec.ofChange Rows.buildFailsSpec) = true := by kernel_rfl
theorem buildFails_mainIs : Tryz.pinned.checked.prog.mainIs = some (true, "ba5e0ceaa5ad6390e9fa035dbb3c7acc46fe81ad9f36b578fd00ec3674cd78ca".toList) := by kernel_rfl
theorem buildFails_looks : true = Tryz.pinned.checked.prog.looks [] := by kernel_rfl
theorem buildFails_wants : ([3, 3, 4, 4].all fun u => !Tryz.prog.wantsStandIn u) = true := by kernel_rfl
theorem goes_0 : ((dropP 80 Tryz.prog.funcs.toList 0).take 80).all (fun fn => !fn.goes) = true := by kernel_rfl
theorem goes_1 : ((dropP 80 Tryz.prog.funcs.toList 1).take 80).all (fun fn => !fn.goes) = true := by kernel_rfl
theorem goes_2 : ((dropP 80 Tryz.prog.funcs.toList 2).take 80).all (fun fn => !fn.goes) = true := by kernel_rfl
theorem goes_3 : ((dropP 80 Tryz.prog.funcs.toList 3).take 80).all (fun fn => !fn.goes) = true := by kernel_rfl
theorem goes_4 : ((dropP 80 Tryz.prog.funcs.toList 4).take 80).all (fun fn => !fn.goes) = true := by kernel_rfl
theorem goes_5 : ((dropP 80 Tryz.prog.funcs.toList 5).take 80).all (fun fn => !fn.goes) = true := by kernel_rfl
theorem goes_6 : ((dropP 80 Tryz.prog.funcs.toList 6).take 80).all (fun fn => !fn.goes) = true := by kernel_rfl
theorem goes_7 : (dropP 80 Tryz.prog.funcs.toList 7).all (fun fn => !fn.goes) = true := by kernel_rfl
theorem goes_all : Tryz.prog.funcs.toList.all (fun fn => !fn.goes) = true := all_parts 80 goes_0 (all_parts 80 goes_1 (all_parts 80 goes_2 (all_parts 80 goes_3 (all_parts 80 goes_4 (all_parts 80 goes_5 (all_parts 80 goes_6 (goes_7)))))))
theorem buildFails_goes : false = Rows.buildFailsRow.goesBy Tryz.pinned.checked.prog := goesBy_none goes_all rfl
theorem buildFails_card : Rows.BuildFailsCardSaid :=
  Claim7.holds_tied_plain_at .later [] [.pinned, .data, .data, .data, .data, .data, .listed, .sentinel, .sentinel] true (true, "ba5e0ceaa5ad6390e9fa035dbb3c7acc46fe81ad9f36b578fd00ec3674cd78ca") true
    buildFails_holds (fun _ h => by cases h) buildFails_wfText (fun _ h => by cases h) buildFails_tie rfl ⟨rfl, rfl⟩ buildFails_mainIs rfl
    (fun g fn hf hfn => by
      obtain rfl : g = 5 := Option.some.inj (buildFails_named1.symm.trans hf) |>.symm
      obtain rfl : fn = Tryz.f5 := (Option.some.inj (buildFails_fn.symm.trans hfn)).symm
      exact ⟨buildFails_looks, fun j t ht => by
        rw [buildFails_params] at ht
        have hm : t ∈ [3, 3, 4, 4] := by simpa using Array.mem_of_getElem? ht
        exact (show Tryz.prog.wantsStandIn t = false by simpa using List.all_eq_true.1 buildFails_wants t hm)⟩)
    buildFails_goes
#print axioms buildFails_card
end
end Go.Proofs.YtbkilngeedbkpaaGreatDoor
