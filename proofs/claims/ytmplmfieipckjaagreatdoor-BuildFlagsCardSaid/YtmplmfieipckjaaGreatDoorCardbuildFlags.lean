/-
  The tied card of buildFlags: for every input the law returns true, and the listed variables hold what the program lays.
-/
import Derived.Test.YtmplmfieipckjaaGreatDoorRowbuildFlags
import Derived.Test.YtmplmfieipckjaaGreatDoorOwnTie
import Derived.Test.YtmplmfieipckjaaGreatDoorXGoesK
import Derived.SevenTiedAt
open Go Go.Mx
namespace Go.Proofs.YtmplmfieipckjaaGreatDoor
set_option maxRecDepth 1000000
noncomputable section
theorem buildFlags_tie : Rows.buildFlagsRow.laidByTextAt .later Tryz.pinned [.pinned, .data, .data, .data, .data, .data, .listed, .sentinel, .sentinel] true :=
  OpenClaim.laidByTextAt_pinned rfl rfl tieOwn rfl rfl rfl rfl (fun y hy _e => by
    simp only [Rows.buildFlagsRow, List.zip_cons_cons, List.zip_nil_right, List.mem_cons, List.mem_nil_iff, or_false] at hy
    rcases hy with rfl | rfl | rfl | rfl | rfl | rfl | rfl | rfl | rfl
    · exact ⟨pin1, pin2⟩
    · cases _e
    · cases _e
    · cases _e
    · cases _e
    · cases _e
    · cases _e
    · cases _e
    · cases _e
    ) listed1
theorem buildFlags_wfText : Rows.buildFlagsRow.wfByText (OpenSpec.ofChange Rows.buildFlagsSpec) = true := by kernel_rfl
theorem buildFlags_mainIs : Tryz.pinned.checked.prog.mainIs = some (true, "d5309445ccf3ce2bdb0bbc992a79602b0843e62fd84e17c324849e6f1b0338c5".toList) := by kernel_rfl
theorem buildFlags_looks : true = Tryz.pinned.checked.prog.looks [] := by kernel_rfl
theorem buildFlags_wants : ([4, 3].all fun u => !Tryz.prog.wantsStandIn u) = true := by kernel_rfl
theorem goes_0 : ((dropP 80 Tryz.prog.funcs.toList 0).take 80).all (fun fn => !fn.goes) = true := by kernel_rfl
theorem goes_1 : ((dropP 80 Tryz.prog.funcs.toList 1).take 80).all (fun fn => !fn.goes) = true := by kernel_rfl
theorem goes_2 : ((dropP 80 Tryz.prog.funcs.toList 2).take 80).all (fun fn => !fn.goes) = true := by kernel_rfl
theorem goes_3 : ((dropP 80 Tryz.prog.funcs.toList 3).take 80).all (fun fn => !fn.goes) = true := by kernel_rfl
theorem goes_4 : ((dropP 80 Tryz.prog.funcs.toList 4).take 80).all (fun fn => !fn.goes) = true := by kernel_rfl
theorem goes_5 : ((dropP 80 Tryz.prog.funcs.toList 5).take 80).all (fun fn => !fn.goes) = true := by kernel_rfl
theorem goes_6 : ((dropP 80 Tryz.prog.funcs.toList 6).take 80).all (fun fn => !fn.goes) = true := by kernel_rfl
theorem goes_7 : (dropP 80 Tryz.prog.funcs.toList 7).all (fun fn => !fn.goes) = true := by kernel_rfl
theorem goes_all : Tryz.prog.funcs.toList.all (fun fn => !fn.goes) = true := all_parts 80 goes_0 (all_parts 80 goes_1 (all_parts 80 goes_2 (all_parts 80 goes_3 (all_parts 80 goes_4 (all_parts 80 goes_5 (all_parts 80 goes_6 (goes_7)))))))
theorem buildFlags_goes : false = Rows.buildFlagsRow.goesBy Tryz.pinned.checked.prog := goesBy_none goes_all rfl
theorem buildFlags_card : Rows.BuildFlagsCardSaid :=
  Claim7.holds_tied_plain_at .later [] [.pinned, .data, .data, .data, .data, .data, .listed, .sentinel, .sentinel] true (true, "d5309445ccf3ce2bdb0bbc992a79602b0843e62fd84e17c324849e6f1b0338c5") true
    buildFlags_holds (fun _ h => by cases h) buildFlags_wfText (fun _ h => by cases h) buildFlags_tie rfl ⟨rfl, rfl⟩ buildFlags_mainIs rfl
    (fun g fn hf hfn => by
      obtain rfl : g = 3 := Option.some.inj (buildFlags_named1.symm.trans hf) |>.symm
      obtain rfl : fn = Tryz.f3 := (Option.some.inj (buildFlags_fn.symm.trans hfn)).symm
      exact ⟨buildFlags_looks, fun j t ht => by
        rw [buildFlags_params] at ht
        have hm : t ∈ [4, 3] := by simpa using Array.mem_of_getElem? ht
        exact (show Tryz.prog.wantsStandIn t = false by simpa using List.all_eq_true.1 buildFlags_wants t hm)⟩)
    buildFlags_goes
#print axioms buildFlags_card
end
end Go.Proofs.YtmplmfieipckjaaGreatDoor
