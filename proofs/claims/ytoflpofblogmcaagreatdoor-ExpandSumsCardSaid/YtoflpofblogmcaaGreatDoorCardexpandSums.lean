/-
  The tied card of expandSums: for every input the law returns true, and the listed variables hold what the program lays.
-/
import Derived.Test.YtoflpofblogmcaaGreatDoorRowexpandSums
import Derived.Test.YtoflpofblogmcaaGreatDoorOwnTie
import Derived.Test.YtoflpofblogmcaaGreatDoorXGoesK
import Derived.SevenTiedAt
open Go Go.Mx
namespace Go.Proofs.YtoflpofblogmcaaGreatDoor
set_option maxRecDepth 1000000
noncomputable section
theorem expandSums_tie : Rows.expandSumsRow.laidByTextAt .later Tryz.pinned [.data, .data, .data, .data, .sentinel, .sentinel, .pinned] true :=
  OpenClaim.laidByTextAt_pinned rfl rfl tieOwn rfl rfl rfl rfl (fun y hy _e => by
    simp only [Rows.expandSumsRow, List.zip_cons_cons, List.zip_nil_right, List.mem_cons, List.mem_nil_iff, or_false] at hy
    rcases hy with rfl | rfl | rfl | rfl | rfl | rfl | rfl
    · cases _e
    · cases _e
    · cases _e
    · cases _e
    · cases _e
    · cases _e
    · exact ⟨pin1, pin2⟩
    ) listed1
theorem expandSums_wfText : Rows.expandSumsRow.wfByText (OpenSpec.ofChange Rows.expandSumsSpec) = true := by kernel_rfl
theorem expandSums_mainIs : Tryz.pinned.checked.prog.mainIs = some (true, "5c2a57163cb709716f9ca7b3a4263c2204e0f6f7f22977926a2c353f1109bb7e".toList) := by kernel_rfl
theorem expandSums_looks : true = Tryz.pinned.checked.prog.looks [] := by kernel_rfl
theorem expandSums_wants : ([3, 3, 4].all fun u => !Tryz.prog.wantsStandIn u) = true := by kernel_rfl
theorem goes_0 : ((dropP 80 Tryz.prog.funcs.toList 0).take 80).all (fun fn => !fn.goes) = true := by kernel_rfl
theorem goes_1 : ((dropP 80 Tryz.prog.funcs.toList 1).take 80).all (fun fn => !fn.goes) = true := by kernel_rfl
theorem goes_2 : (dropP 80 Tryz.prog.funcs.toList 2).all (fun fn => !fn.goes) = true := by kernel_rfl
theorem goes_all : Tryz.prog.funcs.toList.all (fun fn => !fn.goes) = true := all_parts 80 goes_0 (all_parts 80 goes_1 (goes_2))
theorem expandSums_goes : false = Rows.expandSumsRow.goesBy Tryz.pinned.checked.prog := goesBy_none goes_all rfl
theorem expandSums_card : Rows.ExpandSumsCardSaid :=
  Claim7.holds_tied_plain_at .later [] [.data, .data, .data, .data, .sentinel, .sentinel, .pinned] true (true, "5c2a57163cb709716f9ca7b3a4263c2204e0f6f7f22977926a2c353f1109bb7e") true
    expandSums_holds (fun _ h => by cases h) expandSums_wfText (fun _ h => by cases h) expandSums_tie rfl ⟨rfl, rfl⟩ expandSums_mainIs rfl
    (fun g fn hf hfn => by
      obtain rfl : g = 3 := Option.some.inj (expandSums_named1.symm.trans hf) |>.symm
      obtain rfl : fn = Tryz.f3 := (Option.some.inj (expandSums_fn.symm.trans hfn)).symm
      exact ⟨expandSums_looks, fun j t ht => by
        rw [expandSums_params] at ht
        have hm : t ∈ [3, 3, 4] := by simpa using Array.mem_of_getElem? ht
        exact (show Tryz.prog.wantsStandIn t = false by simpa using List.all_eq_true.1 expandSums_wants t hm)⟩)
    expandSums_goes
#print axioms expandSums_card
end
end Go.Proofs.YtoflpofblogmcaaGreatDoor
