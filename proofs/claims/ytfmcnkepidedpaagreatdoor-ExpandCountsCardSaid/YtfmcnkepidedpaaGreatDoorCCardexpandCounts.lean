/-
  The tied card of expandCounts: for every input the law returns true, and the listed variables hold what the program lays.
-/
import Derived.Test.YtfmcnkepidedpaaGreatDoorCRowexpandCounts
import Derived.Test.YtfmcnkepidedpaaGreatDoorOwnTie
import Derived.Test.YtfmcnkepidedpaaGreatDoorXGoesK
import Derived.SevenTiedAt
open Go Go.Mx
namespace Go.Proofs.YtfmcnkepidedpaaGreatDoor
set_option maxRecDepth 1000000
noncomputable section
theorem expandCounts_tie : Rows.expandCountsRow.laidByTextAt .later Tryz.pinned [.data, .data, .data, .data, .sentinel, .sentinel, .pinned] true :=
  OpenClaim.laidByTextAt_pinned rfl rfl tieOwn rfl rfl rfl rfl (fun y hy _e => by
    simp only [Rows.expandCountsRow, List.zip_cons_cons, List.zip_nil_right, List.mem_cons, List.mem_nil_iff, or_false] at hy
    rcases hy with rfl | rfl | rfl | rfl | rfl | rfl | rfl
    · cases _e
    · cases _e
    · cases _e
    · cases _e
    · cases _e
    · cases _e
    · exact ⟨pin1, pin2⟩
    ) listed1
theorem expandCounts_wfText : Rows.expandCountsRow.wfByText (OpenSpec.ofChange Rows.expandCountsSpec) = true := by kernel_rfl
theorem expandCounts_mainIs : Tryz.pinned.checked.prog.mainIs = some (true, "d785e6c88c3989d81d032a2a8d707bef168e1d36b51ef6fc416a835b817a1afa".toList) := by kernel_rfl
theorem expandCounts_looks : true = Tryz.pinned.checked.prog.looks [] := by kernel_rfl
theorem expandCounts_wants : ([9, 23, 3].all fun u => !Tryz.prog.wantsStandIn u) = true := by kernel_rfl
theorem goes_0 : ((dropP 80 Tryz.prog.funcs.toList 0).take 80).all (fun fn => !fn.goes) = true := by kernel_rfl
theorem goes_1 : ((dropP 80 Tryz.prog.funcs.toList 1).take 80).all (fun fn => !fn.goes) = true := by kernel_rfl
theorem goes_2 : (dropP 80 Tryz.prog.funcs.toList 2).all (fun fn => !fn.goes) = true := by kernel_rfl
theorem goes_all : Tryz.prog.funcs.toList.all (fun fn => !fn.goes) = true := all_parts 80 goes_0 (all_parts 80 goes_1 (goes_2))
theorem expandCounts_goes : false = Rows.expandCountsRow.goesBy Tryz.pinned.checked.prog := goesBy_none goes_all rfl
theorem expandCounts_card : Rows.ExpandCountsCardSaid :=
  Claim7.holds_tied_plain_at .later [] [.data, .data, .data, .data, .sentinel, .sentinel, .pinned] true (true, "d785e6c88c3989d81d032a2a8d707bef168e1d36b51ef6fc416a835b817a1afa") true
    expandCounts_holds (fun _ h => by cases h) expandCounts_wfText (fun _ h => by cases h) expandCounts_tie rfl ⟨rfl, rfl⟩ expandCounts_mainIs rfl
    (fun g fn hf hfn => by
      obtain rfl : g = 4 := Option.some.inj (expandCounts_named1.symm.trans hf) |>.symm
      obtain rfl : fn = Tryz.f4 := (Option.some.inj (expandCounts_fn.symm.trans hfn)).symm
      exact ⟨expandCounts_looks, fun j t ht => by
        rw [expandCounts_params] at ht
        have hm : t ∈ [9, 23, 3] := by simpa using Array.mem_of_getElem? ht
        exact (show Tryz.prog.wantsStandIn t = false by simpa using List.all_eq_true.1 expandCounts_wants t hm)⟩)
    expandCounts_goes
#print axioms expandCounts_card
end
end Go.Proofs.YtfmcnkepidedpaaGreatDoor
