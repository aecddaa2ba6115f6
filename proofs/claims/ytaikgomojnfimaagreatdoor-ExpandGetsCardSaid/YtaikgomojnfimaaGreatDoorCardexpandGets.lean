/-
  The tied card of expandGets: for every input the law returns true, and the listed variables hold what the program lays.
-/
import Derived.Test.YtaikgomojnfimaaGreatDoorRowexpandGets
import Derived.Test.YtaikgomojnfimaaGreatDoorOwnTie
import Derived.Test.YtaikgomojnfimaaGreatDoorXGoesK
import Derived.SevenTiedAt
open Go Go.Mx
namespace Go.Proofs.YtaikgomojnfimaaGreatDoor
set_option maxRecDepth 1000000
noncomputable section
theorem expandGets_tie : Rows.expandGetsRow.laidByTextAt .later Tryz.pinned [.data, .data, .data, .data, .sentinel, .sentinel, .pinned] true :=
  OpenClaim.laidByTextAt_pinned rfl rfl tieOwn rfl rfl rfl rfl (fun y hy _e => by
    simp only [Rows.expandGetsRow, List.zip_cons_cons, List.zip_nil_right, List.mem_cons, List.mem_nil_iff, or_false] at hy
    rcases hy with rfl | rfl | rfl | rfl | rfl | rfl | rfl
    · cases _e
    · cases _e
    · cases _e
    · cases _e
    · cases _e
    · cases _e
    · exact ⟨pin1, pin2⟩
    ) listed1
theorem expandGets_wfText : Rows.expandGetsRow.wfByText (OpenSpec.ofChange Rows.expandGetsSpec) = true := by kernel_rfl
theorem expandGets_mainIs : Tryz.pinned.checked.prog.mainIs = some (true, "3d7a599b4a56bbc3941eb81ae8dbd38e413fadabc6286a324f637174d8824dd0".toList) := by kernel_rfl
theorem expandGets_looks : true = Tryz.pinned.checked.prog.looks [] := by kernel_rfl
theorem expandGets_wants : ([22, 23, 3, 9].all fun u => !Tryz.prog.wantsStandIn u) = true := by kernel_rfl
theorem goes_0 : ((dropP 80 Tryz.prog.funcs.toList 0).take 80).all (fun fn => !fn.goes) = true := by kernel_rfl
theorem goes_1 : ((dropP 80 Tryz.prog.funcs.toList 1).take 80).all (fun fn => !fn.goes) = true := by kernel_rfl
theorem goes_2 : (dropP 80 Tryz.prog.funcs.toList 2).all (fun fn => !fn.goes) = true := by kernel_rfl
theorem goes_all : Tryz.prog.funcs.toList.all (fun fn => !fn.goes) = true := all_parts 80 goes_0 (all_parts 80 goes_1 (goes_2))
theorem expandGets_goes : false = Rows.expandGetsRow.goesBy Tryz.pinned.checked.prog := goesBy_none goes_all rfl
theorem expandGets_card : Rows.ExpandGetsCardSaid :=
  Claim7.holds_tied_plain_at .later [] [.data, .data, .data, .data, .sentinel, .sentinel, .pinned] true (true, "3d7a599b4a56bbc3941eb81ae8dbd38e413fadabc6286a324f637174d8824dd0") true
    expandGets_holds (fun _ h => by cases h) expandGets_wfText (fun _ h => by cases h) expandGets_tie rfl ⟨rfl, rfl⟩ expandGets_mainIs rfl
    (fun g fn hf hfn => by
      obtain rfl : g = 3 := Option.some.inj (expandGets_named1.symm.trans hf) |>.symm
      obtain rfl : fn = Tryz.f3 := (Option.some.inj (expandGets_fn.symm.trans hfn)).symm
      exact ⟨expandGets_looks, fun j t ht => by
        rw [expandGets_params] at ht
        have hm : t ∈ [22, 23, 3, 9] := by simpa using Array.mem_of_getElem? ht
        exact (show Tryz.prog.wantsStandIn t = false by simpa using List.all_eq_true.1 expandGets_wants t hm)⟩)
    expandGets_goes
#print axioms expandGets_card
end
end Go.Proofs.YtaikgomojnfimaaGreatDoor
