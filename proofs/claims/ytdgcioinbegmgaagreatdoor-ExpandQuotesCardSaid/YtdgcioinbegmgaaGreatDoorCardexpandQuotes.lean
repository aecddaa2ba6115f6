/-
  The tied card of expandQuotes: for every input the law returns true, and the listed variables hold what the program lays.
-/
import Derived.Test.YtdgcioinbegmgaaGreatDoorRowexpandQuotes
import Derived.Test.YtdgcioinbegmgaaGreatDoorOwnTie
import Derived.Test.YtdgcioinbegmgaaGreatDoorXGoesK
import Derived.SevenTiedAt
open Go Go.Mx
namespace Go.Proofs.YtdgcioinbegmgaaGreatDoor
set_option maxRecDepth 1000000
noncomputable section
theorem expandQuotes_tie : Rows.expandQuotesRow.laidByTextAt .later Tryz.pinned [.data, .data, .data, .data, .sentinel, .sentinel, .pinned] true :=
  OpenClaim.laidByTextAt_pinned rfl rfl tieOwn rfl rfl rfl rfl (fun y hy _e => by
    simp only [Rows.expandQuotesRow, List.zip_cons_cons, List.zip_nil_right, List.mem_cons, List.mem_nil_iff, or_false] at hy
    rcases hy with rfl | rfl | rfl | rfl | rfl | rfl | rfl
    · cases _e
    · cases _e
    · cases _e
    · cases _e
    · cases _e
    · cases _e
    · exact ⟨pin1, pin2⟩
    ) listed1
theorem expandQuotes_wfText : Rows.expandQuotesRow.wfByText (OpenSpec.ofChange Rows.expandQuotesSpec) = true := by kernel_rfl
theorem expandQuotes_mainIs : Tryz.pinned.checked.prog.mainIs = some (true, "78b62a718f38494727fe08ebbcc1a7054e0d0f95078a2cf96d383ec79590558a".toList) := by kernel_rfl
theorem expandQuotes_looks : true = Tryz.pinned.checked.prog.looks [] := by kernel_rfl
theorem expandQuotes_wants : ([9, 4].all fun u => !Tryz.prog.wantsStandIn u) = true := by kernel_rfl
theorem goes_0 : ((dropP 80 Tryz.prog.funcs.toList 0).take 80).all (fun fn => !fn.goes) = true := by kernel_rfl
theorem goes_1 : ((dropP 80 Tryz.prog.funcs.toList 1).take 80).all (fun fn => !fn.goes) = true := by kernel_rfl
theorem goes_2 : (dropP 80 Tryz.prog.funcs.toList 2).all (fun fn => !fn.goes) = true := by kernel_rfl
theorem goes_all : Tryz.prog.funcs.toList.all (fun fn => !fn.goes) = true := all_parts 80 goes_0 (all_parts 80 goes_1 (goes_2))
theorem expandQuotes_goes : false = Rows.expandQuotesRow.goesBy Tryz.pinned.checked.prog := goesBy_none goes_all rfl
theorem expandQuotes_card : Rows.ExpandQuotesCardSaid :=
  Claim7.holds_tied_plain_at .later [] [.data, .data, .data, .data, .sentinel, .sentinel, .pinned] true (true, "78b62a718f38494727fe08ebbcc1a7054e0d0f95078a2cf96d383ec79590558a") true
    expandQuotes_holds (fun _ h => by cases h) expandQuotes_wfText (fun _ h => by cases h) expandQuotes_tie rfl ⟨rfl, rfl⟩ expandQuotes_mainIs rfl
    (fun g fn hf hfn => by
      obtain rfl : g = 3 := Option.some.inj (expandQuotes_named1.symm.trans hf) |>.symm
      obtain rfl : fn = Tryz.f3 := (Option.some.inj (expandQuotes_fn.symm.trans hfn)).symm
      exact ⟨expandQuotes_looks, fun j t ht => by
        rw [expandQuotes_params] at ht
        have hm : t ∈ [9, 4] := by simpa using Array.mem_of_getElem? ht
        exact (show Tryz.prog.wantsStandIn t = false by simpa using List.all_eq_true.1 expandQuotes_wants t hm)⟩)
    expandQuotes_goes
#print axioms expandQuotes_card
end
end Go.Proofs.YtdgcioinbegmgaaGreatDoor
