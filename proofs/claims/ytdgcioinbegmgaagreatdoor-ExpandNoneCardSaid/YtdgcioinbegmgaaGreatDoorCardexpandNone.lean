/-
  The tied card of expandNone: for every input the law returns true, and the listed variables hold what the program lays.
-/
import Derived.Test.YtdgcioinbegmgaaGreatDoorRowexpandNone
import Derived.Test.YtdgcioinbegmgaaGreatDoorOwnTie
import Derived.Test.YtdgcioinbegmgaaGreatDoorXGoesK
import Derived.SevenTiedAt
open Go Go.Mx
namespace Go.Proofs.YtdgcioinbegmgaaGreatDoor
set_option maxRecDepth 1000000
noncomputable section
theorem expandNone_tie : Rows.expandNoneRow.laidByTextAt .later Tryz.pinned [.data, .data, .data, .data, .sentinel, .sentinel, .pinned] true :=
  OpenClaim.laidByTextAt_pinned rfl rfl tieOwn rfl rfl rfl rfl (fun y hy _e => by
    simp only [Rows.expandNoneRow, List.zip_cons_cons, List.zip_nil_right, List.mem_cons, List.mem_nil_iff, or_false] at hy
    rcases hy with rfl | rfl | rfl | rfl | rfl | rfl | rfl
    · cases _e
    · cases _e
    · cases _e
    · cases _e
    · cases _e
    · cases _e
    · exact ⟨pin1, pin2⟩
    ) listed1
theorem expandNone_wfText : Rows.expandNoneRow.wfByText (OpenSpec.ofChange Rows.expandNoneSpec) = true := by kernel_rfl
theorem expandNone_mainIs : Tryz.pinned.checked.prog.mainIs = some (true, "78b62a718f38494727fe08ebbcc1a7054e0d0f95078a2cf96d383ec79590558a".toList) := by kernel_rfl
theorem expandNone_looks : true = Tryz.pinned.checked.prog.looks [] := by kernel_rfl
theorem expandNone_wants : ([3, 9].all fun u => !Tryz.prog.wantsStandIn u) = true := by kernel_rfl
theorem goes_0 : ((dropP 80 Tryz.prog.funcs.toList 0).take 80).all (fun fn => !fn.goes) = true := by kernel_rfl
theorem goes_1 : ((dropP 80 Tryz.prog.funcs.toList 1).take 80).all (fun fn => !fn.goes) = true := by kernel_rfl
theorem goes_2 : (dropP 80 Tryz.prog.funcs.toList 2).all (fun fn => !fn.goes) = true := by kernel_rfl
theorem goes_all : Tryz.prog.funcs.toList.all (fun fn => !fn.goes) = true := all_parts 80 goes_0 (all_parts 80 goes_1 (goes_2))
theorem expandNone_goes : false = Rows.expandNoneRow.goesBy Tryz.pinned.checked.prog := goesBy_none goes_all rfl
theorem expandNone_card : Rows.ExpandNoneCardSaid :=
  Claim7.holds_tied_plain_at .later [] [.data, .data, .data, .data, .sentinel, .sentinel, .pinned] true (true, "78b62a718f38494727fe08ebbcc1a7054e0d0f95078a2cf96d383ec79590558a") true
    expandNone_holds (fun _ h => by cases h) expandNone_wfText (fun _ h => by cases h) expandNone_tie rfl ⟨rfl, rfl⟩ expandNone_mainIs rfl
    (fun g fn hf hfn => by
      obtain rfl : g = 4 := Option.some.inj (expandNone_named1.symm.trans hf) |>.symm
      obtain rfl : fn = Tryz.f4 := (Option.some.inj (expandNone_fn.symm.trans hfn)).symm
      exact ⟨expandNone_looks, fun j t ht => by
        rw [expandNone_params] at ht
        have hm : t ∈ [3, 9] := by simpa using Array.mem_of_getElem? ht
        exact (show Tryz.prog.wantsStandIn t = false by simpa using List.all_eq_true.1 expandNone_wants t hm)⟩)
    expandNone_goes
#print axioms expandNone_card
end
end Go.Proofs.YtdgcioinbegmgaaGreatDoor
