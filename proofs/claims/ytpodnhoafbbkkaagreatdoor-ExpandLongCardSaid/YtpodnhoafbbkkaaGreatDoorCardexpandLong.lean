/-
  The tied card of expandLong: for every input the law returns true, and the listed variables hold what the program lays.
-/
import Derived.Test.YtpodnhoafbbkkaaGreatDoorRowexpandLong
import Derived.Test.YtpodnhoafbbkkaaGreatDoorOwnTie
import Derived.Test.YtpodnhoafbbkkaaGreatDoorXGoesK
import Derived.SevenTiedAt
open Go Go.Mx
namespace Go.Proofs.YtpodnhoafbbkkaaGreatDoor
set_option maxRecDepth 1000000
noncomputable section
theorem expandLong_tie : Rows.expandLongRow.laidByTextAt .later Tryz.pinned [.data, .data, .data, .data, .sentinel, .sentinel, .pinned] true :=
  OpenClaim.laidByTextAt_pinned rfl rfl tieOwn rfl rfl rfl rfl (fun y hy _e => by
    simp only [Rows.expandLongRow, List.zip_cons_cons, List.zip_nil_right, List.mem_cons, List.mem_nil_iff, or_false] at hy
    rcases hy with rfl | rfl | rfl | rfl | rfl | rfl | rfl
    · cases _e
    · cases _e
    · cases _e
    · cases _e
    · cases _e
    · cases _e
    · exact ⟨pin1, pin2⟩
    ) listed1
theorem expandLong_wfText : Rows.expandLongRow.wfByText (OpenSpec.ofChange Rows.expandLongSpec) = true := by kernel_rfl
theorem expandLong_mainIs : Tryz.pinned.checked.prog.mainIs = some (true, "9044774308f6356c43782ca36e5e622825483f2efe8b415a3022c70a704efb16".toList) := by kernel_rfl
theorem expandLong_looks : true = Tryz.pinned.checked.prog.looks [] := by kernel_rfl
theorem expandLong_wants : ([3, 3].all fun u => !Tryz.prog.wantsStandIn u) = true := by kernel_rfl
theorem goes_0 : ((dropP 80 Tryz.prog.funcs.toList 0).take 80).all (fun fn => !fn.goes) = true := by kernel_rfl
theorem goes_1 : ((dropP 80 Tryz.prog.funcs.toList 1).take 80).all (fun fn => !fn.goes) = true := by kernel_rfl
theorem goes_2 : (dropP 80 Tryz.prog.funcs.toList 2).all (fun fn => !fn.goes) = true := by kernel_rfl
theorem goes_all : Tryz.prog.funcs.toList.all (fun fn => !fn.goes) = true := all_parts 80 goes_0 (all_parts 80 goes_1 (goes_2))
theorem expandLong_goes : false = Rows.expandLongRow.goesBy Tryz.pinned.checked.prog := goesBy_none goes_all rfl
theorem expandLong_card : Rows.ExpandLongCardSaid :=
  Claim7.holds_tied_plain_at .later [] [.data, .data, .data, .data, .sentinel, .sentinel, .pinned] true (true, "9044774308f6356c43782ca36e5e622825483f2efe8b415a3022c70a704efb16") true
    expandLong_holds (fun _ h => by cases h) expandLong_wfText (fun _ h => by cases h) expandLong_tie rfl ⟨rfl, rfl⟩ expandLong_mainIs rfl
    (fun g fn hf hfn => by
      obtain rfl : g = 3 := Option.some.inj (expandLong_named1.symm.trans hf) |>.symm
      obtain rfl : fn = Tryz.f3 := (Option.some.inj (expandLong_fn.symm.trans hfn)).symm
      exact ⟨expandLong_looks, fun j t ht => by
        rw [expandLong_params] at ht
        have hm : t ∈ [3, 3] := by simpa using Array.mem_of_getElem? ht
        exact (show Tryz.prog.wantsStandIn t = false by simpa using List.all_eq_true.1 expandLong_wants t hm)⟩)
    expandLong_goes
#print axioms expandLong_card
end
end Go.Proofs.YtpodnhoafbbkkaaGreatDoor
