/-
  The tied card of quartermasterWrong: for every input the law returns true, and the listed variables hold what the program lays.
-/
import Derived.Test.YtagfjgbbebdleaaGreatDoorRowquartermasterWrong
import Derived.Test.YtagfjgbbebdleaaGreatDoorOwnTie
import Derived.Test.YtagfjgbbebdleaaGreatDoorXGoesK
import Derived.SevenTiedAt
open Go Go.Mx
namespace Go.Proofs.YtagfjgbbebdleaaGreatDoor
set_option maxRecDepth 1000000
noncomputable section
theorem quartermasterWrong_tie : Rows.quartermasterWrongRow.laidByTextAt .later Tryz.pinned [.pinned, .data, .data, .data, .data, .data, .listed, .sentinel, .sentinel] true :=
  OpenClaim.laidByTextAt_pinned rfl rfl tieOwn rfl rfl rfl rfl (fun y hy _e => by
    simp only [Rows.quartermasterWrongRow, List.zip_cons_cons, List.zip_nil_right, List.mem_cons, List.mem_nil_iff, or_false] at hy
    rcases hy with rfl | rfl | rfl | rfl | rfl | rfl | rfl | rfl | rfl
    · exact ⟨pin1, pin2⟩
    · cases _e
    · cases _e
    · cases _e
    · cases _e
    · cases _e
    · cases _e
    · cases _e
    · cases _e
    ) listed1
theorem quartermasterWrong_wfText : Rows.quartermasterWrongRow.wfByText (OpenSpec.ofChange Rows.quartermasterWrongSpec) = true := by kernel_rfl
theorem quartermasterWrong_mainIs : Tryz.pinned.checked.prog.mainIs = some (true, "1d76c0ce0b6a7e3cd1847eb3dfab3561a5a4191c4b6bd4c4ec964a5953e91693".toList) := by kernel_rfl
theorem quartermasterWrong_looks : true = Tryz.pinned.checked.prog.looks [] := by kernel_rfl
theorem quartermasterWrong_wants : ([3].all fun u => !Tryz.prog.wantsStandIn u) = true := by kernel_rfl
theorem goes_0 : ((dropP 80 Tryz.prog.funcs.toList 0).take 80).all (fun fn => !fn.goes) = true := by kernel_rfl
theorem goes_1 : ((dropP 80 Tryz.prog.funcs.toList 1).take 80).all (fun fn => !fn.goes) = true := by kernel_rfl
theorem goes_2 : ((dropP 80 Tryz.prog.funcs.toList 2).take 80).all (fun fn => !fn.goes) = true := by kernel_rfl
theorem goes_3 : ((dropP 80 Tryz.prog.funcs.toList 3).take 80).all (fun fn => !fn.goes) = true := by kernel_rfl
theorem goes_4 : ((dropP 80 Tryz.prog.funcs.toList 4).take 80).all (fun fn => !fn.goes) = true := by kernel_rfl
theorem goes_5 : ((dropP 80 Tryz.prog.funcs.toList 5).take 80).all (fun fn => !fn.goes) = true := by kernel_rfl
theorem goes_6 : ((dropP 80 Tryz.prog.funcs.toList 6).take 80).all (fun fn => !fn.goes) = true := by kernel_rfl
theorem goes_7 : ((dropP 80 Tryz.prog.funcs.toList 7).take 80).all (fun fn => !fn.goes) = true := by kernel_rfl
theorem goes_8 : (dropP 80 Tryz.prog.funcs.toList 8).all (fun fn => !fn.goes) = true := by kernel_rfl
theorem goes_all : Tryz.prog.funcs.toList.all (fun fn => !fn.goes) = true := all_parts 80 goes_0 (all_parts 80 goes_1 (all_parts 80 goes_2 (all_parts 80 goes_3 (all_parts 80 goes_4 (all_parts 80 goes_5 (all_parts 80 goes_6 (all_parts 80 goes_7 (goes_8))))))))
theorem quartermasterWrong_goes : false = Rows.quartermasterWrongRow.goesBy Tryz.pinned.checked.prog := goesBy_none goes_all rfl
theorem quartermasterWrong_card : Rows.QuartermasterWrongCardSaid :=
  Claim7.holds_tied_plain_at .later [] [.pinned, .data, .data, .data, .data, .data, .listed, .sentinel, .sentinel] true (true, "1d76c0ce0b6a7e3cd1847eb3dfab3561a5a4191c4b6bd4c4ec964a5953e91693") true
    quartermasterWrong_holds (fun _ h => by cases h) quartermasterWrong_wfText (fun _ h => by cases h) quartermasterWrong_tie rfl ⟨rfl, rfl⟩ quartermasterWrong_mainIs rfl
    (fun g fn hf hfn => by
      obtain rfl : g = 3 := Option.some.inj (quartermasterWrong_named1.symm.trans hf) |>.symm
      obtain rfl : fn = Tryz.f3 := (Option.some.inj (quartermasterWrong_fn.symm.trans hfn)).symm
      exact ⟨quartermasterWrong_looks, fun j t ht => by
        rw [quartermasterWrong_params] at ht
        have hm : t ∈ [3] := by simpa using Array.mem_of_getElem? ht
        have hm2 : t ∈ [3] := by simp only [List.mem_cons, List.not_mem_nil, or_false] at hm ⊢; omega
        exact (show Tryz.prog.wantsStandIn t = false by simpa using List.all_eq_true.1 quartermasterWrong_wants t hm2)⟩)
    quartermasterWrong_goes
#print axioms quartermasterWrong_card
end
end Go.Proofs.YtagfjgbbebdleaaGreatDoor
