/-
  The tied card of execPipes: for every input the law returns true, and the listed variables hold what the program lays.
-/
import Derived.Test.YtidfafhlcmfdeaaGreatDoorPRowexecPipes
import Derived.Test.YtidfafhlcmfdeaaGreatDoorOwnTie
import Derived.Test.YtidfafhlcmfdeaaGreatDoorXGoesK
import Derived.SevenTiedAt
open Go Go.Mx
namespace Go.Proofs.YtidfafhlcmfdeaaGreatDoor
set_option maxRecDepth 1000000
noncomputable section
theorem execPipes_tie : Rows.execPipesRow.laidByTextAt .later Tryz.pinned [.pinned, .data, .data, .listed, .data, .data, .data, .sentinel, .sentinel] true :=
  OpenClaim.laidByTextAt_pinned rfl rfl tieOwn rfl rfl rfl rfl (fun y hy _e => by
    simp only [Rows.execPipesRow, List.zip_cons_cons, List.zip_nil_right, List.mem_cons, List.mem_nil_iff, or_false] at hy
    rcases hy with rfl | rfl | rfl | rfl | rfl | rfl | rfl | rfl | rfl
    · exact ⟨pin1, pin2⟩
    · cases _e
    · cases _e
    · cases _e
    · cases _e
    · cases _e
    · cases _e
    · cases _e
    · cases _e
    ) listed1
theorem execPipes_wfText : Rows.execPipesRow.wfByText (OpenSpec.ofChange Rows.execPipesSpec) = true := by kernel_rfl
theorem execPipes_mainIs : Tryz.pinned.checked.prog.mainIs = some (true, "d500ad3fe0c4d05cda9a53f8f296d9721995ccfc9d46d16141212da0e1577094".toList) := by kernel_rfl
theorem execPipes_looks : true = Tryz.pinned.checked.prog.looks [] := by kernel_rfl
theorem execPipes_wants : ([27, 3, 4, 4].all fun u => !Tryz.prog.wantsStandIn u) = true := by kernel_rfl
theorem goes_0 : ((dropP 80 Tryz.prog.funcs.toList 0).take 80).all (fun fn => !fn.goes) = true := by kernel_rfl
theorem goes_1 : ((dropP 80 Tryz.prog.funcs.toList 1).take 80).all (fun fn => !fn.goes) = true := by kernel_rfl
theorem goes_2 : ((dropP 80 Tryz.prog.funcs.toList 2).take 80).all (fun fn => !fn.goes) = true := by kernel_rfl
theorem goes_3 : ((dropP 80 Tryz.prog.funcs.toList 3).take 80).all (fun fn => !fn.goes) = true := by kernel_rfl
theorem goes_4 : ((dropP 80 Tryz.prog.funcs.toList 4).take 80).all (fun fn => !fn.goes) = true := by kernel_rfl
theorem goes_5 : ((dropP 80 Tryz.prog.funcs.toList 5).take 80).all (fun fn => !fn.goes) = true := by kernel_rfl
theorem goes_6 : (dropP 80 Tryz.prog.funcs.toList 6).all (fun fn => !fn.goes) = true := by kernel_rfl
theorem goes_all : Tryz.prog.funcs.toList.all (fun fn => !fn.goes) = true := all_parts 80 goes_0 (all_parts 80 goes_1 (all_parts 80 goes_2 (all_parts 80 goes_3 (all_parts 80 goes_4 (all_parts 80 goes_5 (goes_6))))))
theorem execPipes_goes : false = Rows.execPipesRow.goesBy Tryz.pinned.checked.prog := goesBy_none goes_all rfl
theorem execPipes_card : Rows.ExecPipesCardSaid :=
  Claim7.holds_tied_plain_at .later [] [.pinned, .data, .data, .listed, .data, .data, .data, .sentinel, .sentinel] true (true, "d500ad3fe0c4d05cda9a53f8f296d9721995ccfc9d46d16141212da0e1577094") true
    execPipes_holds (fun _ h => by cases h) execPipes_wfText (fun _ h => by cases h) execPipes_tie rfl ⟨rfl, rfl⟩ execPipes_mainIs rfl
    (fun g fn hf hfn => by
      obtain rfl : g = 5 := Option.some.inj (execPipes_named1.symm.trans hf) |>.symm
      obtain rfl : fn = Tryz.f5 := (Option.some.inj (execPipes_fn.symm.trans hfn)).symm
      exact ⟨execPipes_looks, fun j t ht => by
        rw [execPipes_params] at ht
        have hm : t ∈ [27, 3, 4, 4] := by simpa using Array.mem_of_getElem? ht
        exact (show Tryz.prog.wantsStandIn t = false by simpa using List.all_eq_true.1 execPipes_wants t hm)⟩)
    execPipes_goes
#print axioms execPipes_card
end
end Go.Proofs.YtidfafhlcmfdeaaGreatDoor
