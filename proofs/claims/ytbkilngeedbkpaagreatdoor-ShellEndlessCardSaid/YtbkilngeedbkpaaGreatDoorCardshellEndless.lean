/-
  The tied card of shellEndless: for every input the law returns true, and the listed variables hold what the program lays.
-/
import Derived.Test.YtbkilngeedbkpaaGreatDoorRowshellEndless
import Derived.Test.YtbkilngeedbkpaaGreatDoorOwnTie
import Derived.Test.YtbkilngeedbkpaaGreatDoorXGoesK
import Derived.SevenTiedAt
open Go Go.Mx
namespace Go.Proofs.YtbkilngeedbkpaaGreatDoor
set_option maxRecDepth 1000000
noncomputable section
theorem shellEndless_tie : Rows.shellEndlessRow.laidByTextAt .later Tryz.pinned [.data, .listed, .data, .data, .data, .pinned, .data, .sentinel, .sentinel] true :=
  OpenClaim.laidByTextAt_pinned rfl rfl tieOwn rfl rfl rfl rfl (fun y hy _e => by
    simp only [Rows.shellEndlessRow, List.zip_cons_cons, List.zip_nil_right, List.mem_cons, List.mem_nil_iff, or_false] at hy
    rcases hy with rfl | rfl | rfl | rfl | rfl | rfl | rfl | rfl | rfl
    · cases _e
    · cases _e
    · cases _e
    · cases _e
    · cases _e
    · exact ⟨pin1, pin2⟩
    · cases _e
    · cases _e
    · cases _e
    ) listed1
theorem shellEndless_wfText : Rows.shellEndlessRow.wfByText (OpenSpec.ofChange Rows.shellEndlessSpec) = true := by kernel_rfl
theorem shellEndless_mainIs : Tryz.pinned.checked.prog.mainIs = some (true, "ba5e0ceaa5ad6390e9fa035dbb3c7acc46fe81ad9f36b578fd00ec3674cd78ca".toList) := by kernel_rfl
theorem shellEndless_looks : true = Tryz.pinned.checked.prog.looks [] := by kernel_rfl
theorem shellEndless_wants : ([3, 3].all fun u => !Tryz.prog.wantsStandIn u) = true := by kernel_rfl
theorem goes_0 : ((dropP 80 Tryz.prog.funcs.toList 0).take 80).all (fun fn => !fn.goes) = true := by kernel_rfl
theorem goes_1 : ((dropP 80 Tryz.prog.funcs.toList 1).take 80).all (fun fn => !fn.goes) = true := by kernel_rfl
theorem goes_2 : ((dropP 80 Tryz.prog.funcs.toList 2).take 80).all (fun fn => !fn.goes) = true := by kernel_rfl
theorem goes_3 : ((dropP 80 Tryz.prog.funcs.toList 3).take 80).all (fun fn => !fn.goes) = true := by kernel_rfl
theorem goes_4 : ((dropP 80 Tryz.prog.funcs.toList 4).take 80).all (fun fn => !fn.goes) = true := by kernel_rfl
theorem goes_5 : ((dropP 80 Tryz.prog.funcs.toList 5).take 80).all (fun fn => !fn.goes) = true := by kernel_rfl
theorem goes_6 : ((dropP 80 Tryz.prog.funcs.toList 6).take 80).all (fun fn => !fn.goes) = true := by kernel_rfl
theorem goes_7 : (dropP 80 Tryz.prog.funcs.toList 7).all (fun fn => !fn.goes) = true := by kernel_rfl
theorem goes_all : Tryz.prog.funcs.toList.all (fun fn => !fn.goes) = true := all_parts 80 goes_0 (all_parts 80 goes_1 (all_parts 80 goes_2 (all_parts 80 goes_3 (all_parts 80 goes_4 (all_parts 80 goes_5 (all_parts 80 goes_6 (goes_7)))))))
theorem shellEndless_goes : false = Rows.shellEndlessRow.goesBy Tryz.pinned.checked.prog := goesBy_none goes_all rfl
theorem shellEndless_card : Rows.ShellEndlessCardSaid :=
  Claim7.holds_tied_plain_at .later [] [.data, .listed, .data, .data, .data, .pinned, .data, .sentinel, .sentinel] true (true, "ba5e0ceaa5ad6390e9fa035dbb3c7acc46fe81ad9f36b578fd00ec3674cd78ca") true
    shellEndless_holds (fun _ h => by cases h) shellEndless_wfText (fun _ h => by cases h) shellEndless_tie rfl ⟨rfl, rfl⟩ shellEndless_mainIs rfl
    (fun g fn hf hfn => by
      obtain rfl : g = 3 := Option.some.inj (shellEndless_named1.symm.trans hf) |>.symm
      obtain rfl : fn = Tryz.f3 := (Option.some.inj (shellEndless_fn.symm.trans hfn)).symm
      exact ⟨shellEndless_looks, fun j t ht => by
        rw [shellEndless_params] at ht
        have hm : t ∈ [3, 3] := by simpa using Array.mem_of_getElem? ht
        exact (show Tryz.prog.wantsStandIn t = false by simpa using List.all_eq_true.1 shellEndless_wants t hm)⟩)
    shellEndless_goes
#print axioms shellEndless_card
end
end Go.Proofs.YtbkilngeedbkpaaGreatDoor
