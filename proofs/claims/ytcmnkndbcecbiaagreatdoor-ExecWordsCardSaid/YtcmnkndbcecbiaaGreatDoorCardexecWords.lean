/-
  The tied card of execWords: for every input the law returns true, and the listed variables hold what the program lays.
-/
import Derived.Test.YtcmnkndbcecbiaaGreatDoorRowexecWords
import Derived.Test.YtcmnkndbcecbiaaGreatDoorOwnTie
import Derived.Test.YtcmnkndbcecbiaaGreatDoorXGoesK
import Derived.SevenTiedAt
open Go Go.Mx
namespace Go.Proofs.YtcmnkndbcecbiaaGreatDoor
set_option maxRecDepth 1000000
noncomputable section
theorem execWords_tie : Rows.execWordsRow.laidByTextAt .later Tryz.pinned [.pinned, .data, .data, .listed, .data, .data, .data, .sentinel, .sentinel] true :=
  OpenClaim.laidByTextAt_pinned rfl rfl tieOwn rfl rfl rfl rfl (fun y hy _e => by
    simp only [Rows.execWordsRow, List.zip_cons_cons, List.zip_nil_right, List.mem_cons, List.mem_nil_iff, or_false] at hy
    rcases hy with rfl | rfl | rfl | rfl | rfl | rfl | rfl | rfl | rfl
    · exact ⟨pin1, pin2⟩
    · cases _e
    · cases _e
    · cases _e
    · cases _e
    · cases _e
    · cases _e
    · cases _e
    · cases _e
    ) listed1
theorem execWords_wfText : Rows.execWordsRow.wfByText (OpenSpec.ofChange Rows.execWordsSpec) = true := by kernel_rfl
theorem execWords_mainIs : Tryz.pinned.checked.prog.mainIs = some (true, "a98033ebe928cc240e1c09b08b4f3fc83d8751f6ef36e5c3a561ce5267508344".toList) := by kernel_rfl
theorem execWords_looks : true = Tryz.pinned.checked.prog.looks [] := by kernel_rfl
theorem execWords_wants : ([39, 4].all fun u => !Tryz.prog.wantsStandIn u) = true := by kernel_rfl
theorem goes_0 : ((dropP 80 Tryz.prog.funcs.toList 0).take 80).all (fun fn => !fn.goes) = true := by kernel_rfl
theorem goes_1 : ((dropP 80 Tryz.prog.funcs.toList 1).take 80).all (fun fn => !fn.goes) = true := by kernel_rfl
theorem goes_2 : ((dropP 80 Tryz.prog.funcs.toList 2).take 80).all (fun fn => !fn.goes) = true := by kernel_rfl
theorem goes_3 : ((dropP 80 Tryz.prog.funcs.toList 3).take 80).all (fun fn => !fn.goes) = true := by kernel_rfl
theorem goes_4 : ((dropP 80 Tryz.prog.funcs.toList 4).take 80).all (fun fn => !fn.goes) = true := by kernel_rfl
theorem goes_5 : ((dropP 80 Tryz.prog.funcs.toList 5).take 80).all (fun fn => !fn.goes) = true := by kernel_rfl
theorem goes_6 : (dropP 80 Tryz.prog.funcs.toList 6).all (fun fn => !fn.goes) = true := by kernel_rfl
theorem goes_all : Tryz.prog.funcs.toList.all (fun fn => !fn.goes) = true := all_parts 80 goes_0 (all_parts 80 goes_1 (all_parts 80 goes_2 (all_parts 80 goes_3 (all_parts 80 goes_4 (all_parts 80 goes_5 (goes_6))))))
theorem execWords_goes : false = Rows.execWordsRow.goesBy Tryz.pinned.checked.prog := goesBy_none goes_all rfl
theorem execWords_card : Rows.ExecWordsCardSaid :=
  Claim7.holds_tied_plain_at .later [] [.pinned, .data, .data, .listed, .data, .data, .data, .sentinel, .sentinel] true (true, "a98033ebe928cc240e1c09b08b4f3fc83d8751f6ef36e5c3a561ce5267508344") true
    execWords_holds (fun _ h => by cases h) execWords_wfText (fun _ h => by cases h) execWords_tie rfl ⟨rfl, rfl⟩ execWords_mainIs rfl
    (fun g fn hf hfn => by
      obtain rfl : g = 4 := Option.some.inj (execWords_named1.symm.trans hf) |>.symm
      obtain rfl : fn = Tryz.f4 := (Option.some.inj (execWords_fn.symm.trans hfn)).symm
      exact ⟨execWords_looks, fun j t ht => by
        rw [execWords_params] at ht
        have hm : t ∈ [39, 4] := by simpa using Array.mem_of_getElem? ht
        exact (show Tryz.prog.wantsStandIn t = false by simpa using List.all_eq_true.1 execWords_wants t hm)⟩)
    execWords_goes
#print axioms execWords_card
end
end Go.Proofs.YtcmnkndbcecbiaaGreatDoor
