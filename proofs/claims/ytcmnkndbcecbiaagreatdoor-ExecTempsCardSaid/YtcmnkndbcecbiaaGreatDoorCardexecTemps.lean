/-
  The tied card of execTemps: for every input the law returns true, and the listed variables hold what the program lays.
-/
import Derived.Test.YtcmnkndbcecbiaaGreatDoorRowexecTemps
import Derived.Test.YtcmnkndbcecbiaaGreatDoorOwnTie
import Derived.Test.YtcmnkndbcecbiaaGreatDoorXGoesK
import Derived.SevenTiedAt
open Go Go.Mx
namespace Go.Proofs.YtcmnkndbcecbiaaGreatDoor
set_option maxRecDepth 1000000
noncomputable section
theorem execTemps_tie : Rows.execTempsRow.laidByTextAt .later Tryz.pinned [.pinned, .data, .data, .listed, .data, .data, .data, .sentinel, .sentinel] true :=
  OpenClaim.laidByTextAt_pinned rfl rfl tieOwn rfl rfl rfl rfl (fun y hy _e => by
    simp only [Rows.execTempsRow, List.zip_cons_cons, List.zip_nil_right, List.mem_cons, List.mem_nil_iff, or_false] at hy
    rcases hy with rfl | rfl | rfl | rfl | rfl | rfl | rfl | rfl | rfl
    · exact ⟨pin1, pin2⟩
    · cases _e
    · cases _e
    · cases _e
    · cases _e
    · cases _e
    · cases _e
    · cases _e
    · cases _e
    ) listed1
theorem execTemps_wfText : Rows.execTempsRow.wfByText (OpenSpec.ofChange Rows.execTempsSpec) = true := by kernel_rfl
theorem execTemps_mainIs : Tryz.pinned.checked.prog.mainIs = some (true, "a98033ebe928cc240e1c09b08b4f3fc83d8751f6ef36e5c3a561ce5267508344".toList) := by kernel_rfl
theorem execTemps_looks : true = Tryz.pinned.checked.prog.looks [] := by kernel_rfl
theorem execTemps_wants : ([9, 9, 4].all fun u => !Tryz.prog.wantsStandIn u) = true := by kernel_rfl
theorem goes_0 : ((dropP 80 Tryz.prog.funcs.toList 0).take 80).all (fun fn => !fn.goes) = true := by kernel_rfl
theorem goes_1 : ((dropP 80 Tryz.prog.funcs.toList 1).take 80).all (fun fn => !fn.goes) = true := by kernel_rfl
theorem goes_2 : ((dropP 80 Tryz.prog.funcs.toList 2).take 80).all (fun fn => !fn.goes) = true := by kernel_rfl
theorem goes_3 : ((dropP 80 Tryz.prog.funcs.toList 3).take 80).all (fun fn => !fn.goes) = true := by kernel_rfl
theorem goes_4 : ((dropP 80 Tryz.prog.funcs.toList 4).take 80).all (fun fn => !fn.goes) = true := by kernel_rfl
theorem goes_5 : ((dropP 80 Tryz.prog.funcs.toList 5).take 80).all (fun fn => !fn.goes) = true := by kernel_rfl
theorem goes_6 : (dropP 80 Tryz.prog.funcs.toList 6).all (fun fn => !fn.goes) = true := by kernel_rfl
theorem goes_all : Tryz.prog.funcs.toList.all (fun fn => !fn.goes) = true := all_parts 80 goes_0 (all_parts 80 goes_1 (all_parts 80 goes_2 (all_parts 80 goes_3 (all_parts 80 goes_4 (all_parts 80 goes_5 (goes_6))))))
theorem execTemps_goes : false = Rows.execTempsRow.goesBy Tryz.pinned.checked.prog := goesBy_none goes_all rfl
theorem execTemps_card : Rows.ExecTempsCardSaid :=
  Claim7.holds_tied_plain_at .later [] [.pinned, .data, .data, .listed, .data, .data, .data, .sentinel, .sentinel] true (true, "a98033ebe928cc240e1c09b08b4f3fc83d8751f6ef36e5c3a561ce5267508344") true
    execTemps_holds (fun _ h => by cases h) execTemps_wfText (fun _ h => by cases h) execTemps_tie rfl ⟨rfl, rfl⟩ execTemps_mainIs rfl
    (fun g fn hf hfn => by
      obtain rfl : g = 6 := Option.some.inj (execTemps_named1.symm.trans hf) |>.symm
      obtain rfl : fn = Tryz.f6 := (Option.some.inj (execTemps_fn.symm.trans hfn)).symm
      exact ⟨execTemps_looks, fun j t ht => by
        rw [execTemps_params] at ht
        have hm : t ∈ [9, 9, 4] := by simpa using Array.mem_of_getElem? ht
        exact (show Tryz.prog.wantsStandIn t = false by simpa using List.all_eq_true.1 execTemps_wants t hm)⟩)
    execTemps_goes
#print axioms execTemps_card
end
end Go.Proofs.YtcmnkndbcecbiaaGreatDoor
