/-
  The row of checkNumbers: for every input the law returns true.
-/
import Derived.Test.YteoeiinpiihpoaaGreatDoorRuncheckNumbers
import Derived.Test.YteoeiinpiihpoaaGreatDoorXRowK6
import Derived.OpenShut
import Derived.Carry
import Derived.Lay
open Go Go.Mx Go.ChangeShapes Go.WideShapes Go.RowKit
namespace Go.Proofs.YteoeiinpiihpoaaGreatDoor
set_option maxRecDepth 1000000
noncomputable section
def checkNumbers_L : List Nat := [3, 4, 5, 6, 9, 11, 12, 14, 16, 24, 30, 46, 61, 73, 86, 74, 75, 76, 87, 31, 47, 62, 77, 88, 53, 66, 78, 89, 48, 51, 32, 49, 33, 34, 50, 63, 79, 90, 80, 91, 64, 65, 20, 29, 45, 22, 15, 21, 23, 13, 17, 25, 18, 26, 35, 27, 37, 36, 38, 40, 52, 39, 42, 55, 68, 54, 67, 81, 82, 41, 28, 43, 56, 69, 83, 84, 44, 57, 70, 58, 59, 72, 85, 92, 93, 94, 98, 97, 99, 95, 96, 100, 101, 102, 103, 71, 60, 19, 8, 7, 10]
theorem checkNumbers_clos : Tryz.prog.closure 3 = checkNumbers_L := closure_by_table Tryz.prog tabT_all (by kernel_rfl)
theorem checkNumbers_inPlace : Tryz.prog.inPlace 3 = Rows.checkNumbersRow.inPlace := inPlace_by_table Tryz.prog checkNumbers_clos tabN_all (by kernel_rfl)
theorem checkNumbers_named : Tryz.prog.varsNamed 3 = Rows.checkNumbersRow.named := varsNamed_by_table Tryz.prog checkNumbers_clos tabG_all tabE_all (by kernel_rfl)
theorem checkNumbers_unf : Tryz.prog.unfollowed 3 = true := by
  obtain ⟨c, hc⟩ : ∃ c, Tryz.f49.body = some c := ⟨_, rfl⟩
  exact unfollowed_by_table Tryz.prog checkNumbers_clos (g := 49) (by kernel_rfl) (fn := Tryz.f49) (by kernel_rfl) hc (by cases hc; kernel_rfl)
theorem checkNumbers_k0 : (Rows.checkNumbersRow.wf (OpenSpec.ofChange Rows.checkNumbersSpec)) = true := by kernel_rfl
theorem checkNumbers_k3 : (Tryz.f3.params.all (Tryz.pinned.checked.prog.readableRec ·)) = true := by kernel_rfl
theorem checkNumbers_k4 : (namedTie Tryz.pinned.checked.prog Rows.checkNumbersRow.named Rows.checkNumbersSpec.vars) = true := by kernel_rfl
theorem checkNumbers_k5 : ((Rows.checkNumbersRow.stops == [])) = true := by kernel_rfl
theorem checkNumbers_k6 : ((Tryz.pinned.checked.prog.stops == [])) = true := by kernel_rfl
theorem checkNumbers_k7 : ((Rows.checkNumbersRow.knobs == [])) = true := by kernel_rfl
theorem checkNumbers_k8 : ((Tryz.pinned.checked.prog.stopKnobs == [])) = true := by kernel_rfl
theorem checkNumbers_k9 : ((Rows.checkNumbersRow.inPlace == Tryz.pinned.checked.prog.inPlace 3)) = true := beq_iff_eq.2 checkNumbers_inPlace.symm
theorem checkNumbers_k10 : ((Rows.checkNumbersRow.unfollowed == Tryz.pinned.checked.prog.unfollowed 3)) = true := beq_iff_eq.2 checkNumbers_unf.symm
theorem checkNumbers_k11 : ((Rows.checkNumbersRow.recurses == Tryz.pinned.checked.prog.recurses 3)) = true := beq_iff_eq.2 (show true = Tryz.prog.recurses 3 by unfold Program.recurses; rw [checkNumbers_unf]; rfl)
theorem checkNumbers_k12 : ((Rows.checkNumbersRow.named == Tryz.pinned.checked.prog.varsNamed 3)) = true := beq_iff_eq.2 checkNumbers_named.symm
theorem checkNumbers_k13 : ((Rows.checkNumbersRow.maps == (Tryz.f3.params.toList ++ Rows.checkNumbersSpec.plain.varTypes Tryz.pinned.checked.prog).any (Tryz.pinned.checked.prog.mapsRec ·))) = true := by kernel_rfl
theorem checkNumbers_k14 : ((Rows.checkNumbersRow.ifaces == (Tryz.f3.params.toList ++ Rows.checkNumbersSpec.plain.varTypes Tryz.pinned.checked.prog).any (Tryz.pinned.checked.prog.ifacesRec ·))) = true := by kernel_rfl
theorem checkNumbers_k15 : ((Rows.checkNumbersRow.mapsOut == Tryz.pinned.checked.prog.mapsAmong Tryz.f3.resultTypes.toList)) = true := by kernel_rfl
theorem checkNumbers_k16 : ((Rows.checkNumbersRow.loops == (Tryz.f3.params.toList ++ Rows.checkNumbersSpec.plain.varTypes Tryz.pinned.checked.prog).any (Tryz.pinned.checked.prog.loopsFrom ·))) = true := by kernel_rfl
theorem checkNumbers_k17 : ((Rows.checkNumbersRow.wideKeys == (Tryz.f3.params.toList ++ Rows.checkNumbersSpec.plain.varTypes Tryz.pinned.checked.prog ++ Tryz.f3.resultTypes.toList).any (Tryz.pinned.checked.prog.wideKeysFrom ·))) = true := by kernel_rfl
theorem checkNumbers_k18 : (Rows.checkNumbersSpec.vars.all (Tryz.pinned.checked.prog.varReadable ·)) = true := by kernel_rfl
theorem checkNumbers_k19 : (Tryz.f3.resultTypes.all (fun t => Tryz.pinned.checked.prog.readableRec t && decide (t < Tryz.pinned.checked.prog.types.size))) = true := by kernel_rfl
theorem checkNumbers_k20 : ((Rows.checkNumbersRow.ifacesOut == Tryz.f3.resultTypes.toList.any (Tryz.pinned.checked.prog.ifacesRec ·))) = true := by kernel_rfl
theorem checkNumbers_k21 : ((Rows.checkNumbersRow.loopsOut == Tryz.f3.resultTypes.toList.any (Tryz.pinned.checked.prog.loopsFrom ·))) = true := by kernel_rfl
theorem checkNumbers_k22 : ((Rows.checkNumbersRow.plainKeys == Tryz.pinned.checked.prog.plainKeys)) = true := by kernel_rfl
theorem checkNumbers_k23 : (Rows.checkNumbersRow.shortTexts.isNone) = true := by kernel_rfl
theorem checkNumbers_k26 : ((Rows.checkNumbersRow.lifted == Tryz.pinned.checked.prog.liftsFinal)) = true := by kernel_rfl
theorem checkNumbers_k27 : ((Tryz.pinned.checked.prog.make == some Rows.checkNumbersRow.make)) = true := by kernel_rfl
theorem checkNumbers_k28 : ((Rows.checkNumbersRow.kinds == (if Rows.checkNumbersRow.domain.isEmpty then [] else Tryz.f3.params.toList.map fun t => match Tryz.pinned.checked.prog.underlying t with | some (.int k) => some k | _ => none))) = true := by kernel_rfl
theorem checkNumbers_k29 : ((Rows.checkNumbersRow.pinned == Rows.checkNumbersRow.pinnedBy)) = true := by kernel_rfl
theorem checkNumbers_k30 : ((Rows.checkNumbersRow.veiled == (Tryz.f3.params.toList ++ Rows.checkNumbersSpec.plain.varTypes Tryz.pinned.checked.prog ++ Tryz.f3.resultTypes.toList).any (Tryz.pinned.checked.prog.veiledRec ·))) = true := by kernel_rfl
theorem checkNumbers_k31 : (Rows.checkNumbersRow.veiledFits Tryz.pinned.checked.prog Tryz.f3.params.toList (Tryz.f3.params.toList ++ Rows.checkNumbersSpec.plain.varTypes Tryz.pinned.checked.prog ++ Tryz.f3.resultTypes.toList)) = true := by kernel_rfl
theorem checkNumbers_closed : joinedFacts Tryz.pinned.checked.prog 3 Tryz.f3 Rows.checkNumbersSpec Rows.checkNumbersRow = true := band (band (band (band (band (band (band (band (band (band (band (band (band (band (band (band (band (band (band (band (band (band (band (band (band (band (band (band (band (band (band (checkNumbers_k0) laidOut_ok) mapsRowed_ok) checkNumbers_k3) checkNumbers_k4) checkNumbers_k5) checkNumbers_k6) checkNumbers_k7) checkNumbers_k8) checkNumbers_k9) checkNumbers_k10) checkNumbers_k11) checkNumbers_k12) checkNumbers_k13) checkNumbers_k14) checkNumbers_k15) checkNumbers_k16) checkNumbers_k17) checkNumbers_k18) checkNumbers_k19) checkNumbers_k20) checkNumbers_k21) checkNumbers_k22) checkNumbers_k23) stopsHeard_ok) mayEnter_ok) checkNumbers_k26) checkNumbers_k27) checkNumbers_k28) checkNumbers_k29) checkNumbers_k30) checkNumbers_k31
abbrev checkNumbers_lst : List (String × DataW Unit) := Rows.checkNumbersRow.laid
theorem checkNumbers_plain : (checkNumbers_lst.all fun x => x.2.handleName?.isNone) = true := by kernel_rfl
theorem checkNumbers_noInit : Tryz.prog.inits.idxOf? 3 = none := by kernel_rfl
theorem checkNumbers_fn : Tryz.prog.funcs[3]? = some Tryz.f3 := by kernel_rfl
theorem checkNumbers_zip1 (os : Os) : ((World.laidAll Tryz.prog os checkNumbers_lst).forCall (fun _ _ => 0) ⟨#[], #[.int .i64 (-1), .int .i64 (-1), .int .i64 (-1)], []⟩).variablesZipB Tryz.prog = true := by kernel_rfl
theorem checkNumbers_zip2 (os : Os) : ((((World.laidAll Tryz.prog os checkNumbers_lst).forCall (fun _ _ => 0) ⟨#[], #[.int .i64 (-1), .int .i64 (-1), .int .i64 (-1)], []⟩).heap.toList.drop Tryz.prog.globals.size).take ((begin Tryz.prog (fun _ _ => 0) default).world.heap.size - Tryz.prog.globals.size) =
      (begin Tryz.prog (fun _ _ => 0) default).world.heap.toList.drop Tryz.prog.globals.size) := by kernel_rfl
theorem checkNumbers_fits (os : Os) : (World.holding Tryz.prog os ⟨#[], #[], []⟩).layFits Tryz.prog checkNumbers_lst [] = true := by kernel_rfl
theorem checkNumbers_ifaces (os : Os) : (World.holding Tryz.prog os ⟨#[], #[], []⟩).layIfaces Tryz.prog checkNumbers_lst (World.laidAll Tryz.prog os checkNumbers_lst) = true := by kernel_rfl
theorem checkNumbers_okB (os : Os) : Input.okWideB Tryz.prog ((World.laidAll Tryz.prog os checkNumbers_lst).forCall (fun _ _ => 0) ⟨#[], #[.int .i64 (-1), .int .i64 (-1), .int .i64 (-1)], []⟩) 3 ⟨#[], #[.int .i64 (-1), .int .i64 (-1), .int .i64 (-1)], []⟩ = true := by kernel_rfl
theorem checkNumbers_preB (os : Os) (H : Type) (enc : TypeId × Value → H) : Rows.checkNumbersSpec.preB enc Tryz.prog Tryz.f3 [] false ((World.laidAll Tryz.prog os checkNumbers_lst).forCall (fun _ _ => 0) ⟨#[], #[.int .i64 (-1), .int .i64 (-1), .int .i64 (-1)], []⟩).memory #[.int .i64 (-1), .int .i64 (-1), .int .i64 (-1)] 8 = true := by kernel_rfl
theorem checkNumbers_szB (os : Os) (H : Type) (enc : TypeId × Value → H) : Rows.checkNumbersSpec.sizedB enc Tryz.prog Tryz.f3 false ((World.laidAll Tryz.prog os checkNumbers_lst).forCall (fun _ _ => 0) ⟨#[], #[.int .i64 (-1), .int .i64 (-1), .int .i64 (-1)], []⟩).memory #[.int .i64 (-1), .int .i64 (-1), .int .i64 (-1)] 8 = true := by kernel_rfl
theorem checkNumbers_uInt : Tryz.prog.underlying 3 = some (.int .i64) := by kernel_rfl
theorem checkNumbers_uBool : Tryz.prog.underlying 4 = some .bool := by kernel_rfl
theorem checkNumbers_params : Tryz.f3.params = #[3, 3, 3] := by kernel_rfl
theorem checkNumbers_results : Tryz.f3.resultTypes = #[4] := by kernel_rfl
theorem checkNumbers_body : ∃ c, Tryz.f3.body = some c := ⟨_, rfl⟩
theorem checkNumbers_lifted (os : Os) (started : os.Started) (H : Type) (enc : TypeId × Value → H) :
    ReturnsInHanded {} Tryz.checked os 3 .any (fun w args => (Rows.checkNumbersSpec.pre enc Tryz.prog Tryz.f3 Rows.checkNumbersRow.domain false w args ∧ laidMetH Tryz.prog checkNumbers_lst w) ∧ sizedMet enc Tryz.prog Tryz.f3 (OpenSpec.ofChange Rows.checkNumbersSpec) false w args)
      (Rows.checkNumbersSpec.post enc Tryz.prog Tryz.f3 false true false false) := by
  refine returnsInHanded_of_change_and (C := Tryz.checked) (X := fun w _ => laidMetH Tryz.prog checkNumbers_lst w) (fun _ _ _ hh h => h.of_heap hh) own started checkNumbers_noInit checkNumbers_fn
    (ChangeSpec.witness_shaped (enc := enc) (C := Tryz.checked) (os := os) (X := fun w _ => laidMetH Tryz.prog checkNumbers_lst w) false (World.laidAll Tryz.prog os checkNumbers_lst) #[.int .i64 (-1), .int .i64 (-1), .int .i64 (-1)] 8 (World.laidAll_os _ _ _)
      (World.shaped_of_ZipB (checkNumbers_zip1 os) (checkNumbers_zip2 os)) (checkNumbers_okB os) (checkNumbers_preB os H enc) (checkNumbers_szB os H enc)
      (by rw [MakeChecks.laidMetH_plain _ _ _ checkNumbers_plain]; exact laidMet_laidAll _ (checkNumbers_fits os) (checkNumbers_ifaces os))) ?_
  intro W base args ds gs before hval0 hW _ _ hL _
  have hval : ∀ (j : Nat) t v, Tryz.f3.params[j]? = some t → args[j]? = some v → Value.okWide Tryz.prog W .any base t v := hval0
  have hW' := hW
  obtain ⟨p, q, hA0, hV, rfl, _, _⟩ := hW
  have hA : DataW.TrodAll enc Tryz.prog W 0 (fun _ => true) true Tryz.f3.params.toList args.toList ds p := hA0
  rw [checkNumbers_params] at hA hval
  obtain ⟨v0, v1, v2, d0, d1, d2, p0, p1, p2, rfl, rfl, rfl, h0, h1, h2⟩ := trodAll_three hA
  obtain ⟨rfl, rfl⟩ := trodVars_none hV
  obtain ⟨n0, rfl, rfl, rfl, hw0⟩ := open_int checkNumbers_uInt (hval 0 3 v0 rfl rfl) h0
  obtain ⟨n1, rfl, rfl, rfl, hw1⟩ := open_int checkNumbers_uInt (hval 1 3 v1 rfl rfl) h1
  obtain ⟨n2, rfl, rfl, rfl, hw2⟩ := open_int checkNumbers_uInt (hval 2 3 v2 rfl rfl) h2
  refine (cn_calls n0 n1 n2 hw0 hw1 (tabs W)).mono fun e W' ⟨he, hs⟩ => ?_
  refine ⟨_, he, _, _, _, [], [], [], hW', ?_, ?_, ?_, hs.keptBut _, fun h => by cases h⟩
  · rw [checkNumbers_results]
    exact trodAll_mk1 (shut_bool checkNumbers_uBool true)
  · rw [checkNumbers_params]
    exact trodAll_mk3 (shut_int checkNumbers_uInt hw0) (shut_int checkNumbers_uInt hw1) (shut_int checkNumbers_uInt hw2)
  · rfl
theorem checkNumbers_named1 : Tryz.pinned.checked.prog.funcNamed Rows.checkNumbersRow.func = some 3 := by kernel_rfl
theorem checkNumbers_wrapper : Tryz.f3.isWrapper Tryz.pinned.checked.prog Rows.checkNumbersRow.wrapper Rows.checkNumbersRow.mainSum := by unfold Func.isWrapper; first | (rw [if_pos (by decide +kernel)]; kernel_rfl) | (rw [if_neg (by decide +kernel)]; exact ⟨rfl, rfl⟩)
theorem checkNumbers_inst : Tryz.f3.isInstance Tryz.pinned.checked.prog Rows.checkNumbersRow.origin Rows.checkNumbersRow.targs := of_decide_eq_true (by kernel_rfl)
theorem checkNumbers_holds : Rows.CheckNumbersSaid :=
  OpenClaim.holds_of_wide 3 Tryz.f3 rfl rfl rfl rfl rfl rfl rfl ⟨rfl, rfl, rfl, rfl, rfl⟩ rfl rfl rfl rfl rfl checkNumbers_named1 checkNumbers_fn checkNumbers_closed checkNumbers_inst checkNumbers_wrapper
    (fun os started H enc _ => checkNumbers_lifted os started H enc)
end
end Go.Proofs.YteoeiinpiihpoaaGreatDoor
