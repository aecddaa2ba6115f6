/-
  The row of expandQuotes: for every input the law returns true.
-/
import Derived.Test.YtdgcioinbegmgaaGreatDoorRunexpandQuotes
import Derived.Test.YtdgcioinbegmgaaGreatDoorXRowK3
import Derived.OpenShut
import Derived.Carry
import Derived.Lay
import Derived.ChangeMaps5
open Go Go.Mx Go.ChangeShapes Go.WideShapes Go.RowKit
namespace Go.Proofs.YtdgcioinbegmgaaGreatDoor
set_option maxRecDepth 1000000
noncomputable section
def expandQuotes_L : List Nat := [3, 5, 8, 16, 6, 17, 23, 24, 25, 26, 27, 28, 30, 37, 50, 38, 39, 51, 66, 52, 40, 41, 53, 29, 9, 18, 13, 10, 19, 31, 42, 43, 54, 67, 86, 36, 46, 64, 47, 48, 49, 65, 32, 45, 63, 33, 68, 87, 69, 21, 34, 35, 88, 70, 58, 57, 74, 95, 111, 112, 143, 144, 145, 113, 114, 146, 147, 166, 167, 75, 76, 96, 115, 148, 77, 97, 117, 116, 118, 120, 149, 119, 122, 152, 170, 150, 168, 151, 169, 175, 121, 78, 98, 123, 153, 171, 172, 99, 124, 154, 125, 126, 155, 127, 12, 56, 73, 94, 72, 92, 108, 93, 110, 142, 109, 133, 139, 165, 134, 160, 135, 161, 162, 136, 163, 164, 174, 137, 138, 140, 141, 55, 71, 89, 90, 104, 105, 91, 129, 156, 157, 158, 173, 176, 159, 130, 106, 107, 131, 132, 44, 59, 79, 20, 7, 14, 15, 22, 60, 80, 100, 101, 128, 102, 81, 82, 84, 103, 83, 61, 62, 85, 11]
theorem expandQuotes_clos : Tryz.prog.closure 3 = expandQuotes_L := closure_by_table Tryz.prog tabT_all (by kernel_rfl)
theorem expandQuotes_inPlace : Tryz.prog.inPlace 3 = Rows.expandQuotesRow.inPlace := inPlace_by_table Tryz.prog expandQuotes_clos tabN_all (by kernel_rfl)
theorem expandQuotes_named : Tryz.prog.varsNamed 3 = Rows.expandQuotesRow.named := varsNamed_by_table Tryz.prog expandQuotes_clos tabG_all tabE_all (by kernel_rfl)
theorem expandQuotes_unf : Tryz.prog.unfollowed 3 = true := by
  obtain ⟨c, hc⟩ : ∃ c, Tryz.f94.body = some c := ⟨_, rfl⟩
  exact unfollowed_by_table Tryz.prog expandQuotes_clos (g := 94) (by kernel_rfl) (fn := Tryz.f94) (by kernel_rfl) hc (by cases hc; kernel_rfl)
theorem expandQuotes_k0 : (Rows.expandQuotesRow.wf (OpenSpec.ofChange Rows.expandQuotesSpec)) = true := by kernel_rfl
theorem expandQuotes_k3 : (Tryz.f3.params.all (Tryz.pinned.checked.prog.readableRec ·)) = true := by kernel_rfl
theorem expandQuotes_k4 : (namedTie Tryz.pinned.checked.prog Rows.expandQuotesRow.named Rows.expandQuotesSpec.vars) = true := by kernel_rfl
theorem expandQuotes_k5 : ((Rows.expandQuotesRow.stops == [])) = true := by kernel_rfl
theorem expandQuotes_k6 : ((Tryz.pinned.checked.prog.stops == [])) = true := by kernel_rfl
theorem expandQuotes_k7 : ((Rows.expandQuotesRow.knobs == [])) = true := by kernel_rfl
theorem expandQuotes_k8 : ((Tryz.pinned.checked.prog.stopKnobs == [])) = true := by kernel_rfl
theorem expandQuotes_k9 : ((Rows.expandQuotesRow.inPlace == Tryz.pinned.checked.prog.inPlace 3)) = true := beq_iff_eq.2 expandQuotes_inPlace.symm
theorem expandQuotes_k10 : ((Rows.expandQuotesRow.unfollowed == Tryz.pinned.checked.prog.unfollowed 3)) = true := beq_iff_eq.2 expandQuotes_unf.symm
theorem expandQuotes_k11 : ((Rows.expandQuotesRow.recurses == Tryz.pinned.checked.prog.recurses 3)) = true := beq_iff_eq.2 (show true = Tryz.prog.recurses 3 by unfold Program.recurses; rw [expandQuotes_unf]; rfl)
theorem expandQuotes_k12 : ((Rows.expandQuotesRow.named == Tryz.pinned.checked.prog.varsNamed 3)) = true := beq_iff_eq.2 expandQuotes_named.symm
theorem expandQuotes_k13 : ((Rows.expandQuotesRow.maps == (Tryz.f3.params.toList ++ Rows.expandQuotesSpec.plain.varTypes Tryz.pinned.checked.prog).any (Tryz.pinned.checked.prog.mapsRec ·))) = true := by kernel_rfl
theorem expandQuotes_k14 : ((Rows.expandQuotesRow.ifaces == (Tryz.f3.params.toList ++ Rows.expandQuotesSpec.plain.varTypes Tryz.pinned.checked.prog).any (Tryz.pinned.checked.prog.ifacesRec ·))) = true := by kernel_rfl
theorem expandQuotes_k15 : ((Rows.expandQuotesRow.mapsOut == Tryz.pinned.checked.prog.mapsAmong Tryz.f3.resultTypes.toList)) = true := by kernel_rfl
theorem expandQuotes_k16 : ((Rows.expandQuotesRow.loops == (Tryz.f3.params.toList ++ Rows.expandQuotesSpec.plain.varTypes Tryz.pinned.checked.prog).any (Tryz.pinned.checked.prog.loopsFrom ·))) = true := by kernel_rfl
theorem expandQuotes_k17 : ((Rows.expandQuotesRow.wideKeys == (Tryz.f3.params.toList ++ Rows.expandQuotesSpec.plain.varTypes Tryz.pinned.checked.prog ++ Tryz.f3.resultTypes.toList).any (Tryz.pinned.checked.prog.wideKeysFrom ·))) = true := by kernel_rfl
theorem expandQuotes_k18 : (Rows.expandQuotesSpec.vars.all (Tryz.pinned.checked.prog.varReadable ·)) = true := by kernel_rfl
theorem expandQuotes_k19 : (Tryz.f3.resultTypes.all (fun t => Tryz.pinned.checked.prog.readableRec t && decide (t < Tryz.pinned.checked.prog.types.size))) = true := by kernel_rfl
theorem expandQuotes_k20 : ((Rows.expandQuotesRow.ifacesOut == Tryz.f3.resultTypes.toList.any (Tryz.pinned.checked.prog.ifacesRec ·))) = true := by kernel_rfl
theorem expandQuotes_k21 : ((Rows.expandQuotesRow.loopsOut == Tryz.f3.resultTypes.toList.any (Tryz.pinned.checked.prog.loopsFrom ·))) = true := by kernel_rfl
theorem expandQuotes_k22 : ((Rows.expandQuotesRow.plainKeys == Tryz.pinned.checked.prog.plainKeys)) = true := by kernel_rfl
theorem expandQuotes_k23 : (Rows.expandQuotesRow.shortTexts.isNone) = true := by kernel_rfl
theorem expandQuotes_k26 : ((Rows.expandQuotesRow.lifted == Tryz.pinned.checked.prog.liftsFinal)) = true := by kernel_rfl
theorem expandQuotes_k27 : ((Tryz.pinned.checked.prog.make == some Rows.expandQuotesRow.make)) = true := by kernel_rfl
theorem expandQuotes_k28 : ((Rows.expandQuotesRow.kinds == (if Rows.expandQuotesRow.domain.isEmpty then [] else Tryz.f3.params.toList.map fun t => match Tryz.pinned.checked.prog.underlying t with | some (.int k) => some k | _ => none))) = true := by kernel_rfl
theorem expandQuotes_k29 : ((Rows.expandQuotesRow.pinned == Rows.expandQuotesRow.pinnedBy)) = true := by kernel_rfl
theorem expandQuotes_k30 : ((Rows.expandQuotesRow.veiled == (Tryz.f3.params.toList ++ Rows.expandQuotesSpec.plain.varTypes Tryz.pinned.checked.prog ++ Tryz.f3.resultTypes.toList).any (Tryz.pinned.checked.prog.veiledRec ·))) = true := by kernel_rfl
theorem expandQuotes_k31 : (Rows.expandQuotesRow.veiledFits Tryz.pinned.checked.prog Tryz.f3.params.toList (Tryz.f3.params.toList ++ Rows.expandQuotesSpec.plain.varTypes Tryz.pinned.checked.prog ++ Tryz.f3.resultTypes.toList)) = true := by kernel_rfl
theorem expandQuotes_closed : joinedFacts Tryz.pinned.checked.prog 3 Tryz.f3 Rows.expandQuotesSpec Rows.expandQuotesRow = true := band (band (band (band (band (band (band (band (band (band (band (band (band (band (band (band (band (band (band (band (band (band (band (band (band (band (band (band (band (band (band (expandQuotes_k0) laidOut_ok) mapsRowed_ok) expandQuotes_k3) expandQuotes_k4) expandQuotes_k5) expandQuotes_k6) expandQuotes_k7) expandQuotes_k8) expandQuotes_k9) expandQuotes_k10) expandQuotes_k11) expandQuotes_k12) expandQuotes_k13) expandQuotes_k14) expandQuotes_k15) expandQuotes_k16) expandQuotes_k17) expandQuotes_k18) expandQuotes_k19) expandQuotes_k20) expandQuotes_k21) expandQuotes_k22) expandQuotes_k23) stopsHeard_ok) mayEnter_ok) expandQuotes_k26) expandQuotes_k27) expandQuotes_k28) expandQuotes_k29) expandQuotes_k30) expandQuotes_k31
abbrev expandQuotes_lst : List (String × DataW Unit) := Rows.expandQuotesRow.laid
theorem expandQuotes_plain : (expandQuotes_lst.all fun x => x.2.handleName?.isNone) = true := by kernel_rfl
theorem expandQuotes_noInit : Tryz.prog.inits.idxOf? 3 = none := by kernel_rfl
theorem expandQuotes_fn : Tryz.prog.funcs[3]? = some Tryz.f3 := by kernel_rfl
theorem expandQuotes_zip1 (os : Os) : ((World.laidAll Tryz.prog os expandQuotes_lst).forCall (fun _ _ => 0) ⟨#[], #[.string ByteArray.empty, .bool false], []⟩).variablesZipB Tryz.prog = true := by kernel_rfl
theorem expandQuotes_zip2 (os : Os) : ((((World.laidAll Tryz.prog os expandQuotes_lst).forCall (fun _ _ => 0) ⟨#[], #[.string ByteArray.empty, .bool false], []⟩).heap.toList.drop Tryz.prog.globals.size).take ((begin Tryz.prog (fun _ _ => 0) default).world.heap.size - Tryz.prog.globals.size) =
      (begin Tryz.prog (fun _ _ => 0) default).world.heap.toList.drop Tryz.prog.globals.size) := by kernel_rfl
theorem expandQuotes_fits (os : Os) : (World.holding Tryz.prog os ⟨#[], #[], []⟩).layFits Tryz.prog expandQuotes_lst [] = true := by kernel_rfl
theorem expandQuotes_ifaces (os : Os) : (World.holding Tryz.prog os ⟨#[], #[], []⟩).layIfaces Tryz.prog expandQuotes_lst (World.laidAll Tryz.prog os expandQuotes_lst) = true := by kernel_rfl
theorem expandQuotes_okB (os : Os) : Input.okWideB Tryz.prog ((World.laidAll Tryz.prog os expandQuotes_lst).forCall (fun _ _ => 0) ⟨#[], #[.string ByteArray.empty, .bool false], []⟩) 3 ⟨#[], #[.string ByteArray.empty, .bool false], []⟩ = true := by kernel_rfl
theorem expandQuotes_preB (os : Os) (H : Type) (enc : TypeId × Value → H) : Rows.expandQuotesSpec.preB enc Tryz.prog Tryz.f3 [] false ((World.laidAll Tryz.prog os expandQuotes_lst).forCall (fun _ _ => 0) ⟨#[], #[.string ByteArray.empty, .bool false], []⟩).memory #[.string ByteArray.empty, .bool false] 8 = true := by kernel_rfl
theorem expandQuotes_szB (os : Os) (H : Type) (enc : TypeId × Value → H) : Rows.expandQuotesSpec.sizedB enc Tryz.prog Tryz.f3 false ((World.laidAll Tryz.prog os expandQuotes_lst).forCall (fun _ _ => 0) ⟨#[], #[.string ByteArray.empty, .bool false], []⟩).memory #[.string ByteArray.empty, .bool false] 8 = true := by kernel_rfl
theorem expandQuotes_uInt : Tryz.prog.underlying 3 = some (.int .i64) := by kernel_rfl
theorem expandQuotes_uBool : Tryz.prog.underlying 4 = some .bool := by kernel_rfl
theorem expandQuotes_params : Tryz.f3.params = #[9, 4] := by kernel_rfl
theorem expandQuotes_results : Tryz.f3.resultTypes = #[4] := by kernel_rfl
theorem expandQuotes_body : ∃ c, Tryz.f3.body = some c := ⟨_, rfl⟩
theorem expandQuotes_uStr : Tryz.prog.underlying 9 = some .string := by kernel_rfl
theorem expandQuotes_lifted (os : Os) (started : os.Started) (H : Type) (enc : TypeId × Value → H) :
    ReturnsInHanded {} Tryz.checked os 3 .any (fun w args => (Rows.expandQuotesSpec.pre enc Tryz.prog Tryz.f3 Rows.expandQuotesRow.domain false w args ∧ laidMetH Tryz.prog expandQuotes_lst w) ∧ sizedMet enc Tryz.prog Tryz.f3 (OpenSpec.ofChange Rows.expandQuotesSpec) false w args)
      (Rows.expandQuotesSpec.post enc Tryz.prog Tryz.f3 false true false false) := by
  refine returnsInHanded_of_change_and (C := Tryz.checked) (X := fun w _ => laidMetH Tryz.prog expandQuotes_lst w) (fun _ _ _ hh h => h.of_heap hh) own started expandQuotes_noInit expandQuotes_fn
    (ChangeSpec.witness_shaped (enc := enc) (C := Tryz.checked) (os := os) (X := fun w _ => laidMetH Tryz.prog expandQuotes_lst w) false (World.laidAll Tryz.prog os expandQuotes_lst) #[.string ByteArray.empty, .bool false] 8 (World.laidAll_os _ _ _)
      (World.shaped_of_ZipB (expandQuotes_zip1 os) (expandQuotes_zip2 os)) (expandQuotes_okB os) (expandQuotes_preB os H enc) (expandQuotes_szB os H enc)
      (by rw [MakeChecks.laidMetH_plain _ _ _ expandQuotes_plain]; exact laidMet_laidAll _ (expandQuotes_fits os) (expandQuotes_ifaces os))) ?_
  intro W base args ds gs before hval0 hW _ _ hL _
  have hval : ∀ (j : Nat) t v, Tryz.f3.params[j]? = some t → args[j]? = some v → Value.okWide Tryz.prog W .any base t v := hval0
  have hW' := hW
  obtain ⟨p, q, hA0, hV, rfl, _, _⟩ := hW
  have hA : DataW.TrodAll enc Tryz.prog W 0 (fun _ => true) true Tryz.f3.params.toList args.toList ds p := hA0
  rw [expandQuotes_params] at hA hval
  obtain ⟨v0, v1, d0, d1, p0, p1, rfl, rfl, rfl, h0, h1⟩ := trodAll_two hA
  obtain ⟨rfl, rfl⟩ := trodVars_none hV
  obtain ⟨n0, rfl, rfl, rfl, hw0⟩ := Go.ChangeMaps.open_string expandQuotes_uStr (hval 0 9 v0 rfl rfl) h0
  obtain ⟨n1, rfl, rfl, rfl⟩ := open_bool expandQuotes_uBool (hval 1 4 v1 rfl rfl) h1
  refine (eq_calls n0 hw0 n1 (tabs W)).mono fun e W' ⟨he, hs⟩ => ?_
  refine ⟨_, he, _, _, _, [], [], [], hW', ?_, ?_, ?_, hs.keptBut _, fun h => by cases h⟩
  · rw [expandQuotes_results]
    exact trodAll_mk1 (shut_bool expandQuotes_uBool true)
  · rw [expandQuotes_params]
    exact trodAll_mk2 (Go.ChangeMaps.shut_string expandQuotes_uStr hw0) (shut_bool expandQuotes_uBool n1)
  · rfl
theorem expandQuotes_named1 : Tryz.pinned.checked.prog.funcNamed Rows.expandQuotesRow.func = some 3 := by kernel_rfl
theorem expandQuotes_wrapper : Tryz.f3.isWrapper Tryz.pinned.checked.prog Rows.expandQuotesRow.wrapper Rows.expandQuotesRow.mainSum := by unfold Func.isWrapper; first | (rw [if_pos (by decide +kernel)]; kernel_rfl) | (rw [if_neg (by decide +kernel)]; exact ⟨rfl, rfl⟩)
theorem expandQuotes_inst : Tryz.f3.isInstance Tryz.pinned.checked.prog Rows.expandQuotesRow.origin Rows.expandQuotesRow.targs := of_decide_eq_true (by kernel_rfl)
theorem expandQuotes_holds : Rows.ExpandQuotesSaid :=
  OpenClaim.holds_of_wide 3 Tryz.f3 rfl rfl rfl rfl rfl rfl rfl ⟨rfl, rfl, rfl, rfl, rfl⟩ rfl rfl rfl rfl rfl expandQuotes_named1 expandQuotes_fn expandQuotes_closed expandQuotes_inst expandQuotes_wrapper
    (fun os started H enc _ => expandQuotes_lifted os started H enc)
end
end Go.Proofs.YtdgcioinbegmgaaGreatDoor
