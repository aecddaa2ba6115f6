/-
  The row of expandNone: for every input the law returns true.
-/
import Derived.Test.YtdgcioinbegmgaaGreatDoorRunexpandNone
import Derived.Test.YtdgcioinbegmgaaGreatDoorXRowK3
import Derived.OpenShut
import Derived.Carry
import Derived.Lay
import Derived.ChangeMaps5
open Go Go.Mx Go.ChangeShapes Go.WideShapes Go.RowKit
namespace Go.Proofs.YtdgcioinbegmgaaGreatDoor
set_option maxRecDepth 1000000
noncomputable section
def expandNone_L : List Nat := [4, 5, 8, 16, 6, 17, 23, 24, 25, 26, 27, 28, 30, 37, 50, 38, 39, 51, 66, 52, 40, 41, 53, 29, 9, 18, 13, 10, 19, 31, 42, 43, 54, 67, 86, 36, 46, 64, 47, 48, 49, 65, 32, 45, 63, 33, 68, 87, 69, 21, 34, 35, 88, 70, 58, 57, 74, 95, 111, 112, 143, 144, 145, 113, 114, 146, 147, 166, 167, 75, 76, 96, 115, 148, 77, 97, 117, 116, 118, 120, 149, 119, 122, 152, 170, 150, 168, 151, 169, 175, 121, 78, 98, 123, 153, 171, 172, 99, 124, 154, 125, 126, 155, 127, 12, 56, 73, 94, 72, 92, 108, 93, 110, 142, 109, 133, 139, 165, 134, 160, 135, 161, 162, 136, 163, 164, 174, 137, 138, 140, 141, 55, 71, 89, 90, 104, 105, 91, 129, 156, 157, 158, 173, 176, 159, 130, 106, 107, 131, 132, 44, 59, 79, 20, 7, 14, 15, 22, 60, 80, 100, 101, 128, 102, 81, 82, 84, 103, 83, 61, 62, 85, 11]
theorem expandNone_clos : Tryz.prog.closure 4 = expandNone_L := closure_by_table Tryz.prog tabT_all (by kernel_rfl)
theorem expandNone_inPlace : Tryz.prog.inPlace 4 = Rows.expandNoneRow.inPlace := inPlace_by_table Tryz.prog expandNone_clos tabN_all (by kernel_rfl)
theorem expandNone_named : Tryz.prog.varsNamed 4 = Rows.expandNoneRow.named := varsNamed_by_table Tryz.prog expandNone_clos tabG_all tabE_all (by kernel_rfl)
theorem expandNone_unf : Tryz.prog.unfollowed 4 = true := by
  obtain ⟨c, hc⟩ : ∃ c, Tryz.f94.body = some c := ⟨_, rfl⟩
  exact unfollowed_by_table Tryz.prog expandNone_clos (g := 94) (by kernel_rfl) (fn := Tryz.f94) (by kernel_rfl) hc (by cases hc; kernel_rfl)
theorem expandNone_k0 : (Rows.expandNoneRow.wf (OpenSpec.ofChange Rows.expandNoneSpec)) = true := by kernel_rfl
theorem expandNone_k3 : (Tryz.f4.params.all (Tryz.pinned.checked.prog.readableRec ·)) = true := by kernel_rfl
theorem expandNone_k4 : (namedTie Tryz.pinned.checked.prog Rows.expandNoneRow.named Rows.expandNoneSpec.vars) = true := by kernel_rfl
theorem expandNone_k5 : ((Rows.expandNoneRow.stops == [])) = true := by kernel_rfl
theorem expandNone_k6 : ((Tryz.pinned.checked.prog.stops == [])) = true := by kernel_rfl
theorem expandNone_k7 : ((Rows.expandNoneRow.knobs == [])) = true := by kernel_rfl
theorem expandNone_k8 : ((Tryz.pinned.checked.prog.stopKnobs == [])) = true := by kernel_rfl
theorem expandNone_k9 : ((Rows.expandNoneRow.inPlace == Tryz.pinned.checked.prog.inPlace 4)) = true := beq_iff_eq.2 expandNone_inPlace.symm
theorem expandNone_k10 : ((Rows.expandNoneRow.unfollowed == Tryz.pinned.checked.prog.unfollowed 4)) = true := beq_iff_eq.2 expandNone_unf.symm
theorem expandNone_k11 : ((Rows.expandNoneRow.recurses == Tryz.pinned.checked.prog.recurses 4)) = true := beq_iff_eq.2 (show true = Tryz.prog.recurses 4 by unfold Program.recurses; rw [expandNone_unf]; rfl)
theorem expandNone_k12 : ((Rows.expandNoneRow.named == Tryz.pinned.checked.prog.varsNamed 4)) = true := beq_iff_eq.2 expandNone_named.symm
theorem expandNone_k13 : ((Rows.expandNoneRow.maps == (Tryz.f4.params.toList ++ Rows.expandNoneSpec.plain.varTypes Tryz.pinned.checked.prog).any (Tryz.pinned.checked.prog.mapsRec ·))) = true := by kernel_rfl
theorem expandNone_k14 : ((Rows.expandNoneRow.ifaces == (Tryz.f4.params.toList ++ Rows.expandNoneSpec.plain.varTypes Tryz.pinned.checked.prog).any (Tryz.pinned.checked.prog.ifacesRec ·))) = true := by kernel_rfl
theorem expandNone_k15 : ((Rows.expandNoneRow.mapsOut == Tryz.pinned.checked.prog.mapsAmong Tryz.f4.resultTypes.toList)) = true := by kernel_rfl
theorem expandNone_k16 : ((Rows.expandNoneRow.loops == (Tryz.f4.params.toList ++ Rows.expandNoneSpec.plain.varTypes Tryz.pinned.checked.prog).any (Tryz.pinned.checked.prog.loopsFrom ·))) = true := by kernel_rfl
theorem expandNone_k17 : ((Rows.expandNoneRow.wideKeys == (Tryz.f4.params.toList ++ Rows.expandNoneSpec.plain.varTypes Tryz.pinned.checked.prog ++ Tryz.f4.resultTypes.toList).any (Tryz.pinned.checked.prog.wideKeysFrom ·))) = true := by kernel_rfl
theorem expandNone_k18 : (Rows.expandNoneSpec.vars.all (Tryz.pinned.checked.prog.varReadable ·)) = true := by kernel_rfl
theorem expandNone_k19 : (Tryz.f4.resultTypes.all (fun t => Tryz.pinned.checked.prog.readableRec t && decide (t < Tryz.pinned.checked.prog.types.size))) = true := by kernel_rfl
theorem expandNone_k20 : ((Rows.expandNoneRow.ifacesOut == Tryz.f4.resultTypes.toList.any (Tryz.pinned.checked.prog.ifacesRec ·))) = true := by kernel_rfl
theorem expandNone_k21 : ((Rows.expandNoneRow.loopsOut == Tryz.f4.resultTypes.toList.any (Tryz.pinned.checked.prog.loopsFrom ·))) = true := by kernel_rfl
theorem expandNone_k22 : ((Rows.expandNoneRow.plainKeys == Tryz.pinned.checked.prog.plainKeys)) = true := by kernel_rfl
theorem expandNone_k23 : (Rows.expandNoneRow.shortTexts.isNone) = true := by kernel_rfl
theorem expandNone_k26 : ((Rows.expandNoneRow.lifted == Tryz.pinned.checked.prog.liftsFinal)) = true := by kernel_rfl
theorem expandNone_k27 : ((Tryz.pinned.checked.prog.make == some Rows.expandNoneRow.make)) = true := by kernel_rfl
theorem expandNone_k28 : ((Rows.expandNoneRow.kinds == (if Rows.expandNoneRow.domain.isEmpty then [] else Tryz.f4.params.toList.map fun t => match Tryz.pinned.checked.prog.underlying t with | some (.int k) => some k | _ => none))) = true := by kernel_rfl
theorem expandNone_k29 : ((Rows.expandNoneRow.pinned == Rows.expandNoneRow.pinnedBy)) = true := by kernel_rfl
theorem expandNone_k30 : ((Rows.expandNoneRow.veiled == (Tryz.f4.params.toList ++ Rows.expandNoneSpec.plain.varTypes Tryz.pinned.checked.prog ++ Tryz.f4.resultTypes.toList).any (Tryz.pinned.checked.prog.veiledRec ·))) = true := by kernel_rfl
theorem expandNone_k31 : (Rows.expandNoneRow.veiledFits Tryz.pinned.checked.prog Tryz.f4.params.toList (Tryz.f4.params.toList ++ Rows.expandNoneSpec.plain.varTypes Tryz.pinned.checked.prog ++ Tryz.f4.resultTypes.toList)) = true := by kernel_rfl
theorem expandNone_closed : joinedFacts Tryz.pinned.checked.prog 4 Tryz.f4 Rows.expandNoneSpec Rows.expandNoneRow = true := band (band (band (band (band (band (band (band (band (band (band (band (band (band (band (band (band (band (band (band (band (band (band (band (band (band (band (band (band (band (band (expandNone_k0) laidOut_ok) mapsRowed_ok) expandNone_k3) expandNone_k4) expandNone_k5) expandNone_k6) expandNone_k7) expandNone_k8) expandNone_k9) expandNone_k10) expandNone_k11) expandNone_k12) expandNone_k13) expandNone_k14) expandNone_k15) expandNone_k16) expandNone_k17) expandNone_k18) expandNone_k19) expandNone_k20) expandNone_k21) expandNone_k22) expandNone_k23) stopsHeard_ok) mayEnter_ok) expandNone_k26) expandNone_k27) expandNone_k28) expandNone_k29) expandNone_k30) expandNone_k31
abbrev expandNone_lst : List (String × DataW Unit) := Rows.expandNoneRow.laid
theorem expandNone_plain : (expandNone_lst.all fun x => x.2.handleName?.isNone) = true := by kernel_rfl
theorem expandNone_noInit : Tryz.prog.inits.idxOf? 4 = none := by kernel_rfl
theorem expandNone_fn : Tryz.prog.funcs[4]? = some Tryz.f4 := by kernel_rfl
theorem expandNone_zip1 (os : Os) : ((World.laidAll Tryz.prog os expandNone_lst).forCall (fun _ _ => 0) ⟨#[], #[.int .i64 (-1), .string ByteArray.empty], []⟩).variablesZipB Tryz.prog = true := by kernel_rfl
theorem expandNone_zip2 (os : Os) : ((((World.laidAll Tryz.prog os expandNone_lst).forCall (fun _ _ => 0) ⟨#[], #[.int .i64 (-1), .string ByteArray.empty], []⟩).heap.toList.drop Tryz.prog.globals.size).take ((begin Tryz.prog (fun _ _ => 0) default).world.heap.size - Tryz.prog.globals.size) =
      (begin Tryz.prog (fun _ _ => 0) default).world.heap.toList.drop Tryz.prog.globals.size) := by kernel_rfl
theorem expandNone_fits (os : Os) : (World.holding Tryz.prog os ⟨#[], #[], []⟩).layFits Tryz.prog expandNone_lst [] = true := by kernel_rfl
theorem expandNone_ifaces (os : Os) : (World.holding Tryz.prog os ⟨#[], #[], []⟩).layIfaces Tryz.prog expandNone_lst (World.laidAll Tryz.prog os expandNone_lst) = true := by kernel_rfl
theorem expandNone_okB (os : Os) : Input.okWideB Tryz.prog ((World.laidAll Tryz.prog os expandNone_lst).forCall (fun _ _ => 0) ⟨#[], #[.int .i64 (-1), .string ByteArray.empty], []⟩) 4 ⟨#[], #[.int .i64 (-1), .string ByteArray.empty], []⟩ = true := by kernel_rfl
theorem expandNone_preB (os : Os) (H : Type) (enc : TypeId × Value → H) : Rows.expandNoneSpec.preB enc Tryz.prog Tryz.f4 [] false ((World.laidAll Tryz.prog os expandNone_lst).forCall (fun _ _ => 0) ⟨#[], #[.int .i64 (-1), .string ByteArray.empty], []⟩).memory #[.int .i64 (-1), .string ByteArray.empty] 8 = true := by kernel_rfl
theorem expandNone_szB (os : Os) (H : Type) (enc : TypeId × Value → H) : Rows.expandNoneSpec.sizedB enc Tryz.prog Tryz.f4 false ((World.laidAll Tryz.prog os expandNone_lst).forCall (fun _ _ => 0) ⟨#[], #[.int .i64 (-1), .string ByteArray.empty], []⟩).memory #[.int .i64 (-1), .string ByteArray.empty] 8 = true := by kernel_rfl
theorem expandNone_uInt : Tryz.prog.underlying 3 = some (.int .i64) := by kernel_rfl
theorem expandNone_uBool : Tryz.prog.underlying 4 = some .bool := by kernel_rfl
theorem expandNone_params : Tryz.f4.params = #[3, 9] := by kernel_rfl
theorem expandNone_results : Tryz.f4.resultTypes = #[4] := by kernel_rfl
theorem expandNone_body : ∃ c, Tryz.f4.body = some c := ⟨_, rfl⟩
theorem expandNone_uStr : Tryz.prog.underlying 9 = some .string := by kernel_rfl
theorem expandNone_lifted (os : Os) (started : os.Started) (H : Type) (enc : TypeId × Value → H) :
    ReturnsInHanded {} Tryz.checked os 4 .any (fun w args => (Rows.expandNoneSpec.pre enc Tryz.prog Tryz.f4 Rows.expandNoneRow.domain false w args ∧ laidMetH Tryz.prog expandNone_lst w) ∧ sizedMet enc Tryz.prog Tryz.f4 (OpenSpec.ofChange Rows.expandNoneSpec) false w args)
      (Rows.expandNoneSpec.post enc Tryz.prog Tryz.f4 false true false false) := by
  refine returnsInHanded_of_change_and (C := Tryz.checked) (X := fun w _ => laidMetH Tryz.prog expandNone_lst w) (fun _ _ _ hh h => h.of_heap hh) own started expandNone_noInit expandNone_fn
    (ChangeSpec.witness_shaped (enc := enc) (C := Tryz.checked) (os := os) (X := fun w _ => laidMetH Tryz.prog expandNone_lst w) false (World.laidAll Tryz.prog os expandNone_lst) #[.int .i64 (-1), .string ByteArray.empty] 8 (World.laidAll_os _ _ _)
      (World.shaped_of_ZipB (expandNone_zip1 os) (expandNone_zip2 os)) (expandNone_okB os) (expandNone_preB os H enc) (expandNone_szB os H enc)
      (by rw [MakeChecks.laidMetH_plain _ _ _ expandNone_plain]; exact laidMet_laidAll _ (expandNone_fits os) (expandNone_ifaces os))) ?_
  intro W base args ds gs before hval0 hW _ _ hL _
  have hval : ∀ (j : Nat) t v, Tryz.f4.params[j]? = some t → args[j]? = some v → Value.okWide Tryz.prog W .any base t v := hval0
  have hW' := hW
  obtain ⟨p, q, hA0, hV, rfl, _, _⟩ := hW
  have hA : DataW.TrodAll enc Tryz.prog W 0 (fun _ => true) true Tryz.f4.params.toList args.toList ds p := hA0
  rw [expandNone_params] at hA hval
  obtain ⟨v0, v1, d0, d1, p0, p1, rfl, rfl, rfl, h0, h1⟩ := trodAll_two hA
  obtain ⟨rfl, rfl⟩ := trodVars_none hV
  obtain ⟨n0, rfl, rfl, rfl, hw0⟩ := open_int expandNone_uInt (hval 0 3 v0 rfl rfl) h0
  obtain ⟨n1, rfl, rfl, rfl, hw1⟩ := Go.ChangeMaps.open_string expandNone_uStr (hval 1 9 v1 rfl rfl) h1
  refine (en_calls n0 n1 hw1 (tabs W)).mono fun e W' ⟨he, hs⟩ => ?_
  refine ⟨_, he, _, _, _, [], [], [], hW', ?_, ?_, ?_, hs.keptBut _, fun h => by cases h⟩
  · rw [expandNone_results]
    exact trodAll_mk1 (shut_bool expandNone_uBool true)
  · rw [expandNone_params]
    exact trodAll_mk2 (shut_int expandNone_uInt hw0) (Go.ChangeMaps.shut_string expandNone_uStr hw1)
  · rfl
theorem expandNone_named1 : Tryz.pinned.checked.prog.funcNamed Rows.expandNoneRow.func = some 4 := by kernel_rfl
theorem expandNone_wrapper : Tryz.f4.isWrapper Tryz.pinned.checked.prog Rows.expandNoneRow.wrapper Rows.expandNoneRow.mainSum := by unfold Func.isWrapper; first | (rw [if_pos (by decide +kernel)]; kernel_rfl) | (rw [if_neg (by decide +kernel)]; exact ⟨rfl, rfl⟩)
theorem expandNone_inst : Tryz.f4.isInstance Tryz.pinned.checked.prog Rows.expandNoneRow.origin Rows.expandNoneRow.targs := of_decide_eq_true (by kernel_rfl)
theorem expandNone_holds : Rows.ExpandNoneSaid :=
  OpenClaim.holds_of_wide 4 Tryz.f4 rfl rfl rfl rfl rfl rfl rfl ⟨rfl, rfl, rfl, rfl, rfl⟩ rfl rfl rfl rfl rfl expandNone_named1 expandNone_fn expandNone_closed expandNone_inst expandNone_wrapper
    (fun os started H enc _ => expandNone_lifted os started H enc)
end
end Go.Proofs.YtdgcioinbegmgaaGreatDoor
