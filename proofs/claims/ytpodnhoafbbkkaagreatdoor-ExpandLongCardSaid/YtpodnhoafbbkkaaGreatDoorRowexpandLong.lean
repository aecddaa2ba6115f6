/-
  The row of expandLong: for every input the law returns true.
-/
import Derived.Test.YtpodnhoafbbkkaaGreatDoorRunexpandLong
import Derived.Test.YtpodnhoafbbkkaaGreatDoorXRowK6
import Derived.OpenShut
import Derived.Carry
import Derived.Lay
open Go Go.Mx Go.ChangeShapes Go.WideShapes Go.RowKit
namespace Go.Proofs.YtpodnhoafbbkkaaGreatDoor
set_option maxRecDepth 1000000
noncomputable section
def expandLong_L : List Nat := [3, 4, 6, 12, 19, 13, 20, 21, 22, 23, 24, 25, 27, 34, 45, 35, 36, 46, 55, 47, 37, 38, 48, 26, 7, 14, 8, 15, 28, 39, 49, 50, 56, 65, 85, 33, 41, 53, 42, 43, 44, 54, 29, 40, 52, 30, 66, 86, 67, 17, 31, 32, 87, 68, 60, 59, 72, 94, 110, 111, 142, 143, 144, 112, 113, 145, 146, 165, 166, 73, 74, 95, 114, 147, 75, 96, 116, 115, 117, 119, 148, 118, 121, 151, 169, 149, 167, 150, 168, 174, 120, 76, 97, 122, 152, 170, 171, 98, 123, 153, 124, 125, 154, 126, 77, 58, 71, 93, 70, 91, 107, 92, 109, 141, 108, 132, 138, 164, 133, 159, 134, 160, 161, 135, 162, 163, 173, 136, 137, 139, 140, 57, 69, 88, 89, 103, 104, 90, 128, 155, 156, 157, 172, 175, 158, 129, 105, 106, 130, 131, 51, 61, 78, 16, 5, 10, 11, 18, 62, 79, 99, 100, 127, 101, 80, 81, 83, 102, 82, 63, 64, 84, 9]
theorem expandLong_clos : Tryz.prog.closure 3 = expandLong_L := closure_by_table Tryz.prog tabT_all (by kernel_rfl)
theorem expandLong_inPlace : Tryz.prog.inPlace 3 = Rows.expandLongRow.inPlace := inPlace_by_table Tryz.prog expandLong_clos tabN_all (by kernel_rfl)
theorem expandLong_named : Tryz.prog.varsNamed 3 = Rows.expandLongRow.named := varsNamed_by_table Tryz.prog expandLong_clos tabG_all tabE_all (by kernel_rfl)
theorem expandLong_unf : Tryz.prog.unfollowed 3 = true := by
  obtain ⟨c, hc⟩ : ∃ c, Tryz.f93.body = some c := ⟨_, rfl⟩
  exact unfollowed_by_table Tryz.prog expandLong_clos (g := 93) (by kernel_rfl) (fn := Tryz.f93) (by kernel_rfl) hc (by cases hc; kernel_rfl)
theorem expandLong_k0 : (Rows.expandLongRow.wf (OpenSpec.ofChange Rows.expandLongSpec)) = true := by kernel_rfl
theorem expandLong_k3 : (Tryz.f3.params.all (Tryz.pinned.checked.prog.readableRec ·)) = true := by kernel_rfl
theorem expandLong_k4 : (namedTie Tryz.pinned.checked.prog Rows.expandLongRow.named Rows.expandLongSpec.vars) = true := by kernel_rfl
theorem expandLong_k5 : ((Rows.expandLongRow.stops == [])) = true := by kernel_rfl
theorem expandLong_k6 : ((Tryz.pinned.checked.prog.stops == [])) = true := by kernel_rfl
theorem expandLong_k7 : ((Rows.expandLongRow.knobs == [])) = true := by kernel_rfl
theorem expandLong_k8 : ((Tryz.pinned.checked.prog.stopKnobs == [])) = true := by kernel_rfl
theorem expandLong_k9 : ((Rows.expandLongRow.inPlace == Tryz.pinned.checked.prog.inPlace 3)) = true := beq_iff_eq.2 expandLong_inPlace.symm
theorem expandLong_k10 : ((Rows.expandLongRow.unfollowed == Tryz.pinned.checked.prog.unfollowed 3)) = true := beq_iff_eq.2 expandLong_unf.symm
theorem expandLong_k11 : ((Rows.expandLongRow.recurses == Tryz.pinned.checked.prog.recurses 3)) = true := beq_iff_eq.2 (show true = Tryz.prog.recurses 3 by unfold Program.recurses; rw [expandLong_unf]; rfl)
theorem expandLong_k12 : ((Rows.expandLongRow.named == Tryz.pinned.checked.prog.varsNamed 3)) = true := beq_iff_eq.2 expandLong_named.symm
theorem expandLong_k13 : ((Rows.expandLongRow.maps == (Tryz.f3.params.toList ++ Rows.expandLongSpec.plain.varTypes Tryz.pinned.checked.prog).any (Tryz.pinned.checked.prog.mapsRec ·))) = true := by kernel_rfl
theorem expandLong_k14 : ((Rows.expandLongRow.ifaces == (Tryz.f3.params.toList ++ Rows.expandLongSpec.plain.varTypes Tryz.pinned.checked.prog).any (Tryz.pinned.checked.prog.ifacesRec ·))) = true := by kernel_rfl
theorem expandLong_k15 : ((Rows.expandLongRow.mapsOut == Tryz.pinned.checked.prog.mapsAmong Tryz.f3.resultTypes.toList)) = true := by kernel_rfl
theorem expandLong_k16 : ((Rows.expandLongRow.loops == (Tryz.f3.params.toList ++ Rows.expandLongSpec.plain.varTypes Tryz.pinned.checked.prog).any (Tryz.pinned.checked.prog.loopsFrom ·))) = true := by kernel_rfl
theorem expandLong_k17 : ((Rows.expandLongRow.wideKeys == (Tryz.f3.params.toList ++ Rows.expandLongSpec.plain.varTypes Tryz.pinned.checked.prog ++ Tryz.f3.resultTypes.toList).any (Tryz.pinned.checked.prog.wideKeysFrom ·))) = true := by kernel_rfl
theorem expandLong_k18 : (Rows.expandLongSpec.vars.all (Tryz.pinned.checked.prog.varReadable ·)) = true := by kernel_rfl
theorem expandLong_k19 : (Tryz.f3.resultTypes.all (fun t => Tryz.pinned.checked.prog.readableRec t && decide (t < Tryz.pinned.checked.prog.types.size))) = true := by kernel_rfl
theorem expandLong_k20 : ((Rows.expandLongRow.ifacesOut == Tryz.f3.resultTypes.toList.any (Tryz.pinned.checked.prog.ifacesRec ·))) = true := by kernel_rfl
theorem expandLong_k21 : ((Rows.expandLongRow.loopsOut == Tryz.f3.resultTypes.toList.any (Tryz.pinned.checked.prog.loopsFrom ·))) = true := by kernel_rfl
theorem expandLong_k22 : ((Rows.expandLongRow.plainKeys == Tryz.pinned.checked.prog.plainKeys)) = true := by kernel_rfl
theorem expandLong_k23 : (Rows.expandLongRow.shortTexts.isNone) = true := by kernel_rfl
theorem expandLong_k26 : ((Rows.expandLongRow.lifted == Tryz.pinned.checked.prog.liftsFinal)) = true := by kernel_rfl
theorem expandLong_k27 : ((Tryz.pinned.checked.prog.make == some Rows.expandLongRow.make)) = true := by kernel_rfl
theorem expandLong_k28 : ((Rows.expandLongRow.kinds == (if Rows.expandLongRow.domain.isEmpty then [] else Tryz.f3.params.toList.map fun t => match Tryz.pinned.checked.prog.underlying t with | some (.int k) => some k | _ => none))) = true := by kernel_rfl
theorem expandLong_k29 : ((Rows.expandLongRow.pinned == Rows.expandLongRow.pinnedBy)) = true := by kernel_rfl
theorem expandLong_k30 : ((Rows.expandLongRow.veiled == (Tryz.f3.params.toList ++ Rows.expandLongSpec.plain.varTypes Tryz.pinned.checked.prog ++ Tryz.f3.resultTypes.toList).any (Tryz.pinned.checked.prog.veiledRec ·))) = true := by kernel_rfl
theorem expandLong_k31 : (Rows.expandLongRow.veiledFits Tryz.pinned.checked.prog Tryz.f3.params.toList (Tryz.f3.params.toList ++ Rows.expandLongSpec.plain.varTypes Tryz.pinned.checked.prog ++ Tryz.f3.resultTypes.toList)) = true := by kernel_rfl
theorem expandLong_closed : joinedFacts Tryz.pinned.checked.prog 3 Tryz.f3 Rows.expandLongSpec Rows.expandLongRow = true := band (band (band (band (band (band (band (band (band (band (band (band (band (band (band (band (band (band (band (band (band (band (band (band (band (band (band (band (band (band (band (expandLong_k0) laidOut_ok) mapsRowed_ok) expandLong_k3) expandLong_k4) expandLong_k5) expandLong_k6) expandLong_k7) expandLong_k8) expandLong_k9) expandLong_k10) expandLong_k11) expandLong_k12) expandLong_k13) expandLong_k14) expandLong_k15) expandLong_k16) expandLong_k17) expandLong_k18) expandLong_k19) expandLong_k20) expandLong_k21) expandLong_k22) expandLong_k23) stopsHeard_ok) mayEnter_ok) expandLong_k26) expandLong_k27) expandLong_k28) expandLong_k29) expandLong_k30) expandLong_k31
abbrev expandLong_lst : List (String × DataW Unit) := Rows.expandLongRow.laid
theorem expandLong_plain : (expandLong_lst.all fun x => x.2.handleName?.isNone) = true := by kernel_rfl
theorem expandLong_noInit : Tryz.prog.inits.idxOf? 3 = none := by kernel_rfl
theorem expandLong_fn : Tryz.prog.funcs[3]? = some Tryz.f3 := by kernel_rfl
theorem expandLong_zip1 (os : Os) : ((World.laidAll Tryz.prog os expandLong_lst).forCall (fun _ _ => 0) ⟨#[], #[.int .i64 (-1), .int .i64 0], []⟩).variablesZipB Tryz.prog = true := by kernel_rfl
theorem expandLong_zip2 (os : Os) : ((((World.laidAll Tryz.prog os expandLong_lst).forCall (fun _ _ => 0) ⟨#[], #[.int .i64 (-1), .int .i64 0], []⟩).heap.toList.drop Tryz.prog.globals.size).take ((begin Tryz.prog (fun _ _ => 0) default).world.heap.size - Tryz.prog.globals.size) =
      (begin Tryz.prog (fun _ _ => 0) default).world.heap.toList.drop Tryz.prog.globals.size) := by kernel_rfl
theorem expandLong_fits (os : Os) : (World.holding Tryz.prog os ⟨#[], #[], []⟩).layFits Tryz.prog expandLong_lst [] = true := by kernel_rfl
theorem expandLong_ifaces (os : Os) : (World.holding Tryz.prog os ⟨#[], #[], []⟩).layIfaces Tryz.prog expandLong_lst (World.laidAll Tryz.prog os expandLong_lst) = true := by kernel_rfl
theorem expandLong_okB (os : Os) : Input.okWideB Tryz.prog ((World.laidAll Tryz.prog os expandLong_lst).forCall (fun _ _ => 0) ⟨#[], #[.int .i64 (-1), .int .i64 0], []⟩) 3 ⟨#[], #[.int .i64 (-1), .int .i64 0], []⟩ = true := by kernel_rfl
theorem expandLong_preB (os : Os) (H : Type) (enc : TypeId × Value → H) : Rows.expandLongSpec.preB enc Tryz.prog Tryz.f3 [] false ((World.laidAll Tryz.prog os expandLong_lst).forCall (fun _ _ => 0) ⟨#[], #[.int .i64 (-1), .int .i64 0], []⟩).memory #[.int .i64 (-1), .int .i64 0] 8 = true := by kernel_rfl
theorem expandLong_szB (os : Os) (H : Type) (enc : TypeId × Value → H) : Rows.expandLongSpec.sizedB enc Tryz.prog Tryz.f3 false ((World.laidAll Tryz.prog os expandLong_lst).forCall (fun _ _ => 0) ⟨#[], #[.int .i64 (-1), .int .i64 0], []⟩).memory #[.int .i64 (-1), .int .i64 0] 8 = true := by kernel_rfl
theorem expandLong_uInt : Tryz.prog.underlying 3 = some (.int .i64) := by kernel_rfl
theorem expandLong_uBool : Tryz.prog.underlying 4 = some .bool := by kernel_rfl
theorem expandLong_params : Tryz.f3.params = #[3, 3] := by kernel_rfl
theorem expandLong_results : Tryz.f3.resultTypes = #[4] := by kernel_rfl
theorem expandLong_body : ∃ c, Tryz.f3.body = some c := ⟨_, rfl⟩
theorem expandLong_lifted (os : Os) (started : os.Started) (H : Type) (enc : TypeId × Value → H) :
    ReturnsInHanded {} Tryz.checked os 3 .any (fun w args => (Rows.expandLongSpec.pre enc Tryz.prog Tryz.f3 Rows.expandLongRow.domain false w args ∧ laidMetH Tryz.prog expandLong_lst w) ∧ sizedMet enc Tryz.prog Tryz.f3 (OpenSpec.ofChange Rows.expandLongSpec) false w args)
      (Rows.expandLongSpec.post enc Tryz.prog Tryz.f3 false true false false) := by
  refine returnsInHanded_of_change_and (C := Tryz.checked) (X := fun w _ => laidMetH Tryz.prog expandLong_lst w) (fun _ _ _ hh h => h.of_heap hh) own started expandLong_noInit expandLong_fn
    (ChangeSpec.witness_shaped (enc := enc) (C := Tryz.checked) (os := os) (X := fun w _ => laidMetH Tryz.prog expandLong_lst w) false (World.laidAll Tryz.prog os expandLong_lst) #[.int .i64 (-1), .int .i64 0] 8 (World.laidAll_os _ _ _)
      (World.shaped_of_ZipB (expandLong_zip1 os) (expandLong_zip2 os)) (expandLong_okB os) (expandLong_preB os H enc) (expandLong_szB os H enc)
      (by rw [MakeChecks.laidMetH_plain _ _ _ expandLong_plain]; exact laidMet_laidAll _ (expandLong_fits os) (expandLong_ifaces os))) ?_
  intro W base args ds gs before hval0 hW _ _ hL _
  have hval : ∀ (j : Nat) t v, Tryz.f3.params[j]? = some t → args[j]? = some v → Value.okWide Tryz.prog W .any base t v := hval0
  have hW' := hW
  obtain ⟨p, q, hA0, hV, rfl, _, _⟩ := hW
  have hA : DataW.TrodAll enc Tryz.prog W 0 (fun _ => true) true Tryz.f3.params.toList args.toList ds p := hA0
  rw [expandLong_params] at hA hval
  obtain ⟨v0, v1, d0, d1, p0, p1, rfl, rfl, rfl, h0, h1⟩ := trodAll_two hA
  obtain ⟨rfl, rfl⟩ := trodVars_none hV
  obtain ⟨n0, rfl, rfl, rfl, hw0⟩ := open_int expandLong_uInt (hval 0 3 v0 rfl rfl) h0
  obtain ⟨n1, rfl, rfl, rfl, hw1⟩ := open_int expandLong_uInt (hval 1 3 v1 rfl rfl) h1
  refine (xl_calls n0 n1 (tabs W)).mono fun e W' ⟨he, hs⟩ => ?_
  refine ⟨_, he, _, _, _, [], [], [], hW', ?_, ?_, ?_, hs.keptBut _, fun h => by cases h⟩
  · rw [expandLong_results]
    exact trodAll_mk1 (shut_bool expandLong_uBool true)
  · rw [expandLong_params]
    exact trodAll_mk2 (shut_int expandLong_uInt hw0) (shut_int expandLong_uInt hw1)
  · rfl
theorem expandLong_named1 : Tryz.pinned.checked.prog.funcNamed Rows.expandLongRow.func = some 3 := by kernel_rfl
theorem expandLong_wrapper : Tryz.f3.isWrapper Tryz.pinned.checked.prog Rows.expandLongRow.wrapper Rows.expandLongRow.mainSum := by unfold Func.isWrapper; first | (rw [if_pos (by decide +kernel)]; kernel_rfl) | (rw [if_neg (by decide +kernel)]; exact ⟨rfl, rfl⟩)
theorem expandLong_inst : Tryz.f3.isInstance Tryz.pinned.checked.prog Rows.expandLongRow.origin Rows.expandLongRow.targs := of_decide_eq_true (by kernel_rfl)
theorem expandLong_holds : Rows.ExpandLongSaid :=
  OpenClaim.holds_of_wide 3 Tryz.f3 rfl rfl rfl rfl rfl rfl rfl ⟨rfl, rfl, rfl, rfl, rfl⟩ rfl rfl rfl rfl rfl expandLong_named1 expandLong_fn expandLong_closed expandLong_inst expandLong_wrapper
    (fun os started H enc _ => expandLong_lifted os started H enc)
end
end Go.Proofs.YtpodnhoafbbkkaaGreatDoor
