/-
  The row of expandDefaults: for every input the law returns true.
-/
import Derived.Test.YtfmcnkepidedpaaGreatDoorRunexpandDefaults
import Derived.Test.YtfmcnkepidedpaaGreatDoorXRowK6
import Derived.OpenShut
import Derived.Carry
import Derived.Lay
import Derived.ChangeMaps5
open Go Go.Mx Go.ChangeShapes Go.WideShapes Go.RowKit
namespace Go.Proofs.YtfmcnkepidedpaaGreatDoor
set_option maxRecDepth 1000000
noncomputable section
def expandDefaults_L : List Nat := [3, 5, 8, 18, 6, 19, 25, 26, 27, 28, 29, 30, 32, 39, 50, 40, 41, 51, 60, 52, 42, 43, 53, 31, 9, 20, 10, 21, 33, 44, 54, 55, 61, 70, 89, 38, 46, 58, 47, 48, 49, 59, 34, 45, 57, 35, 71, 90, 72, 23, 36, 37, 91, 73, 65, 64, 77, 98, 114, 115, 146, 147, 148, 116, 117, 149, 150, 169, 170, 78, 79, 99, 118, 151, 80, 100, 120, 119, 121, 123, 152, 122, 125, 155, 173, 153, 171, 154, 172, 178, 124, 81, 101, 126, 156, 174, 175, 102, 127, 157, 128, 129, 158, 130, 11, 63, 76, 97, 75, 95, 111, 96, 113, 145, 112, 136, 142, 168, 137, 163, 138, 164, 165, 139, 166, 167, 177, 140, 141, 143, 144, 62, 74, 92, 93, 107, 108, 94, 132, 159, 160, 161, 176, 179, 162, 133, 109, 110, 134, 135, 56, 66, 82, 22, 7, 16, 17, 24, 67, 83, 103, 104, 131, 105, 84, 85, 87, 106, 86, 68, 69, 88, 12, 13]
theorem expandDefaults_clos : Tryz.prog.closure 3 = expandDefaults_L := closure_by_table Tryz.prog tabT_all (by kernel_rfl)
theorem expandDefaults_inPlace : Tryz.prog.inPlace 3 = Rows.expandDefaultsRow.inPlace := inPlace_by_table Tryz.prog expandDefaults_clos tabN_all (by kernel_rfl)
theorem expandDefaults_named : Tryz.prog.varsNamed 3 = Rows.expandDefaultsRow.named := varsNamed_by_table Tryz.prog expandDefaults_clos tabG_all tabE_all (by kernel_rfl)
theorem expandDefaults_unf : Tryz.prog.unfollowed 3 = true := by
  obtain ⟨c, hc⟩ : ∃ c, Tryz.f97.body = some c := ⟨_, rfl⟩
  exact unfollowed_by_table Tryz.prog expandDefaults_clos (g := 97) (by kernel_rfl) (fn := Tryz.f97) (by kernel_rfl) hc (by cases hc; kernel_rfl)
theorem expandDefaults_k0 : (Rows.expandDefaultsRow.wf (OpenSpec.ofChange Rows.expandDefaultsSpec)) = true := by kernel_rfl
theorem expandDefaults_k3 : (Tryz.f3.params.all (Tryz.pinned.checked.prog.readableRec ·)) = true := by kernel_rfl
theorem expandDefaults_k4 : (namedTie Tryz.pinned.checked.prog Rows.expandDefaultsRow.named Rows.expandDefaultsSpec.vars) = true := by kernel_rfl
theorem expandDefaults_k5 : ((Rows.expandDefaultsRow.stops == [])) = true := by kernel_rfl
theorem expandDefaults_k6 : ((Tryz.pinned.checked.prog.stops == [])) = true := by kernel_rfl
theorem expandDefaults_k7 : ((Rows.expandDefaultsRow.knobs == [])) = true := by kernel_rfl
theorem expandDefaults_k8 : ((Tryz.pinned.checked.prog.stopKnobs == [])) = true := by kernel_rfl
theorem expandDefaults_k9 : ((Rows.expandDefaultsRow.inPlace == Tryz.pinned.checked.prog.inPlace 3)) = true := beq_iff_eq.2 expandDefaults_inPlace.symm
theorem expandDefaults_k10 : ((Rows.expandDefaultsRow.unfollowed == Tryz.pinned.checked.prog.unfollowed 3)) = true := beq_iff_eq.2 expandDefaults_unf.symm
theorem expandDefaults_k11 : ((Rows.expandDefaultsRow.recurses == Tryz.pinned.checked.prog.recurses 3)) = true := beq_iff_eq.2 (show true = Tryz.prog.recurses 3 by unfold Program.recurses; rw [expandDefaults_unf]; rfl)
theorem expandDefaults_k12 : ((Rows.expandDefaultsRow.named == Tryz.pinned.checked.prog.varsNamed 3)) = true := beq_iff_eq.2 expandDefaults_named.symm
theorem expandDefaults_k13 : ((Rows.expandDefaultsRow.maps == (Tryz.f3.params.toList ++ Rows.expandDefaultsSpec.plain.varTypes Tryz.pinned.checked.prog).any (Tryz.pinned.checked.prog.mapsRec ·))) = true := by kernel_rfl
theorem expandDefaults_k14 : ((Rows.expandDefaultsRow.ifaces == (Tryz.f3.params.toList ++ Rows.expandDefaultsSpec.plain.varTypes Tryz.pinned.checked.prog).any (Tryz.pinned.checked.prog.ifacesRec ·))) = true := by kernel_rfl
theorem expandDefaults_k15 : ((Rows.expandDefaultsRow.mapsOut == Tryz.pinned.checked.prog.mapsAmong Tryz.f3.resultTypes.toList)) = true := by kernel_rfl
theorem expandDefaults_k16 : ((Rows.expandDefaultsRow.loops == (Tryz.f3.params.toList ++ Rows.expandDefaultsSpec.plain.varTypes Tryz.pinned.checked.prog).any (Tryz.pinned.checked.prog.loopsFrom ·))) = true := by kernel_rfl
theorem expandDefaults_k17 : ((Rows.expandDefaultsRow.wideKeys == (Tryz.f3.params.toList ++ Rows.expandDefaultsSpec.plain.varTypes Tryz.pinned.checked.prog ++ Tryz.f3.resultTypes.toList).any (Tryz.pinned.checked.prog.wideKeysFrom ·))) = true := by kernel_rfl
theorem expandDefaults_k18 : (Rows.expandDefaultsSpec.vars.all (Tryz.pinned.checked.prog.varReadable ·)) = true := by kernel_rfl
theorem expandDefaults_k19 : (Tryz.f3.resultTypes.all (fun t => Tryz.pinned.checked.prog.readableRec t && decide (t < Tryz.pinned.checked.prog.types.size))) = true := by kernel_rfl
theorem expandDefaults_k20 : ((Rows.expandDefaultsRow.ifacesOut == Tryz.f3.resultTypes.toList.any (Tryz.pinned.checked.prog.ifacesRec ·))) = true := by kernel_rfl
theorem expandDefaults_k21 : ((Rows.expandDefaultsRow.loopsOut == Tryz.f3.resultTypes.toList.any (Tryz.pinned.checked.prog.loopsFrom ·))) = true := by kernel_rfl
theorem expandDefaults_k22 : ((Rows.expandDefaultsRow.plainKeys == Tryz.pinned.checked.prog.plainKeys)) = true := by kernel_rfl
theorem expandDefaults_k23 : (Rows.expandDefaultsRow.shortTexts.isNone) = true := by kernel_rfl
theorem expandDefaults_k26 : ((Rows.expandDefaultsRow.lifted == Tryz.pinned.checked.prog.liftsFinal)) = true := by kernel_rfl
theorem expandDefaults_k27 : ((Tryz.pinned.checked.prog.make == some Rows.expandDefaultsRow.make)) = true := by kernel_rfl
theorem expandDefaults_k28 : ((Rows.expandDefaultsRow.kinds == (if Rows.expandDefaultsRow.domain.isEmpty then [] else Tryz.f3.params.toList.map fun t => match Tryz.pinned.checked.prog.underlying t with | some (.int k) => some k | _ => none))) = true := by kernel_rfl
theorem expandDefaults_k29 : ((Rows.expandDefaultsRow.pinned == Rows.expandDefaultsRow.pinnedBy)) = true := by kernel_rfl
theorem expandDefaults_k30 : ((Rows.expandDefaultsRow.veiled == (Tryz.f3.params.toList ++ Rows.expandDefaultsSpec.plain.varTypes Tryz.pinned.checked.prog ++ Tryz.f3.resultTypes.toList).any (Tryz.pinned.checked.prog.veiledRec ·))) = true := by kernel_rfl
theorem expandDefaults_k31 : (Rows.expandDefaultsRow.veiledFits Tryz.pinned.checked.prog Tryz.f3.params.toList (Tryz.f3.params.toList ++ Rows.expandDefaultsSpec.plain.varTypes Tryz.pinned.checked.prog ++ Tryz.f3.resultTypes.toList)) = true := by kernel_rfl
theorem expandDefaults_closed : joinedFacts Tryz.pinned.checked.prog 3 Tryz.f3 Rows.expandDefaultsSpec Rows.expandDefaultsRow = true := band (band (band (band (band (band (band (band (band (band (band (band (band (band (band (band (band (band (band (band (band (band (band (band (band (band (band (band (band (band (band (expandDefaults_k0) laidOut_ok) mapsRowed_ok) expandDefaults_k3) expandDefaults_k4) expandDefaults_k5) expandDefaults_k6) expandDefaults_k7) expandDefaults_k8) expandDefaults_k9) expandDefaults_k10) expandDefaults_k11) expandDefaults_k12) expandDefaults_k13) expandDefaults_k14) expandDefaults_k15) expandDefaults_k16) expandDefaults_k17) expandDefaults_k18) expandDefaults_k19) expandDefaults_k20) expandDefaults_k21) expandDefaults_k22) expandDefaults_k23) stopsHeard_ok) mayEnter_ok) expandDefaults_k26) expandDefaults_k27) expandDefaults_k28) expandDefaults_k29) expandDefaults_k30) expandDefaults_k31
abbrev expandDefaults_lst : List (String × DataW Unit) := Rows.expandDefaultsRow.laid
theorem expandDefaults_plain : (expandDefaults_lst.all fun x => x.2.handleName?.isNone) = true := by kernel_rfl
theorem expandDefaults_noInit : Tryz.prog.inits.idxOf? 3 = none := by kernel_rfl
theorem expandDefaults_fn : Tryz.prog.funcs[3]? = some Tryz.f3 := by kernel_rfl
theorem expandDefaults_zip1 (os : Os) : ((World.laidAll Tryz.prog os expandDefaults_lst).forCall (fun _ _ => 0) ⟨#[], #[.int .i64 (-1), .int .i64 (-1), .string ByteArray.empty, .string ByteArray.empty], []⟩).variablesZipB Tryz.prog = true := by kernel_rfl
theorem expandDefaults_zip2 (os : Os) : ((((World.laidAll Tryz.prog os expandDefaults_lst).forCall (fun _ _ => 0) ⟨#[], #[.int .i64 (-1), .int .i64 (-1), .string ByteArray.empty, .string ByteArray.empty], []⟩).heap.toList.drop Tryz.prog.globals.size).take ((begin Tryz.prog (fun _ _ => 0) default).world.heap.size - Tryz.prog.globals.size) =
      (begin Tryz.prog (fun _ _ => 0) default).world.heap.toList.drop Tryz.prog.globals.size) := by kernel_rfl
theorem expandDefaults_fits (os : Os) : (World.holding Tryz.prog os ⟨#[], #[], []⟩).layFits Tryz.prog expandDefaults_lst [] = true := by kernel_rfl
theorem expandDefaults_ifaces (os : Os) : (World.holding Tryz.prog os ⟨#[], #[], []⟩).layIfaces Tryz.prog expandDefaults_lst (World.laidAll Tryz.prog os expandDefaults_lst) = true := by kernel_rfl
theorem expandDefaults_okB (os : Os) : Input.okWideB Tryz.prog ((World.laidAll Tryz.prog os expandDefaults_lst).forCall (fun _ _ => 0) ⟨#[], #[.int .i64 (-1), .int .i64 (-1), .string ByteArray.empty, .string ByteArray.empty], []⟩) 3 ⟨#[], #[.int .i64 (-1), .int .i64 (-1), .string ByteArray.empty, .string ByteArray.empty], []⟩ = true := by kernel_rfl
theorem expandDefaults_preB (os : Os) (H : Type) (enc : TypeId × Value → H) : Rows.expandDefaultsSpec.preB enc Tryz.prog Tryz.f3 [] false ((World.laidAll Tryz.prog os expandDefaults_lst).forCall (fun _ _ => 0) ⟨#[], #[.int .i64 (-1), .int .i64 (-1), .string ByteArray.empty, .string ByteArray.empty], []⟩).memory #[.int .i64 (-1), .int .i64 (-1), .string ByteArray.empty, .string ByteArray.empty] 8 = true := by kernel_rfl
theorem expandDefaults_szB (os : Os) (H : Type) (enc : TypeId × Value → H) : Rows.expandDefaultsSpec.sizedB enc Tryz.prog Tryz.f3 false ((World.laidAll Tryz.prog os expandDefaults_lst).forCall (fun _ _ => 0) ⟨#[], #[.int .i64 (-1), .int .i64 (-1), .string ByteArray.empty, .string ByteArray.empty], []⟩).memory #[.int .i64 (-1), .int .i64 (-1), .string ByteArray.empty, .string ByteArray.empty] 8 = true := by kernel_rfl
theorem expandDefaults_uInt : Tryz.prog.underlying 3 = some (.int .i64) := by kernel_rfl
theorem expandDefaults_uBool : Tryz.prog.underlying 4 = some .bool := by kernel_rfl
theorem expandDefaults_params : Tryz.f3.params = #[3, 3, 9, 9] := by kernel_rfl
theorem expandDefaults_results : Tryz.f3.resultTypes = #[4] := by kernel_rfl
theorem expandDefaults_body : ∃ c, Tryz.f3.body = some c := ⟨_, rfl⟩
theorem expandDefaults_uStr : Tryz.prog.underlying 9 = some .string := by kernel_rfl
theorem expandDefaults_lifted (os : Os) (started : os.Started) (H : Type) (enc : TypeId × Value → H) :
    ReturnsInHanded {} Tryz.checked os 3 .any (fun w args => (Rows.expandDefaultsSpec.pre enc Tryz.prog Tryz.f3 Rows.expandDefaultsRow.domain false w args ∧ laidMetH Tryz.prog expandDefaults_lst w) ∧ sizedMet enc Tryz.prog Tryz.f3 (OpenSpec.ofChange Rows.expandDefaultsSpec) false w args)
      (Rows.expandDefaultsSpec.post enc Tryz.prog Tryz.f3 false true false false) := by
  refine returnsInHanded_of_change_and (C := Tryz.checked) (X := fun w _ => laidMetH Tryz.prog expandDefaults_lst w) (fun _ _ _ hh h => h.of_heap hh) own started expandDefaults_noInit expandDefaults_fn
    (ChangeSpec.witness_shaped (enc := enc) (C := Tryz.checked) (os := os) (X := fun w _ => laidMetH Tryz.prog expandDefaults_lst w) false (World.laidAll Tryz.prog os expandDefaults_lst) #[.int .i64 (-1), .int .i64 (-1), .string ByteArray.empty, .string ByteArray.empty] 8 (World.laidAll_os _ _ _)
      (World.shaped_of_ZipB (expandDefaults_zip1 os) (expandDefaults_zip2 os)) (expandDefaults_okB os) (expandDefaults_preB os H enc) (expandDefaults_szB os H enc)
      (by rw [MakeChecks.laidMetH_plain _ _ _ expandDefaults_plain]; exact laidMet_laidAll _ (expandDefaults_fits os) (expandDefaults_ifaces os))) ?_
  intro W base args ds gs before hval0 hW _ _ hL _
  have hval : ∀ (j : Nat) t v, Tryz.f3.params[j]? = some t → args[j]? = some v → Value.okWide Tryz.prog W .any base t v := hval0
  have hW' := hW
  obtain ⟨p, q, hA0, hV, rfl, _, _⟩ := hW
  have hA : DataW.TrodAll enc Tryz.prog W 0 (fun _ => true) true Tryz.f3.params.toList args.toList ds p := hA0
  rw [expandDefaults_params] at hA hval
  obtain ⟨v0, v1, v2, v3, d0, d1, d2, d3, p0, p1, p2, p3, rfl, rfl, rfl, h0, h1, h2, h3⟩ := trodAll_four hA
  obtain ⟨rfl, rfl⟩ := trodVars_none hV
  obtain ⟨n0, rfl, rfl, rfl, hw0⟩ := open_int expandDefaults_uInt (hval 0 3 v0 rfl rfl) h0
  obtain ⟨n1, rfl, rfl, rfl, hw1⟩ := open_int expandDefaults_uInt (hval 1 3 v1 rfl rfl) h1
  obtain ⟨n2, rfl, rfl, rfl, hw2⟩ := Go.ChangeMaps.open_string expandDefaults_uStr (hval 2 9 v2 rfl rfl) h2
  obtain ⟨n3, rfl, rfl, rfl, hw3⟩ := Go.ChangeMaps.open_string expandDefaults_uStr (hval 3 9 v3 rfl rfl) h3
  refine (xd_calls n0 n1 n2 hw2 n3 hw3 (tabs W)).mono fun e W' ⟨he, hs⟩ => ?_
  refine ⟨_, he, _, _, _, [], [], [], hW', ?_, ?_, ?_, hs.keptBut _, fun h => by cases h⟩
  · rw [expandDefaults_results]
    exact trodAll_mk1 (shut_bool expandDefaults_uBool true)
  · rw [expandDefaults_params]
    exact trodAll_mk4 (shut_int expandDefaults_uInt hw0) (shut_int expandDefaults_uInt hw1) (Go.ChangeMaps.shut_string expandDefaults_uStr hw2) (Go.ChangeMaps.shut_string expandDefaults_uStr hw3)
  · rfl
theorem expandDefaults_named1 : Tryz.pinned.checked.prog.funcNamed Rows.expandDefaultsRow.func = some 3 := by kernel_rfl
theorem expandDefaults_wrapper : Tryz.f3.isWrapper Tryz.pinned.checked.prog Rows.expandDefaultsRow.wrapper Rows.expandDefaultsRow.mainSum := by unfold Func.isWrapper; first | (rw [if_pos (by decide +kernel)]; kernel_rfl) | (rw [if_neg (by decide +kernel)]; exact ⟨rfl, rfl⟩)
theorem expandDefaults_inst : Tryz.f3.isInstance Tryz.pinned.checked.prog Rows.expandDefaultsRow.origin Rows.expandDefaultsRow.targs := of_decide_eq_true (by kernel_rfl)
theorem expandDefaults_holds : Rows.ExpandDefaultsSaid :=
  OpenClaim.holds_of_wide 3 Tryz.f3 rfl rfl rfl rfl rfl rfl rfl ⟨rfl, rfl, rfl, rfl, rfl⟩ rfl rfl rfl rfl rfl expandDefaults_named1 expandDefaults_fn expandDefaults_closed expandDefaults_inst expandDefaults_wrapper
    (fun os started H enc _ => expandDefaults_lifted os started H enc)
end
end Go.Proofs.YtfmcnkepidedpaaGreatDoor
