/-
  The row of toolsCopy: for every input the law returns true.
-/
import Derived.Test.YtkppbibiaiecnaaGreatDoorRuntoolsCopy
import Derived.Test.YtkppbibiaiecnaaGreatDoorXRowK5
import Derived.OpenShut
import Derived.Carry
import Derived.Lay
open Go Go.Mx Go.ChangeShapes Go.WideShapes Go.RowKit
namespace Go.Proofs.YtkppbibiaiecnaaGreatDoor
set_option maxRecDepth 1000000
noncomputable section
def toolsCopy_L : List Nat := [4, 5, 7, 6, 13, 21, 22, 23, 39, 70, 101, 126, 102, 127, 71, 72, 38, 24, 40, 73, 103, 120, 147, 148, 173, 181, 182, 149, 150, 183, 184, 208, 209, 41, 42, 74, 104, 128, 129, 158, 159, 130, 112, 140, 178, 86, 115, 189, 211, 212, 213, 222, 215, 214, 176, 201, 200, 202, 204, 218, 203, 206, 220, 224, 187, 210, 219, 223, 225, 154, 153, 205, 82, 111, 216, 190, 160, 161, 191, 192, 45, 25, 44, 10, 20, 15, 35, 65, 98, 124, 155, 185, 66, 99, 125, 156, 186, 157, 188, 67, 100, 68, 69, 36, 16, 14, 43, 75, 26, 46, 47, 76, 11, 8, 17, 19, 37, 18, 27, 48, 77, 105, 131, 78, 106, 132, 162, 107, 134, 172, 133, 163, 169, 198, 164, 193, 165, 194, 195, 166, 196, 197, 217, 167, 168, 170, 171, 28, 49, 50, 54, 80, 55, 29, 9, 51, 79, 52, 30, 53, 31, 56, 57, 32, 58, 81, 108, 109, 135, 136, 110, 137, 174, 138, 175, 199, 177, 207, 221, 113, 141, 142, 114, 143, 179, 144, 145, 180, 146, 139, 59, 60, 33, 34, 61, 83, 84, 85, 90, 87, 91, 116, 88, 89, 62, 92, 63, 64, 93, 117, 94, 118, 119, 95, 96, 121, 97, 122, 151, 152, 123, 12]
theorem toolsCopy_clos : Tryz.prog.closure 4 = toolsCopy_L := closure_by_table Tryz.prog tabT_all (by kernel_rfl)
theorem toolsCopy_inPlace : Tryz.prog.inPlace 4 = Rows.toolsCopyRow.inPlace := inPlace_by_table Tryz.prog toolsCopy_clos tabN_all (by kernel_rfl)
theorem toolsCopy_named : Tryz.prog.varsNamed 4 = Rows.toolsCopyRow.named := varsNamed_by_table Tryz.prog toolsCopy_clos tabG_all tabE_all (by kernel_rfl)
theorem toolsCopy_unf : Tryz.prog.unfollowed 4 = true := by
  obtain ⟨c, hc⟩ : ∃ c, Tryz.f6.body = some c := ⟨_, rfl⟩
  exact unfollowed_by_table Tryz.prog toolsCopy_clos (g := 6) (by kernel_rfl) (fn := Tryz.f6) (by kernel_rfl) hc (by cases hc; kernel_rfl)
theorem toolsCopy_k0 : (Rows.toolsCopyRow.wf (OpenSpec.ofChange Rows.toolsCopySpec)) = true := by kernel_rfl
theorem toolsCopy_k3 : (Tryz.f4.params.all (Tryz.pinned.checked.prog.readableRec ·)) = true := by kernel_rfl
theorem toolsCopy_k4 : (namedTie Tryz.pinned.checked.prog Rows.toolsCopyRow.named Rows.toolsCopySpec.vars) = true := by kernel_rfl
theorem toolsCopy_k5 : ((Rows.toolsCopyRow.stops == [])) = true := by kernel_rfl
theorem toolsCopy_k6 : ((Tryz.pinned.checked.prog.stops == [])) = true := by kernel_rfl
theorem toolsCopy_k7 : ((Rows.toolsCopyRow.knobs == [])) = true := by kernel_rfl
theorem toolsCopy_k8 : ((Tryz.pinned.checked.prog.stopKnobs == [])) = true := by kernel_rfl
theorem toolsCopy_k9 : ((Rows.toolsCopyRow.inPlace == Tryz.pinned.checked.prog.inPlace 4)) = true := beq_iff_eq.2 toolsCopy_inPlace.symm
theorem toolsCopy_k10 : ((Rows.toolsCopyRow.unfollowed == Tryz.pinned.checked.prog.unfollowed 4)) = true := beq_iff_eq.2 toolsCopy_unf.symm
theorem toolsCopy_k11 : ((Rows.toolsCopyRow.recurses == Tryz.pinned.checked.prog.recurses 4)) = true := beq_iff_eq.2 (show true = Tryz.prog.recurses 4 by unfold Program.recurses; rw [toolsCopy_unf]; rfl)
theorem toolsCopy_k12 : ((Rows.toolsCopyRow.named == Tryz.pinned.checked.prog.varsNamed 4)) = true := beq_iff_eq.2 toolsCopy_named.symm
theorem toolsCopy_k13 : ((Rows.toolsCopyRow.maps == (Tryz.f4.params.toList ++ Rows.toolsCopySpec.plain.varTypes Tryz.pinned.checked.prog).any (Tryz.pinned.checked.prog.mapsRec ·))) = true := by kernel_rfl
theorem toolsCopy_k14 : ((Rows.toolsCopyRow.ifaces == (Tryz.f4.params.toList ++ Rows.toolsCopySpec.plain.varTypes Tryz.pinned.checked.prog).any (Tryz.pinned.checked.prog.ifacesRec ·))) = true := by kernel_rfl
theorem toolsCopy_k15 : ((Rows.toolsCopyRow.mapsOut == Tryz.pinned.checked.prog.mapsAmong Tryz.f4.resultTypes.toList)) = true := by kernel_rfl
theorem toolsCopy_k16 : ((Rows.toolsCopyRow.loops == (Tryz.f4.params.toList ++ Rows.toolsCopySpec.plain.varTypes Tryz.pinned.checked.prog).any (Tryz.pinned.checked.prog.loopsFrom ·))) = true := by kernel_rfl
theorem toolsCopy_k17 : ((Rows.toolsCopyRow.wideKeys == (Tryz.f4.params.toList ++ Rows.toolsCopySpec.plain.varTypes Tryz.pinned.checked.prog ++ Tryz.f4.resultTypes.toList).any (Tryz.pinned.checked.prog.wideKeysFrom ·))) = true := by kernel_rfl
theorem toolsCopy_k18 : (Rows.toolsCopySpec.vars.all (Tryz.pinned.checked.prog.varReadable ·)) = true := by kernel_rfl
theorem toolsCopy_k19 : (Tryz.f4.resultTypes.all (fun t => Tryz.pinned.checked.prog.readableRec t && decide (t < Tryz.pinned.checked.prog.types.size))) = true := by kernel_rfl
theorem toolsCopy_k20 : ((Rows.toolsCopyRow.ifacesOut == Tryz.f4.resultTypes.toList.any (Tryz.pinned.checked.prog.ifacesRec ·))) = true := by kernel_rfl
theorem toolsCopy_k21 : ((Rows.toolsCopyRow.loopsOut == Tryz.f4.resultTypes.toList.any (Tryz.pinned.checked.prog.loopsFrom ·))) = true := by kernel_rfl
theorem toolsCopy_k22 : ((Rows.toolsCopyRow.plainKeys == Tryz.pinned.checked.prog.plainKeys)) = true := by kernel_rfl
theorem toolsCopy_k23 : (Rows.toolsCopyRow.shortTexts.isNone) = true := by kernel_rfl
theorem toolsCopy_k26 : ((Rows.toolsCopyRow.lifted == Tryz.pinned.checked.prog.liftsFinal)) = true := by kernel_rfl
theorem toolsCopy_k27 : ((Tryz.pinned.checked.prog.make == some Rows.toolsCopyRow.make)) = true := by kernel_rfl
theorem toolsCopy_k28 : ((Rows.toolsCopyRow.kinds == (if Rows.toolsCopyRow.domain.isEmpty then [] else Tryz.f4.params.toList.map fun t => match Tryz.pinned.checked.prog.underlying t with | some (.int k) => some k | _ => none))) = true := by kernel_rfl
theorem toolsCopy_k29 : ((Rows.toolsCopyRow.pinned == Rows.toolsCopyRow.pinnedBy)) = true := by kernel_rfl
theorem toolsCopy_k30 : ((Rows.toolsCopyRow.veiled == (Tryz.f4.params.toList ++ Rows.toolsCopySpec.plain.varTypes Tryz.pinned.checked.prog ++ Tryz.f4.resultTypes.toList).any (Tryz.pinned.checked.prog.veiledRec ·))) = true := by kernel_rfl
theorem toolsCopy_k31 : (Rows.toolsCopyRow.veiledFits Tryz.pinned.checked.prog Tryz.f4.params.toList (Tryz.f4.params.toList ++ Rows.toolsCopySpec.plain.varTypes Tryz.pinned.checked.prog ++ Tryz.f4.resultTypes.toList)) = true := by kernel_rfl
theorem toolsCopy_closed : joinedFacts Tryz.pinned.checked.prog 4 Tryz.f4 Rows.toolsCopySpec Rows.toolsCopyRow = true := band (band (band (band (band (band (band (band (band (band (band (band (band (band (band (band (band (band (band (band (band (band (band (band (band (band (band (band (band (band (band (toolsCopy_k0) laidOut_ok) mapsRowed_ok) toolsCopy_k3) toolsCopy_k4) toolsCopy_k5) toolsCopy_k6) toolsCopy_k7) toolsCopy_k8) toolsCopy_k9) toolsCopy_k10) toolsCopy_k11) toolsCopy_k12) toolsCopy_k13) toolsCopy_k14) toolsCopy_k15) toolsCopy_k16) toolsCopy_k17) toolsCopy_k18) toolsCopy_k19) toolsCopy_k20) toolsCopy_k21) toolsCopy_k22) toolsCopy_k23) stopsHeard_ok) mayEnter_ok) toolsCopy_k26) toolsCopy_k27) toolsCopy_k28) toolsCopy_k29) toolsCopy_k30) toolsCopy_k31
abbrev toolsCopy_lst : List (String × DataW Unit) := Rows.toolsCopyRow.laid
theorem toolsCopy_plain : (toolsCopy_lst.all fun x => x.2.handleName?.isNone) = true := by kernel_rfl
theorem toolsCopy_noInit : Tryz.prog.inits.idxOf? 4 = none := by kernel_rfl
theorem toolsCopy_fn : Tryz.prog.funcs[4]? = some Tryz.f4 := by kernel_rfl
theorem toolsCopy_zip1 (os : Os) : ((World.laidAll Tryz.prog os toolsCopy_lst).forCall (fun _ _ => 0) ⟨#[], #[.slice none 0 0, .slice none 0 0, .bool false], []⟩).variablesZipB Tryz.prog = true := by kernel_rfl
theorem toolsCopy_zip2 (os : Os) : ((((World.laidAll Tryz.prog os toolsCopy_lst).forCall (fun _ _ => 0) ⟨#[], #[.slice none 0 0, .slice none 0 0, .bool false], []⟩).heap.toList.drop Tryz.prog.globals.size).take ((begin Tryz.prog (fun _ _ => 0) default).world.heap.size - Tryz.prog.globals.size) =
      (begin Tryz.prog (fun _ _ => 0) default).world.heap.toList.drop Tryz.prog.globals.size) := by kernel_rfl
theorem toolsCopy_fits (os : Os) : (World.holding Tryz.prog os ⟨#[], #[], []⟩).layFits Tryz.prog toolsCopy_lst [] = true := by kernel_rfl
theorem toolsCopy_ifaces (os : Os) : (World.holding Tryz.prog os ⟨#[], #[], []⟩).layIfaces Tryz.prog toolsCopy_lst (World.laidAll Tryz.prog os toolsCopy_lst) = true := by kernel_rfl
theorem toolsCopy_okB (os : Os) : Input.okWideB Tryz.prog ((World.laidAll Tryz.prog os toolsCopy_lst).forCall (fun _ _ => 0) ⟨#[], #[.slice none 0 0, .slice none 0 0, .bool false], []⟩) 4 ⟨#[], #[.slice none 0 0, .slice none 0 0, .bool false], []⟩ = true := by kernel_rfl
theorem toolsCopy_preB (os : Os) (H : Type) (enc : TypeId × Value → H) : Rows.toolsCopySpec.preB enc Tryz.prog Tryz.f4 [] false ((World.laidAll Tryz.prog os toolsCopy_lst).forCall (fun _ _ => 0) ⟨#[], #[.slice none 0 0, .slice none 0 0, .bool false], []⟩).memory #[.slice none 0 0, .slice none 0 0, .bool false] 8 = true := by kernel_rfl
theorem toolsCopy_szB (os : Os) (H : Type) (enc : TypeId × Value → H) : Rows.toolsCopySpec.sizedB enc Tryz.prog Tryz.f4 false ((World.laidAll Tryz.prog os toolsCopy_lst).forCall (fun _ _ => 0) ⟨#[], #[.slice none 0 0, .slice none 0 0, .bool false], []⟩).memory #[.slice none 0 0, .slice none 0 0, .bool false] 8 = true := by kernel_rfl
theorem toolsCopy_uInt : Tryz.prog.underlying 3 = some (.int .i64) := by kernel_rfl
theorem toolsCopy_uBool : Tryz.prog.underlying 4 = some .bool := by kernel_rfl
theorem toolsCopy_params : Tryz.f4.params = #[24, 24, 4] := by kernel_rfl
theorem toolsCopy_results : Tryz.f4.resultTypes = #[4] := by kernel_rfl
theorem toolsCopy_body : ∃ c, Tryz.f4.body = some c := ⟨_, rfl⟩
theorem toolsCopy_byU : Tryz.prog.underlying 24 = some (.slice 5) := by kernel_rfl
theorem toolsCopy_byE : Tryz.prog.underlying 5 = some (.int .u8) := by kernel_rfl
theorem toolsCopy_byC : Tryz.prog.cellsOf 5 = 1 := by kernel_rfl
theorem toolsCopy_byR : Tryz.pinned.checked.prog.readableRec 24 = true := by kernel_rfl
theorem toolsCopy_byT : 24 < Tryz.pinned.checked.prog.types.size := of_decide_eq_true (by kernel_rfl)
theorem toolsCopy_calls {H : Type} {enc : TypeId × Value → H} {W : World} {v0 v1 : Value} {d0 d1 : DataW H} {p0 p1 : List MemPlace} (_hL : laidMetH Tryz.prog toolsCopy_lst W) (hval0 : Value.okWide Tryz.prog W .any 0 24 v0) (h0 : DataW.Trod enc Tryz.prog W 0 (fun _ => true) true 24 v0 d0 p0)
    (hval1 : Value.okWide Tryz.prog W .any 0 24 v1) (h1 : DataW.Trod enc Tryz.prog W 0 (fun _ => true) true 24 v1 d1 p1) (g : Bool) :
    Calls Tryz.prog 4 #[v0, v1, .bool g] W fun e W' => e = .returned (.bool true) ∧ Stays W W' := by
  obtain ⟨cd, hb⟩ := toolsCopy_body
  obtain ⟨r1, ty1, x1, lo1, hi1, i1, g1, o1, k1⟩ := bytes_cases 9 500 toolsCopy_byU toolsCopy_byE toolsCopy_byC (okWide_slice toolsCopy_byU hval0) h0
  obtain ⟨r2, ty2, x2, lo2, hi2, i2, g2, o2, k2⟩ := bytes_cases 11 500 toolsCopy_byU toolsCopy_byE toolsCopy_byC (okWide_slice toolsCopy_byU hval1) h1
  have l1 := joinR_left (b := r2) fun i L h => (i1 i L h).2
  have l2 := joinR_right (k := 11) (a := r1) fun i L h => (i2 i L h).1
  rcases k1 with ⟨rfl, rfl, k1⟩ | ⟨rfl, rfl, rfl⟩
  · rcases k2 with ⟨rfl, rfl, k2⟩ | ⟨rfl, rfl, rfl⟩
    · exact top_run_g follows nameOK hkBok toolsCopy_fn hb (args := .cons x1 (.cons x2 (.cons (.b g) .nil))) tblIn (nx := 13) (by omega) (bytes2_in i1 i2) (bytes2_ob i1 i2 o1 o2) ⟨_, _, rfl, g1.mono l1, _, _, rfl, g2.mono l2, _, _, rfl, VRb _ _, rfl⟩ (tc_short k1 k2 g ty1 ty2) (tabs W)
    · exact top_run_g follows nameOK hkBok toolsCopy_fn hb (args := .cons x1 (.cons (bytesA 11 501 9223372036854775807) (.cons (.b g) .nil))) tblIn (nx := 13) (by omega) (bytes2_in i1 i2) (bytes2_ob i1 i2 o1 o2) ⟨_, _, rfl, g1.mono l1, _, _, rfl, g2.mono l2, _, _, rfl, VRb _ _, rfl⟩ (tc_lc k1 g ty1 ty2) (tabs W)
  · exact top_run_g follows nameOK hkBok toolsCopy_fn hb (args := .cons (bytesA 9 501 9223372036854775807) (.cons .nil (.cons (.b g) .nil))) tblIn (nx := 13) (by omega) (bytes2_in i1 i2) (bytes2_ob i1 i2 o1 o2) ⟨_, _, rfl, g1.mono l1, _, _, rfl, by simp only [VR], _, _, rfl, VRb _ _, rfl⟩ (tc_lb ty1 lo2 hi2 ty2 g) (tabs W)
theorem toolsCopy_lifted (os : Os) (started : os.Started) (H : Type) (enc : TypeId × Value → H) :
    ReturnsInHanded {} Tryz.checked os 4 .any (fun w args => (Rows.toolsCopySpec.pre enc Tryz.prog Tryz.f4 Rows.toolsCopyRow.domain false w args ∧ laidMetH Tryz.prog toolsCopy_lst w) ∧ sizedMet enc Tryz.prog Tryz.f4 (OpenSpec.ofChange Rows.toolsCopySpec) false w args)
      (Rows.toolsCopySpec.post enc Tryz.prog Tryz.f4 false true false false) := by
  refine returnsInHanded_of_change_and (C := Tryz.checked) (X := fun w _ => laidMetH Tryz.prog toolsCopy_lst w) (fun _ _ _ hh h => h.of_heap hh) own started toolsCopy_noInit toolsCopy_fn
    (ChangeSpec.witness_shaped (enc := enc) (C := Tryz.checked) (os := os) (X := fun w _ => laidMetH Tryz.prog toolsCopy_lst w) false (World.laidAll Tryz.prog os toolsCopy_lst) #[.slice none 0 0, .slice none 0 0, .bool false] 8 (World.laidAll_os _ _ _)
      (World.shaped_of_ZipB (toolsCopy_zip1 os) (toolsCopy_zip2 os)) (toolsCopy_okB os) (toolsCopy_preB os H enc) (toolsCopy_szB os H enc)
      (by rw [MakeChecks.laidMetH_plain _ _ _ toolsCopy_plain]; exact laidMet_laidAll _ (toolsCopy_fits os) (toolsCopy_ifaces os))) ?_
  intro W base args ds gs before hval0 hW _ _ hL _
  have hval : ∀ (j : Nat) t v, Tryz.f4.params[j]? = some t → args[j]? = some v → Value.okWide Tryz.prog W .any base t v := hval0
  have hW' := hW
  obtain ⟨p, q, hA0, hV, rfl, _, _⟩ := hW
  have hA : DataW.TrodAll enc Tryz.prog W 0 (fun _ => true) true Tryz.f4.params.toList args.toList ds p := hA0
  rw [toolsCopy_params] at hA hval
  obtain ⟨v0, v1, v2, d0, d1, d2, p0, p1, p2, rfl, rfl, rfl, h0, h1, h2⟩ := trodAll_three hA
  obtain ⟨rfl, rfl⟩ := trodVars_none hV
  obtain ⟨n2, rfl, rfl, rfl⟩ := open_bool toolsCopy_uBool (hval 2 4 v2 rfl rfl) h2
  refine (toolsCopy_calls hL (hval 0 24 v0 rfl rfl) h0 (hval 1 24 v1 rfl rfl) h1 n2).mono fun e W' ⟨he, hs⟩ => ?_
  refine ⟨_, he, _, _, _, [], p0 ++ (p1 ++ ([])), [], hW', ?_, ?_, ?_, hs.keptBut _, fun h => by cases h⟩
  · rw [toolsCopy_results]
    exact trodAll_mk1 (shut_bool toolsCopy_uBool true)
  · rw [toolsCopy_params]
    exact trodAll_mk3 (Below.trod laidOut_ok toolsCopy_byR toolsCopy_byT h0 hs.below (fun y hy => hW'.lt y (by simp [hy]))) (Below.trod laidOut_ok toolsCopy_byR toolsCopy_byT h1 hs.below (fun y hy => hW'.lt y (by simp [hy]))) (shut_bool toolsCopy_uBool n2)
  · rfl
theorem toolsCopy_named1 : Tryz.pinned.checked.prog.funcNamed Rows.toolsCopyRow.func = some 4 := by kernel_rfl
theorem toolsCopy_wrapper : Tryz.f4.isWrapper Tryz.pinned.checked.prog Rows.toolsCopyRow.wrapper Rows.toolsCopyRow.mainSum := by unfold Func.isWrapper; first | (rw [if_pos (by decide +kernel)]; kernel_rfl) | (rw [if_neg (by decide +kernel)]; exact ⟨rfl, rfl⟩)
theorem toolsCopy_inst : Tryz.f4.isInstance Tryz.pinned.checked.prog Rows.toolsCopyRow.origin Rows.toolsCopyRow.targs := of_decide_eq_true (by kernel_rfl)
theorem toolsCopy_holds : Rows.ToolsCopySaid :=
  OpenClaim.holds_of_wide 4 Tryz.f4 rfl rfl rfl rfl rfl rfl rfl ⟨rfl, rfl, rfl, rfl, rfl⟩ rfl rfl rfl rfl rfl toolsCopy_named1 toolsCopy_fn toolsCopy_closed toolsCopy_inst toolsCopy_wrapper
    (fun os started H enc _ => toolsCopy_lifted os started H enc)
end
end Go.Proofs.YtkppbibiaiecnaaGreatDoor
