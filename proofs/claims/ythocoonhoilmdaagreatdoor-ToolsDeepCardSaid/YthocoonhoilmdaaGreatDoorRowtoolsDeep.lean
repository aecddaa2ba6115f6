/-
  The row of toolsDeep: for every input the law returns true.
-/
import Derived.Test.YthocoonhoilmdaaGreatDoorRuntoolsDeep
import Derived.Test.YthocoonhoilmdaaGreatDoorXRowK6
import Derived.OpenShut
import Derived.Carry
import Derived.Lay
import Derived.Test.YthocoonhoilmdaaGreatDoorRuntoolsDeep
open Go Go.Mx Go.ChangeShapes Go.WideShapes Go.RowKit
namespace Go.Proofs.YthocoonhoilmdaaGreatDoor
set_option maxRecDepth 1000000
noncomputable section
def toolsDeep_L : List Nat := [4, 5, 6, 9, 18, 24, 25, 26, 47, 82, 124, 156, 125, 157, 83, 84, 46, 27, 48, 85, 126, 140, 173, 174, 121, 195, 196, 175, 176, 197, 198, 213, 214, 49, 50, 86, 127, 158, 159, 185, 186, 160, 133, 150, 180, 39, 76, 200, 215, 216, 217, 225, 219, 218, 191, 206, 205, 207, 209, 221, 208, 211, 223, 227, 183, 199, 222, 226, 228, 152, 151, 210, 95, 132, 220, 201, 187, 188, 202, 203, 54, 28, 52, 53, 88, 13, 21, 41, 79, 122, 153, 181, 42, 80, 123, 154, 182, 155, 184, 43, 81, 44, 45, 22, 14, 19, 51, 87, 29, 55, 56, 89, 90, 8, 15, 17, 23, 16, 30, 57, 91, 128, 161, 20, 38, 75, 110, 40, 78, 120, 77, 111, 117, 149, 112, 144, 113, 145, 146, 114, 147, 148, 179, 115, 116, 118, 119, 31, 58, 59, 64, 93, 65, 32, 60, 61, 92, 62, 33, 63, 34, 66, 67, 35, 68, 94, 129, 130, 162, 163, 131, 164, 189, 165, 190, 204, 192, 212, 224, 134, 167, 168, 135, 169, 193, 170, 171, 194, 172, 166, 69, 70, 36, 37, 71, 96, 97, 98, 102, 99, 103, 136, 100, 101, 72, 104, 73, 74, 105, 137, 106, 138, 139, 107, 108, 141, 109, 142, 177, 178, 143, 12, 10, 11]
theorem toolsDeep_clos : Tryz.prog.closure 4 = toolsDeep_L := closure_by_table Tryz.prog tabT_all (by kernel_rfl)
theorem toolsDeep_inPlace : Tryz.prog.inPlace 4 = Rows.toolsDeepRow.inPlace := inPlace_by_table Tryz.prog toolsDeep_clos tabN_all (by kernel_rfl)
theorem toolsDeep_named : Tryz.prog.varsNamed 4 = Rows.toolsDeepRow.named := varsNamed_by_table Tryz.prog toolsDeep_clos tabG_all tabE_all (by kernel_rfl)
theorem toolsDeep_unf : Tryz.prog.unfollowed 4 = true := by
  obtain ⟨c, hc⟩ : ∃ c, Tryz.f9.body = some c := ⟨_, rfl⟩
  exact unfollowed_by_table Tryz.prog toolsDeep_clos (g := 9) (by kernel_rfl) (fn := Tryz.f9) (by kernel_rfl) hc (by cases hc; kernel_rfl)
theorem toolsDeep_k0 : (Rows.toolsDeepRow.wf (OpenSpec.ofChange Rows.toolsDeepSpec)) = true := by kernel_rfl
theorem toolsDeep_k3 : (Tryz.f4.params.all (Tryz.pinned.checked.prog.readableRec ·)) = true := by kernel_rfl
theorem toolsDeep_k4 : (namedTie Tryz.pinned.checked.prog Rows.toolsDeepRow.named Rows.toolsDeepSpec.vars) = true := by kernel_rfl
theorem toolsDeep_k5 : ((Rows.toolsDeepRow.stops == [])) = true := by kernel_rfl
theorem toolsDeep_k6 : ((Tryz.pinned.checked.prog.stops == [])) = true := by kernel_rfl
theorem toolsDeep_k7 : ((Rows.toolsDeepRow.knobs == [])) = true := by kernel_rfl
theorem toolsDeep_k8 : ((Tryz.pinned.checked.prog.stopKnobs == [])) = true := by kernel_rfl
theorem toolsDeep_k9 : ((Rows.toolsDeepRow.inPlace == Tryz.pinned.checked.prog.inPlace 4)) = true := beq_iff_eq.2 toolsDeep_inPlace.symm
theorem toolsDeep_k10 : ((Rows.toolsDeepRow.unfollowed == Tryz.pinned.checked.prog.unfollowed 4)) = true := beq_iff_eq.2 toolsDeep_unf.symm
theorem toolsDeep_k11 : ((Rows.toolsDeepRow.recurses == Tryz.pinned.checked.prog.recurses 4)) = true := beq_iff_eq.2 (show true = Tryz.prog.recurses 4 by unfold Program.recurses; rw [toolsDeep_unf]; rfl)
theorem toolsDeep_k12 : ((Rows.toolsDeepRow.named == Tryz.pinned.checked.prog.varsNamed 4)) = true := beq_iff_eq.2 toolsDeep_named.symm
theorem toolsDeep_k13 : ((Rows.toolsDeepRow.maps == (Tryz.f4.params.toList ++ Rows.toolsDeepSpec.plain.varTypes Tryz.pinned.checked.prog).any (Tryz.pinned.checked.prog.mapsRec ·))) = true := by kernel_rfl
theorem toolsDeep_k14 : ((Rows.toolsDeepRow.ifaces == (Tryz.f4.params.toList ++ Rows.toolsDeepSpec.plain.varTypes Tryz.pinned.checked.prog).any (Tryz.pinned.checked.prog.ifacesRec ·))) = true := by kernel_rfl
theorem toolsDeep_k15 : ((Rows.toolsDeepRow.mapsOut == Tryz.pinned.checked.prog.mapsAmong Tryz.f4.resultTypes.toList)) = true := by kernel_rfl
theorem toolsDeep_k16 : ((Rows.toolsDeepRow.loops == (Tryz.f4.params.toList ++ Rows.toolsDeepSpec.plain.varTypes Tryz.pinned.checked.prog).any (Tryz.pinned.checked.prog.loopsFrom ·))) = true := by kernel_rfl
theorem toolsDeep_k17 : ((Rows.toolsDeepRow.wideKeys == (Tryz.f4.params.toList ++ Rows.toolsDeepSpec.plain.varTypes Tryz.pinned.checked.prog ++ Tryz.f4.resultTypes.toList).any (Tryz.pinned.checked.prog.wideKeysFrom ·))) = true := by kernel_rfl
theorem toolsDeep_k18 : (Rows.toolsDeepSpec.vars.all (Tryz.pinned.checked.prog.varReadable ·)) = true := by kernel_rfl
theorem toolsDeep_k19 : (Tryz.f4.resultTypes.all (fun t => Tryz.pinned.checked.prog.readableRec t && decide (t < Tryz.pinned.checked.prog.types.size))) = true := by kernel_rfl
theorem toolsDeep_k20 : ((Rows.toolsDeepRow.ifacesOut == Tryz.f4.resultTypes.toList.any (Tryz.pinned.checked.prog.ifacesRec ·))) = true := by kernel_rfl
theorem toolsDeep_k21 : ((Rows.toolsDeepRow.loopsOut == Tryz.f4.resultTypes.toList.any (Tryz.pinned.checked.prog.loopsFrom ·))) = true := by kernel_rfl
theorem toolsDeep_k22 : ((Rows.toolsDeepRow.plainKeys == Tryz.pinned.checked.prog.plainKeys)) = true := by kernel_rfl
theorem toolsDeep_k23 : (Rows.toolsDeepRow.shortTexts.isNone) = true := by kernel_rfl
theorem toolsDeep_k26 : ((Rows.toolsDeepRow.lifted == Tryz.pinned.checked.prog.liftsFinal)) = true := by kernel_rfl
theorem toolsDeep_k27 : ((Tryz.pinned.checked.prog.make == some Rows.toolsDeepRow.make)) = true := by kernel_rfl
theorem toolsDeep_k28 : ((Rows.toolsDeepRow.kinds == (if Rows.toolsDeepRow.domain.isEmpty then [] else Tryz.f4.params.toList.map fun t => match Tryz.pinned.checked.prog.underlying t with | some (.int k) => some k | _ => none))) = true := by kernel_rfl
theorem toolsDeep_k29 : ((Rows.toolsDeepRow.pinned == Rows.toolsDeepRow.pinnedBy)) = true := by kernel_rfl
theorem toolsDeep_k30 : ((Rows.toolsDeepRow.veiled == (Tryz.f4.params.toList ++ Rows.toolsDeepSpec.plain.varTypes Tryz.pinned.checked.prog ++ Tryz.f4.resultTypes.toList).any (Tryz.pinned.checked.prog.veiledRec ·))) = true := by kernel_rfl
theorem toolsDeep_k31 : (Rows.toolsDeepRow.veiledFits Tryz.pinned.checked.prog Tryz.f4.params.toList (Tryz.f4.params.toList ++ Rows.toolsDeepSpec.plain.varTypes Tryz.pinned.checked.prog ++ Tryz.f4.resultTypes.toList)) = true := by kernel_rfl
theorem toolsDeep_closed : joinedFacts Tryz.pinned.checked.prog 4 Tryz.f4 Rows.toolsDeepSpec Rows.toolsDeepRow = true := band (band (band (band (band (band (band (band (band (band (band (band (band (band (band (band (band (band (band (band (band (band (band (band (band (band (band (band (band (band (band (toolsDeep_k0) laidOut_ok) mapsRowed_ok) toolsDeep_k3) toolsDeep_k4) toolsDeep_k5) toolsDeep_k6) toolsDeep_k7) toolsDeep_k8) toolsDeep_k9) toolsDeep_k10) toolsDeep_k11) toolsDeep_k12) toolsDeep_k13) toolsDeep_k14) toolsDeep_k15) toolsDeep_k16) toolsDeep_k17) toolsDeep_k18) toolsDeep_k19) toolsDeep_k20) toolsDeep_k21) toolsDeep_k22) toolsDeep_k23) stopsHeard_ok) mayEnter_ok) toolsDeep_k26) toolsDeep_k27) toolsDeep_k28) toolsDeep_k29) toolsDeep_k30) toolsDeep_k31
abbrev toolsDeep_lst : List (String × DataW Unit) := Rows.toolsDeepRow.laid
theorem toolsDeep_plain : (toolsDeep_lst.all fun x => x.2.handleName?.isNone) = true := by kernel_rfl
theorem toolsDeep_noInit : Tryz.prog.inits.idxOf? 4 = none := by kernel_rfl
theorem toolsDeep_fn : Tryz.prog.funcs[4]? = some Tryz.f4 := by kernel_rfl
theorem toolsDeep_zip1 (os : Os) : ((World.laidAll Tryz.prog os toolsDeep_lst).forCall (fun _ _ => 0) ⟨#[], #[.slice none 0 0, .int .i64 0], []⟩).variablesZipB Tryz.prog = true := by kernel_rfl
theorem toolsDeep_zip2 (os : Os) : ((((World.laidAll Tryz.prog os toolsDeep_lst).forCall (fun _ _ => 0) ⟨#[], #[.slice none 0 0, .int .i64 0], []⟩).heap.toList.drop Tryz.prog.globals.size).take ((begin Tryz.prog (fun _ _ => 0) default).world.heap.size - Tryz.prog.globals.size) =
      (begin Tryz.prog (fun _ _ => 0) default).world.heap.toList.drop Tryz.prog.globals.size) := by kernel_rfl
theorem toolsDeep_fits (os : Os) : (World.holding Tryz.prog os ⟨#[], #[], []⟩).layFits Tryz.prog toolsDeep_lst [] = true := by kernel_rfl
theorem toolsDeep_ifaces (os : Os) : (World.holding Tryz.prog os ⟨#[], #[], []⟩).layIfaces Tryz.prog toolsDeep_lst (World.laidAll Tryz.prog os toolsDeep_lst) = true := by kernel_rfl
theorem toolsDeep_okB (os : Os) : Input.okWideB Tryz.prog ((World.laidAll Tryz.prog os toolsDeep_lst).forCall (fun _ _ => 0) ⟨#[], #[.slice none 0 0, .int .i64 0], []⟩) 4 ⟨#[], #[.slice none 0 0, .int .i64 0], []⟩ = true := by kernel_rfl
theorem toolsDeep_preB (os : Os) (H : Type) (enc : TypeId × Value → H) : Rows.toolsDeepSpec.preB enc Tryz.prog Tryz.f4 [] false ((World.laidAll Tryz.prog os toolsDeep_lst).forCall (fun _ _ => 0) ⟨#[], #[.slice none 0 0, .int .i64 0], []⟩).memory #[.slice none 0 0, .int .i64 0] 8 = true := by kernel_rfl
theorem toolsDeep_szB (os : Os) (H : Type) (enc : TypeId × Value → H) : Rows.toolsDeepSpec.sizedB enc Tryz.prog Tryz.f4 false ((World.laidAll Tryz.prog os toolsDeep_lst).forCall (fun _ _ => 0) ⟨#[], #[.slice none 0 0, .int .i64 0], []⟩).memory #[.slice none 0 0, .int .i64 0] 8 = true := by kernel_rfl
theorem toolsDeep_uInt : Tryz.prog.underlying 3 = some (.int .i64) := by kernel_rfl
theorem toolsDeep_uBool : Tryz.prog.underlying 4 = some .bool := by kernel_rfl
theorem toolsDeep_params : Tryz.f4.params = #[28, 3] := by kernel_rfl
theorem toolsDeep_results : Tryz.f4.resultTypes = #[4] := by kernel_rfl
theorem toolsDeep_body : ∃ c, Tryz.f4.body = some c := ⟨_, rfl⟩
theorem toolsDeep_stU : Tryz.prog.underlying 28 = some (.slice 9) := by kernel_rfl
theorem toolsDeep_stE : Tryz.prog.underlying 9 = some .string := by kernel_rfl
theorem toolsDeep_stC : Tryz.prog.cellsOf 9 = 1 := by kernel_rfl
theorem toolsDeep_stR : Tryz.pinned.checked.prog.readableRec 28 = true := by kernel_rfl
theorem toolsDeep_stT : 28 < Tryz.pinned.checked.prog.types.size := of_decide_eq_true (by kernel_rfl)
theorem mlMax {W : World} (h : W.ShapedOpen Tryz.prog) : MaxIs W :=
  cell_of_shapedOpen_int (t := 3) (zero := #[.int .i64 0]) h (of_decide_eq_true (by kernel_rfl)) (by kernel_rfl) rfl (by kernel_rfl) (by kernel_rfl) (by kernel_rfl)
theorem al_fn : Tryz.prog.funcs[5]? = some Tryz.f5 := by kernel_rfl
theorem al_body : ∃ c, Tryz.f5.body = some c := ⟨_, rfl⟩
theorem toolsDeep_calls {H : Type} {encH : TypeId × Value → H} {W : World} {v0 : Value} {d0 : DataW H} {p0 : List MemPlace} (hm : MaxIs W) (hval0 : Value.okWide Tryz.prog W .any 0 28 v0) (h0 : DataW.Trod encH Tryz.prog W 0 (fun _ => true) true 28 v0 d0 p0) (n : Int) :
    Calls Tryz.prog 4 #[v0, .int .i64 n] W fun e W' => e = .returned (.bool true) ∧ Stays W W' := by
  have hal : Calls Tryz.prog 5 #[] W fun e w' => e = .returned (.bool true) ∧ Below W.heap.size W w' := by
    obtain ⟨c, hb⟩ := al_body
    exact (top_run follows nameOK hk0ok al_fn hb tblIn (args := .nil) (vs := []) (by simp only [VRs]) alive5 (tabs W)).mono fun e W' h => ⟨h.1, below_stays h.2⟩
  exact (law_any hm n (open_strslice toolsDeep_stU toolsDeep_stE toolsDeep_stC (okWide_slice toolsDeep_stU hval0) h0) hal).mono fun e W' h => ⟨h.1, ⟨h.2.size, h.2.os, h.2.tape, h.2.output, h.2.block⟩⟩
theorem toolsDeep_lifted (os : Os) (started : os.Started) (H : Type) (enc : TypeId × Value → H) :
    ReturnsInHanded {} Tryz.checked os 4 .any (fun w args => (Rows.toolsDeepSpec.pre enc Tryz.prog Tryz.f4 Rows.toolsDeepRow.domain false w args ∧ laidMetH Tryz.prog toolsDeep_lst w) ∧ sizedMet enc Tryz.prog Tryz.f4 (OpenSpec.ofChange Rows.toolsDeepSpec) false w args)
      (Rows.toolsDeepSpec.post enc Tryz.prog Tryz.f4 false true false false) := by
  refine returnsInHanded_and_shaped (C := Tryz.checked) (X := fun w _ => laidMetH Tryz.prog toolsDeep_lst w) (fun _ _ _ hh h => h.of_heap hh) own started toolsDeep_noInit toolsDeep_fn
    (ChangeSpec.witness_shaped (enc := enc) (C := Tryz.checked) (os := os) (X := fun w _ => laidMetH Tryz.prog toolsDeep_lst w) false (World.laidAll Tryz.prog os toolsDeep_lst) #[.slice none 0 0, .int .i64 0] 8 (World.laidAll_os _ _ _)
      (World.shaped_of_ZipB (toolsDeep_zip1 os) (toolsDeep_zip2 os)) (toolsDeep_okB os) (toolsDeep_preB os H enc) (toolsDeep_szB os H enc)
      (by rw [MakeChecks.laidMetH_plain _ _ _ toolsDeep_plain]; exact laidMet_laidAll _ (toolsDeep_fits os) (toolsDeep_ifaces os))) ?_
  intro W base args ds gs before hval0 hW _ _ hL hsh _
  have hval : ∀ (j : Nat) t v, Tryz.f4.params[j]? = some t → args[j]? = some v → Value.okWide Tryz.prog W .any base t v := hval0
  have hW' := hW
  obtain ⟨p, q, hA0, hV, rfl, _, _⟩ := hW
  have hA : DataW.TrodAll enc Tryz.prog W 0 (fun _ => true) true Tryz.f4.params.toList args.toList ds p := hA0
  rw [toolsDeep_params] at hA hval
  obtain ⟨v0, v1, d0, d1, p0, p1, rfl, rfl, rfl, h0, h1⟩ := trodAll_two hA
  obtain ⟨rfl, rfl⟩ := trodVars_none hV
  obtain ⟨n1, rfl, rfl, rfl, hw1⟩ := open_int toolsDeep_uInt (hval 1 3 v1 rfl rfl) h1
  refine (toolsDeep_calls (mlMax hsh) (hval 0 28 v0 rfl rfl) h0 n1).mono fun e W' ⟨he, hs⟩ => ?_
  refine ⟨_, he, _, _, _, [], p0 ++ ([]), [], hW', ?_, ?_, ?_, hs.keptBut _, fun h => by cases h⟩
  · rw [toolsDeep_results]
    exact trodAll_mk1 (shut_bool toolsDeep_uBool true)
  · rw [toolsDeep_params]
    exact trodAll_mk2 (Below.trod laidOut_ok toolsDeep_stR toolsDeep_stT h0 hs.below (fun y hy => hW'.lt y (by simp [hy]))) (shut_int toolsDeep_uInt hw1)
  · rfl
theorem toolsDeep_named1 : Tryz.pinned.checked.prog.funcNamed Rows.toolsDeepRow.func = some 4 := by kernel_rfl
theorem toolsDeep_wrapper : Tryz.f4.isWrapper Tryz.pinned.checked.prog Rows.toolsDeepRow.wrapper Rows.toolsDeepRow.mainSum := by unfold Func.isWrapper; first | (rw [if_pos (by decide +kernel)]; kernel_rfl) | (rw [if_neg (by decide +kernel)]; exact ⟨rfl, rfl⟩)
theorem toolsDeep_inst : Tryz.f4.isInstance Tryz.pinned.checked.prog Rows.toolsDeepRow.origin Rows.toolsDeepRow.targs := of_decide_eq_true (by kernel_rfl)
theorem toolsDeep_holds : Rows.ToolsDeepSaid :=
  OpenClaim.holds_of_wide 4 Tryz.f4 rfl rfl rfl rfl rfl rfl rfl ⟨rfl, rfl, rfl, rfl, rfl⟩ rfl rfl rfl rfl rfl toolsDeep_named1 toolsDeep_fn toolsDeep_closed toolsDeep_inst toolsDeep_wrapper
    (fun os started H enc _ => toolsDeep_lifted os started H enc)
end
end Go.Proofs.YthocoonhoilmdaaGreatDoor
