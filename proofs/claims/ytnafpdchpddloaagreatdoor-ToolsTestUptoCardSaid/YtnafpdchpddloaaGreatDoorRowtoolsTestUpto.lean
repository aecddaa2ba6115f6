/-
  The row of toolsTestUpto: for every input the law returns true.
-/
import Derived.Test.YtnafpdchpddloaaGreatDoorRuntoolsTest
import Derived.Deep.DeepHandedRow
import Derived.JoinedCond
import Derived.Stop.Joined
import Derived.Test.YtnafpdchpddloaaGreatDoorXRowK6
import Derived.OpenShut
import Derived.Carry
import Derived.Lay
open Go Go.Mx Go.ChangeShapes Go.WideShapes Go.RowKit
namespace Go.Proofs.YtnafpdchpddloaaGreatDoor
set_option maxRecDepth 1000000
noncomputable section
def toolsTestUpto_L : List Nat := [3, 4, 5, 7, 14, 19, 20, 21, 39, 71, 103, 131, 104, 132, 72, 73, 38, 22, 40, 74, 105, 121, 151, 152, 177, 184, 185, 153, 154, 186, 187, 208, 209, 41, 42, 75, 106, 133, 134, 162, 163, 135, 114, 125, 157, 69, 102, 189, 210, 211, 212, 221, 214, 213, 180, 201, 200, 202, 204, 217, 203, 206, 219, 223, 160, 188, 218, 222, 224, 127, 126, 205, 85, 113, 215, 190, 164, 165, 191, 192, 46, 23, 44, 45, 77, 9, 16, 33, 67, 100, 128, 158, 34, 68, 101, 129, 159, 130, 161, 35, 70, 36, 37, 17, 10, 15, 43, 76, 24, 47, 48, 78, 79, 6, 11, 13, 18, 12, 25, 49, 80, 107, 136, 81, 108, 137, 166, 109, 139, 176, 138, 167, 173, 198, 168, 193, 169, 194, 195, 170, 196, 197, 216, 171, 172, 174, 175, 26, 50, 51, 56, 83, 57, 27, 52, 53, 82, 54, 28, 55, 29, 58, 59, 30, 60, 84, 110, 111, 140, 141, 112, 142, 178, 143, 179, 199, 181, 207, 220, 115, 145, 146, 116, 147, 182, 148, 149, 183, 150, 144, 61, 62, 31, 32, 63, 86, 87, 88, 92, 89, 93, 117, 90, 91, 64, 94, 65, 66, 95, 118, 96, 119, 120, 97, 98, 122, 99, 123, 155, 156, 124, 8]
theorem toolsTestUpto_clos : Tryz.prog.closure 3 = toolsTestUpto_L := closure_by_table Tryz.prog tabT_all (by kernel_rfl)
theorem toolsTestUpto_inPlace : Tryz.prog.inPlace 3 = Rows.toolsTestUptoRow.inPlace := inPlace_by_table Tryz.prog toolsTestUpto_clos tabN_all (by kernel_rfl)
theorem toolsTestUpto_named : Tryz.prog.varsNamed 3 = Rows.toolsTestUptoRow.named := varsNamed_by_table Tryz.prog toolsTestUpto_clos tabG_all tabE_all (by kernel_rfl)
theorem toolsTestUpto_unf : Tryz.prog.unfollowed 3 = true := by
  obtain ⟨c, hc⟩ : ∃ c, Tryz.f7.body = some c := ⟨_, rfl⟩
  exact unfollowed_by_table Tryz.prog toolsTestUpto_clos (g := 7) (by kernel_rfl) (fn := Tryz.f7) (by kernel_rfl) hc (by cases hc; kernel_rfl)
theorem toolsTestUpto_k0 : (Rows.toolsTestUptoRow.wf (OpenSpec.ofChange Rows.toolsTestSpec)) = true := by kernel_rfl
theorem toolsTestUpto_k3 : (Tryz.f3.params.all (Tryz.pinned.checked.prog.readableRec ·)) = true := by kernel_rfl
theorem toolsTestUpto_k4 : (namedTie Tryz.pinned.checked.prog Rows.toolsTestUptoRow.named Rows.toolsTestSpec.vars) = true := by kernel_rfl
theorem toolsTestUpto_k5 : ((Rows.toolsTestUptoRow.stops == [])) = true := by kernel_rfl
theorem toolsTestUpto_k6 : ((Tryz.pinned.checked.prog.stops == [])) = true := by kernel_rfl
theorem toolsTestUpto_k7 : ((Rows.toolsTestUptoRow.knobs == [])) = true := by kernel_rfl
theorem toolsTestUpto_k8 : ((Tryz.pinned.checked.prog.stopKnobs == [])) = true := by kernel_rfl
theorem toolsTestUpto_k9 : ((Rows.toolsTestUptoRow.inPlace == Tryz.pinned.checked.prog.inPlace 3)) = true := beq_iff_eq.2 toolsTestUpto_inPlace.symm
theorem toolsTestUpto_k10 : ((Rows.toolsTestUptoRow.unfollowed == Tryz.pinned.checked.prog.unfollowed 3)) = true := beq_iff_eq.2 toolsTestUpto_unf.symm
theorem toolsTestUpto_k11 : ((Rows.toolsTestUptoRow.recurses == Tryz.pinned.checked.prog.recurses 3)) = true := beq_iff_eq.2 (show true = Tryz.prog.recurses 3 by unfold Program.recurses; rw [toolsTestUpto_unf]; rfl)
theorem toolsTestUpto_k12 : ((Rows.toolsTestUptoRow.named == Tryz.pinned.checked.prog.varsNamed 3)) = true := beq_iff_eq.2 toolsTestUpto_named.symm
theorem toolsTestUpto_k13 : ((Rows.toolsTestUptoRow.maps == (Tryz.f3.params.toList ++ Rows.toolsTestSpec.plain.varTypes Tryz.pinned.checked.prog).any (Tryz.pinned.checked.prog.mapsRec ·))) = true := by kernel_rfl
theorem toolsTestUpto_k14 : ((Rows.toolsTestUptoRow.ifaces == (Tryz.f3.params.toList ++ Rows.toolsTestSpec.plain.varTypes Tryz.pinned.checked.prog).any (Tryz.pinned.checked.prog.ifacesRec ·))) = true := by kernel_rfl
theorem toolsTestUpto_k15 : ((Rows.toolsTestUptoRow.mapsOut == Tryz.pinned.checked.prog.mapsAmong Tryz.f3.resultTypes.toList)) = true := by kernel_rfl
theorem toolsTestUpto_k16 : ((Rows.toolsTestUptoRow.loops == (Tryz.f3.params.toList ++ Rows.toolsTestSpec.plain.varTypes Tryz.pinned.checked.prog).any (Tryz.pinned.checked.prog.loopsFrom ·))) = true := by kernel_rfl
theorem toolsTestUpto_k17 : ((Rows.toolsTestUptoRow.wideKeys == (Tryz.f3.params.toList ++ Rows.toolsTestSpec.plain.varTypes Tryz.pinned.checked.prog ++ Tryz.f3.resultTypes.toList).any (Tryz.pinned.checked.prog.wideKeysFrom ·))) = true := by kernel_rfl
theorem toolsTestUpto_k18 : (Rows.toolsTestSpec.vars.all (Tryz.pinned.checked.prog.varReadable ·)) = true := by kernel_rfl
theorem toolsTestUpto_k19 : (Tryz.f3.resultTypes.all (fun t => Tryz.pinned.checked.prog.readableRec t && decide (t < Tryz.pinned.checked.prog.types.size))) = true := by kernel_rfl
theorem toolsTestUpto_k20 : ((Rows.toolsTestUptoRow.ifacesOut == Tryz.f3.resultTypes.toList.any (Tryz.pinned.checked.prog.ifacesRec ·))) = true := by kernel_rfl
theorem toolsTestUpto_k21 : ((Rows.toolsTestUptoRow.loopsOut == Tryz.f3.resultTypes.toList.any (Tryz.pinned.checked.prog.loopsFrom ·))) = true := by kernel_rfl
theorem toolsTestUpto_k22 : ((Rows.toolsTestUptoRow.plainKeys == Tryz.pinned.checked.prog.plainKeys)) = true := by kernel_rfl
theorem toolsTestUpto_k23 : (Rows.toolsTestUptoRow.shortTexts.isNone) = true := by kernel_rfl
theorem toolsTestUpto_k26 : ((Rows.toolsTestUptoRow.lifted == Tryz.pinned.checked.prog.liftsFinal)) = true := by kernel_rfl
theorem toolsTestUpto_k27 : ((Tryz.pinned.checked.prog.make == some Rows.toolsTestUptoRow.make)) = true := by kernel_rfl
theorem toolsTestUpto_k28 : ((Rows.toolsTestUptoRow.kinds == (if Rows.toolsTestUptoRow.domain.isEmpty then [] else Tryz.f3.params.toList.map fun t => match Tryz.pinned.checked.prog.underlying t with | some (.int k) => some k | _ => none))) = true := by kernel_rfl
theorem toolsTestUpto_k29 : ((Rows.toolsTestUptoRow.pinned == Rows.toolsTestUptoRow.pinnedBy)) = true := by kernel_rfl
theorem toolsTestUpto_k30 : ((Rows.toolsTestUptoRow.veiled == (Tryz.f3.params.toList ++ Rows.toolsTestSpec.plain.varTypes Tryz.pinned.checked.prog ++ Tryz.f3.resultTypes.toList).any (Tryz.pinned.checked.prog.veiledRec ·))) = true := by kernel_rfl
theorem toolsTestUpto_k31 : (Rows.toolsTestUptoRow.veiledFits Tryz.pinned.checked.prog Tryz.f3.params.toList (Tryz.f3.params.toList ++ Rows.toolsTestSpec.plain.varTypes Tryz.pinned.checked.prog ++ Tryz.f3.resultTypes.toList)) = true := by kernel_rfl
theorem toolsTestUpto_closed : joinedFacts Tryz.pinned.checked.prog 3 Tryz.f3 Rows.toolsTestSpec Rows.toolsTestUptoRow = true := band (band (band (band (band (band (band (band (band (band (band (band (band (band (band (band (band (band (band (band (band (band (band (band (band (band (band (band (band (band (band (toolsTestUpto_k0) laidOut_ok) mapsRowed_ok) toolsTestUpto_k3) toolsTestUpto_k4) toolsTestUpto_k5) toolsTestUpto_k6) toolsTestUpto_k7) toolsTestUpto_k8) toolsTestUpto_k9) toolsTestUpto_k10) toolsTestUpto_k11) toolsTestUpto_k12) toolsTestUpto_k13) toolsTestUpto_k14) toolsTestUpto_k15) toolsTestUpto_k16) toolsTestUpto_k17) toolsTestUpto_k18) toolsTestUpto_k19) toolsTestUpto_k20) toolsTestUpto_k21) toolsTestUpto_k22) toolsTestUpto_k23) stopsHeard_ok) mayEnter_ok) toolsTestUpto_k26) toolsTestUpto_k27) toolsTestUpto_k28) toolsTestUpto_k29) toolsTestUpto_k30) toolsTestUpto_k31
abbrev toolsTestUpto_lst : List (String × DataW Unit) := Rows.toolsTestUptoRow.laid
theorem toolsTestUpto_plain : (toolsTestUpto_lst.all fun x => x.2.handleName?.isNone) = true := by kernel_rfl
theorem toolsTestUpto_noInit : Tryz.prog.inits.idxOf? 3 = none := by kernel_rfl
theorem toolsTestUpto_fn : Tryz.prog.funcs[3]? = some Tryz.f3 := by kernel_rfl
theorem toolsTestUpto_zip1 (os : Os) : ((World.laidAll Tryz.prog os toolsTestUpto_lst).forCall (fun _ _ => 0) ⟨#[], #[.slice none 0 0], []⟩).variablesZipB Tryz.prog = true := by kernel_rfl
theorem toolsTestUpto_zip2 (os : Os) : ((((World.laidAll Tryz.prog os toolsTestUpto_lst).forCall (fun _ _ => 0) ⟨#[], #[.slice none 0 0], []⟩).heap.toList.drop Tryz.prog.globals.size).take ((begin Tryz.prog (fun _ _ => 0) default).world.heap.size - Tryz.prog.globals.size) =
      (begin Tryz.prog (fun _ _ => 0) default).world.heap.toList.drop Tryz.prog.globals.size) := by kernel_rfl
theorem toolsTestUpto_fits (os : Os) : (World.holding Tryz.prog os ⟨#[], #[], []⟩).layFits Tryz.prog toolsTestUpto_lst [] = true := by kernel_rfl
theorem toolsTestUpto_ifaces (os : Os) : (World.holding Tryz.prog os ⟨#[], #[], []⟩).layIfaces Tryz.prog toolsTestUpto_lst (World.laidAll Tryz.prog os toolsTestUpto_lst) = true := by kernel_rfl
theorem toolsTestUpto_okB (os : Os) : Input.okWideB Tryz.prog ((World.laidAll Tryz.prog os toolsTestUpto_lst).forCall (fun _ _ => 0) ⟨#[], #[.slice none 0 0], []⟩) 3 ⟨#[], #[.slice none 0 0], []⟩ = true := by kernel_rfl
theorem toolsTestUpto_preB (os : Os) (H : Type) (enc : TypeId × Value → H) : Rows.toolsTestSpec.preB enc Tryz.prog Tryz.f3 [] false ((World.laidAll Tryz.prog os toolsTestUpto_lst).forCall (fun _ _ => 0) ⟨#[], #[.slice none 0 0], []⟩).memory #[.slice none 0 0] 8 = true := by kernel_rfl
theorem toolsTestUpto_szB (os : Os) (H : Type) (enc : TypeId × Value → H) : Rows.toolsTestSpec.sizedB enc Tryz.prog Tryz.f3 false ((World.laidAll Tryz.prog os toolsTestUpto_lst).forCall (fun _ _ => 0) ⟨#[], #[.slice none 0 0], []⟩).memory #[.slice none 0 0] 8 = true := by kernel_rfl
theorem toolsTestUpto_uInt : Tryz.prog.underlying 3 = some (.int .i64) := by kernel_rfl
theorem toolsTestUpto_uBool : Tryz.prog.underlying 4 = some .bool := by kernel_rfl
theorem toolsTestUpto_params : Tryz.f3.params = #[22] := by kernel_rfl
theorem toolsTestUpto_results : Tryz.f3.resultTypes = #[4] := by kernel_rfl
theorem toolsTestUpto_body : ∃ c, Tryz.f3.body = some c := ⟨_, rfl⟩
theorem toolsTestUpto_stU : Tryz.prog.underlying 22 = some (.slice 9) := by kernel_rfl
theorem toolsTestUpto_stE : Tryz.prog.underlying 9 = some .string := by kernel_rfl
theorem toolsTestUpto_stC : Tryz.prog.cellsOf 9 = 1 := by kernel_rfl
theorem toolsTestUpto_stR : Tryz.pinned.checked.prog.readableRec 22 = true := by kernel_rfl
theorem toolsTestUpto_stT : 22 < Tryz.pinned.checked.prog.types.size := of_decide_eq_true (by kernel_rfl)
theorem mlMax {W : World} (h : W.ShapedOpen Tryz.prog) : MaxIs W :=
  cell_of_shapedOpen_int (t := 3) (zero := #[.int .i64 0]) h (of_decide_eq_true (by kernel_rfl)) (by kernel_rfl) rfl (by kernel_rfl) (by kernel_rfl) (by kernel_rfl)
theorem al_fn : Tryz.prog.funcs[4]? = some Tryz.f4 := by kernel_rfl
theorem al_body : ∃ c, Tryz.f4.body = some c := ⟨_, rfl⟩
theorem toolsTestUpto_calls {H : Type} {encH : TypeId × Value → H} {W : World} {v0 : Value} {d0 : DataW H} {p0 : List MemPlace} (hm : MaxIs W) (hk : Rows.uptoSmall H ([d0] ++ []) = true) (hval : Value.okWide Tryz.prog W .any 0 22 v0) (h0 : DataW.Trod encH Tryz.prog W 0 (fun _ => true) true 22 v0 d0 p0) :
    Calls Tryz.prog 3 #[v0] W fun e W' => e = .returned (.bool true) ∧ Stays W W' := by
  have hal : Calls Tryz.prog 4 #[] W fun e w' => e = .returned (.bool true) ∧ Below W.heap.size W w' := by
    obtain ⟨c, hb⟩ := al_body
    exact (top_run follows nameOK hk0ok al_fn hb tblIn (args := .nil) (vs := []) (by simp only [VRs]) alive4 (tabs W)).mono fun e W' h => ⟨h.1, below_stays h.2⟩
  obtain ⟨o, cap, l, rfl, h1, h2, h3⟩ := open_strs_small toolsTestUpto_stU toolsTestUpto_stE toolsTestUpto_stC (okWide_slice toolsTestUpto_stU hval) h0 hk
  exact (law_any W hm l h1 h2 o cap h3 hal).mono fun e W' h => ⟨h.1, ⟨h.2.size, h.2.os, h.2.tape, h.2.output, h.2.block⟩⟩
theorem toolsTestUpto_hx (os : Os) (H : Type) (enc : TypeId × Value → H) : DataW.whole enc Tryz.prog ((World.laidAll Tryz.prog os toolsTestUpto_lst).forCall (fun _ _ => 0) ⟨#[], #[.slice none 0 0], []⟩).memory Tryz.f3.params.toList Rows.toolsTestSpec.vars false #[Value.slice none 0 0].toList 8 = some ([.nil], [], []) := by kernel_rfl
theorem toolsTestUpto_lifted (os : Os) (started : os.Started) (H : Type) (enc : TypeId × Value → H) (F : Stop.Interp) :
    ReturnsInHanded {} Tryz.checked os 3 .any ((Rows.OpenSpec.upto Rows.toolsTestSpec).preRow enc Tryz.prog Tryz.f3 Rows.toolsTestUptoRow.domain false Rows.toolsTestUptoRow.laid) (((Rows.OpenSpec.upto Rows.toolsTestSpec).at F).post enc Tryz.prog Tryz.f3 false true false false) := by
  refine returnsInHanded_of_row (C := Tryz.checked) (s := Rows.OpenSpec.upto Rows.toolsTestSpec) own started toolsTestUpto_noInit toolsTestUpto_fn
    ⟨World.laidAll Tryz.prog os toolsTestUpto_lst, fun _ _ => 0, ⟨#[], #[.slice none 0 0], []⟩, World.laidAll_os _ _ _, World.shaped_of_ZipB (toolsTestUpto_zip1 os) (toolsTestUpto_zip2 os), rfl, (Input.okWide_of_okWideB (toolsTestUpto_okB os)).2,
      OpenSpec.preRow_of_cond 8 (toolsTestUpto_hx os H enc) (by kernel_rfl) (fun k hk => by cases hk; kernel_rfl) (toolsTestUpto_szB os H enc) (by rw [MakeChecks.laidMetH_plain _ _ _ toolsTestUpto_plain]; exact laidMet_laidAll _ (toolsTestUpto_fits os) (toolsTestUpto_ifaces os)),
      by simp only [Assume.holds]; exact ⟨by simp, by simp, by simp, by simp, by simp⟩⟩ ?_
  intro W base args ds gs before hval0 hW _ hcond _ hL hsh _
  have hval : ∀ (j : Nat) t v, Tryz.f3.params[j]? = some t → args[j]? = some v → Value.okWide Tryz.prog W .any base t v := hval0
  have hW' := hW
  obtain ⟨p, q, hA0, hV, rfl, _, _⟩ := hW
  have hA : DataW.TrodAll enc Tryz.prog W 0 (fun _ => true) true Tryz.f3.params.toList args.toList ds p := hA0
  rw [toolsTestUpto_params] at hA hval
  obtain ⟨v0, d0, rfl, rfl, h0⟩ := trodAll_one hA
  obtain ⟨rfl, rfl⟩ := trodVars_none hV
  refine (toolsTestUpto_calls (mlMax hsh) (hcond _ rfl) (hval 0 22 v0 rfl rfl) h0).mono fun e W' ⟨he, hs⟩ => ?_
  show ∃ v, e = .returned v ∧ Rows.toolsTestSpec.post enc Tryz.prog Tryz.f3 false true false false W _ v W'
  refine ⟨_, he, _, _, _, [], p, [], hW', ?_, ?_, ?_, hs.keptBut _, fun h => by cases h⟩
  · rw [toolsTestUpto_results]
    exact trodAll_mk1 (shut_bool toolsTestUpto_uBool true)
  · rw [toolsTestUpto_params]
    exact trodAll_mk1 (Below.trod laidOut_ok toolsTestUpto_stR toolsTestUpto_stT h0 hs.below (fun y hy => hW'.lt y (by simp [hy])))
  · rfl
theorem toolsTestUpto_named1 : Tryz.pinned.checked.prog.funcNamed Rows.toolsTestUptoRow.func = some 3 := by kernel_rfl
theorem toolsTestUpto_wrapper : Tryz.f3.isWrapper Tryz.pinned.checked.prog Rows.toolsTestUptoRow.wrapper Rows.toolsTestUptoRow.mainSum := by unfold Func.isWrapper; first | (rw [if_pos (by decide +kernel)]; kernel_rfl) | (rw [if_neg (by decide +kernel)]; exact ⟨rfl, rfl⟩)
theorem toolsTestUpto_inst : Tryz.f3.isInstance Tryz.pinned.checked.prog Rows.toolsTestUptoRow.origin Rows.toolsTestUptoRow.targs := of_decide_eq_true (by kernel_rfl)
theorem toolsTestUpto_holds : Rows.ToolsTestUptoSaid :=
  OpenClaim.holds_of_cond 3 Tryz.f3 rfl rfl rfl rfl rfl rfl rfl ⟨rfl, rfl, rfl, rfl, rfl⟩ rfl rfl rfl rfl rfl toolsTestUpto_named1 toolsTestUpto_fn toolsTestUpto_closed toolsTestUpto_inst toolsTestUpto_wrapper
    (fun os started H enc _ F => by rw [OpenClaim.pre_eq_preRow]; exact toolsTestUpto_lifted os started H enc F)
end
end Go.Proofs.YtnafpdchpddloaaGreatDoor
