/-
  The row of toolsCat: for every input the law returns true.
-/
import Derived.Test.YthocoonhoilmdaaGreatDoorRuntoolsCat
import Derived.Test.YthocoonhoilmdaaGreatDoorXRowK6
import Derived.OpenShut
import Derived.Carry
import Derived.Lay
import Derived.Test.YthocoonhoilmdaaGreatDoorLgR
import Derived.Test.YthocoonhoilmdaaGreatDoorRuntoolsCat
open Go Go.Mx Go.ChangeShapes Go.WideShapes Go.RowKit
namespace Go.Proofs.YthocoonhoilmdaaGreatDoor
set_option maxRecDepth 1000000
noncomputable section
def toolsCat_L : List Nat := [3, 5, 6, 9, 18, 24, 25, 26, 47, 82, 124, 156, 125, 157, 83, 84, 46, 27, 48, 85, 126, 140, 173, 174, 121, 195, 196, 175, 176, 197, 198, 213, 214, 49, 50, 86, 127, 158, 159, 185, 186, 160, 133, 150, 180, 39, 76, 200, 215, 216, 217, 225, 219, 218, 191, 206, 205, 207, 209, 221, 208, 211, 223, 227, 183, 199, 222, 226, 228, 152, 151, 210, 95, 132, 220, 201, 187, 188, 202, 203, 54, 28, 52, 53, 88, 13, 21, 41, 79, 122, 153, 181, 42, 80, 123, 154, 182, 155, 184, 43, 81, 44, 45, 22, 14, 19, 51, 87, 29, 55, 56, 89, 90, 8, 15, 17, 23, 16, 30, 57, 91, 128, 161, 20, 38, 75, 110, 40, 78, 120, 77, 111, 117, 149, 112, 144, 113, 145, 146, 114, 147, 148, 179, 115, 116, 118, 119, 31, 58, 59, 64, 93, 65, 32, 60, 61, 92, 62, 33, 63, 34, 66, 67, 35, 68, 94, 129, 130, 162, 163, 131, 164, 189, 165, 190, 204, 192, 212, 224, 134, 167, 168, 135, 169, 193, 170, 171, 194, 172, 166, 69, 70, 36, 37, 71, 96, 97, 98, 102, 99, 103, 136, 100, 101, 72, 104, 73, 74, 105, 137, 106, 138, 139, 107, 108, 141, 109, 142, 177, 178, 143, 12, 7]
theorem toolsCat_clos : Tryz.prog.closure 3 = toolsCat_L := closure_by_table Tryz.prog tabT_all (by kernel_rfl)
theorem toolsCat_inPlace : Tryz.prog.inPlace 3 = Rows.toolsCatRow.inPlace := inPlace_by_table Tryz.prog toolsCat_clos tabN_all (by kernel_rfl)
theorem toolsCat_named : Tryz.prog.varsNamed 3 = Rows.toolsCatRow.named := varsNamed_by_table Tryz.prog toolsCat_clos tabG_all tabE_all (by kernel_rfl)
theorem toolsCat_unf : Tryz.prog.unfollowed 3 = true := by
  obtain ⟨c, hc⟩ : ∃ c, Tryz.f9.body = some c := ⟨_, rfl⟩
  exact unfollowed_by_table Tryz.prog toolsCat_clos (g := 9) (by kernel_rfl) (fn := Tryz.f9) (by kernel_rfl) hc (by cases hc; kernel_rfl)
theorem toolsCat_k0 : (Rows.toolsCatRow.wf (OpenSpec.ofChange Rows.toolsCatSpec)) = true := by kernel_rfl
theorem toolsCat_k3 : (Tryz.f3.params.all (Tryz.pinned.checked.prog.readableRec ·)) = true := by kernel_rfl
theorem toolsCat_k4 : (namedTie Tryz.pinned.checked.prog Rows.toolsCatRow.named Rows.toolsCatSpec.vars) = true := by kernel_rfl
theorem toolsCat_k5 : ((Rows.toolsCatRow.stops == [])) = true := by kernel_rfl
theorem toolsCat_k6 : ((Tryz.pinned.checked.prog.stops == [])) = true := by kernel_rfl
theorem toolsCat_k7 : ((Rows.toolsCatRow.knobs == [])) = true := by kernel_rfl
theorem toolsCat_k8 : ((Tryz.pinned.checked.prog.stopKnobs == [])) = true := by kernel_rfl
theorem toolsCat_k9 : ((Rows.toolsCatRow.inPlace == Tryz.pinned.checked.prog.inPlace 3)) = true := beq_iff_eq.2 toolsCat_inPlace.symm
theorem toolsCat_k10 : ((Rows.toolsCatRow.unfollowed == Tryz.pinned.checked.prog.unfollowed 3)) = true := beq_iff_eq.2 toolsCat_unf.symm
theorem toolsCat_k11 : ((Rows.toolsCatRow.recurses == Tryz.pinned.checked.prog.recurses 3)) = true := beq_iff_eq.2 (show true = Tryz.prog.recurses 3 by unfold Program.recurses; rw [toolsCat_unf]; rfl)
theorem toolsCat_k12 : ((Rows.toolsCatRow.named == Tryz.pinned.checked.prog.varsNamed 3)) = true := beq_iff_eq.2 toolsCat_named.symm
theorem toolsCat_k13 : ((Rows.toolsCatRow.maps == (Tryz.f3.params.toList ++ Rows.toolsCatSpec.plain.varTypes Tryz.pinned.checked.prog).any (Tryz.pinned.checked.prog.mapsRec ·))) = true := by kernel_rfl
theorem toolsCat_k14 : ((Rows.toolsCatRow.ifaces == (Tryz.f3.params.toList ++ Rows.toolsCatSpec.plain.varTypes Tryz.pinned.checked.prog).any (Tryz.pinned.checked.prog.ifacesRec ·))) = true := by kernel_rfl
theorem toolsCat_k15 : ((Rows.toolsCatRow.mapsOut == Tryz.pinned.checked.prog.mapsAmong Tryz.f3.resultTypes.toList)) = true := by kernel_rfl
theorem toolsCat_k16 : ((Rows.toolsCatRow.loops == (Tryz.f3.params.toList ++ Rows.toolsCatSpec.plain.varTypes Tryz.pinned.checked.prog).any (Tryz.pinned.checked.prog.loopsFrom ·))) = true := by kernel_rfl
theorem toolsCat_k17 : ((Rows.toolsCatRow.wideKeys == (Tryz.f3.params.toList ++ Rows.toolsCatSpec.plain.varTypes Tryz.pinned.checked.prog ++ Tryz.f3.resultTypes.toList).any (Tryz.pinned.checked.prog.wideKeysFrom ·))) = true := by kernel_rfl
theorem toolsCat_k18 : (Rows.toolsCatSpec.vars.all (Tryz.pinned.checked.prog.varReadable ·)) = true := by kernel_rfl
theorem toolsCat_k19 : (Tryz.f3.resultTypes.all (fun t => Tryz.pinned.checked.prog.readableRec t && decide (t < Tryz.pinned.checked.prog.types.size))) = true := by kernel_rfl
theorem toolsCat_k20 : ((Rows.toolsCatRow.ifacesOut == Tryz.f3.resultTypes.toList.any (Tryz.pinned.checked.prog.ifacesRec ·))) = true := by kernel_rfl
theorem toolsCat_k21 : ((Rows.toolsCatRow.loopsOut == Tryz.f3.resultTypes.toList.any (Tryz.pinned.checked.prog.loopsFrom ·))) = true := by kernel_rfl
theorem toolsCat_k22 : ((Rows.toolsCatRow.plainKeys == Tryz.pinned.checked.prog.plainKeys)) = true := by kernel_rfl
theorem toolsCat_k23 : (Rows.toolsCatRow.shortTexts.isNone) = true := by kernel_rfl
theorem toolsCat_k26 : ((Rows.toolsCatRow.lifted == Tryz.pinned.checked.prog.liftsFinal)) = true := by kernel_rfl
theorem toolsCat_k27 : ((Tryz.pinned.checked.prog.make == some Rows.toolsCatRow.make)) = true := by kernel_rfl
theorem toolsCat_k28 : ((Rows.toolsCatRow.kinds == (if Rows.toolsCatRow.domain.isEmpty then [] else Tryz.f3.params.toList.map fun t => match Tryz.pinned.checked.prog.underlying t with | some (.int k) => some k | _ => none))) = true := by kernel_rfl
theorem toolsCat_k29 : ((Rows.toolsCatRow.pinned == Rows.toolsCatRow.pinnedBy)) = true := by kernel_rfl
theorem toolsCat_k30 : ((Rows.toolsCatRow.veiled == (Tryz.f3.params.toList ++ Rows.toolsCatSpec.plain.varTypes Tryz.pinned.checked.prog ++ Tryz.f3.resultTypes.toList).any (Tryz.pinned.checked.prog.veiledRec ·))) = true := by kernel_rfl
theorem toolsCat_k31 : (Rows.toolsCatRow.veiledFits Tryz.pinned.checked.prog Tryz.f3.params.toList (Tryz.f3.params.toList ++ Rows.toolsCatSpec.plain.varTypes Tryz.pinned.checked.prog ++ Tryz.f3.resultTypes.toList)) = true := by kernel_rfl
theorem toolsCat_closed : joinedFacts Tryz.pinned.checked.prog 3 Tryz.f3 Rows.toolsCatSpec Rows.toolsCatRow = true := band (band (band (band (band (band (band (band (band (band (band (band (band (band (band (band (band (band (band (band (band (band (band (band (band (band (band (band (band (band (band (toolsCat_k0) laidOut_ok) mapsRowed_ok) toolsCat_k3) toolsCat_k4) toolsCat_k5) toolsCat_k6) toolsCat_k7) toolsCat_k8) toolsCat_k9) toolsCat_k10) toolsCat_k11) toolsCat_k12) toolsCat_k13) toolsCat_k14) toolsCat_k15) toolsCat_k16) toolsCat_k17) toolsCat_k18) toolsCat_k19) toolsCat_k20) toolsCat_k21) toolsCat_k22) toolsCat_k23) stopsHeard_ok) mayEnter_ok) toolsCat_k26) toolsCat_k27) toolsCat_k28) toolsCat_k29) toolsCat_k30) toolsCat_k31
abbrev toolsCat_lst : List (String × DataW Unit) := Rows.toolsCatRow.laid
theorem toolsCat_plain : (toolsCat_lst.all fun x => x.2.handleName?.isNone) = true := by kernel_rfl
theorem toolsCat_noInit : Tryz.prog.inits.idxOf? 3 = none := by kernel_rfl
theorem toolsCat_fn : Tryz.prog.funcs[3]? = some Tryz.f3 := by kernel_rfl
theorem toolsCat_zip1 (os : Os) : ((World.laidAll Tryz.prog os toolsCat_lst).forCall (fun _ _ => 0) ⟨#[], #[.slice none 0 0, .slice none 0 0, .slice none 0 0], []⟩).variablesZipB Tryz.prog = true := by kernel_rfl
theorem toolsCat_zip2 (os : Os) : ((((World.laidAll Tryz.prog os toolsCat_lst).forCall (fun _ _ => 0) ⟨#[], #[.slice none 0 0, .slice none 0 0, .slice none 0 0], []⟩).heap.toList.drop Tryz.prog.globals.size).take ((begin Tryz.prog (fun _ _ => 0) default).world.heap.size - Tryz.prog.globals.size) =
      (begin Tryz.prog (fun _ _ => 0) default).world.heap.toList.drop Tryz.prog.globals.size) := by kernel_rfl
theorem toolsCat_fits (os : Os) : (World.holding Tryz.prog os ⟨#[], #[], []⟩).layFits Tryz.prog toolsCat_lst [] = true := by kernel_rfl
theorem toolsCat_ifaces (os : Os) : (World.holding Tryz.prog os ⟨#[], #[], []⟩).layIfaces Tryz.prog toolsCat_lst (World.laidAll Tryz.prog os toolsCat_lst) = true := by kernel_rfl
theorem toolsCat_okB (os : Os) : Input.okWideB Tryz.prog ((World.laidAll Tryz.prog os toolsCat_lst).forCall (fun _ _ => 0) ⟨#[], #[.slice none 0 0, .slice none 0 0, .slice none 0 0], []⟩) 3 ⟨#[], #[.slice none 0 0, .slice none 0 0, .slice none 0 0], []⟩ = true := by kernel_rfl
theorem toolsCat_preB (os : Os) (H : Type) (enc : TypeId × Value → H) : Rows.toolsCatSpec.preB enc Tryz.prog Tryz.f3 [] false ((World.laidAll Tryz.prog os toolsCat_lst).forCall (fun _ _ => 0) ⟨#[], #[.slice none 0 0, .slice none 0 0, .slice none 0 0], []⟩).memory #[.slice none 0 0, .slice none 0 0, .slice none 0 0] 8 = true := by kernel_rfl
theorem toolsCat_szB (os : Os) (H : Type) (enc : TypeId × Value → H) : Rows.toolsCatSpec.sizedB enc Tryz.prog Tryz.f3 false ((World.laidAll Tryz.prog os toolsCat_lst).forCall (fun _ _ => 0) ⟨#[], #[.slice none 0 0, .slice none 0 0, .slice none 0 0], []⟩).memory #[.slice none 0 0, .slice none 0 0, .slice none 0 0] 8 = true := by kernel_rfl
theorem toolsCat_uInt : Tryz.prog.underlying 3 = some (.int .i64) := by kernel_rfl
theorem toolsCat_uBool : Tryz.prog.underlying 4 = some .bool := by kernel_rfl
theorem toolsCat_params : Tryz.f3.params = #[22, 23, 24] := by kernel_rfl
theorem toolsCat_results : Tryz.f3.resultTypes = #[4] := by kernel_rfl
theorem toolsCat_body : ∃ c, Tryz.f3.body = some c := ⟨_, rfl⟩
theorem toolsCat_byU : Tryz.prog.underlying 24 = some (.slice 5) := by kernel_rfl
theorem toolsCat_byE : Tryz.prog.underlying 5 = some (.int .u8) := by kernel_rfl
theorem toolsCat_byC : Tryz.prog.cellsOf 5 = 1 := by kernel_rfl
theorem toolsCat_byR : Tryz.pinned.checked.prog.readableRec 24 = true := by kernel_rfl
theorem toolsCat_byT : 24 < Tryz.pinned.checked.prog.types.size := of_decide_eq_true (by kernel_rfl)
theorem toolsCat_roU : Tryz.prog.underlying 22 = some (.slice 24) := by kernel_rfl
theorem toolsCat_roE : Tryz.prog.underlying 24 = some (.slice 5) := by kernel_rfl
theorem toolsCat_roC : Tryz.prog.cellsOf 24 = 1 := by kernel_rfl
theorem toolsCat_roR : Tryz.pinned.checked.prog.readableRec 22 = true := by kernel_rfl
theorem toolsCat_roT : 22 < Tryz.pinned.checked.prog.types.size := of_decide_eq_true (by kernel_rfl)
theorem toolsCat_trU : Tryz.prog.underlying 23 = some (.slice 4) := by kernel_rfl
theorem toolsCat_trE : Tryz.prog.underlying 4 = some .bool := by kernel_rfl
theorem toolsCat_trC : Tryz.prog.cellsOf 4 = 1 := by kernel_rfl
theorem toolsCat_trR : Tryz.pinned.checked.prog.readableRec 23 = true := by kernel_rfl
theorem toolsCat_trT : 23 < Tryz.pinned.checked.prog.types.size := of_decide_eq_true (by kernel_rfl)
theorem mlMax {W : World} (h : W.ShapedOpen Tryz.prog) : MaxIs W :=
  cell_of_shapedOpen_int (t := 3) (zero := #[.int .i64 0]) h (of_decide_eq_true (by kernel_rfl)) (by kernel_rfl) rfl (by kernel_rfl) (by kernel_rfl) (by kernel_rfl)
theorem al_fn : Tryz.prog.funcs[5]? = some Tryz.f5 := by kernel_rfl
theorem al_body : ∃ c, Tryz.f5.body = some c := ⟨_, rfl⟩
theorem toolsCat_calls {H : Type} {encH : TypeId × Value → H} {W : World} {v0 v1 v2 : Value} {d0 d1 d2 : DataW H} {p0 p1 p2 : List MemPlace} (hm : MaxIs W) (hval0 : Value.okWide Tryz.prog W .any 0 22 v0) (h0 : DataW.Trod encH Tryz.prog W 0 (fun _ => true) true 22 v0 d0 p0) (hval1 : Value.okWide Tryz.prog W .any 0 23 v1) (h1 : DataW.Trod encH Tryz.prog W 0 (fun _ => true) true 23 v1 d1 p1)
    (hval2 : Value.okWide Tryz.prog W .any 0 24 v2) (h2 : DataW.Trod encH Tryz.prog W 0 (fun _ => true) true 24 v2 d2 p2) :
    Calls Tryz.prog 3 #[v0, v1, v2] W fun e W' => e = .returned (.bool true) ∧ Stays W W' := by
  have hal : Calls Tryz.prog 5 #[] W fun e w' => e = .returned (.bool true) ∧ Below W.heap.size W w' := by
    obtain ⟨c, hb⟩ := al_body
    exact (top_run follows nameOK hk0ok al_fn hb tblIn (args := .nil) (vs := []) (by simp only [VRs]) alive5 (tabs W)).mono fun e W' h => ⟨h.1, below_stays h.2⟩
  obtain ⟨Ls, g0⟩ := open_rows toolsCat_roU toolsCat_roE toolsCat_byE toolsCat_roC toolsCat_byC (okWide_slice toolsCat_roU hval0) h0
  obtain ⟨gs, g1⟩ := open_truths toolsCat_trU toolsCat_trE toolsCat_trC (okWide_slice toolsCat_trU hval1) h1
  obtain ⟨inL, io, ic, rfl, g2⟩ := open_bytes toolsCat_byU toolsCat_byE toolsCat_byC (okWide_slice toolsCat_byU hval2) h2
  exact (law_any W hm v0 v1 Ls gs inL io ic g0 g1 g2 hal).mono fun e W' h => ⟨h.1, ⟨h.2.size, h.2.os, h.2.tape, h.2.output, h.2.block⟩⟩
theorem toolsCat_lifted (os : Os) (started : os.Started) (H : Type) (enc : TypeId × Value → H) :
    ReturnsInHanded {} Tryz.checked os 3 .any (fun w args => (Rows.toolsCatSpec.pre enc Tryz.prog Tryz.f3 Rows.toolsCatRow.domain false w args ∧ laidMetH Tryz.prog toolsCat_lst w) ∧ sizedMet enc Tryz.prog Tryz.f3 (OpenSpec.ofChange Rows.toolsCatSpec) false w args)
      (Rows.toolsCatSpec.post enc Tryz.prog Tryz.f3 false true false false) := by
  refine returnsInHanded_and_shaped (C := Tryz.checked) (X := fun w _ => laidMetH Tryz.prog toolsCat_lst w) (fun _ _ _ hh h => h.of_heap hh) own started toolsCat_noInit toolsCat_fn
    (ChangeSpec.witness_shaped (enc := enc) (C := Tryz.checked) (os := os) (X := fun w _ => laidMetH Tryz.prog toolsCat_lst w) false (World.laidAll Tryz.prog os toolsCat_lst) #[.slice none 0 0, .slice none 0 0, .slice none 0 0] 8 (World.laidAll_os _ _ _)
      (World.shaped_of_ZipB (toolsCat_zip1 os) (toolsCat_zip2 os)) (toolsCat_okB os) (toolsCat_preB os H enc) (toolsCat_szB os H enc)
      (by rw [MakeChecks.laidMetH_plain _ _ _ toolsCat_plain]; exact laidMet_laidAll _ (toolsCat_fits os) (toolsCat_ifaces os))) ?_
  intro W base args ds gs before hval0 hW _ _ hL hsh _
  have hval : ∀ (j : Nat) t v, Tryz.f3.params[j]? = some t → args[j]? = some v → Value.okWide Tryz.prog W .any base t v := hval0
  have hW' := hW
  obtain ⟨p, q, hA0, hV, rfl, _, _⟩ := hW
  have hA : DataW.TrodAll enc Tryz.prog W 0 (fun _ => true) true Tryz.f3.params.toList args.toList ds p := hA0
  rw [toolsCat_params] at hA hval
  obtain ⟨v0, v1, v2, d0, d1, d2, p0, p1, p2, rfl, rfl, rfl, h0, h1, h2⟩ := trodAll_three hA
  obtain ⟨rfl, rfl⟩ := trodVars_none hV
  refine (toolsCat_calls (mlMax hsh) (hval 0 22 v0 rfl rfl) h0 (hval 1 23 v1 rfl rfl) h1 (hval 2 24 v2 rfl rfl) h2).mono fun e W' ⟨he, hs⟩ => ?_
  refine ⟨_, he, _, _, _, [], p0 ++ (p1 ++ (p2)), [], hW', ?_, ?_, ?_, hs.keptBut _, fun h => by cases h⟩
  · rw [toolsCat_results]
    exact trodAll_mk1 (shut_bool toolsCat_uBool true)
  · rw [toolsCat_params]
    exact trodAll_mk3 (Below.trod laidOut_ok toolsCat_roR toolsCat_roT h0 hs.below (fun y hy => hW'.lt y (by simp [hy]))) (Below.trod laidOut_ok toolsCat_trR toolsCat_trT h1 hs.below (fun y hy => hW'.lt y (by simp [hy]))) (Below.trod laidOut_ok toolsCat_byR toolsCat_byT h2 hs.below (fun y hy => hW'.lt y (by simp [hy])))
  · rfl
theorem toolsCat_named1 : Tryz.pinned.checked.prog.funcNamed Rows.toolsCatRow.func = some 3 := by kernel_rfl
theorem toolsCat_wrapper : Tryz.f3.isWrapper Tryz.pinned.checked.prog Rows.toolsCatRow.wrapper Rows.toolsCatRow.mainSum := by unfold Func.isWrapper; first | (rw [if_pos (by decide +kernel)]; kernel_rfl) | (rw [if_neg (by decide +kernel)]; exact ⟨rfl, rfl⟩)
theorem toolsCat_inst : Tryz.f3.isInstance Tryz.pinned.checked.prog Rows.toolsCatRow.origin Rows.toolsCatRow.targs := of_decide_eq_true (by kernel_rfl)
theorem toolsCat_holds : Rows.ToolsCatSaid :=
  OpenClaim.holds_of_wide 3 Tryz.f3 rfl rfl rfl rfl rfl rfl rfl ⟨rfl, rfl, rfl, rfl, rfl⟩ rfl rfl rfl rfl rfl toolsCat_named1 toolsCat_fn toolsCat_closed toolsCat_inst toolsCat_wrapper
    (fun os started H enc _ => toolsCat_lifted os started H enc)
end
end Go.Proofs.YthocoonhoilmdaaGreatDoor
