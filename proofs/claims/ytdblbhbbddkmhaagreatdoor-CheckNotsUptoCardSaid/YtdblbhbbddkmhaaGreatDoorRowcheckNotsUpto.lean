/-
  The row of checkNotsUpto: for every input the law returns true.
-/
import Derived.Test.YtdblbhbbddkmhaaGreatDoorRuncheckNots
import Derived.Deep.DeepHandedRow
import Derived.JoinedCond
import Derived.Stop.Joined
import Derived.Test.YtdblbhbbddkmhaaGreatDoorXRowK6
import Derived.OpenShut
import Derived.Carry
import Derived.Lay
open Go Go.Mx Go.ChangeShapes Go.WideShapes Go.RowKit
namespace Go.Proofs.YtdblbhbbddkmhaaGreatDoor
set_option maxRecDepth 1000000
noncomputable section
def checkNotsUpto_L : List Nat := [3, 4, 5, 8, 15, 19, 20, 27, 29, 16, 22, 33, 45, 61, 78, 62, 63, 64, 79, 23, 34, 46, 65, 80, 70, 84, 66, 81, 35, 47, 24, 36, 25, 26, 37, 48, 67, 82, 68, 83, 49, 50, 38, 10, 17, 11, 28, 39, 40, 21, 30, 41, 31, 42, 51, 43, 53, 52, 54, 56, 69, 55, 58, 72, 86, 71, 85, 91, 92, 57, 44, 59, 73, 87, 93, 94, 60, 74, 88, 75, 76, 90, 95, 96, 97, 98, 102, 101, 103, 99, 100, 104, 105, 106, 107, 89, 77, 32, 9, 6, 12, 14, 18, 13, 7]
theorem checkNotsUpto_clos : Tryz.prog.closure 3 = checkNotsUpto_L := closure_by_table Tryz.prog tabT_all (by kernel_rfl)
theorem checkNotsUpto_inPlace : Tryz.prog.inPlace 3 = Rows.checkNotsUptoRow.inPlace := inPlace_by_table Tryz.prog checkNotsUpto_clos tabN_all (by kernel_rfl)
theorem checkNotsUpto_named : Tryz.prog.varsNamed 3 = Rows.checkNotsUptoRow.named := varsNamed_by_table Tryz.prog checkNotsUpto_clos tabG_all tabE_all (by kernel_rfl)
theorem checkNotsUpto_unf : Tryz.prog.unfollowed 3 = true := by
  obtain ⟨c, hc⟩ : ∃ c, Tryz.f36.body = some c := ⟨_, rfl⟩
  exact unfollowed_by_table Tryz.prog checkNotsUpto_clos (g := 36) (by kernel_rfl) (fn := Tryz.f36) (by kernel_rfl) hc (by cases hc; kernel_rfl)
theorem checkNotsUpto_k0 : (Rows.checkNotsUptoRow.wf (OpenSpec.ofChange Rows.checkNotsSpec)) = true := by kernel_rfl
theorem checkNotsUpto_k3 : (Tryz.f3.params.all (Tryz.pinned.checked.prog.readableRec ·)) = true := by kernel_rfl
theorem checkNotsUpto_k4 : (namedTie Tryz.pinned.checked.prog Rows.checkNotsUptoRow.named Rows.checkNotsSpec.vars) = true := by kernel_rfl
theorem checkNotsUpto_k5 : ((Rows.checkNotsUptoRow.stops == [])) = true := by kernel_rfl
theorem checkNotsUpto_k6 : ((Tryz.pinned.checked.prog.stops == [])) = true := by kernel_rfl
theorem checkNotsUpto_k7 : ((Rows.checkNotsUptoRow.knobs == [])) = true := by kernel_rfl
theorem checkNotsUpto_k8 : ((Tryz.pinned.checked.prog.stopKnobs == [])) = true := by kernel_rfl
theorem checkNotsUpto_k9 : ((Rows.checkNotsUptoRow.inPlace == Tryz.pinned.checked.prog.inPlace 3)) = true := beq_iff_eq.2 checkNotsUpto_inPlace.symm
theorem checkNotsUpto_k10 : ((Rows.checkNotsUptoRow.unfollowed == Tryz.pinned.checked.prog.unfollowed 3)) = true := beq_iff_eq.2 checkNotsUpto_unf.symm
theorem checkNotsUpto_k11 : ((Rows.checkNotsUptoRow.recurses == Tryz.pinned.checked.prog.recurses 3)) = true := beq_iff_eq.2 (show true = Tryz.prog.recurses 3 by unfold Program.recurses; rw [checkNotsUpto_unf]; rfl)
theorem checkNotsUpto_k12 : ((Rows.checkNotsUptoRow.named == Tryz.pinned.checked.prog.varsNamed 3)) = true := beq_iff_eq.2 checkNotsUpto_named.symm
theorem checkNotsUpto_k13 : ((Rows.checkNotsUptoRow.maps == (Tryz.f3.params.toList ++ Rows.checkNotsSpec.plain.varTypes Tryz.pinned.checked.prog).any (Tryz.pinned.checked.prog.mapsRec ·))) = true := by kernel_rfl
theorem checkNotsUpto_k14 : ((Rows.checkNotsUptoRow.ifaces == (Tryz.f3.params.toList ++ Rows.checkNotsSpec.plain.varTypes Tryz.pinned.checked.prog).any (Tryz.pinned.checked.prog.ifacesRec ·))) = true := by kernel_rfl
theorem checkNotsUpto_k15 : ((Rows.checkNotsUptoRow.mapsOut == Tryz.pinned.checked.prog.mapsAmong Tryz.f3.resultTypes.toList)) = true := by kernel_rfl
theorem checkNotsUpto_k16 : ((Rows.checkNotsUptoRow.loops == (Tryz.f3.params.toList ++ Rows.checkNotsSpec.plain.varTypes Tryz.pinned.checked.prog).any (Tryz.pinned.checked.prog.loopsFrom ·))) = true := by kernel_rfl
theorem checkNotsUpto_k17 : ((Rows.checkNotsUptoRow.wideKeys == (Tryz.f3.params.toList ++ Rows.checkNotsSpec.plain.varTypes Tryz.pinned.checked.prog ++ Tryz.f3.resultTypes.toList).any (Tryz.pinned.checked.prog.wideKeysFrom ·))) = true := by kernel_rfl
theorem checkNotsUpto_k18 : (Rows.checkNotsSpec.vars.all (Tryz.pinned.checked.prog.varReadable ·)) = true := by kernel_rfl
theorem checkNotsUpto_k19 : (Tryz.f3.resultTypes.all (fun t => Tryz.pinned.checked.prog.readableRec t && decide (t < Tryz.pinned.checked.prog.types.size))) = true := by kernel_rfl
theorem checkNotsUpto_k20 : ((Rows.checkNotsUptoRow.ifacesOut == Tryz.f3.resultTypes.toList.any (Tryz.pinned.checked.prog.ifacesRec ·))) = true := by kernel_rfl
theorem checkNotsUpto_k21 : ((Rows.checkNotsUptoRow.loopsOut == Tryz.f3.resultTypes.toList.any (Tryz.pinned.checked.prog.loopsFrom ·))) = true := by kernel_rfl
theorem checkNotsUpto_k22 : ((Rows.checkNotsUptoRow.plainKeys == Tryz.pinned.checked.prog.plainKeys)) = true := by kernel_rfl
theorem checkNotsUpto_k23 : (Rows.checkNotsUptoRow.shortTexts.isNone) = true := by kernel_rfl
theorem checkNotsUpto_k26 : ((Rows.checkNotsUptoRow.lifted == Tryz.pinned.checked.prog.liftsFinal)) = true := by kernel_rfl
theorem checkNotsUpto_k27 : ((Tryz.pinned.checked.prog.make == some Rows.checkNotsUptoRow.make)) = true := by kernel_rfl
theorem checkNotsUpto_k28 : ((Rows.checkNotsUptoRow.kinds == (if Rows.checkNotsUptoRow.domain.isEmpty then [] else Tryz.f3.params.toList.map fun t => match Tryz.pinned.checked.prog.underlying t with | some (.int k) => some k | _ => none))) = true := by kernel_rfl
theorem checkNotsUpto_k29 : ((Rows.checkNotsUptoRow.pinned == Rows.checkNotsUptoRow.pinnedBy)) = true := by kernel_rfl
theorem checkNotsUpto_k30 : ((Rows.checkNotsUptoRow.veiled == (Tryz.f3.params.toList ++ Rows.checkNotsSpec.plain.varTypes Tryz.pinned.checked.prog ++ Tryz.f3.resultTypes.toList).any (Tryz.pinned.checked.prog.veiledRec ·))) = true := by kernel_rfl
theorem checkNotsUpto_k31 : (Rows.checkNotsUptoRow.veiledFits Tryz.pinned.checked.prog Tryz.f3.params.toList (Tryz.f3.params.toList ++ Rows.checkNotsSpec.plain.varTypes Tryz.pinned.checked.prog ++ Tryz.f3.resultTypes.toList)) = true := by kernel_rfl
theorem checkNotsUpto_closed : joinedFacts Tryz.pinned.checked.prog 3 Tryz.f3 Rows.checkNotsSpec Rows.checkNotsUptoRow = true := band (band (band (band (band (band (band (band (band (band (band (band (band (band (band (band (band (band (band (band (band (band (band (band (band (band (band (band (band (band (band (checkNotsUpto_k0) laidOut_ok) mapsRowed_ok) checkNotsUpto_k3) checkNotsUpto_k4) checkNotsUpto_k5) checkNotsUpto_k6) checkNotsUpto_k7) checkNotsUpto_k8) checkNotsUpto_k9) checkNotsUpto_k10) checkNotsUpto_k11) checkNotsUpto_k12) checkNotsUpto_k13) checkNotsUpto_k14) checkNotsUpto_k15) checkNotsUpto_k16) checkNotsUpto_k17) checkNotsUpto_k18) checkNotsUpto_k19) checkNotsUpto_k20) checkNotsUpto_k21) checkNotsUpto_k22) checkNotsUpto_k23) stopsHeard_ok) mayEnter_ok) checkNotsUpto_k26) checkNotsUpto_k27) checkNotsUpto_k28) checkNotsUpto_k29) checkNotsUpto_k30) checkNotsUpto_k31
abbrev checkNotsUpto_lst : List (String × DataW Unit) := Rows.checkNotsUptoRow.laid
theorem checkNotsUpto_plain : (checkNotsUpto_lst.all fun x => x.2.handleName?.isNone) = true := by kernel_rfl
theorem checkNotsUpto_noInit : Tryz.prog.inits.idxOf? 3 = none := by kernel_rfl
theorem checkNotsUpto_fn : Tryz.prog.funcs[3]? = some Tryz.f3 := by kernel_rfl
theorem checkNotsUpto_zip1 (os : Os) : ((World.laidAll Tryz.prog os checkNotsUpto_lst).forCall (fun _ _ => 0) ⟨#[], #[.slice none 0 0], []⟩).variablesZipB Tryz.prog = true := by kernel_rfl
theorem checkNotsUpto_zip2 (os : Os) : ((((World.laidAll Tryz.prog os checkNotsUpto_lst).forCall (fun _ _ => 0) ⟨#[], #[.slice none 0 0], []⟩).heap.toList.drop Tryz.prog.globals.size).take ((begin Tryz.prog (fun _ _ => 0) default).world.heap.size - Tryz.prog.globals.size) =
      (begin Tryz.prog (fun _ _ => 0) default).world.heap.toList.drop Tryz.prog.globals.size) := by kernel_rfl
theorem checkNotsUpto_fits (os : Os) : (World.holding Tryz.prog os ⟨#[], #[], []⟩).layFits Tryz.prog checkNotsUpto_lst [] = true := by kernel_rfl
theorem checkNotsUpto_ifaces (os : Os) : (World.holding Tryz.prog os ⟨#[], #[], []⟩).layIfaces Tryz.prog checkNotsUpto_lst (World.laidAll Tryz.prog os checkNotsUpto_lst) = true := by kernel_rfl
theorem checkNotsUpto_okB (os : Os) : Input.okWideB Tryz.prog ((World.laidAll Tryz.prog os checkNotsUpto_lst).forCall (fun _ _ => 0) ⟨#[], #[.slice none 0 0], []⟩) 3 ⟨#[], #[.slice none 0 0], []⟩ = true := by kernel_rfl
theorem checkNotsUpto_preB (os : Os) (H : Type) (enc : TypeId × Value → H) : Rows.checkNotsSpec.preB enc Tryz.prog Tryz.f3 [] false ((World.laidAll Tryz.prog os checkNotsUpto_lst).forCall (fun _ _ => 0) ⟨#[], #[.slice none 0 0], []⟩).memory #[.slice none 0 0] 8 = true := by kernel_rfl
theorem checkNotsUpto_szB (os : Os) (H : Type) (enc : TypeId × Value → H) : Rows.checkNotsSpec.sizedB enc Tryz.prog Tryz.f3 false ((World.laidAll Tryz.prog os checkNotsUpto_lst).forCall (fun _ _ => 0) ⟨#[], #[.slice none 0 0], []⟩).memory #[.slice none 0 0] 8 = true := by kernel_rfl
theorem checkNotsUpto_uInt : Tryz.prog.underlying 3 = some (.int .i64) := by kernel_rfl
theorem checkNotsUpto_uBool : Tryz.prog.underlying 4 = some .bool := by kernel_rfl
theorem checkNotsUpto_params : Tryz.f3.params = #[22] := by kernel_rfl
theorem checkNotsUpto_results : Tryz.f3.resultTypes = #[4] := by kernel_rfl
theorem checkNotsUpto_body : ∃ c, Tryz.f3.body = some c := ⟨_, rfl⟩
theorem checkNotsUpto_stU : Tryz.prog.underlying 22 = some (.slice 9) := by kernel_rfl
theorem checkNotsUpto_stE : Tryz.prog.underlying 9 = some .string := by kernel_rfl
theorem checkNotsUpto_stC : Tryz.prog.cellsOf 9 = 1 := by kernel_rfl
theorem checkNotsUpto_stR : Tryz.pinned.checked.prog.readableRec 22 = true := by kernel_rfl
theorem checkNotsUpto_stT : 22 < Tryz.pinned.checked.prog.types.size := of_decide_eq_true (by kernel_rfl)
theorem mlMax {W : World} (h : W.ShapedOpen Tryz.prog) : MaxIs W :=
  cell_of_shapedOpen_int (t := 3) (zero := #[.int .i64 0]) h (of_decide_eq_true (by kernel_rfl)) (by kernel_rfl) rfl (by kernel_rfl) (by kernel_rfl) (by kernel_rfl)
theorem al_fn : Tryz.prog.funcs[4]? = some Tryz.f4 := by kernel_rfl
theorem al_body : ∃ c, Tryz.f4.body = some c := ⟨_, rfl⟩
theorem checkNotsUpto_calls {H : Type} {encH : TypeId × Value → H} {W : World} {v0 : Value} {d0 : DataW H} {p0 : List MemPlace} (hm : MaxIs W) (hk : Rows.uptoSmall H ([d0] ++ []) = true) (hval : Value.okWide Tryz.prog W .any 0 22 v0) (h0 : DataW.Trod encH Tryz.prog W 0 (fun _ => true) true 22 v0 d0 p0) :
    Calls Tryz.prog 3 #[v0] W fun e W' => e = .returned (.bool true) ∧ Stays W W' := by
  have hal : Calls Tryz.prog 4 #[] W fun e w' => e = .returned (.bool true) ∧ Below W.heap.size W w' := by
    obtain ⟨c, hb⟩ := al_body
    exact (top_run follows nameOK hk0ok al_fn hb tblIn (args := .nil) (vs := []) (by simp only [VRs]) alive4 (tabs W)).mono fun e W' h => ⟨h.1, below_stays h.2⟩
  obtain ⟨o, cap, l, rfl, h1, h2, h3⟩ := open_strs_small checkNotsUpto_stU checkNotsUpto_stE checkNotsUpto_stC (okWide_slice checkNotsUpto_stU hval) h0 hk
  exact (law_any W hm l h1 h2 o cap h3 hal).mono fun e W' h => ⟨h.1, ⟨h.2.size, h.2.os, h.2.tape, h.2.output, h.2.block⟩⟩
theorem checkNotsUpto_hx (os : Os) (H : Type) (enc : TypeId × Value → H) : DataW.whole enc Tryz.prog ((World.laidAll Tryz.prog os checkNotsUpto_lst).forCall (fun _ _ => 0) ⟨#[], #[.slice none 0 0], []⟩).memory Tryz.f3.params.toList Rows.checkNotsSpec.vars false #[Value.slice none 0 0].toList 8 = some ([.nil], [], []) := by kernel_rfl
theorem checkNotsUpto_lifted (os : Os) (started : os.Started) (H : Type) (enc : TypeId × Value → H) (F : Stop.Interp) :
    ReturnsInHanded {} Tryz.checked os 3 .any ((Rows.OpenSpec.upto Rows.checkNotsSpec).preRow enc Tryz.prog Tryz.f3 Rows.checkNotsUptoRow.domain false Rows.checkNotsUptoRow.laid) (((Rows.OpenSpec.upto Rows.checkNotsSpec).at F).post enc Tryz.prog Tryz.f3 false true false false) := by
  refine returnsInHanded_of_row (C := Tryz.checked) (s := Rows.OpenSpec.upto Rows.checkNotsSpec) own started checkNotsUpto_noInit checkNotsUpto_fn
    ⟨World.laidAll Tryz.prog os checkNotsUpto_lst, fun _ _ => 0, ⟨#[], #[.slice none 0 0], []⟩, World.laidAll_os _ _ _, World.shaped_of_ZipB (checkNotsUpto_zip1 os) (checkNotsUpto_zip2 os), rfl, (Input.okWide_of_okWideB (checkNotsUpto_okB os)).2,
      OpenSpec.preRow_of_cond 8 (checkNotsUpto_hx os H enc) (by kernel_rfl) (fun k hk => by cases hk; kernel_rfl) (checkNotsUpto_szB os H enc) (by rw [MakeChecks.laidMetH_plain _ _ _ checkNotsUpto_plain]; exact laidMet_laidAll _ (checkNotsUpto_fits os) (checkNotsUpto_ifaces os)),
      by simp only [Assume.holds]; exact ⟨by simp, by simp, by simp, by simp, by simp⟩⟩ ?_
  intro W base args ds gs before hval0 hW _ hcond _ hL hsh _
  have hval : ∀ (j : Nat) t v, Tryz.f3.params[j]? = some t → args[j]? = some v → Value.okWide Tryz.prog W .any base t v := hval0
  have hW' := hW
  obtain ⟨p, q, hA0, hV, rfl, _, _⟩ := hW
  have hA : DataW.TrodAll enc Tryz.prog W 0 (fun _ => true) true Tryz.f3.params.toList args.toList ds p := hA0
  rw [checkNotsUpto_params] at hA hval
  obtain ⟨v0, d0, rfl, rfl, h0⟩ := trodAll_one hA
  obtain ⟨rfl, rfl⟩ := trodVars_none hV
  refine (checkNotsUpto_calls (mlMax hsh) (hcond _ rfl) (hval 0 22 v0 rfl rfl) h0).mono fun e W' ⟨he, hs⟩ => ?_
  show ∃ v, e = .returned v ∧ Rows.checkNotsSpec.post enc Tryz.prog Tryz.f3 false true false false W _ v W'
  refine ⟨_, he, _, _, _, [], p, [], hW', ?_, ?_, ?_, hs.keptBut _, fun h => by cases h⟩
  · rw [checkNotsUpto_results]
    exact trodAll_mk1 (shut_bool checkNotsUpto_uBool true)
  · rw [checkNotsUpto_params]
    exact trodAll_mk1 (Below.trod laidOut_ok checkNotsUpto_stR checkNotsUpto_stT h0 hs.below (fun y hy => hW'.lt y (by simp [hy])))
  · rfl
theorem checkNotsUpto_named1 : Tryz.pinned.checked.prog.funcNamed Rows.checkNotsUptoRow.func = some 3 := by kernel_rfl
theorem checkNotsUpto_wrapper : Tryz.f3.isWrapper Tryz.pinned.checked.prog Rows.checkNotsUptoRow.wrapper Rows.checkNotsUptoRow.mainSum := by unfold Func.isWrapper; first | (rw [if_pos (by decide +kernel)]; kernel_rfl) | (rw [if_neg (by decide +kernel)]; exact ⟨rfl, rfl⟩)
theorem checkNotsUpto_inst : Tryz.f3.isInstance Tryz.pinned.checked.prog Rows.checkNotsUptoRow.origin Rows.checkNotsUptoRow.targs := of_decide_eq_true (by kernel_rfl)
theorem checkNotsUpto_holds : Rows.CheckNotsUptoSaid :=
  OpenClaim.holds_of_cond 3 Tryz.f3 rfl rfl rfl rfl rfl rfl rfl ⟨rfl, rfl, rfl, rfl, rfl⟩ rfl rfl rfl rfl rfl checkNotsUpto_named1 checkNotsUpto_fn checkNotsUpto_closed checkNotsUpto_inst checkNotsUpto_wrapper
    (fun os started H enc _ F => by rw [OpenClaim.pre_eq_preRow]; exact checkNotsUpto_lifted os started H enc F)
end
end Go.Proofs.YtdblbhbbddkmhaaGreatDoor
