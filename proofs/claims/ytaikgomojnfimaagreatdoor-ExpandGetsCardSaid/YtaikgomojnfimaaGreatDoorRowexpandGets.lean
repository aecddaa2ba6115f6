/-
  The row of expandGets: for every input the law returns true.
-/
import Derived.Test.YtaikgomojnfimaaGreatDoorRunexpandGets
import Derived.Test.YtaikgomojnfimaaGreatDoorXRowK6
import Derived.OpenShut
import Derived.Carry
import Derived.Lay
import Derived.ChangeMaps5
import Derived.Test.YtaikgomojnfimaaGreatDoorRunexpandGets
import Derived.Test.YtaikgomojnfimaaGreatDoorEgW
open Go Go.Mx Go.ChangeShapes Go.WideShapes Go.RowKit
namespace Go.Proofs.YtaikgomojnfimaaGreatDoor
set_option maxRecDepth 1000000
noncomputable section
def expandGets_L : List Nat := [3, 4, 10, 27, 34, 28, 44, 45, 46, 47, 48, 49, 51, 55, 78, 43, 71, 92, 112, 93, 72, 73, 94, 50, 7, 15, 11, 29, 52, 74, 95, 96, 113, 126, 140, 77, 98, 120, 99, 100, 101, 121, 38, 57, 83, 39, 127, 141, 128, 53, 75, 76, 124, 129, 8, 16, 36, 56, 79, 80, 103, 102, 104, 81, 82, 105, 106, 122, 123, 17, 18, 37, 58, 84, 19, 40, 60, 59, 61, 63, 85, 62, 65, 88, 109, 86, 107, 87, 108, 125, 64, 20, 41, 66, 89, 110, 111, 42, 67, 90, 68, 69, 91, 70, 21, 115, 132, 147, 131, 145, 156, 146, 158, 173, 157, 164, 170, 183, 165, 178, 166, 179, 180, 167, 181, 182, 185, 168, 169, 171, 172, 114, 130, 142, 143, 152, 153, 144, 160, 174, 175, 176, 184, 186, 177, 161, 154, 155, 162, 163, 97, 116, 133, 30, 13, 31, 32, 54, 117, 134, 148, 149, 159, 150, 135, 136, 138, 151, 137, 118, 119, 139, 12, 5, 6, 14, 33, 26, 35, 9, 22, 23, 24, 25]
theorem expandGets_clos : Tryz.prog.closure 3 = expandGets_L := closure_by_table Tryz.prog tabT_all (by kernel_rfl)
theorem expandGets_inPlace : Tryz.prog.inPlace 3 = Rows.expandGetsRow.inPlace := inPlace_by_table Tryz.prog expandGets_clos tabN_all (by kernel_rfl)
theorem expandGets_named : Tryz.prog.varsNamed 3 = Rows.expandGetsRow.named := varsNamed_by_table Tryz.prog expandGets_clos tabG_all tabE_all (by kernel_rfl)
theorem expandGets_unf : Tryz.prog.unfollowed 3 = true := by
  obtain ⟨c, hc⟩ : ∃ c, Tryz.f147.body = some c := ⟨_, rfl⟩
  exact unfollowed_by_table Tryz.prog expandGets_clos (g := 147) (by kernel_rfl) (fn := Tryz.f147) (by kernel_rfl) hc (by cases hc; kernel_rfl)
theorem expandGets_k0 : (Rows.expandGetsRow.wf (OpenSpec.ofChange Rows.expandGetsSpec)) = true := by kernel_rfl
theorem expandGets_k3 : (Tryz.f3.params.all (Tryz.pinned.checked.prog.readableRec ·)) = true := by kernel_rfl
theorem expandGets_k4 : (namedTie Tryz.pinned.checked.prog Rows.expandGetsRow.named Rows.expandGetsSpec.vars) = true := by kernel_rfl
theorem expandGets_k5 : ((Rows.expandGetsRow.stops == [])) = true := by kernel_rfl
theorem expandGets_k6 : ((Tryz.pinned.checked.prog.stops == [])) = true := by kernel_rfl
theorem expandGets_k7 : ((Rows.expandGetsRow.knobs == [])) = true := by kernel_rfl
theorem expandGets_k8 : ((Tryz.pinned.checked.prog.stopKnobs == [])) = true := by kernel_rfl
theorem expandGets_k9 : ((Rows.expandGetsRow.inPlace == Tryz.pinned.checked.prog.inPlace 3)) = true := beq_iff_eq.2 expandGets_inPlace.symm
theorem expandGets_k10 : ((Rows.expandGetsRow.unfollowed == Tryz.pinned.checked.prog.unfollowed 3)) = true := beq_iff_eq.2 expandGets_unf.symm
theorem expandGets_k11 : ((Rows.expandGetsRow.recurses == Tryz.pinned.checked.prog.recurses 3)) = true := beq_iff_eq.2 (show true = Tryz.prog.recurses 3 by unfold Program.recurses; rw [expandGets_unf]; rfl)
theorem expandGets_k12 : ((Rows.expandGetsRow.named == Tryz.pinned.checked.prog.varsNamed 3)) = true := beq_iff_eq.2 expandGets_named.symm
theorem expandGets_k13 : ((Rows.expandGetsRow.maps == (Tryz.f3.params.toList ++ Rows.expandGetsSpec.plain.varTypes Tryz.pinned.checked.prog).any (Tryz.pinned.checked.prog.mapsRec ·))) = true := by kernel_rfl
theorem expandGets_k14 : ((Rows.expandGetsRow.ifaces == (Tryz.f3.params.toList ++ Rows.expandGetsSpec.plain.varTypes Tryz.pinned.checked.prog).any (Tryz.pinned.checked.prog.ifacesRec ·))) = true := by kernel_rfl
theorem expandGets_k15 : ((Rows.expandGetsRow.mapsOut == Tryz.pinned.checked.prog.mapsAmong Tryz.f3.resultTypes.toList)) = true := by kernel_rfl
theorem expandGets_k16 : ((Rows.expandGetsRow.loops == (Tryz.f3.params.toList ++ Rows.expandGetsSpec.plain.varTypes Tryz.pinned.checked.prog).any (Tryz.pinned.checked.prog.loopsFrom ·))) = true := by kernel_rfl
theorem expandGets_k17 : ((Rows.expandGetsRow.wideKeys == (Tryz.f3.params.toList ++ Rows.expandGetsSpec.plain.varTypes Tryz.pinned.checked.prog ++ Tryz.f3.resultTypes.toList).any (Tryz.pinned.checked.prog.wideKeysFrom ·))) = true := by kernel_rfl
theorem expandGets_k18 : (Rows.expandGetsSpec.vars.all (Tryz.pinned.checked.prog.varReadable ·)) = true := by kernel_rfl
theorem expandGets_k19 : (Tryz.f3.resultTypes.all (fun t => Tryz.pinned.checked.prog.readableRec t && decide (t < Tryz.pinned.checked.prog.types.size))) = true := by kernel_rfl
theorem expandGets_k20 : ((Rows.expandGetsRow.ifacesOut == Tryz.f3.resultTypes.toList.any (Tryz.pinned.checked.prog.ifacesRec ·))) = true := by kernel_rfl
theorem expandGets_k21 : ((Rows.expandGetsRow.loopsOut == Tryz.f3.resultTypes.toList.any (Tryz.pinned.checked.prog.loopsFrom ·))) = true := by kernel_rfl
theorem expandGets_k22 : ((Rows.expandGetsRow.plainKeys == Tryz.pinned.checked.prog.plainKeys)) = true := by kernel_rfl
theorem expandGets_k23 : (Rows.expandGetsRow.shortTexts.isNone) = true := by kernel_rfl
theorem expandGets_k26 : ((Rows.expandGetsRow.lifted == Tryz.pinned.checked.prog.liftsFinal)) = true := by kernel_rfl
theorem expandGets_k27 : ((Tryz.pinned.checked.prog.make == some Rows.expandGetsRow.make)) = true := by kernel_rfl
theorem expandGets_k28 : ((Rows.expandGetsRow.kinds == (if Rows.expandGetsRow.domain.isEmpty then [] else Tryz.f3.params.toList.map fun t => match Tryz.pinned.checked.prog.underlying t with | some (.int k) => some k | _ => none))) = true := by kernel_rfl
theorem expandGets_k29 : ((Rows.expandGetsRow.pinned == Rows.expandGetsRow.pinnedBy)) = true := by kernel_rfl
theorem expandGets_k30 : ((Rows.expandGetsRow.veiled == (Tryz.f3.params.toList ++ Rows.expandGetsSpec.plain.varTypes Tryz.pinned.checked.prog ++ Tryz.f3.resultTypes.toList).any (Tryz.pinned.checked.prog.veiledRec ·))) = true := by kernel_rfl
theorem expandGets_k31 : (Rows.expandGetsRow.veiledFits Tryz.pinned.checked.prog Tryz.f3.params.toList (Tryz.f3.params.toList ++ Rows.expandGetsSpec.plain.varTypes Tryz.pinned.checked.prog ++ Tryz.f3.resultTypes.toList)) = true := by kernel_rfl
theorem expandGets_closed : joinedFacts Tryz.pinned.checked.prog 3 Tryz.f3 Rows.expandGetsSpec Rows.expandGetsRow = true := band (band (band (band (band (band (band (band (band (band (band (band (band (band (band (band (band (band (band (band (band (band (band (band (band (band (band (band (band (band (band (expandGets_k0) laidOut_ok) mapsRowed_ok) expandGets_k3) expandGets_k4) expandGets_k5) expandGets_k6) expandGets_k7) expandGets_k8) expandGets_k9) expandGets_k10) expandGets_k11) expandGets_k12) expandGets_k13) expandGets_k14) expandGets_k15) expandGets_k16) expandGets_k17) expandGets_k18) expandGets_k19) expandGets_k20) expandGets_k21) expandGets_k22) expandGets_k23) stopsHeard_ok) mayEnter_ok) expandGets_k26) expandGets_k27) expandGets_k28) expandGets_k29) expandGets_k30) expandGets_k31
abbrev expandGets_lst : List (String × DataW Unit) := Rows.expandGetsRow.laid
theorem expandGets_plain : (expandGets_lst.all fun x => x.2.handleName?.isNone) = true := by kernel_rfl
theorem expandGets_noInit : Tryz.prog.inits.idxOf? 3 = none := by kernel_rfl
theorem expandGets_fn : Tryz.prog.funcs[3]? = some Tryz.f3 := by kernel_rfl
theorem expandGets_zip1 (os : Os) : ((World.laidAll Tryz.prog os expandGets_lst).forCall (fun _ _ => 0) ⟨#[], #[.slice none 0 0, .slice none 0 0, .int .i64 0, .string ⟨#[]⟩], []⟩).variablesZipB Tryz.prog = true := by kernel_rfl
theorem expandGets_zip2 (os : Os) : ((((World.laidAll Tryz.prog os expandGets_lst).forCall (fun _ _ => 0) ⟨#[], #[.slice none 0 0, .slice none 0 0, .int .i64 0, .string ⟨#[]⟩], []⟩).heap.toList.drop Tryz.prog.globals.size).take ((begin Tryz.prog (fun _ _ => 0) default).world.heap.size - Tryz.prog.globals.size) =
      (begin Tryz.prog (fun _ _ => 0) default).world.heap.toList.drop Tryz.prog.globals.size) := by kernel_rfl
theorem expandGets_fits (os : Os) : (World.holding Tryz.prog os ⟨#[], #[], []⟩).layFits Tryz.prog expandGets_lst [] = true := by kernel_rfl
theorem expandGets_ifaces (os : Os) : (World.holding Tryz.prog os ⟨#[], #[], []⟩).layIfaces Tryz.prog expandGets_lst (World.laidAll Tryz.prog os expandGets_lst) = true := by kernel_rfl
theorem expandGets_okB (os : Os) : Input.okWideB Tryz.prog ((World.laidAll Tryz.prog os expandGets_lst).forCall (fun _ _ => 0) ⟨#[], #[.slice none 0 0, .slice none 0 0, .int .i64 0, .string ⟨#[]⟩], []⟩) 3 ⟨#[], #[.slice none 0 0, .slice none 0 0, .int .i64 0, .string ⟨#[]⟩], []⟩ = true := by kernel_rfl
theorem expandGets_preB (os : Os) (H : Type) (enc : TypeId × Value → H) : Rows.expandGetsSpec.preB enc Tryz.prog Tryz.f3 [] false ((World.laidAll Tryz.prog os expandGets_lst).forCall (fun _ _ => 0) ⟨#[], #[.slice none 0 0, .slice none 0 0, .int .i64 0, .string ⟨#[]⟩], []⟩).memory #[.slice none 0 0, .slice none 0 0, .int .i64 0, .string ⟨#[]⟩] 8 = true := by kernel_rfl
theorem expandGets_szB (os : Os) (H : Type) (enc : TypeId × Value → H) : Rows.expandGetsSpec.sizedB enc Tryz.prog Tryz.f3 false ((World.laidAll Tryz.prog os expandGets_lst).forCall (fun _ _ => 0) ⟨#[], #[.slice none 0 0, .slice none 0 0, .int .i64 0, .string ⟨#[]⟩], []⟩).memory #[.slice none 0 0, .slice none 0 0, .int .i64 0, .string ⟨#[]⟩] 8 = true := by kernel_rfl
theorem expandGets_uInt : Tryz.prog.underlying 3 = some (.int .i64) := by kernel_rfl
theorem expandGets_uBool : Tryz.prog.underlying 4 = some .bool := by kernel_rfl
theorem expandGets_params : Tryz.f3.params = #[22, 23, 3, 9] := by kernel_rfl
theorem expandGets_results : Tryz.f3.resultTypes = #[4] := by kernel_rfl
theorem expandGets_body : ∃ c, Tryz.f3.body = some c := ⟨_, rfl⟩
theorem expandGets_powIn : ("internal/strconv.uint64pow10", DataW.agg (powL.map fun x => (DataW.lit (.int .u64 x) : DataW Unit))) ∈ expandGets_lst := List.mem_iff_getElem?.2 ⟨2, by kernel_rfl⟩
theorem expandGets_uStr : Tryz.prog.underlying 9 = some .string := by kernel_rfl
theorem expandGets_stU : Tryz.prog.underlying 23 = some (.slice 9) := by kernel_rfl
theorem expandGets_stE : Tryz.prog.underlying 9 = some .string := by kernel_rfl
theorem expandGets_stC : Tryz.prog.cellsOf 9 = 1 := by kernel_rfl
theorem expandGets_stR : Tryz.pinned.checked.prog.readableRec 23 = true := by kernel_rfl
theorem expandGets_stT : 23 < Tryz.pinned.checked.prog.types.size := of_decide_eq_true (by kernel_rfl)
theorem expandGets_paU : Tryz.prog.underlying 22 = some (.slice 49) := by kernel_rfl
theorem expandGets_paE : fieldsOf (Tryz.prog.underlying 49) = [(0, 9), (1, 9)] := by kernel_rfl
theorem expandGets_paC : Tryz.prog.cellsOf 49 = 2 := by kernel_rfl
theorem expandGets_paR : Tryz.pinned.checked.prog.readableRec 22 = true := by kernel_rfl
theorem expandGets_paT : 22 < Tryz.pinned.checked.prog.types.size := of_decide_eq_true (by kernel_rfl)
theorem expandGets_tsC : Tryz.prog.cellsOf 9 = 1 := by kernel_rfl
theorem expandGets_errIn : ("strconv.ErrRange", (DataW.iface "*errors.errorString" (.ptr (.agg [.lit (.string [118, 97, 108, 117, 101, 32, 111, 117, 116, 32, 111, 102, 32, 114, 97, 110, 103, 101])])) : DataW Unit)) ∈ expandGets_lst := List.mem_iff_getElem?.2 ⟨4, by kernel_rfl⟩
theorem al_fn : Tryz.prog.funcs[4]? = some Tryz.f4 := by kernel_rfl
theorem al_body : ∃ c, Tryz.f4.body = some c := ⟨_, rfl⟩
theorem below_staysG {w w' : World} (h : Stays w w') : Below w.heap.size w w' := ⟨h.os, h.tape, h.output, h.size, h.heap⟩
theorem expandGets_calls {H : Type} {encH : TypeId × Value → H} {W : World} (hL : laidMetH Tryz.prog expandGets_lst W) {v0 v1 : Value} {d0 d1 : DataW H} {p0 p1 : List MemPlace} (hw : (d0.weights Tryz.prog 22).all (· ≤ reachBytes) = true ∧ (d1.weights Tryz.prog 23).all (· ≤ reachBytes) = true) (hval0 : Value.okWide Tryz.prog W .any 0 22 v0) (h0 : DataW.Trod encH Tryz.prog W 0 (fun _ => true) true 22 v0 d0 p0) (hval1 : Value.okWide Tryz.prog W .any 0 23 v1) (h1 : DataW.Trod encH Tryz.prog W 0 (fun _ => true) true 23 v1 d1 p1) (n : Int) (hn : (Lit.int .i64 n).wf = true) (q : ByteArray) (_hq : q.size ≤ maxLen) :
    Calls Tryz.prog 3 #[v0, v1, .int .i64 n, .string q] W fun e W' => e = .returned (.bool true) ∧ Stays W W' := by
  have hal : Calls Tryz.prog 4 #[] W fun e w' => e = .returned (.bool true) ∧ Below W.heap.size W w' := by
    obtain ⟨c, hb⟩ := al_body
    exact (top_run follows nameOK hk0ok al_fn hb tblIn (args := .nil) (vs := []) (by simp only [VRs]) alive4 (tabs W)).mono fun e W' h => ⟨h.1, below_staysG h.2⟩
  obtain ⟨hn1, hn2⟩ : -9223372036854775808 ≤ n ∧ n ≤ 9223372036854775807 := by
    simp only [Lit.wf, Bool.and_eq_true, decide_eq_true_eq] at hn
    exact hn
  obtain ⟨lo, lc, Ll, rfl, hP, hz⟩ := open_pairs expandGets_paU expandGets_paE expandGets_paC expandGets_uStr expandGets_tsC (okWide_slice expandGets_paU hval0) h0 hw.1
  obtain ⟨ao, ac, al, rfl, hA, ha, hac⟩ := open_texts expandGets_stU expandGets_stE expandGets_stC (okWide_slice expandGets_stU hval1) h1 hw.2
  exact (gets_any (laidW_of expandGets_plain expandGets_powIn expandGets_errIn hL) Ll lo lc hP hz al ao ac hA ha hac n ⟨hn1, hn2⟩ q hal).mono fun e W' h => ⟨h.1, ⟨h.2.size, h.2.os, h.2.tape, h.2.output, h.2.block⟩⟩
theorem expandGets_lifted (os : Os) (started : os.Started) (H : Type) (enc : TypeId × Value → H) :
    ReturnsInHanded {} Tryz.checked os 3 .any (fun w args => (Rows.expandGetsSpec.pre enc Tryz.prog Tryz.f3 Rows.expandGetsRow.domain false w args ∧ laidMetH Tryz.prog expandGets_lst w) ∧ sizedMet enc Tryz.prog Tryz.f3 (OpenSpec.ofChange Rows.expandGetsSpec) false w args)
      (Rows.expandGetsSpec.post enc Tryz.prog Tryz.f3 false true false false) := by
  refine returnsInHanded_of_change_and (C := Tryz.checked) (X := fun w _ => laidMetH Tryz.prog expandGets_lst w) (fun _ _ _ hh h => h.of_heap hh) own started expandGets_noInit expandGets_fn
    (ChangeSpec.witness_shaped (enc := enc) (C := Tryz.checked) (os := os) (X := fun w _ => laidMetH Tryz.prog expandGets_lst w) false (World.laidAll Tryz.prog os expandGets_lst) #[.slice none 0 0, .slice none 0 0, .int .i64 0, .string ⟨#[]⟩] 8 (World.laidAll_os _ _ _)
      (World.shaped_of_ZipB (expandGets_zip1 os) (expandGets_zip2 os)) (expandGets_okB os) (expandGets_preB os H enc) (expandGets_szB os H enc)
      (by rw [MakeChecks.laidMetH_plain _ _ _ expandGets_plain]; exact laidMet_laidAll _ (expandGets_fits os) (expandGets_ifaces os))) ?_
  intro W base args ds gs before hval0 hW _ hsz hL _
  have hval : ∀ (j : Nat) t v, Tryz.f3.params[j]? = some t → args[j]? = some v → Value.okWide Tryz.prog W .any base t v := hval0
  have hW' := hW
  obtain ⟨p, q, hA0, hV, rfl, _, _⟩ := hW
  have hA : DataW.TrodAll enc Tryz.prog W 0 (fun _ => true) true Tryz.f3.params.toList args.toList ds p := hA0
  rw [expandGets_params] at hA hval
  obtain ⟨v0, v1, v2, v3, d0, d1, d2, d3, p0, p1, p2, p3, rfl, rfl, rfl, h0, h1, h2, h3⟩ := trodAll_four hA
  obtain ⟨rfl, rfl⟩ := trodVars_none hV
  obtain ⟨n2, rfl, rfl, rfl, hw2⟩ := open_int expandGets_uInt (hval 2 3 v2 rfl rfl) h2
  obtain ⟨n3, rfl, rfl, rfl, hw3⟩ := Go.ChangeMaps.open_string expandGets_uStr (hval 3 9 v3 rfl rfl) h3
  have hwt := weights_two (t0 := 22) (t1 := 23) (P := Tryz.prog) hsz
  refine (expandGets_calls hL hwt (hval 0 22 v0 rfl rfl) h0 (hval 1 23 v1 rfl rfl) h1 n2 hw2 n3 hw3).mono fun e W' ⟨he, hs⟩ => ?_
  refine ⟨_, he, _, _, _, [], p0 ++ (p1 ++ ([] ++ ([]))), [], hW', ?_, ?_, ?_, hs.keptBut _, fun h => by cases h⟩
  · rw [expandGets_results]
    exact trodAll_mk1 (shut_bool expandGets_uBool true)
  · rw [expandGets_params]
    exact trodAll_mk4 (Below.trod laidOut_ok expandGets_paR expandGets_paT h0 hs.below (fun y hy => hW'.lt y (by simp [hy]))) (Below.trod laidOut_ok expandGets_stR expandGets_stT h1 hs.below (fun y hy => hW'.lt y (by simp [hy]))) (shut_int expandGets_uInt hw2) (Go.ChangeMaps.shut_string expandGets_uStr hw3)
  · rfl
theorem expandGets_named1 : Tryz.pinned.checked.prog.funcNamed Rows.expandGetsRow.func = some 3 := by kernel_rfl
theorem expandGets_wrapper : Tryz.f3.isWrapper Tryz.pinned.checked.prog Rows.expandGetsRow.wrapper Rows.expandGetsRow.mainSum := by unfold Func.isWrapper; first | (rw [if_pos (by decide +kernel)]; kernel_rfl) | (rw [if_neg (by decide +kernel)]; exact ⟨rfl, rfl⟩)
theorem expandGets_inst : Tryz.f3.isInstance Tryz.pinned.checked.prog Rows.expandGetsRow.origin Rows.expandGetsRow.targs := of_decide_eq_true (by kernel_rfl)
theorem expandGets_holds : Rows.ExpandGetsSaid :=
  OpenClaim.holds_of_wide 3 Tryz.f3 rfl rfl rfl rfl rfl rfl rfl ⟨rfl, rfl, rfl, rfl, rfl⟩ rfl rfl rfl rfl rfl expandGets_named1 expandGets_fn expandGets_closed expandGets_inst expandGets_wrapper
    (fun os started H enc _ => expandGets_lifted os started H enc)
end
end Go.Proofs.YtaikgomojnfimaaGreatDoor
