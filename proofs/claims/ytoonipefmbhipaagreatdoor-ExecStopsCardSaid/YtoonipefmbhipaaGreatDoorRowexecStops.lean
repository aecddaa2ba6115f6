/-
  The row of execStops: for every input the law returns true.
-/
import Derived.Test.YtoonipefmbhipaaGreatDoorRunexecStops
import Derived.Test.YtoonipefmbhipaaGreatDoorXRowK6
import Derived.OpenShut
import Derived.Carry
import Derived.Lay
open Go Go.Mx Go.ChangeShapes Go.WideShapes Go.RowKit
namespace Go.Proofs.YtoonipefmbhipaaGreatDoor
set_option maxRecDepth 1000000
noncomputable section
def execStops_L : List Nat := [3, 4, 8, 11, 22, 13, 28, 48, 72, 87, 129, 98, 99, 100, 141, 29, 49, 73, 101, 142, 143, 192, 102, 144, 50, 74, 30, 51, 31, 32, 52, 75, 103, 145, 104, 146, 76, 77, 36, 23, 24, 25, 6, 12, 26, 37, 59, 38, 39, 40, 60, 41, 61, 62, 42, 63, 88, 64, 65, 90, 89, 91, 130, 92, 131, 181, 182, 224, 134, 185, 225, 186, 183, 66, 132, 133, 184, 27, 43, 44, 67, 93, 97, 46, 68, 94, 135, 96, 136, 95, 137, 139, 190, 191, 236, 275, 276, 138, 189, 140, 47, 71, 187, 226, 45, 227, 228, 270, 229, 171, 234, 272, 273, 197, 230, 271, 70, 231, 232, 233, 188, 235, 274, 327, 69, 7, 14, 15, 33, 53, 16, 9, 17, 18, 20, 21, 35, 54, 55, 78, 79, 106, 149, 198, 115, 164, 210, 251, 299, 345, 346, 298, 399, 400, 347, 348, 401, 402, 429, 430, 170, 123, 176, 238, 19, 34, 239, 277, 278, 279, 328, 280, 329, 375, 376, 419, 330, 150, 151, 199, 240, 281, 282, 331, 377, 378, 334, 382, 383, 300, 350, 349, 195, 352, 196, 351, 354, 404, 403, 193, 237, 353, 384, 425, 450, 410, 437, 438, 411, 439, 454, 440, 441, 455, 442, 114, 333, 381, 424, 380, 423, 449, 286, 248, 297, 339, 389, 395, 249, 390, 426, 391, 341, 342, 392, 427, 428, 451, 393, 394, 396, 397, 332, 379, 420, 421, 445, 446, 422, 456, 461, 462, 463, 360, 409, 464, 457, 447, 448, 458, 459, 283, 335, 385, 108, 116, 336, 201, 241, 242, 284, 243, 386, 387, 269, 326, 388, 337, 153, 200, 152, 105, 147, 148, 194, 107, 154, 155, 156, 158, 204, 247, 289, 290, 340, 291, 292, 343, 344, 398, 293, 294, 295, 296, 205, 206, 157, 202, 161, 244, 208, 285, 203, 246, 288, 338, 245, 287, 160, 159, 207, 80, 81, 109, 162, 163, 209, 250, 82, 110, 111, 165, 83, 112, 113, 166, 211, 167, 212, 213, 252, 214, 215, 216, 217, 253, 218, 254, 219, 220, 221, 168, 222, 255, 256, 257, 301, 258, 302, 303, 304, 307, 259, 306, 305, 355, 260, 308, 309, 356, 261, 310, 357, 405, 431, 262, 311, 312, 316, 263, 313, 358, 314, 264, 315, 265, 317, 318, 266, 319, 359, 406, 407, 432, 433, 408, 434, 452, 435, 453, 460, 436, 320, 321, 267, 268, 322, 361, 362, 363, 367, 364, 368, 412, 365, 366, 323, 369, 324, 325, 370, 413, 371, 414, 415, 372, 373, 416, 374, 417, 443, 444, 418, 169, 84, 117, 118, 119, 56, 57, 58, 85, 86, 120, 121, 174, 172, 173, 122, 175, 124, 125, 126, 177, 178, 127, 179, 128, 180, 223, 10, 5]
theorem execStops_clos : Tryz.prog.closure 3 = execStops_L := closure_by_table Tryz.prog tabT_all (by kernel_rfl)
theorem execStops_inPlace : Tryz.prog.inPlace 3 = Rows.execStopsRow.inPlace := inPlace_by_table Tryz.prog execStops_clos tabN_all (by kernel_rfl)
theorem execStops_named : Tryz.prog.varsNamed 3 = Rows.execStopsRow.named := varsNamed_by_table Tryz.prog execStops_clos tabG_all tabE_all (by kernel_rfl)
theorem execStops_unf : Tryz.prog.unfollowed 3 = true := by
  obtain ⟨c, hc⟩ : ∃ c, Tryz.f51.body = some c := ⟨_, rfl⟩
  exact unfollowed_by_table Tryz.prog execStops_clos (g := 51) (by kernel_rfl) (fn := Tryz.f51) (by kernel_rfl) hc (by cases hc; kernel_rfl)
theorem execStops_k0 : (Rows.execStopsRow.wf (OpenSpec.ofChange Rows.execStopsSpec)) = true := by kernel_rfl
theorem execStops_k3 : (Tryz.f3.params.all (Tryz.pinned.checked.prog.readableRec ·)) = true := by kernel_rfl
theorem execStops_k4 : (namedTie Tryz.pinned.checked.prog Rows.execStopsRow.named Rows.execStopsSpec.vars) = true := by kernel_rfl
theorem execStops_k5 : ((Rows.execStopsRow.stops == [])) = true := by kernel_rfl
theorem execStops_k6 : ((Tryz.pinned.checked.prog.stops == [])) = true := by kernel_rfl
theorem execStops_k7 : ((Rows.execStopsRow.knobs == [])) = true := by kernel_rfl
theorem execStops_k8 : ((Tryz.pinned.checked.prog.stopKnobs == [])) = true := by kernel_rfl
theorem execStops_k9 : ((Rows.execStopsRow.inPlace == Tryz.pinned.checked.prog.inPlace 3)) = true := beq_iff_eq.2 execStops_inPlace.symm
theorem execStops_k10 : ((Rows.execStopsRow.unfollowed == Tryz.pinned.checked.prog.unfollowed 3)) = true := beq_iff_eq.2 execStops_unf.symm
theorem execStops_k11 : ((Rows.execStopsRow.recurses == Tryz.pinned.checked.prog.recurses 3)) = true := beq_iff_eq.2 (show true = Tryz.prog.recurses 3 by unfold Program.recurses; rw [execStops_unf]; rfl)
theorem execStops_k12 : ((Rows.execStopsRow.named == Tryz.pinned.checked.prog.varsNamed 3)) = true := beq_iff_eq.2 execStops_named.symm
theorem execStops_k13 : ((Rows.execStopsRow.maps == (Tryz.f3.params.toList ++ Rows.execStopsSpec.plain.varTypes Tryz.pinned.checked.prog).any (Tryz.pinned.checked.prog.mapsRec ·))) = true := by kernel_rfl
theorem execStops_k14 : ((Rows.execStopsRow.ifaces == (Tryz.f3.params.toList ++ Rows.execStopsSpec.plain.varTypes Tryz.pinned.checked.prog).any (Tryz.pinned.checked.prog.ifacesRec ·))) = true := by kernel_rfl
theorem execStops_k15 : ((Rows.execStopsRow.mapsOut == Tryz.pinned.checked.prog.mapsAmong Tryz.f3.resultTypes.toList)) = true := by kernel_rfl
theorem execStops_k16 : ((Rows.execStopsRow.loops == (Tryz.f3.params.toList ++ Rows.execStopsSpec.plain.varTypes Tryz.pinned.checked.prog).any (Tryz.pinned.checked.prog.loopsFrom ·))) = true := by kernel_rfl
theorem execStops_k17 : ((Rows.execStopsRow.wideKeys == (Tryz.f3.params.toList ++ Rows.execStopsSpec.plain.varTypes Tryz.pinned.checked.prog ++ Tryz.f3.resultTypes.toList).any (Tryz.pinned.checked.prog.wideKeysFrom ·))) = true := by kernel_rfl
theorem execStops_k18 : (Rows.execStopsSpec.vars.all (Tryz.pinned.checked.prog.varReadable ·)) = true := by kernel_rfl
theorem execStops_k19 : (Tryz.f3.resultTypes.all (fun t => Tryz.pinned.checked.prog.readableRec t && decide (t < Tryz.pinned.checked.prog.types.size))) = true := by kernel_rfl
theorem execStops_k20 : ((Rows.execStopsRow.ifacesOut == Tryz.f3.resultTypes.toList.any (Tryz.pinned.checked.prog.ifacesRec ·))) = true := by kernel_rfl
theorem execStops_k21 : ((Rows.execStopsRow.loopsOut == Tryz.f3.resultTypes.toList.any (Tryz.pinned.checked.prog.loopsFrom ·))) = true := by kernel_rfl
theorem execStops_k22 : ((Rows.execStopsRow.plainKeys == Tryz.pinned.checked.prog.plainKeys)) = true := by kernel_rfl
theorem execStops_k23 : (Rows.execStopsRow.shortTexts.isNone) = true := by kernel_rfl
theorem execStops_k26 : ((Rows.execStopsRow.lifted == Tryz.pinned.checked.prog.liftsFinal)) = true := by kernel_rfl
theorem execStops_k27 : ((Tryz.pinned.checked.prog.make == some Rows.execStopsRow.make)) = true := by kernel_rfl
theorem execStops_k28 : ((Rows.execStopsRow.kinds == (if Rows.execStopsRow.domain.isEmpty then [] else Tryz.f3.params.toList.map fun t => match Tryz.pinned.checked.prog.underlying t with | some (.int k) => some k | _ => none))) = true := by kernel_rfl
theorem execStops_k29 : ((Rows.execStopsRow.pinned == Rows.execStopsRow.pinnedBy)) = true := by kernel_rfl
theorem execStops_k30 : ((Rows.execStopsRow.veiled == (Tryz.f3.params.toList ++ Rows.execStopsSpec.plain.varTypes Tryz.pinned.checked.prog ++ Tryz.f3.resultTypes.toList).any (Tryz.pinned.checked.prog.veiledRec ·))) = true := by kernel_rfl
theorem execStops_k31 : (Rows.execStopsRow.veiledFits Tryz.pinned.checked.prog Tryz.f3.params.toList (Tryz.f3.params.toList ++ Rows.execStopsSpec.plain.varTypes Tryz.pinned.checked.prog ++ Tryz.f3.resultTypes.toList)) = true := by kernel_rfl
theorem execStops_closed : joinedFacts Tryz.pinned.checked.prog 3 Tryz.f3 Rows.execStopsSpec Rows.execStopsRow = true := band (band (band (band (band (band (band (band (band (band (band (band (band (band (band (band (band (band (band (band (band (band (band (band (band (band (band (band (band (band (band (execStops_k0) laidOut_ok) mapsRowed_ok) execStops_k3) execStops_k4) execStops_k5) execStops_k6) execStops_k7) execStops_k8) execStops_k9) execStops_k10) execStops_k11) execStops_k12) execStops_k13) execStops_k14) execStops_k15) execStops_k16) execStops_k17) execStops_k18) execStops_k19) execStops_k20) execStops_k21) execStops_k22) execStops_k23) stopsHeard_ok) mayEnter_ok) execStops_k26) execStops_k27) execStops_k28) execStops_k29) execStops_k30) execStops_k31
abbrev execStops_lst : List (String × DataW Unit) := Rows.execStopsRow.laid
theorem execStops_plain : (execStops_lst.all fun x => x.2.handleName?.isNone) = true := by kernel_rfl
theorem execStops_noInit : Tryz.prog.inits.idxOf? 3 = none := by kernel_rfl
theorem execStops_fn : Tryz.prog.funcs[3]? = some Tryz.f3 := by kernel_rfl
theorem execStops_zip1 (os : Os) : ((World.laidAll Tryz.prog os execStops_lst).forCall (fun _ _ => 0) ⟨#[], #[.int .i64 (-1), .int .i64 (-1)], []⟩).variablesZipB Tryz.prog = true := by kernel_rfl
theorem execStops_zip2 (os : Os) : ((((World.laidAll Tryz.prog os execStops_lst).forCall (fun _ _ => 0) ⟨#[], #[.int .i64 (-1), .int .i64 (-1)], []⟩).heap.toList.drop Tryz.prog.globals.size).take ((begin Tryz.prog (fun _ _ => 0) default).world.heap.size - Tryz.prog.globals.size) =
      (begin Tryz.prog (fun _ _ => 0) default).world.heap.toList.drop Tryz.prog.globals.size) := by kernel_rfl
theorem execStops_fits (os : Os) : (World.holding Tryz.prog os ⟨#[], #[], []⟩).layFits Tryz.prog execStops_lst [] = true := by kernel_rfl
theorem execStops_ifaces (os : Os) : (World.holding Tryz.prog os ⟨#[], #[], []⟩).layIfaces Tryz.prog execStops_lst (World.laidAll Tryz.prog os execStops_lst) = true := by kernel_rfl
theorem execStops_okB (os : Os) : Input.okWideB Tryz.prog ((World.laidAll Tryz.prog os execStops_lst).forCall (fun _ _ => 0) ⟨#[], #[.int .i64 (-1), .int .i64 (-1)], []⟩) 3 ⟨#[], #[.int .i64 (-1), .int .i64 (-1)], []⟩ = true := by kernel_rfl
theorem execStops_preB (os : Os) (H : Type) (enc : TypeId × Value → H) : Rows.execStopsSpec.preB enc Tryz.prog Tryz.f3 [] false ((World.laidAll Tryz.prog os execStops_lst).forCall (fun _ _ => 0) ⟨#[], #[.int .i64 (-1), .int .i64 (-1)], []⟩).memory #[.int .i64 (-1), .int .i64 (-1)] 8 = true := by kernel_rfl
theorem execStops_szB (os : Os) (H : Type) (enc : TypeId × Value → H) : Rows.execStopsSpec.sizedB enc Tryz.prog Tryz.f3 false ((World.laidAll Tryz.prog os execStops_lst).forCall (fun _ _ => 0) ⟨#[], #[.int .i64 (-1), .int .i64 (-1)], []⟩).memory #[.int .i64 (-1), .int .i64 (-1)] 8 = true := by kernel_rfl
theorem execStops_asciiIn : ("strings.asciiSpace", DataW.agg (asciiL.map fun x => (DataW.lit (.int .u8 x) : DataW Unit))) ∈ execStops_lst := List.mem_iff_getElem?.2 ⟨2, by kernel_rfl⟩
theorem execStops_uInt : Tryz.prog.underlying 3 = some (.int .i64) := by kernel_rfl
theorem execStops_uBool : Tryz.prog.underlying 4 = some .bool := by kernel_rfl
theorem execStops_params : Tryz.f3.params = #[3, 3] := by kernel_rfl
theorem execStops_results : Tryz.f3.resultTypes = #[4] := by kernel_rfl
theorem execStops_body : ∃ c, Tryz.f3.body = some c := ⟨_, rfl⟩
theorem execStops_powIn : ("internal/strconv.uint64pow10", DataW.agg (powL.map fun x => (DataW.lit (.int .u64 x) : DataW Unit))) ∈ execStops_lst := List.mem_iff_getElem?.2 ⟨4, by kernel_rfl⟩
theorem execStops_lifted (os : Os) (started : os.Started) (H : Type) (enc : TypeId × Value → H) :
    ReturnsInHanded {} Tryz.checked os 3 .any (fun w args => (Rows.execStopsSpec.pre enc Tryz.prog Tryz.f3 Rows.execStopsRow.domain false w args ∧ laidMetH Tryz.prog execStops_lst w) ∧ sizedMet enc Tryz.prog Tryz.f3 (OpenSpec.ofChange Rows.execStopsSpec) false w args)
      (Rows.execStopsSpec.post enc Tryz.prog Tryz.f3 false true false false) := by
  refine returnsInHanded_of_change_and (C := Tryz.checked) (X := fun w _ => laidMetH Tryz.prog execStops_lst w) (fun _ _ _ hh h => h.of_heap hh) own started execStops_noInit execStops_fn
    (ChangeSpec.witness_shaped (enc := enc) (C := Tryz.checked) (os := os) (X := fun w _ => laidMetH Tryz.prog execStops_lst w) false (World.laidAll Tryz.prog os execStops_lst) #[.int .i64 (-1), .int .i64 (-1)] 8 (World.laidAll_os _ _ _)
      (World.shaped_of_ZipB (execStops_zip1 os) (execStops_zip2 os)) (execStops_okB os) (execStops_preB os H enc) (execStops_szB os H enc)
      (by rw [MakeChecks.laidMetH_plain _ _ _ execStops_plain]; exact laidMet_laidAll _ (execStops_fits os) (execStops_ifaces os))) ?_
  intro W base args ds gs before hval0 hW _ _ hL _
  have hval : ∀ (j : Nat) t v, Tryz.f3.params[j]? = some t → args[j]? = some v → Value.okWide Tryz.prog W .any base t v := hval0
  have hW' := hW
  obtain ⟨p, q, hA0, hV, rfl, _, _⟩ := hW
  have hA : DataW.TrodAll enc Tryz.prog W 0 (fun _ => true) true Tryz.f3.params.toList args.toList ds p := hA0
  rw [execStops_params] at hA hval
  obtain ⟨v0, v1, d0, d1, p0, p1, rfl, rfl, rfl, h0, h1⟩ := trodAll_two hA
  obtain ⟨rfl, rfl⟩ := trodVars_none hV
  obtain ⟨n0, rfl, rfl, rfl, hw0⟩ := open_int execStops_uInt (hval 0 3 v0 rfl rfl) h0
  obtain ⟨n1, rfl, rfl, rfl, hw1⟩ := open_int execStops_uInt (hval 1 3 v1 rfl rfl) h1
  refine (xs_calls n0 n1 hw1 (tables execStops_plain execStops_asciiIn execStops_powIn hL)).mono fun e W' ⟨he, hs⟩ => ?_
  refine ⟨_, he, _, _, _, [], [], [], hW', ?_, ?_, ?_, hs.keptBut _, fun h => by cases h⟩
  · rw [execStops_results]
    exact trodAll_mk1 (shut_bool execStops_uBool true)
  · rw [execStops_params]
    exact trodAll_mk2 (shut_int execStops_uInt hw0) (shut_int execStops_uInt hw1)
  · rfl
theorem execStops_named1 : Tryz.pinned.checked.prog.funcNamed Rows.execStopsRow.func = some 3 := by kernel_rfl
theorem execStops_wrapper : Tryz.f3.isWrapper Tryz.pinned.checked.prog Rows.execStopsRow.wrapper Rows.execStopsRow.mainSum := by unfold Func.isWrapper; first | (rw [if_pos (by decide +kernel)]; kernel_rfl) | (rw [if_neg (by decide +kernel)]; exact ⟨rfl, rfl⟩)
theorem execStops_inst : Tryz.f3.isInstance Tryz.pinned.checked.prog Rows.execStopsRow.origin Rows.execStopsRow.targs := of_decide_eq_true (by kernel_rfl)
theorem execStops_holds : Rows.ExecStopsSaid :=
  OpenClaim.holds_of_wide 3 Tryz.f3 rfl rfl rfl rfl rfl rfl rfl ⟨rfl, rfl, rfl, rfl, rfl⟩ rfl rfl rfl rfl rfl execStops_named1 execStops_fn execStops_closed execStops_inst execStops_wrapper
    (fun os started H enc _ => execStops_lifted os started H enc)
end
end Go.Proofs.YtoonipefmbhipaaGreatDoor
