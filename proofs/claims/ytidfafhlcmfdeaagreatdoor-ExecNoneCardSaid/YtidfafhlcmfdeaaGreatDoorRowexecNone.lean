/-
  The row of execNone: for every input the law returns true.
-/
import Derived.Test.YtidfafhlcmfdeaaGreatDoorRunexecNone
import Derived.Test.YtidfafhlcmfdeaaGreatDoorXRowK3
import Derived.OpenShut
import Derived.Carry
import Derived.Lay
import Derived.ChangeMaps5
open Go Go.Mx Go.ChangeShapes Go.WideShapes Go.RowKit
namespace Go.Proofs.YtidfafhlcmfdeaaGreatDoor
set_option maxRecDepth 1000000
noncomputable section
def execNone_L : List Nat := [3, 7, 10, 13, 25, 16, 31, 51, 75, 90, 132, 101, 102, 103, 144, 32, 52, 76, 104, 145, 146, 195, 105, 147, 53, 77, 33, 54, 34, 35, 55, 78, 106, 148, 107, 149, 79, 80, 39, 26, 27, 28, 8, 15, 29, 40, 62, 41, 42, 43, 63, 44, 64, 65, 45, 66, 91, 67, 68, 93, 92, 94, 133, 95, 134, 184, 185, 227, 137, 188, 228, 189, 186, 69, 135, 136, 187, 30, 46, 47, 70, 96, 100, 49, 71, 97, 138, 99, 139, 98, 140, 142, 193, 194, 239, 278, 279, 141, 192, 143, 50, 74, 190, 229, 48, 230, 231, 273, 232, 174, 237, 275, 276, 200, 233, 274, 73, 234, 235, 236, 191, 238, 277, 330, 72, 9, 17, 18, 36, 56, 19, 11, 20, 21, 23, 24, 38, 57, 58, 81, 82, 109, 152, 201, 118, 167, 213, 254, 302, 348, 349, 301, 402, 403, 350, 351, 404, 405, 432, 433, 173, 126, 179, 241, 22, 37, 242, 280, 281, 282, 331, 283, 332, 378, 379, 422, 333, 153, 154, 202, 243, 284, 285, 334, 380, 381, 337, 385, 386, 303, 353, 352, 198, 355, 199, 354, 357, 407, 406, 196, 240, 356, 387, 428, 453, 413, 440, 441, 414, 442, 457, 443, 444, 458, 445, 117, 336, 384, 427, 383, 426, 452, 289, 251, 300, 342, 392, 398, 252, 393, 429, 394, 344, 345, 395, 430, 431, 454, 396, 397, 399, 400, 335, 382, 423, 424, 448, 449, 425, 459, 464, 465, 466, 363, 412, 467, 460, 450, 451, 461, 462, 286, 338, 388, 111, 119, 339, 204, 244, 245, 287, 246, 389, 390, 272, 329, 391, 340, 156, 203, 155, 108, 150, 151, 197, 110, 157, 158, 159, 161, 207, 250, 292, 293, 343, 294, 295, 346, 347, 401, 296, 297, 298, 299, 208, 209, 160, 205, 164, 247, 211, 288, 206, 249, 291, 341, 248, 290, 163, 162, 210, 83, 84, 112, 165, 166, 212, 253, 85, 113, 114, 168, 86, 115, 116, 169, 214, 170, 215, 216, 255, 217, 218, 219, 220, 256, 221, 257, 222, 223, 224, 171, 225, 258, 259, 260, 304, 261, 305, 306, 307, 310, 262, 309, 308, 358, 263, 311, 312, 359, 264, 313, 360, 408, 434, 265, 314, 315, 319, 266, 316, 361, 317, 267, 318, 268, 320, 321, 269, 322, 362, 409, 410, 435, 436, 411, 437, 455, 438, 456, 463, 439, 323, 324, 270, 271, 325, 364, 365, 366, 370, 367, 371, 415, 368, 369, 326, 372, 327, 328, 373, 416, 374, 417, 418, 375, 376, 419, 377, 420, 446, 447, 421, 172, 87, 120, 121, 122, 59, 60, 61, 88, 89, 123, 124, 177, 175, 176, 125, 178, 127, 128, 129, 180, 181, 130, 182, 131, 183, 226, 12]
theorem execNone_clos : Tryz.prog.closure 3 = execNone_L := closure_by_table Tryz.prog tabT_all (by kernel_rfl)
theorem execNone_inPlace : Tryz.prog.inPlace 3 = Rows.execNoneRow.inPlace := inPlace_by_table Tryz.prog execNone_clos tabN_all (by kernel_rfl)
theorem execNone_named : Tryz.prog.varsNamed 3 = Rows.execNoneRow.named := varsNamed_by_table Tryz.prog execNone_clos tabG_all tabE_all (by kernel_rfl)
theorem execNone_unf : Tryz.prog.unfollowed 3 = true := by
  obtain ⟨c, hc⟩ : ∃ c, Tryz.f54.body = some c := ⟨_, rfl⟩
  exact unfollowed_by_table Tryz.prog execNone_clos (g := 54) (by kernel_rfl) (fn := Tryz.f54) (by kernel_rfl) hc (by cases hc; kernel_rfl)
theorem execNone_k0 : (Rows.execNoneRow.wf (OpenSpec.ofChange Rows.execNoneSpec)) = true := by kernel_rfl
theorem execNone_k3 : (Tryz.f3.params.all (Tryz.pinned.checked.prog.readableRec ·)) = true := by kernel_rfl
theorem execNone_k4 : (namedTie Tryz.pinned.checked.prog Rows.execNoneRow.named Rows.execNoneSpec.vars) = true := by kernel_rfl
theorem execNone_k5 : ((Rows.execNoneRow.stops == [])) = true := by kernel_rfl
theorem execNone_k6 : ((Tryz.pinned.checked.prog.stops == [])) = true := by kernel_rfl
theorem execNone_k7 : ((Rows.execNoneRow.knobs == [])) = true := by kernel_rfl
theorem execNone_k8 : ((Tryz.pinned.checked.prog.stopKnobs == [])) = true := by kernel_rfl
theorem execNone_k9 : ((Rows.execNoneRow.inPlace == Tryz.pinned.checked.prog.inPlace 3)) = true := beq_iff_eq.2 execNone_inPlace.symm
theorem execNone_k10 : ((Rows.execNoneRow.unfollowed == Tryz.pinned.checked.prog.unfollowed 3)) = true := beq_iff_eq.2 execNone_unf.symm
theorem execNone_k11 : ((Rows.execNoneRow.recurses == Tryz.pinned.checked.prog.recurses 3)) = true := beq_iff_eq.2 (show true = Tryz.prog.recurses 3 by unfold Program.recurses; rw [execNone_unf]; rfl)
theorem execNone_k12 : ((Rows.execNoneRow.named == Tryz.pinned.checked.prog.varsNamed 3)) = true := beq_iff_eq.2 execNone_named.symm
theorem execNone_k13 : ((Rows.execNoneRow.maps == (Tryz.f3.params.toList ++ Rows.execNoneSpec.plain.varTypes Tryz.pinned.checked.prog).any (Tryz.pinned.checked.prog.mapsRec ·))) = true := by kernel_rfl
theorem execNone_k14 : ((Rows.execNoneRow.ifaces == (Tryz.f3.params.toList ++ Rows.execNoneSpec.plain.varTypes Tryz.pinned.checked.prog).any (Tryz.pinned.checked.prog.ifacesRec ·))) = true := by kernel_rfl
theorem execNone_k15 : ((Rows.execNoneRow.mapsOut == Tryz.pinned.checked.prog.mapsAmong Tryz.f3.resultTypes.toList)) = true := by kernel_rfl
theorem execNone_k16 : ((Rows.execNoneRow.loops == (Tryz.f3.params.toList ++ Rows.execNoneSpec.plain.varTypes Tryz.pinned.checked.prog).any (Tryz.pinned.checked.prog.loopsFrom ·))) = true := by kernel_rfl
theorem execNone_k17 : ((Rows.execNoneRow.wideKeys == (Tryz.f3.params.toList ++ Rows.execNoneSpec.plain.varTypes Tryz.pinned.checked.prog ++ Tryz.f3.resultTypes.toList).any (Tryz.pinned.checked.prog.wideKeysFrom ·))) = true := by kernel_rfl
theorem execNone_k18 : (Rows.execNoneSpec.vars.all (Tryz.pinned.checked.prog.varReadable ·)) = true := by kernel_rfl
theorem execNone_k19 : (Tryz.f3.resultTypes.all (fun t => Tryz.pinned.checked.prog.readableRec t && decide (t < Tryz.pinned.checked.prog.types.size))) = true := by kernel_rfl
theorem execNone_k20 : ((Rows.execNoneRow.ifacesOut == Tryz.f3.resultTypes.toList.any (Tryz.pinned.checked.prog.ifacesRec ·))) = true := by kernel_rfl
theorem execNone_k21 : ((Rows.execNoneRow.loopsOut == Tryz.f3.resultTypes.toList.any (Tryz.pinned.checked.prog.loopsFrom ·))) = true := by kernel_rfl
theorem execNone_k22 : ((Rows.execNoneRow.plainKeys == Tryz.pinned.checked.prog.plainKeys)) = true := by kernel_rfl
theorem execNone_k23 : (Rows.execNoneRow.shortTexts.isNone) = true := by kernel_rfl
theorem execNone_k26 : ((Rows.execNoneRow.lifted == Tryz.pinned.checked.prog.liftsFinal)) = true := by kernel_rfl
theorem execNone_k27 : ((Tryz.pinned.checked.prog.make == some Rows.execNoneRow.make)) = true := by kernel_rfl
theorem execNone_k28 : ((Rows.execNoneRow.kinds == (if Rows.execNoneRow.domain.isEmpty then [] else Tryz.f3.params.toList.map fun t => match Tryz.pinned.checked.prog.underlying t with | some (.int k) => some k | _ => none))) = true := by kernel_rfl
theorem execNone_k29 : ((Rows.execNoneRow.pinned == Rows.execNoneRow.pinnedBy)) = true := by kernel_rfl
theorem execNone_k30 : ((Rows.execNoneRow.veiled == (Tryz.f3.params.toList ++ Rows.execNoneSpec.plain.varTypes Tryz.pinned.checked.prog ++ Tryz.f3.resultTypes.toList).any (Tryz.pinned.checked.prog.veiledRec ·))) = true := by kernel_rfl
theorem execNone_k31 : (Rows.execNoneRow.veiledFits Tryz.pinned.checked.prog Tryz.f3.params.toList (Tryz.f3.params.toList ++ Rows.execNoneSpec.plain.varTypes Tryz.pinned.checked.prog ++ Tryz.f3.resultTypes.toList)) = true := by kernel_rfl
theorem execNone_closed : joinedFacts Tryz.pinned.checked.prog 3 Tryz.f3 Rows.execNoneSpec Rows.execNoneRow = true := band (band (band (band (band (band (band (band (band (band (band (band (band (band (band (band (band (band (band (band (band (band (band (band (band (band (band (band (band (band (band (execNone_k0) laidOut_ok) mapsRowed_ok) execNone_k3) execNone_k4) execNone_k5) execNone_k6) execNone_k7) execNone_k8) execNone_k9) execNone_k10) execNone_k11) execNone_k12) execNone_k13) execNone_k14) execNone_k15) execNone_k16) execNone_k17) execNone_k18) execNone_k19) execNone_k20) execNone_k21) execNone_k22) execNone_k23) stopsHeard_ok) mayEnter_ok) execNone_k26) execNone_k27) execNone_k28) execNone_k29) execNone_k30) execNone_k31
abbrev execNone_lst : List (String × DataW Unit) := Rows.execNoneRow.laid
theorem execNone_plain : (execNone_lst.all fun x => x.2.handleName?.isNone) = true := by kernel_rfl
theorem execNone_noInit : Tryz.prog.inits.idxOf? 3 = none := by kernel_rfl
theorem execNone_fn : Tryz.prog.funcs[3]? = some Tryz.f3 := by kernel_rfl
theorem execNone_zip1 (os : Os) : ((World.laidAll Tryz.prog os execNone_lst).forCall (fun _ _ => 0) ⟨#[], #[.string ByteArray.empty], []⟩).variablesZipB Tryz.prog = true := by kernel_rfl
theorem execNone_zip2 (os : Os) : ((((World.laidAll Tryz.prog os execNone_lst).forCall (fun _ _ => 0) ⟨#[], #[.string ByteArray.empty], []⟩).heap.toList.drop Tryz.prog.globals.size).take ((begin Tryz.prog (fun _ _ => 0) default).world.heap.size - Tryz.prog.globals.size) =
      (begin Tryz.prog (fun _ _ => 0) default).world.heap.toList.drop Tryz.prog.globals.size) := by kernel_rfl
theorem execNone_fits (os : Os) : (World.holding Tryz.prog os ⟨#[], #[], []⟩).layFits Tryz.prog execNone_lst [] = true := by kernel_rfl
theorem execNone_ifaces (os : Os) : (World.holding Tryz.prog os ⟨#[], #[], []⟩).layIfaces Tryz.prog execNone_lst (World.laidAll Tryz.prog os execNone_lst) = true := by kernel_rfl
theorem execNone_okB (os : Os) : Input.okWideB Tryz.prog ((World.laidAll Tryz.prog os execNone_lst).forCall (fun _ _ => 0) ⟨#[], #[.string ByteArray.empty], []⟩) 3 ⟨#[], #[.string ByteArray.empty], []⟩ = true := by kernel_rfl
theorem execNone_preB (os : Os) (H : Type) (enc : TypeId × Value → H) : Rows.execNoneSpec.preB enc Tryz.prog Tryz.f3 [] false ((World.laidAll Tryz.prog os execNone_lst).forCall (fun _ _ => 0) ⟨#[], #[.string ByteArray.empty], []⟩).memory #[.string ByteArray.empty] 8 = true := by kernel_rfl
theorem execNone_szB (os : Os) (H : Type) (enc : TypeId × Value → H) : Rows.execNoneSpec.sizedB enc Tryz.prog Tryz.f3 false ((World.laidAll Tryz.prog os execNone_lst).forCall (fun _ _ => 0) ⟨#[], #[.string ByteArray.empty], []⟩).memory #[.string ByteArray.empty] 8 = true := by kernel_rfl
theorem execNone_asciiIn : ("strings.asciiSpace", DataW.agg (asciiL.map fun x => (DataW.lit (.int .u8 x) : DataW Unit))) ∈ execNone_lst := List.mem_iff_getElem?.2 ⟨2, by kernel_rfl⟩
theorem execNone_uInt : Tryz.prog.underlying 3 = some (.int .i64) := by kernel_rfl
theorem execNone_uBool : Tryz.prog.underlying 4 = some .bool := by kernel_rfl
theorem execNone_params : Tryz.f3.params = #[9] := by kernel_rfl
theorem execNone_results : Tryz.f3.resultTypes = #[4] := by kernel_rfl
theorem execNone_body : ∃ c, Tryz.f3.body = some c := ⟨_, rfl⟩
theorem execNone_powIn : ("internal/strconv.uint64pow10", DataW.agg (powL.map fun x => (DataW.lit (.int .u64 x) : DataW Unit))) ∈ execNone_lst := List.mem_iff_getElem?.2 ⟨4, by kernel_rfl⟩
theorem execNone_uStr : Tryz.prog.underlying 9 = some .string := by kernel_rfl
theorem execNone_lifted (os : Os) (started : os.Started) (H : Type) (enc : TypeId × Value → H) :
    ReturnsInHanded {} Tryz.checked os 3 .any (fun w args => (Rows.execNoneSpec.pre enc Tryz.prog Tryz.f3 Rows.execNoneRow.domain false w args ∧ laidMetH Tryz.prog execNone_lst w) ∧ sizedMet enc Tryz.prog Tryz.f3 (OpenSpec.ofChange Rows.execNoneSpec) false w args)
      (Rows.execNoneSpec.post enc Tryz.prog Tryz.f3 false true false false) := by
  refine returnsInHanded_of_change_and (C := Tryz.checked) (X := fun w _ => laidMetH Tryz.prog execNone_lst w) (fun _ _ _ hh h => h.of_heap hh) own started execNone_noInit execNone_fn
    (ChangeSpec.witness_shaped (enc := enc) (C := Tryz.checked) (os := os) (X := fun w _ => laidMetH Tryz.prog execNone_lst w) false (World.laidAll Tryz.prog os execNone_lst) #[.string ByteArray.empty] 8 (World.laidAll_os _ _ _)
      (World.shaped_of_ZipB (execNone_zip1 os) (execNone_zip2 os)) (execNone_okB os) (execNone_preB os H enc) (execNone_szB os H enc)
      (by rw [MakeChecks.laidMetH_plain _ _ _ execNone_plain]; exact laidMet_laidAll _ (execNone_fits os) (execNone_ifaces os))) ?_
  intro W base args ds gs before hval0 hW _ _ hL _
  have hval : ∀ (j : Nat) t v, Tryz.f3.params[j]? = some t → args[j]? = some v → Value.okWide Tryz.prog W .any base t v := hval0
  have hW' := hW
  obtain ⟨p, q, hA0, hV, rfl, _, _⟩ := hW
  have hA : DataW.TrodAll enc Tryz.prog W 0 (fun _ => true) true Tryz.f3.params.toList args.toList ds p := hA0
  rw [execNone_params] at hA hval
  obtain ⟨v0, d0, rfl, rfl, h0⟩ := trodAll_one hA
  obtain ⟨rfl, rfl⟩ := trodVars_none hV
  obtain ⟨n0, rfl, rfl, rfl, hw0⟩ := Go.ChangeMaps.open_string execNone_uStr (hval 0 9 v0 rfl rfl) h0
  refine (xn_calls n0 hw0 (tables execNone_plain execNone_asciiIn execNone_powIn hL)).mono fun e W' ⟨he, hs⟩ => ?_
  refine ⟨_, he, _, _, _, [], [], [], hW', ?_, ?_, ?_, hs.keptBut _, fun h => by cases h⟩
  · rw [execNone_results]
    exact trodAll_mk1 (shut_bool execNone_uBool true)
  · rw [execNone_params]
    exact trodAll_mk1 (Go.ChangeMaps.shut_string execNone_uStr hw0)
  · rfl
theorem execNone_named1 : Tryz.pinned.checked.prog.funcNamed Rows.execNoneRow.func = some 3 := by kernel_rfl
theorem execNone_wrapper : Tryz.f3.isWrapper Tryz.pinned.checked.prog Rows.execNoneRow.wrapper Rows.execNoneRow.mainSum := by unfold Func.isWrapper; first | (rw [if_pos (by decide +kernel)]; kernel_rfl) | (rw [if_neg (by decide +kernel)]; exact ⟨rfl, rfl⟩)
theorem execNone_inst : Tryz.f3.isInstance Tryz.pinned.checked.prog Rows.execNoneRow.origin Rows.execNoneRow.targs := of_decide_eq_true (by kernel_rfl)
theorem execNone_holds : Rows.ExecNoneSaid :=
  OpenClaim.holds_of_wide 3 Tryz.f3 rfl rfl rfl rfl rfl rfl rfl ⟨rfl, rfl, rfl, rfl, rfl⟩ rfl rfl rfl rfl rfl execNone_named1 execNone_fn execNone_closed execNone_inst execNone_wrapper
    (fun os started H enc _ => execNone_lifted os started H enc)
end
end Go.Proofs.YtidfafhlcmfdeaaGreatDoor
