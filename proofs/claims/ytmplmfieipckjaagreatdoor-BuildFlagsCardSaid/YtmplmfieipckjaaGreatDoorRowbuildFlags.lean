/-
  The row of buildFlags: for every input the law returns true.
-/
import Derived.Test.YtmplmfieipckjaaGreatDoorRunbuildFlags
import Derived.OpenShut
import Derived.Carry
import Derived.Lay
open Go Go.Mx Go.ChangeShapes Go.WideShapes Go.RowKit
namespace Go.Proofs.YtmplmfieipckjaaGreatDoor
set_option maxRecDepth 1000000
noncomputable section
def buildFlags_L : List Nat := [3, 4, 5, 6, 11, 21, 26, 36, 51, 74, 98, 75, 76, 77, 99, 27, 37, 52, 78, 100, 101, 131, 79, 102, 38, 53, 28, 39, 29, 30, 40, 54, 80, 103, 81, 104, 55, 56, 22, 12, 13, 15, 23, 14, 7, 16, 17, 24, 31, 41, 57, 42, 58, 82, 105, 132, 133, 156, 155, 157, 134, 135, 158, 159, 174, 175, 43, 46, 44, 59, 83, 107, 106, 108, 110, 136, 109, 112, 138, 161, 137, 160, 125, 176, 111, 60, 84, 61, 62, 63, 85, 86, 87, 113, 139, 162, 118, 142, 114, 115, 140, 119, 64, 116, 88, 117, 141, 163, 92, 122, 45, 33, 47, 48, 65, 10, 66, 89, 121, 120, 143, 67, 68, 49, 69, 32, 90, 70, 71, 91, 72, 93, 123, 124, 144, 145, 146, 164, 165, 177, 178, 209, 179, 210, 239, 240, 211, 94, 95, 126, 147, 166, 180, 181, 182, 183, 212, 184, 213, 214, 185, 215, 241, 216, 217, 243, 242, 244, 275, 245, 276, 316, 317, 347, 279, 168, 191, 192, 318, 218, 277, 278, 319, 167, 186, 187, 219, 246, 250, 189, 220, 247, 280, 249, 281, 248, 282, 283, 322, 358, 390, 391, 284, 190, 223, 320, 348, 188, 349, 350, 386, 351, 148, 356, 388, 389, 324, 352, 387, 222, 353, 354, 355, 321, 357, 221, 127, 128, 149, 169, 193, 129, 20, 150, 152, 153, 171, 194, 195, 224, 225, 252, 287, 325, 261, 300, 306, 268, 311, 359, 151, 170, 360, 392, 393, 394, 435, 395, 436, 467, 493, 437, 288, 289, 326, 361, 396, 397, 438, 468, 469, 441, 473, 474, 475, 499, 519, 485, 506, 507, 486, 508, 521, 509, 510, 522, 511, 260, 440, 472, 498, 471, 497, 518, 154, 173, 208, 172, 199, 205, 238, 200, 233, 201, 234, 235, 202, 236, 237, 274, 203, 204, 206, 207, 439, 470, 494, 495, 514, 515, 496, 523, 528, 529, 530, 531, 524, 516, 517, 525, 526, 398, 442, 476, 254, 443, 328, 362, 363, 399, 364, 477, 478, 385, 434, 479, 444, 291, 327, 290, 251, 285, 286, 323, 253, 292, 293, 294, 296, 330, 367, 402, 403, 445, 404, 405, 446, 447, 480, 406, 407, 408, 409, 331, 332, 295, 329, 299, 365, 19, 400, 130, 366, 401, 298, 297, 333, 226, 227, 255, 8, 228, 256, 257, 301, 229, 258, 259, 302, 334, 303, 335, 336, 368, 337, 338, 339, 340, 369, 341, 370, 342, 343, 344, 304, 345, 371, 372, 373, 410, 374, 411, 412, 413, 416, 375, 415, 414, 448, 376, 417, 418, 449, 377, 419, 450, 481, 500, 378, 420, 421, 97, 379, 422, 423, 451, 424, 380, 425, 381, 426, 382, 427, 452, 482, 483, 501, 502, 484, 503, 504, 520, 527, 505, 428, 429, 383, 384, 430, 453, 454, 455, 459, 456, 460, 487, 457, 458, 431, 461, 432, 433, 462, 488, 463, 489, 490, 464, 465, 491, 466, 492, 512, 513, 305, 230, 262, 263, 264, 196, 197, 198, 231, 232, 265, 266, 309, 307, 308, 267, 310, 269, 270, 271, 312, 313, 272, 314, 273, 315, 346, 73, 96, 18, 25, 34, 50, 35, 9]
theorem buildFlags_clos : Tryz.prog.closure 3 = buildFlags_L := closure_by_table Tryz.prog tabT_all (by kernel_rfl)
theorem buildFlags_inPlace : Tryz.prog.inPlace 3 = Rows.buildFlagsRow.inPlace := inPlace_by_table Tryz.prog buildFlags_clos tabN_all (by kernel_rfl)
theorem buildFlags_named : Tryz.prog.varsNamed 3 = Rows.buildFlagsRow.named := varsNamed_by_table Tryz.prog buildFlags_clos tabG_all tabE_all (by kernel_rfl)
theorem buildFlags_unf : Tryz.prog.unfollowed 3 = true := by
  obtain ⟨c, hc⟩ : ∃ c, Tryz.f39.body = some c := ⟨_, rfl⟩
  exact unfollowed_by_table Tryz.prog buildFlags_clos (g := 39) (by kernel_rfl) (fn := Tryz.f39) (by kernel_rfl) hc (by cases hc; kernel_rfl)
theorem buildFlags_k0 : (Rows.buildFlagsRow.wf (OpenSpec.ofChange Rows.buildFlagsSpec)) = true := by kernel_rfl
theorem buildFlags_k3 : (Tryz.f3.params.all (Tryz.pinned.checked.prog.readableRec ·)) = true := by kernel_rfl
theorem buildFlags_k4 : (namedTie Tryz.pinned.checked.prog Rows.buildFlagsRow.named Rows.buildFlagsSpec.vars) = true := by kernel_rfl
theorem buildFlags_k5 : ((Rows.buildFlagsRow.stops == [])) = true := by kernel_rfl
theorem buildFlags_k6 : ((Tryz.pinned.checked.prog.stops == [])) = true := by kernel_rfl
theorem buildFlags_k7 : ((Rows.buildFlagsRow.knobs == [])) = true := by kernel_rfl
theorem buildFlags_k8 : ((Tryz.pinned.checked.prog.stopKnobs == [])) = true := by kernel_rfl
theorem buildFlags_k9 : ((Rows.buildFlagsRow.inPlace == Tryz.pinned.checked.prog.inPlace 3)) = true := beq_iff_eq.2 buildFlags_inPlace.symm
theorem buildFlags_k10 : ((Rows.buildFlagsRow.unfollowed == Tryz.pinned.checked.prog.unfollowed 3)) = true := beq_iff_eq.2 buildFlags_unf.symm
theorem buildFlags_k11 : ((Rows.buildFlagsRow.recurses == Tryz.pinned.checked.prog.recurses 3)) = true := beq_iff_eq.2 (show true = Tryz.prog.recurses 3 by unfold Program.recurses; rw [buildFlags_unf]; rfl)
theorem buildFlags_k12 : ((Rows.buildFlagsRow.named == Tryz.pinned.checked.prog.varsNamed 3)) = true := beq_iff_eq.2 buildFlags_named.symm
theorem buildFlags_k13 : ((Rows.buildFlagsRow.maps == (Tryz.f3.params.toList ++ Rows.buildFlagsSpec.plain.varTypes Tryz.pinned.checked.prog).any (Tryz.pinned.checked.prog.mapsRec ·))) = true := by kernel_rfl
theorem buildFlags_k14 : ((Rows.buildFlagsRow.ifaces == (Tryz.f3.params.toList ++ Rows.buildFlagsSpec.plain.varTypes Tryz.pinned.checked.prog).any (Tryz.pinned.checked.prog.ifacesRec ·))) = true := by kernel_rfl
theorem buildFlags_k15 : ((Rows.buildFlagsRow.mapsOut == Tryz.pinned.checked.prog.mapsAmong Tryz.f3.resultTypes.toList)) = true := by kernel_rfl
theorem buildFlags_k16 : ((Rows.buildFlagsRow.loops == (Tryz.f3.params.toList ++ Rows.buildFlagsSpec.plain.varTypes Tryz.pinned.checked.prog).any (Tryz.pinned.checked.prog.loopsFrom ·))) = true := by kernel_rfl
theorem buildFlags_k17 : ((Rows.buildFlagsRow.wideKeys == (Tryz.f3.params.toList ++ Rows.buildFlagsSpec.plain.varTypes Tryz.pinned.checked.prog ++ Tryz.f3.resultTypes.toList).any (Tryz.pinned.checked.prog.wideKeysFrom ·))) = true := by kernel_rfl
theorem buildFlags_k18 : (Rows.buildFlagsSpec.vars.all (Tryz.pinned.checked.prog.varReadable ·)) = true := by kernel_rfl
theorem buildFlags_k19 : (Tryz.f3.resultTypes.all (fun t => Tryz.pinned.checked.prog.readableRec t && decide (t < Tryz.pinned.checked.prog.types.size))) = true := by kernel_rfl
theorem buildFlags_k20 : ((Rows.buildFlagsRow.ifacesOut == Tryz.f3.resultTypes.toList.any (Tryz.pinned.checked.prog.ifacesRec ·))) = true := by kernel_rfl
theorem buildFlags_k21 : ((Rows.buildFlagsRow.loopsOut == Tryz.f3.resultTypes.toList.any (Tryz.pinned.checked.prog.loopsFrom ·))) = true := by kernel_rfl
theorem buildFlags_k22 : ((Rows.buildFlagsRow.plainKeys == Tryz.pinned.checked.prog.plainKeys)) = true := by kernel_rfl
theorem buildFlags_k23 : (Rows.buildFlagsRow.shortTexts.isNone) = true := by kernel_rfl
theorem buildFlags_k26 : ((Rows.buildFlagsRow.lifted == Tryz.pinned.checked.prog.liftsFinal)) = true := by kernel_rfl
theorem buildFlags_k27 : ((Tryz.pinned.checked.prog.make == some Rows.buildFlagsRow.make)) = true := by kernel_rfl
theorem buildFlags_k28 : ((Rows.buildFlagsRow.kinds == (if Rows.buildFlagsRow.domain.isEmpty then [] else Tryz.f3.params.toList.map fun t => match Tryz.pinned.checked.prog.underlying t with | some (.int k) => some k | _ => none))) = true := by kernel_rfl
theorem buildFlags_k29 : ((Rows.buildFlagsRow.pinned == Rows.buildFlagsRow.pinnedBy)) = true := by kernel_rfl
theorem buildFlags_k30 : ((Rows.buildFlagsRow.veiled == (Tryz.f3.params.toList ++ Rows.buildFlagsSpec.plain.varTypes Tryz.pinned.checked.prog ++ Tryz.f3.resultTypes.toList).any (Tryz.pinned.checked.prog.veiledRec ·))) = true := by kernel_rfl
theorem buildFlags_k31 : (Rows.buildFlagsRow.veiledFits Tryz.pinned.checked.prog Tryz.f3.params.toList (Tryz.f3.params.toList ++ Rows.buildFlagsSpec.plain.varTypes Tryz.pinned.checked.prog ++ Tryz.f3.resultTypes.toList)) = true := by kernel_rfl
theorem buildFlags_closed : joinedFacts Tryz.pinned.checked.prog 3 Tryz.f3 Rows.buildFlagsSpec Rows.buildFlagsRow = true := band (band (band (band (band (band (band (band (band (band (band (band (band (band (band (band (band (band (band (band (band (band (band (band (band (band (band (band (band (band (band (buildFlags_k0) laidOut_ok) mapsRowed_ok) buildFlags_k3) buildFlags_k4) buildFlags_k5) buildFlags_k6) buildFlags_k7) buildFlags_k8) buildFlags_k9) buildFlags_k10) buildFlags_k11) buildFlags_k12) buildFlags_k13) buildFlags_k14) buildFlags_k15) buildFlags_k16) buildFlags_k17) buildFlags_k18) buildFlags_k19) buildFlags_k20) buildFlags_k21) buildFlags_k22) buildFlags_k23) stopsHeard_ok) mayEnter_ok) buildFlags_k26) buildFlags_k27) buildFlags_k28) buildFlags_k29) buildFlags_k30) buildFlags_k31
abbrev buildFlags_lst : List (String × DataW Unit) := Rows.buildFlagsRow.laid
theorem buildFlags_plain : (buildFlags_lst.all fun x => x.2.handleName?.isNone) = true := by kernel_rfl
theorem buildFlags_noInit : Tryz.prog.inits.idxOf? 3 = none := by kernel_rfl
theorem buildFlags_fn : Tryz.prog.funcs[3]? = some Tryz.f3 := by kernel_rfl
theorem buildFlags_zip1 (os : Os) : ((World.laidAll Tryz.prog os buildFlags_lst).forCall (fun _ _ => 0) ⟨#[], #[.bool false, .int .i64 (-1)], []⟩).variablesZipB Tryz.prog = true := by kernel_rfl
theorem buildFlags_zip2 (os : Os) : ((((World.laidAll Tryz.prog os buildFlags_lst).forCall (fun _ _ => 0) ⟨#[], #[.bool false, .int .i64 (-1)], []⟩).heap.toList.drop Tryz.prog.globals.size).take ((begin Tryz.prog (fun _ _ => 0) default).world.heap.size - Tryz.prog.globals.size) =
      (begin Tryz.prog (fun _ _ => 0) default).world.heap.toList.drop Tryz.prog.globals.size) := by kernel_rfl
theorem buildFlags_fits (os : Os) : (World.holding Tryz.prog os ⟨#[], #[], []⟩).layFits Tryz.prog buildFlags_lst [] = true := by kernel_rfl
theorem buildFlags_ifaces (os : Os) : (World.holding Tryz.prog os ⟨#[], #[], []⟩).layIfaces Tryz.prog buildFlags_lst (World.laidAll Tryz.prog os buildFlags_lst) = true := by kernel_rfl
theorem buildFlags_okB (os : Os) : Input.okWideB Tryz.prog ((World.laidAll Tryz.prog os buildFlags_lst).forCall (fun _ _ => 0) ⟨#[], #[.bool false, .int .i64 (-1)], []⟩) 3 ⟨#[], #[.bool false, .int .i64 (-1)], []⟩ = true := by kernel_rfl
theorem buildFlags_preB (os : Os) (H : Type) (enc : TypeId × Value → H) : Rows.buildFlagsSpec.preB enc Tryz.prog Tryz.f3 [] false ((World.laidAll Tryz.prog os buildFlags_lst).forCall (fun _ _ => 0) ⟨#[], #[.bool false, .int .i64 (-1)], []⟩).memory #[.bool false, .int .i64 (-1)] 8 = true := by kernel_rfl
theorem buildFlags_szB (os : Os) (H : Type) (enc : TypeId × Value → H) : Rows.buildFlagsSpec.sizedB enc Tryz.prog Tryz.f3 false ((World.laidAll Tryz.prog os buildFlags_lst).forCall (fun _ _ => 0) ⟨#[], #[.bool false, .int .i64 (-1)], []⟩).memory #[.bool false, .int .i64 (-1)] 8 = true := by kernel_rfl
theorem buildFlags_asciiIn : ("strings.asciiSpace", DataW.agg (asciiL.map fun x => (DataW.lit (.int .u8 x) : DataW Unit))) ∈ buildFlags_lst := List.mem_iff_getElem?.2 ⟨5, by kernel_rfl⟩
theorem buildFlags_uInt : Tryz.prog.underlying 3 = some (.int .i64) := by kernel_rfl
theorem buildFlags_uBool : Tryz.prog.underlying 4 = some .bool := by kernel_rfl
theorem buildFlags_params : Tryz.f3.params = #[4, 3] := by kernel_rfl
theorem buildFlags_results : Tryz.f3.resultTypes = #[4] := by kernel_rfl
theorem buildFlags_body : ∃ c, Tryz.f3.body = some c := ⟨_, rfl⟩
theorem buildFlags_lifted (os : Os) (started : os.Started) (H : Type) (enc : TypeId × Value → H) :
    ReturnsInHanded {} Tryz.checked os 3 .any (fun w args => (Rows.buildFlagsSpec.pre enc Tryz.prog Tryz.f3 Rows.buildFlagsRow.domain false w args ∧ laidMetH Tryz.prog buildFlags_lst w) ∧ sizedMet enc Tryz.prog Tryz.f3 (OpenSpec.ofChange Rows.buildFlagsSpec) false w args)
      (Rows.buildFlagsSpec.post enc Tryz.prog Tryz.f3 false true false false) := by
  refine returnsInHanded_of_change_and (C := Tryz.checked) (X := fun w _ => laidMetH Tryz.prog buildFlags_lst w) (fun _ _ _ hh h => h.of_heap hh) own started buildFlags_noInit buildFlags_fn
    (ChangeSpec.witness_shaped (enc := enc) (C := Tryz.checked) (os := os) (X := fun w _ => laidMetH Tryz.prog buildFlags_lst w) false (World.laidAll Tryz.prog os buildFlags_lst) #[.bool false, .int .i64 (-1)] 8 (World.laidAll_os _ _ _)
      (World.shaped_of_ZipB (buildFlags_zip1 os) (buildFlags_zip2 os)) (buildFlags_okB os) (buildFlags_preB os H enc) (buildFlags_szB os H enc)
      (by rw [MakeChecks.laidMetH_plain _ _ _ buildFlags_plain]; exact laidMet_laidAll _ (buildFlags_fits os) (buildFlags_ifaces os))) ?_
  intro W base args ds gs before hval0 hW _ _ hL _
  have hval : ∀ (j : Nat) t v, Tryz.f3.params[j]? = some t → args[j]? = some v → Value.okWide Tryz.prog W .any base t v := hval0
  have hW' := hW
  obtain ⟨p, q, hA0, hV, rfl, _, _⟩ := hW
  have hA : DataW.TrodAll enc Tryz.prog W 0 (fun _ => true) true Tryz.f3.params.toList args.toList ds p := hA0
  rw [buildFlags_params] at hA hval
  obtain ⟨v0, v1, d0, d1, p0, p1, rfl, rfl, rfl, h0, h1⟩ := trodAll_two hA
  obtain ⟨rfl, rfl⟩ := trodVars_none hV
  obtain ⟨n0, rfl, rfl, rfl⟩ := open_bool buildFlags_uBool (hval 0 4 v0 rfl rfl) h0
  obtain ⟨n1, rfl, rfl, rfl, hw1⟩ := open_int buildFlags_uInt (hval 1 3 v1 rfl rfl) h1
  obtain ⟨c, hb⟩ := buildFlags_body
  have hv : VRs (fun _ => none) (.cons (.b n0) (.cons (.i .i64 n1) .nil)) [Value.bool n0, Value.int .i64 n1] := by simp [VRs, VR]
  refine (top_run follows nameOK hkBok buildFlags_fn hb tblIn hv (bfAll n0 n1) (tables buildFlags_plain buildFlags_asciiIn hL)).mono fun e W' ⟨he, hs⟩ => ?_
  refine ⟨_, he, _, _, _, [], [], [], hW', ?_, ?_, ?_, hs.keptBut _, fun h => by cases h⟩
  · rw [buildFlags_results]
    exact trodAll_mk1 (shut_bool buildFlags_uBool true)
  · rw [buildFlags_params]
    exact trodAll_mk2 (shut_bool buildFlags_uBool n0) (shut_int buildFlags_uInt hw1)
  · rfl
theorem buildFlags_named1 : Tryz.pinned.checked.prog.funcNamed Rows.buildFlagsRow.func = some 3 := by kernel_rfl
theorem buildFlags_wrapper : Tryz.f3.isWrapper Tryz.pinned.checked.prog Rows.buildFlagsRow.wrapper Rows.buildFlagsRow.mainSum := by unfold Func.isWrapper; first | (rw [if_pos (by decide +kernel)]; kernel_rfl) | (rw [if_neg (by decide +kernel)]; exact ⟨rfl, rfl⟩)
theorem buildFlags_inst : Tryz.f3.isInstance Tryz.pinned.checked.prog Rows.buildFlagsRow.origin Rows.buildFlagsRow.targs := of_decide_eq_true (by kernel_rfl)
theorem buildFlags_holds : Rows.BuildFlagsSaid :=
  OpenClaim.holds_of_wide 3 Tryz.f3 rfl rfl rfl rfl rfl rfl rfl ⟨rfl, rfl, rfl, rfl, rfl⟩ rfl rfl rfl rfl rfl buildFlags_named1 buildFlags_fn buildFlags_closed buildFlags_inst buildFlags_wrapper
    (fun os started H enc _ => buildFlags_lifted os started H enc)
end
end Go.Proofs.YtmplmfieipckjaaGreatDoor
