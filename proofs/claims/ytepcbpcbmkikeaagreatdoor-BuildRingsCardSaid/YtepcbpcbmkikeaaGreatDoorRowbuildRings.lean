/-
  The row of buildRings: for every input the law returns true.
-/
import Derived.Test.YtepcbpcbmkikeaaGreatDoorRunbuildRings
import Derived.Test.YtepcbpcbmkikeaaGreatDoorXRowK3
import Derived.OpenShut
import Derived.Carry
import Derived.Lay
open Go Go.Mx Go.ChangeShapes Go.WideShapes Go.RowKit
namespace Go.Proofs.YtepcbpcbmkikeaaGreatDoor
set_option maxRecDepth 1000000
noncomputable section
def buildRings_L : List Nat := [6, 8, 10, 12, 21, 36, 50, 77, 90, 107, 149, 133, 134, 135, 182, 57, 88, 129, 178, 213, 137, 183, 179, 214, 41, 63, 48, 76, 58, 59, 89, 130, 180, 215, 181, 216, 131, 132, 37, 22, 23, 25, 38, 24, 9, 18, 19, 34, 52, 78, 114, 79, 43, 64, 98, 140, 141, 164, 186, 187, 142, 143, 188, 189, 218, 219, 80, 83, 81, 115, 61, 92, 91, 93, 95, 136, 94, 97, 139, 185, 138, 184, 70, 217, 96, 116, 153, 117, 118, 119, 165, 166, 167, 198, 39, 60, 203, 225, 199, 200, 224, 204, 44, 201, 168, 202, 69, 106, 173, 207, 82, 54, 84, 85, 120, 169, 121, 170, 206, 205, 226, 122, 123, 86, 124, 53, 171, 125, 126, 172, 127, 148, 191, 192, 220, 221, 222, 235, 236, 244, 245, 275, 246, 108, 150, 151, 276, 174, 175, 208, 227, 237, 247, 248, 249, 250, 277, 251, 278, 279, 252, 280, 301, 281, 282, 303, 302, 304, 335, 305, 336, 376, 377, 406, 339, 239, 258, 259, 378, 283, 337, 338, 379, 238, 253, 254, 284, 306, 310, 256, 285, 307, 340, 309, 341, 308, 342, 343, 382, 417, 449, 450, 344, 257, 288, 380, 407, 255, 408, 409, 445, 410, 228, 415, 447, 448, 384, 411, 446, 287, 412, 413, 414, 381, 416, 286, 209, 210, 229, 240, 260, 211, 27, 230, 232, 233, 242, 261, 262, 289, 290, 312, 347, 385, 321, 360, 366, 328, 371, 418, 231, 241, 419, 451, 452, 453, 494, 454, 495, 526, 552, 496, 348, 349, 386, 420, 455, 456, 497, 527, 528, 500, 532, 533, 534, 558, 578, 544, 565, 566, 545, 567, 579, 568, 569, 580, 570, 320, 499, 531, 557, 530, 556, 577, 234, 112, 163, 243, 266, 272, 113, 267, 298, 268, 194, 195, 269, 299, 300, 334, 270, 271, 273, 274, 498, 529, 553, 554, 573, 574, 555, 581, 585, 586, 587, 588, 582, 575, 576, 583, 584, 457, 501, 535, 314, 502, 388, 421, 422, 458, 423, 536, 537, 444, 493, 538, 503, 351, 387, 350, 311, 345, 346, 383, 313, 352, 353, 354, 356, 390, 426, 461, 462, 504, 463, 464, 505, 506, 539, 465, 466, 467, 468, 391, 75, 355, 389, 359, 424, 26, 459, 212, 425, 460, 358, 357, 392, 291, 292, 315, 13, 293, 316, 317, 361, 294, 318, 319, 362, 393, 363, 394, 395, 427, 396, 397, 398, 399, 428, 400, 429, 401, 402, 403, 364, 404, 430, 431, 432, 469, 433, 470, 471, 472, 475, 434, 474, 473, 507, 435, 476, 477, 508, 436, 478, 509, 540, 559, 437, 479, 480, 177, 438, 481, 482, 510, 483, 439, 484, 440, 485, 441, 486, 511, 541, 542, 560, 561, 543, 562, 563, 145, 190, 564, 487, 488, 442, 443, 489, 512, 513, 514, 518, 515, 519, 546, 516, 517, 490, 520, 491, 492, 521, 547, 522, 548, 549, 523, 524, 550, 525, 551, 571, 572, 365, 295, 322, 323, 324, 263, 264, 265, 296, 297, 325, 326, 369, 367, 368, 327, 370, 329, 330, 331, 372, 373, 332, 374, 333, 375, 405, 128, 176, 20, 35, 55, 87, 56, 11, 14]
theorem buildRings_clos : Tryz.prog.closure 6 = buildRings_L := closure_by_table Tryz.prog tabT_all (by kernel_rfl)
theorem buildRings_inPlace : Tryz.prog.inPlace 6 = Rows.buildRingsRow.inPlace := inPlace_by_table Tryz.prog buildRings_clos tabN_all (by kernel_rfl)
theorem buildRings_named : Tryz.prog.varsNamed 6 = Rows.buildRingsRow.named := varsNamed_by_table Tryz.prog buildRings_clos tabG_all tabE_all (by kernel_rfl)
theorem buildRings_unf : Tryz.prog.unfollowed 6 = true := by
  obtain ⟨c, hc⟩ : ∃ c, Tryz.f76.body = some c := ⟨_, rfl⟩
  exact unfollowed_by_table Tryz.prog buildRings_clos (g := 76) (by kernel_rfl) (fn := Tryz.f76) (by kernel_rfl) hc (by cases hc; kernel_rfl)
theorem buildRings_k0 : (Rows.buildRingsRow.wf (OpenSpec.ofChange Rows.buildRingsSpec)) = true := by kernel_rfl
theorem buildRings_k3 : (Tryz.f6.params.all (Tryz.pinned.checked.prog.readableRec ·)) = true := by kernel_rfl
theorem buildRings_k4 : (namedTie Tryz.pinned.checked.prog Rows.buildRingsRow.named Rows.buildRingsSpec.vars) = true := by kernel_rfl
theorem buildRings_k5 : ((Rows.buildRingsRow.stops == [])) = true := by kernel_rfl
theorem buildRings_k6 : ((Tryz.pinned.checked.prog.stops == [])) = true := by kernel_rfl
theorem buildRings_k7 : ((Rows.buildRingsRow.knobs == [])) = true := by kernel_rfl
theorem buildRings_k8 : ((Tryz.pinned.checked.prog.stopKnobs == [])) = true := by kernel_rfl
theorem buildRings_k9 : ((Rows.buildRingsRow.inPlace == Tryz.pinned.checked.prog.inPlace 6)) = true := beq_iff_eq.2 buildRings_inPlace.symm
theorem buildRings_k10 : ((Rows.buildRingsRow.unfollowed == Tryz.pinned.checked.prog.unfollowed 6)) = true := beq_iff_eq.2 buildRings_unf.symm
theorem buildRings_k11 : ((Rows.buildRingsRow.recurses == Tryz.pinned.checked.prog.recurses 6)) = true := beq_iff_eq.2 (show true = Tryz.prog.recurses 6 by unfold Program.recurses; rw [buildRings_unf]; rfl)
theorem buildRings_k12 : ((Rows.buildRingsRow.named == Tryz.pinned.checked.prog.varsNamed 6)) = true := beq_iff_eq.2 buildRings_named.symm
theorem buildRings_k13 : ((Rows.buildRingsRow.maps == (Tryz.f6.params.toList ++ Rows.buildRingsSpec.plain.varTypes Tryz.pinned.checked.prog).any (Tryz.pinned.checked.prog.mapsRec ·))) = true := by kernel_rfl
theorem buildRings_k14 : ((Rows.buildRingsRow.ifaces == (Tryz.f6.params.toList ++ Rows.buildRingsSpec.plain.varTypes Tryz.pinned.checked.prog).any (Tryz.pinned.checked.prog.ifacesRec ·))) = true := by kernel_rfl
theorem buildRings_k15 : ((Rows.buildRingsRow.mapsOut == Tryz.pinned.checked.prog.mapsAmong Tryz.f6.resultTypes.toList)) = true := by kernel_rfl
theorem buildRings_k16 : ((Rows.buildRingsRow.loops == (Tryz.f6.params.toList ++ Rows.buildRingsSpec.plain.varTypes Tryz.pinned.checked.prog).any (Tryz.pinned.checked.prog.loopsFrom ·))) = true := by kernel_rfl
theorem buildRings_k17 : ((Rows.buildRingsRow.wideKeys == (Tryz.f6.params.toList ++ Rows.buildRingsSpec.plain.varTypes Tryz.pinned.checked.prog ++ Tryz.f6.resultTypes.toList).any (Tryz.pinned.checked.prog.wideKeysFrom ·))) = true := by kernel_rfl
theorem buildRings_k18 : (Rows.buildRingsSpec.vars.all (Tryz.pinned.checked.prog.varReadable ·)) = true := by kernel_rfl
theorem buildRings_k19 : (Tryz.f6.resultTypes.all (fun t => Tryz.pinned.checked.prog.readableRec t && decide (t < Tryz.pinned.checked.prog.types.size))) = true := by kernel_rfl
theorem buildRings_k20 : ((Rows.buildRingsRow.ifacesOut == Tryz.f6.resultTypes.toList.any (Tryz.pinned.checked.prog.ifacesRec ·))) = true := by kernel_rfl
theorem buildRings_k21 : ((Rows.buildRingsRow.loopsOut == Tryz.f6.resultTypes.toList.any (Tryz.pinned.checked.prog.loopsFrom ·))) = true := by kernel_rfl
theorem buildRings_k22 : ((Rows.buildRingsRow.plainKeys == Tryz.pinned.checked.prog.plainKeys)) = true := by kernel_rfl
theorem buildRings_k23 : (Rows.buildRingsRow.shortTexts.isNone) = true := by kernel_rfl
theorem buildRings_k26 : ((Rows.buildRingsRow.lifted == Tryz.pinned.checked.prog.liftsFinal)) = true := by kernel_rfl
theorem buildRings_k27 : ((Tryz.pinned.checked.prog.make == some Rows.buildRingsRow.make)) = true := by kernel_rfl
theorem buildRings_k28 : ((Rows.buildRingsRow.kinds == (if Rows.buildRingsRow.domain.isEmpty then [] else Tryz.f6.params.toList.map fun t => match Tryz.pinned.checked.prog.underlying t with | some (.int k) => some k | _ => none))) = true := by kernel_rfl
theorem buildRings_k29 : ((Rows.buildRingsRow.pinned == Rows.buildRingsRow.pinnedBy)) = true := by kernel_rfl
theorem buildRings_k30 : ((Rows.buildRingsRow.veiled == (Tryz.f6.params.toList ++ Rows.buildRingsSpec.plain.varTypes Tryz.pinned.checked.prog ++ Tryz.f6.resultTypes.toList).any (Tryz.pinned.checked.prog.veiledRec ·))) = true := by kernel_rfl
theorem buildRings_k31 : (Rows.buildRingsRow.veiledFits Tryz.pinned.checked.prog Tryz.f6.params.toList (Tryz.f6.params.toList ++ Rows.buildRingsSpec.plain.varTypes Tryz.pinned.checked.prog ++ Tryz.f6.resultTypes.toList)) = true := by kernel_rfl
theorem buildRings_closed : joinedFacts Tryz.pinned.checked.prog 6 Tryz.f6 Rows.buildRingsSpec Rows.buildRingsRow = true := band (band (band (band (band (band (band (band (band (band (band (band (band (band (band (band (band (band (band (band (band (band (band (band (band (band (band (band (band (band (band (buildRings_k0) laidOut_ok) mapsRowed_ok) buildRings_k3) buildRings_k4) buildRings_k5) buildRings_k6) buildRings_k7) buildRings_k8) buildRings_k9) buildRings_k10) buildRings_k11) buildRings_k12) buildRings_k13) buildRings_k14) buildRings_k15) buildRings_k16) buildRings_k17) buildRings_k18) buildRings_k19) buildRings_k20) buildRings_k21) buildRings_k22) buildRings_k23) stopsHeard_ok) mayEnter_ok) buildRings_k26) buildRings_k27) buildRings_k28) buildRings_k29) buildRings_k30) buildRings_k31
abbrev buildRings_lst : List (String × DataW Unit) := Rows.buildRingsRow.laid
theorem buildRings_plain : (buildRings_lst.all fun x => x.2.handleName?.isNone) = true := by kernel_rfl
theorem buildRings_noInit : Tryz.prog.inits.idxOf? 6 = none := by kernel_rfl
theorem buildRings_fn : Tryz.prog.funcs[6]? = some Tryz.f6 := by kernel_rfl
theorem buildRings_zip1 (os : Os) : ((World.laidAll Tryz.prog os buildRings_lst).forCall (fun _ _ => 0) ⟨#[], #[.int .i64 (-1), .bool false], []⟩).variablesZipB Tryz.prog = true := by kernel_rfl
theorem buildRings_zip2 (os : Os) : ((((World.laidAll Tryz.prog os buildRings_lst).forCall (fun _ _ => 0) ⟨#[], #[.int .i64 (-1), .bool false], []⟩).heap.toList.drop Tryz.prog.globals.size).take ((begin Tryz.prog (fun _ _ => 0) default).world.heap.size - Tryz.prog.globals.size) =
      (begin Tryz.prog (fun _ _ => 0) default).world.heap.toList.drop Tryz.prog.globals.size) := by kernel_rfl
theorem buildRings_fits (os : Os) : (World.holding Tryz.prog os ⟨#[], #[], []⟩).layFits Tryz.prog buildRings_lst [] = true := by kernel_rfl
theorem buildRings_ifaces (os : Os) : (World.holding Tryz.prog os ⟨#[], #[], []⟩).layIfaces Tryz.prog buildRings_lst (World.laidAll Tryz.prog os buildRings_lst) = true := by kernel_rfl
theorem buildRings_okB (os : Os) : Input.okWideB Tryz.prog ((World.laidAll Tryz.prog os buildRings_lst).forCall (fun _ _ => 0) ⟨#[], #[.int .i64 (-1), .bool false], []⟩) 6 ⟨#[], #[.int .i64 (-1), .bool false], []⟩ = true := by kernel_rfl
theorem buildRings_preB (os : Os) (H : Type) (enc : TypeId × Value → H) : Rows.buildRingsSpec.preB enc Tryz.prog Tryz.f6 [] false ((World.laidAll Tryz.prog os buildRings_lst).forCall (fun _ _ => 0) ⟨#[], #[.int .i64 (-1), .bool false], []⟩).memory #[.int .i64 (-1), .bool false] 8 = true := by kernel_rfl
theorem buildRings_szB (os : Os) (H : Type) (enc : TypeId × Value → H) : Rows.buildRingsSpec.sizedB enc Tryz.prog Tryz.f6 false ((World.laidAll Tryz.prog os buildRings_lst).forCall (fun _ _ => 0) ⟨#[], #[.int .i64 (-1), .bool false], []⟩).memory #[.int .i64 (-1), .bool false] 8 = true := by kernel_rfl
theorem buildRings_asciiIn : ("strings.asciiSpace", DataW.agg (asciiL.map fun x => (DataW.lit (.int .u8 x) : DataW Unit))) ∈ buildRings_lst := List.mem_iff_getElem?.2 ⟨5, by kernel_rfl⟩
theorem buildRings_uInt : Tryz.prog.underlying 3 = some (.int .i64) := by kernel_rfl
theorem buildRings_uBool : Tryz.prog.underlying 4 = some .bool := by kernel_rfl
theorem buildRings_params : Tryz.f6.params = #[3, 4] := by kernel_rfl
theorem buildRings_results : Tryz.f6.resultTypes = #[4] := by kernel_rfl
theorem buildRings_body : ∃ c, Tryz.f6.body = some c := ⟨_, rfl⟩
theorem buildRings_lifted (os : Os) (started : os.Started) (H : Type) (enc : TypeId × Value → H) :
    ReturnsInHanded {} Tryz.checked os 6 .any (fun w args => (Rows.buildRingsSpec.pre enc Tryz.prog Tryz.f6 Rows.buildRingsRow.domain false w args ∧ laidMetH Tryz.prog buildRings_lst w) ∧ sizedMet enc Tryz.prog Tryz.f6 (OpenSpec.ofChange Rows.buildRingsSpec) false w args)
      (Rows.buildRingsSpec.post enc Tryz.prog Tryz.f6 false true false false) := by
  refine returnsInHanded_of_change_and (C := Tryz.checked) (X := fun w _ => laidMetH Tryz.prog buildRings_lst w) (fun _ _ _ hh h => h.of_heap hh) own started buildRings_noInit buildRings_fn
    (ChangeSpec.witness_shaped (enc := enc) (C := Tryz.checked) (os := os) (X := fun w _ => laidMetH Tryz.prog buildRings_lst w) false (World.laidAll Tryz.prog os buildRings_lst) #[.int .i64 (-1), .bool false] 8 (World.laidAll_os _ _ _)
      (World.shaped_of_ZipB (buildRings_zip1 os) (buildRings_zip2 os)) (buildRings_okB os) (buildRings_preB os H enc) (buildRings_szB os H enc)
      (by rw [MakeChecks.laidMetH_plain _ _ _ buildRings_plain]; exact laidMet_laidAll _ (buildRings_fits os) (buildRings_ifaces os))) ?_
  intro W base args ds gs before hval0 hW _ _ hL _
  have hval : ∀ (j : Nat) t v, Tryz.f6.params[j]? = some t → args[j]? = some v → Value.okWide Tryz.prog W .any base t v := hval0
  have hW' := hW
  obtain ⟨p, q, hA0, hV, rfl, _, _⟩ := hW
  have hA : DataW.TrodAll enc Tryz.prog W 0 (fun _ => true) true Tryz.f6.params.toList args.toList ds p := hA0
  rw [buildRings_params] at hA hval
  obtain ⟨v0, v1, d0, d1, p0, p1, rfl, rfl, rfl, h0, h1⟩ := trodAll_two hA
  obtain ⟨rfl, rfl⟩ := trodVars_none hV
  obtain ⟨n0, rfl, rfl, rfl, hw0⟩ := open_int buildRings_uInt (hval 0 3 v0 rfl rfl) h0
  obtain ⟨n1, rfl, rfl, rfl⟩ := open_bool buildRings_uBool (hval 1 4 v1 rfl rfl) h1
  obtain ⟨c, hb⟩ := buildRings_body
  have hv : VRs (fun _ => none) (.cons (.i .i64 n0) (.cons (.b n1) .nil)) [Value.int .i64 n0, Value.bool n1] := ⟨_, _, rfl, by simp [VR], ⟨_, _, rfl, by simp [VR], rfl⟩⟩
  refine (top_run follows nameOK hkBok buildRings_fn hb tblIn hv (brAll n0 n1) (tables buildRings_plain buildRings_asciiIn hL)).mono fun e W' ⟨he, hs⟩ => ?_
  refine ⟨_, he, _, _, _, [], [], [], hW', ?_, ?_, ?_, hs.keptBut _, fun h => by cases h⟩
  · rw [buildRings_results]
    exact trodAll_mk1 (shut_bool buildRings_uBool true)
  · rw [buildRings_params]
    exact trodAll_mk2 (shut_int buildRings_uInt hw0) (shut_bool buildRings_uBool n1)
  · rfl
theorem buildRings_named1 : Tryz.pinned.checked.prog.funcNamed Rows.buildRingsRow.func = some 6 := by kernel_rfl
theorem buildRings_wrapper : Tryz.f6.isWrapper Tryz.pinned.checked.prog Rows.buildRingsRow.wrapper Rows.buildRingsRow.mainSum := by unfold Func.isWrapper; first | (rw [if_pos (by decide +kernel)]; kernel_rfl) | (rw [if_neg (by decide +kernel)]; exact ⟨rfl, rfl⟩)
theorem buildRings_inst : Tryz.f6.isInstance Tryz.pinned.checked.prog Rows.buildRingsRow.origin Rows.buildRingsRow.targs := of_decide_eq_true (by kernel_rfl)
theorem buildRings_holds : Rows.BuildRingsSaid :=
  OpenClaim.holds_of_wide 6 Tryz.f6 rfl rfl rfl rfl rfl rfl rfl ⟨rfl, rfl, rfl, rfl, rfl⟩ rfl rfl rfl rfl rfl buildRings_named1 buildRings_fn buildRings_closed buildRings_inst buildRings_wrapper
    (fun os started H enc _ => buildRings_lifted os started H enc)
end
end Go.Proofs.YtepcbpcbmkikeaaGreatDoor
