/-
  The row of makeNames: for every input the law returns true.
-/
import Derived.Test.YtepcbpcbmkikeaaGreatDoorRunmakeNames
import Derived.Test.YtepcbpcbmkikeaaGreatDoorXRowK3
import Derived.OpenShut
import Derived.Carry
import Derived.Lay
open Go Go.Mx Go.ChangeShapes Go.WideShapes Go.RowKit
namespace Go.Proofs.YtepcbpcbmkikeaaGreatDoor
set_option maxRecDepth 1000000
noncomputable section
def makeNames_L : List Nat := [7, 15, 10, 16, 28, 39, 60, 90, 107, 149, 133, 134, 135, 182, 40, 61, 92, 91, 93, 95, 136, 94, 97, 139, 185, 137, 183, 138, 184, 70, 217, 96, 62, 41, 63, 42, 29, 43, 64, 98, 140, 141, 164, 186, 187, 142, 143, 188, 189, 218, 219, 30, 36, 50, 77, 57, 88, 129, 178, 213, 179, 214, 48, 76, 58, 59, 89, 130, 180, 215, 181, 216, 131, 132, 44, 21, 37, 22, 13, 26, 27, 31, 45, 46, 65, 99, 69, 106, 100, 144, 146, 145, 190, 102, 103, 101, 66, 67, 68, 105, 47, 73, 112, 163, 111, 155, 156, 193, 157, 194, 195, 158, 196, 197, 223, 159, 160, 161, 162, 74, 75, 113, 148, 191, 192, 220, 221, 222, 235, 236, 244, 245, 275, 78, 114, 246, 108, 150, 151, 153, 276, 118, 203, 225, 198, 199, 104, 147, 71, 72, 109, 152, 110, 154, 32, 49, 33, 51, 9, 18, 19, 34, 52, 79, 80, 83, 81, 115, 116, 117, 119, 165, 166, 167, 200, 224, 204, 201, 168, 202, 173, 207, 82, 54, 84, 85, 120, 169, 121, 170, 206, 205, 226, 122, 123, 86, 124, 53, 171, 12, 23, 25, 38, 24, 125, 126, 172, 127, 174, 175, 208, 227, 237, 247, 248, 249, 250, 277, 251, 278, 279, 252, 280, 301, 281, 282, 303, 302, 304, 335, 305, 336, 376, 377, 406, 339, 239, 258, 259, 378, 283, 337, 338, 379, 238, 253, 254, 284, 306, 310, 256, 285, 307, 340, 309, 341, 308, 342, 343, 382, 417, 449, 450, 344, 257, 288, 380, 407, 255, 408, 409, 445, 410, 228, 415, 447, 448, 384, 411, 446, 287, 412, 413, 414, 381, 416, 286, 209, 210, 229, 240, 260, 211, 230, 232, 233, 242, 261, 262, 289, 290, 312, 347, 385, 321, 360, 366, 328, 371, 418, 231, 241, 419, 451, 452, 453, 494, 454, 495, 526, 552, 496, 348, 349, 386, 420, 455, 456, 497, 527, 528, 500, 532, 533, 534, 558, 578, 544, 565, 566, 545, 567, 579, 568, 569, 580, 570, 320, 499, 531, 557, 530, 556, 577, 234, 243, 266, 272, 267, 298, 268, 269, 299, 300, 334, 270, 271, 273, 274, 498, 529, 553, 554, 573, 574, 555, 581, 585, 586, 587, 588, 582, 575, 576, 583, 584, 457, 501, 535, 314, 502, 388, 421, 422, 458, 423, 536, 537, 444, 493, 538, 503, 351, 387, 350, 311, 345, 346, 383, 313, 352, 353, 354, 356, 390, 426, 461, 462, 504, 463, 464, 505, 506, 539, 465, 466, 467, 468, 391, 355, 389, 359, 424, 459, 212, 425, 460, 358, 357, 392, 291, 292, 315, 293, 316, 317, 361, 294, 318, 319, 362, 393, 363, 394, 395, 427, 396, 397, 398, 399, 428, 400, 429, 401, 402, 403, 364, 404, 430, 431, 432, 469, 433, 470, 471, 472, 475, 434, 474, 473, 507, 435, 476, 477, 508, 436, 478, 509, 540, 559, 437, 479, 480, 177, 438, 481, 482, 510, 483, 439, 484, 440, 485, 441, 486, 511, 541, 542, 560, 561, 543, 562, 563, 564, 487, 488, 442, 443, 489, 512, 513, 514, 518, 515, 519, 546, 516, 517, 490, 520, 491, 492, 521, 547, 522, 548, 549, 523, 524, 550, 525, 551, 571, 572, 365, 295, 322, 323, 324, 263, 264, 265, 296, 297, 325, 326, 369, 367, 368, 327, 370, 329, 330, 331, 372, 373, 332, 374, 333, 375, 405, 128, 176, 20, 35, 55, 87, 56, 17]
theorem makeNames_clos : Tryz.prog.closure 7 = makeNames_L := closure_by_table Tryz.prog tabT_all (by kernel_rfl)
theorem makeNames_inPlace : Tryz.prog.inPlace 7 = Rows.makeNamesRow.inPlace := inPlace_by_table Tryz.prog makeNames_clos tabN_all (by kernel_rfl)
theorem makeNames_named : Tryz.prog.varsNamed 7 = Rows.makeNamesRow.named := varsNamed_by_table Tryz.prog makeNames_clos tabG_all tabE_all (by kernel_rfl)
theorem makeNames_unf : Tryz.prog.unfollowed 7 = true := by
  obtain ⟨c, hc⟩ : ∃ c, Tryz.f76.body = some c := ⟨_, rfl⟩
  exact unfollowed_by_table Tryz.prog makeNames_clos (g := 76) (by kernel_rfl) (fn := Tryz.f76) (by kernel_rfl) hc (by cases hc; kernel_rfl)
theorem makeNames_k0 : (Rows.makeNamesRow.wf (OpenSpec.ofChange Rows.makeNamesSpec)) = true := by kernel_rfl
theorem makeNames_k3 : (Tryz.f7.params.all (Tryz.pinned.checked.prog.readableRec ·)) = true := by kernel_rfl
theorem makeNames_k4 : (namedTie Tryz.pinned.checked.prog Rows.makeNamesRow.named Rows.makeNamesSpec.vars) = true := by kernel_rfl
theorem makeNames_k5 : ((Rows.makeNamesRow.stops == [])) = true := by kernel_rfl
theorem makeNames_k6 : ((Tryz.pinned.checked.prog.stops == [])) = true := by kernel_rfl
theorem makeNames_k7 : ((Rows.makeNamesRow.knobs == [])) = true := by kernel_rfl
theorem makeNames_k8 : ((Tryz.pinned.checked.prog.stopKnobs == [])) = true := by kernel_rfl
theorem makeNames_k9 : ((Rows.makeNamesRow.inPlace == Tryz.pinned.checked.prog.inPlace 7)) = true := beq_iff_eq.2 makeNames_inPlace.symm
theorem makeNames_k10 : ((Rows.makeNamesRow.unfollowed == Tryz.pinned.checked.prog.unfollowed 7)) = true := beq_iff_eq.2 makeNames_unf.symm
theorem makeNames_k11 : ((Rows.makeNamesRow.recurses == Tryz.pinned.checked.prog.recurses 7)) = true := beq_iff_eq.2 (show true = Tryz.prog.recurses 7 by unfold Program.recurses; rw [makeNames_unf]; rfl)
theorem makeNames_k12 : ((Rows.makeNamesRow.named == Tryz.pinned.checked.prog.varsNamed 7)) = true := beq_iff_eq.2 makeNames_named.symm
theorem makeNames_k13 : ((Rows.makeNamesRow.maps == (Tryz.f7.params.toList ++ Rows.makeNamesSpec.plain.varTypes Tryz.pinned.checked.prog).any (Tryz.pinned.checked.prog.mapsRec ·))) = true := by kernel_rfl
theorem makeNames_k14 : ((Rows.makeNamesRow.ifaces == (Tryz.f7.params.toList ++ Rows.makeNamesSpec.plain.varTypes Tryz.pinned.checked.prog).any (Tryz.pinned.checked.prog.ifacesRec ·))) = true := by kernel_rfl
theorem makeNames_k15 : ((Rows.makeNamesRow.mapsOut == Tryz.pinned.checked.prog.mapsAmong Tryz.f7.resultTypes.toList)) = true := by kernel_rfl
theorem makeNames_k16 : ((Rows.makeNamesRow.loops == (Tryz.f7.params.toList ++ Rows.makeNamesSpec.plain.varTypes Tryz.pinned.checked.prog).any (Tryz.pinned.checked.prog.loopsFrom ·))) = true := by kernel_rfl
theorem makeNames_k17 : ((Rows.makeNamesRow.wideKeys == (Tryz.f7.params.toList ++ Rows.makeNamesSpec.plain.varTypes Tryz.pinned.checked.prog ++ Tryz.f7.resultTypes.toList).any (Tryz.pinned.checked.prog.wideKeysFrom ·))) = true := by kernel_rfl
theorem makeNames_k18 : (Rows.makeNamesSpec.vars.all (Tryz.pinned.checked.prog.varReadable ·)) = true := by kernel_rfl
theorem makeNames_k19 : (Tryz.f7.resultTypes.all (fun t => Tryz.pinned.checked.prog.readableRec t && decide (t < Tryz.pinned.checked.prog.types.size))) = true := by kernel_rfl
theorem makeNames_k20 : ((Rows.makeNamesRow.ifacesOut == Tryz.f7.resultTypes.toList.any (Tryz.pinned.checked.prog.ifacesRec ·))) = true := by kernel_rfl
theorem makeNames_k21 : ((Rows.makeNamesRow.loopsOut == Tryz.f7.resultTypes.toList.any (Tryz.pinned.checked.prog.loopsFrom ·))) = true := by kernel_rfl
theorem makeNames_k22 : ((Rows.makeNamesRow.plainKeys == Tryz.pinned.checked.prog.plainKeys)) = true := by kernel_rfl
theorem makeNames_k23 : (Rows.makeNamesRow.shortTexts.isNone) = true := by kernel_rfl
theorem makeNames_k26 : ((Rows.makeNamesRow.lifted == Tryz.pinned.checked.prog.liftsFinal)) = true := by kernel_rfl
theorem makeNames_k27 : ((Tryz.pinned.checked.prog.make == some Rows.makeNamesRow.make)) = true := by kernel_rfl
theorem makeNames_k28 : ((Rows.makeNamesRow.kinds == (if Rows.makeNamesRow.domain.isEmpty then [] else Tryz.f7.params.toList.map fun t => match Tryz.pinned.checked.prog.underlying t with | some (.int k) => some k | _ => none))) = true := by kernel_rfl
theorem makeNames_k29 : ((Rows.makeNamesRow.pinned == Rows.makeNamesRow.pinnedBy)) = true := by kernel_rfl
theorem makeNames_k30 : ((Rows.makeNamesRow.veiled == (Tryz.f7.params.toList ++ Rows.makeNamesSpec.plain.varTypes Tryz.pinned.checked.prog ++ Tryz.f7.resultTypes.toList).any (Tryz.pinned.checked.prog.veiledRec ·))) = true := by kernel_rfl
theorem makeNames_k31 : (Rows.makeNamesRow.veiledFits Tryz.pinned.checked.prog Tryz.f7.params.toList (Tryz.f7.params.toList ++ Rows.makeNamesSpec.plain.varTypes Tryz.pinned.checked.prog ++ Tryz.f7.resultTypes.toList)) = true := by kernel_rfl
theorem makeNames_closed : joinedFacts Tryz.pinned.checked.prog 7 Tryz.f7 Rows.makeNamesSpec Rows.makeNamesRow = true := band (band (band (band (band (band (band (band (band (band (band (band (band (band (band (band (band (band (band (band (band (band (band (band (band (band (band (band (band (band (band (makeNames_k0) laidOut_ok) mapsRowed_ok) makeNames_k3) makeNames_k4) makeNames_k5) makeNames_k6) makeNames_k7) makeNames_k8) makeNames_k9) makeNames_k10) makeNames_k11) makeNames_k12) makeNames_k13) makeNames_k14) makeNames_k15) makeNames_k16) makeNames_k17) makeNames_k18) makeNames_k19) makeNames_k20) makeNames_k21) makeNames_k22) makeNames_k23) stopsHeard_ok) mayEnter_ok) makeNames_k26) makeNames_k27) makeNames_k28) makeNames_k29) makeNames_k30) makeNames_k31
abbrev makeNames_lst : List (String × DataW Unit) := Rows.makeNamesRow.laid
theorem makeNames_plain : (makeNames_lst.all fun x => x.2.handleName?.isNone) = true := by kernel_rfl
theorem makeNames_noInit : Tryz.prog.inits.idxOf? 7 = none := by kernel_rfl
theorem makeNames_fn : Tryz.prog.funcs[7]? = some Tryz.f7 := by kernel_rfl
theorem makeNames_zip1 (os : Os) : ((World.laidAll Tryz.prog os makeNames_lst).forCall (fun _ _ => 0) ⟨#[], #[.bool false, .bool false, .bool false, .bool false], []⟩).variablesZipB Tryz.prog = true := by kernel_rfl
theorem makeNames_zip2 (os : Os) : ((((World.laidAll Tryz.prog os makeNames_lst).forCall (fun _ _ => 0) ⟨#[], #[.bool false, .bool false, .bool false, .bool false], []⟩).heap.toList.drop Tryz.prog.globals.size).take ((begin Tryz.prog (fun _ _ => 0) default).world.heap.size - Tryz.prog.globals.size) =
      (begin Tryz.prog (fun _ _ => 0) default).world.heap.toList.drop Tryz.prog.globals.size) := by kernel_rfl
theorem makeNames_fits (os : Os) : (World.holding Tryz.prog os ⟨#[], #[], []⟩).layFits Tryz.prog makeNames_lst [] = true := by kernel_rfl
theorem makeNames_ifaces (os : Os) : (World.holding Tryz.prog os ⟨#[], #[], []⟩).layIfaces Tryz.prog makeNames_lst (World.laidAll Tryz.prog os makeNames_lst) = true := by kernel_rfl
theorem makeNames_okB (os : Os) : Input.okWideB Tryz.prog ((World.laidAll Tryz.prog os makeNames_lst).forCall (fun _ _ => 0) ⟨#[], #[.bool false, .bool false, .bool false, .bool false], []⟩) 7 ⟨#[], #[.bool false, .bool false, .bool false, .bool false], []⟩ = true := by kernel_rfl
theorem makeNames_preB (os : Os) (H : Type) (enc : TypeId × Value → H) : Rows.makeNamesSpec.preB enc Tryz.prog Tryz.f7 [] false ((World.laidAll Tryz.prog os makeNames_lst).forCall (fun _ _ => 0) ⟨#[], #[.bool false, .bool false, .bool false, .bool false], []⟩).memory #[.bool false, .bool false, .bool false, .bool false] 8 = true := by kernel_rfl
theorem makeNames_szB (os : Os) (H : Type) (enc : TypeId × Value → H) : Rows.makeNamesSpec.sizedB enc Tryz.prog Tryz.f7 false ((World.laidAll Tryz.prog os makeNames_lst).forCall (fun _ _ => 0) ⟨#[], #[.bool false, .bool false, .bool false, .bool false], []⟩).memory #[.bool false, .bool false, .bool false, .bool false] 8 = true := by kernel_rfl
theorem makeNames_asciiIn : ("strings.asciiSpace", DataW.agg (asciiL.map fun x => (DataW.lit (.int .u8 x) : DataW Unit))) ∈ makeNames_lst := List.mem_iff_getElem?.2 ⟨5, by kernel_rfl⟩
theorem makeNames_uInt : Tryz.prog.underlying 3 = some (.int .i64) := by kernel_rfl
theorem makeNames_uBool : Tryz.prog.underlying 4 = some .bool := by kernel_rfl
theorem makeNames_params : Tryz.f7.params = #[4, 4, 4, 4] := by kernel_rfl
theorem makeNames_results : Tryz.f7.resultTypes = #[4] := by kernel_rfl
theorem makeNames_body : ∃ c, Tryz.f7.body = some c := ⟨_, rfl⟩
theorem makeNames_lifted (os : Os) (started : os.Started) (H : Type) (enc : TypeId × Value → H) :
    ReturnsInHanded {} Tryz.checked os 7 .any (fun w args => (Rows.makeNamesSpec.pre enc Tryz.prog Tryz.f7 Rows.makeNamesRow.domain false w args ∧ laidMetH Tryz.prog makeNames_lst w) ∧ sizedMet enc Tryz.prog Tryz.f7 (OpenSpec.ofChange Rows.makeNamesSpec) false w args)
      (Rows.makeNamesSpec.post enc Tryz.prog Tryz.f7 false true false false) := by
  refine returnsInHanded_of_change_and (C := Tryz.checked) (X := fun w _ => laidMetH Tryz.prog makeNames_lst w) (fun _ _ _ hh h => h.of_heap hh) own started makeNames_noInit makeNames_fn
    (ChangeSpec.witness_shaped (enc := enc) (C := Tryz.checked) (os := os) (X := fun w _ => laidMetH Tryz.prog makeNames_lst w) false (World.laidAll Tryz.prog os makeNames_lst) #[.bool false, .bool false, .bool false, .bool false] 8 (World.laidAll_os _ _ _)
      (World.shaped_of_ZipB (makeNames_zip1 os) (makeNames_zip2 os)) (makeNames_okB os) (makeNames_preB os H enc) (makeNames_szB os H enc)
      (by rw [MakeChecks.laidMetH_plain _ _ _ makeNames_plain]; exact laidMet_laidAll _ (makeNames_fits os) (makeNames_ifaces os))) ?_
  intro W base args ds gs before hval0 hW _ _ hL _
  have hval : ∀ (j : Nat) t v, Tryz.f7.params[j]? = some t → args[j]? = some v → Value.okWide Tryz.prog W .any base t v := hval0
  have hW' := hW
  obtain ⟨p, q, hA0, hV, rfl, _, _⟩ := hW
  have hA : DataW.TrodAll enc Tryz.prog W 0 (fun _ => true) true Tryz.f7.params.toList args.toList ds p := hA0
  rw [makeNames_params] at hA hval
  obtain ⟨v0, v1, v2, v3, d0, d1, d2, d3, p0, p1, p2, p3, rfl, rfl, rfl, h0, h1, h2, h3⟩ := trodAll_four hA
  obtain ⟨rfl, rfl⟩ := trodVars_none hV
  obtain ⟨n0, rfl, rfl, rfl⟩ := open_bool makeNames_uBool (hval 0 4 v0 rfl rfl) h0
  obtain ⟨n1, rfl, rfl, rfl⟩ := open_bool makeNames_uBool (hval 1 4 v1 rfl rfl) h1
  obtain ⟨n2, rfl, rfl, rfl⟩ := open_bool makeNames_uBool (hval 2 4 v2 rfl rfl) h2
  obtain ⟨n3, rfl, rfl, rfl⟩ := open_bool makeNames_uBool (hval 3 4 v3 rfl rfl) h3
  obtain ⟨c, hb⟩ := makeNames_body
  have hv : VRs (fun _ => none) (.cons (.b n0) (.cons (.b n1) (.cons (.b n2) (.cons (.b n3) .nil)))) [Value.bool n0, Value.bool n1, Value.bool n2, Value.bool n3] := ⟨_, _, rfl, by simp [VR], ⟨_, _, rfl, by simp [VR], ⟨_, _, rfl, by simp [VR], ⟨_, _, rfl, by simp [VR], rfl⟩⟩⟩⟩
  refine (top_run follows nameOK hkBok makeNames_fn hb tblIn hv (mnAll n0 n1 n2 n3) (tables makeNames_plain makeNames_asciiIn hL)).mono fun e W' ⟨he, hs⟩ => ?_
  refine ⟨_, he, _, _, _, [], [], [], hW', ?_, ?_, ?_, hs.keptBut _, fun h => by cases h⟩
  · rw [makeNames_results]
    exact trodAll_mk1 (shut_bool makeNames_uBool true)
  · rw [makeNames_params]
    exact trodAll_mk4 (shut_bool makeNames_uBool n0) (shut_bool makeNames_uBool n1) (shut_bool makeNames_uBool n2) (shut_bool makeNames_uBool n3)
  · rfl
theorem makeNames_named1 : Tryz.pinned.checked.prog.funcNamed Rows.makeNamesRow.func = some 7 := by kernel_rfl
theorem makeNames_wrapper : Tryz.f7.isWrapper Tryz.pinned.checked.prog Rows.makeNamesRow.wrapper Rows.makeNamesRow.mainSum := by unfold Func.isWrapper; first | (rw [if_pos (by decide +kernel)]; kernel_rfl) | (rw [if_neg (by decide +kernel)]; exact ⟨rfl, rfl⟩)
theorem makeNames_inst : Tryz.f7.isInstance Tryz.pinned.checked.prog Rows.makeNamesRow.origin Rows.makeNamesRow.targs := of_decide_eq_true (by kernel_rfl)
theorem makeNames_holds : Rows.MakeNamesSaid :=
  OpenClaim.holds_of_wide 7 Tryz.f7 rfl rfl rfl rfl rfl rfl rfl ⟨rfl, rfl, rfl, rfl, rfl⟩ rfl rfl rfl rfl rfl makeNames_named1 makeNames_fn makeNames_closed makeNames_inst makeNames_wrapper
    (fun os started H enc _ => makeNames_lifted os started H enc)
end
end Go.Proofs.YtepcbpcbmkikeaaGreatDoor
