/-
  The row of buildDeletes: for every input the law returns true.
-/
import Derived.Test.YtepcbpcbmkikeaaGreatDoorRunbuildDeletes
import Derived.Test.YtepcbpcbmkikeaaGreatDoorXRowK3
import Derived.OpenShut
import Derived.Carry
import Derived.Lay
open Go Go.Mx Go.ChangeShapes Go.WideShapes Go.RowKit
namespace Go.Proofs.YtepcbpcbmkikeaaGreatDoor
set_option maxRecDepth 1000000
noncomputable section
def buildDeletes_L : List Nat := [4, 8, 10, 12, 21, 36, 50, 77, 90, 107, 149, 133, 134, 135, 182, 57, 88, 129, 178, 213, 137, 183, 179, 214, 41, 63, 48, 76, 58, 59, 89, 130, 180, 215, 181, 216, 131, 132, 37, 22, 23, 25, 38, 24, 9, 18, 19, 34, 52, 78, 114, 79, 43, 64, 98, 140, 141, 164, 186, 187, 142, 143, 188, 189, 218, 219, 80, 83, 81, 115, 61, 92, 91, 93, 95, 136, 94, 97, 139, 185, 138, 184, 70, 217, 96, 116, 153, 117, 118, 119, 165, 166, 167, 198, 39, 60, 203, 225, 199, 200, 224, 204, 44, 201, 168, 202, 69, 106, 173, 207, 82, 54, 84, 85, 120, 169, 121, 170, 206, 205, 226, 122, 123, 86, 124, 53, 171, 125, 126, 172, 127, 148, 191, 192, 220, 221, 222, 235, 236, 244, 245, 275, 246, 108, 150, 151, 276, 174, 175, 208, 227, 237, 247, 248, 249, 250, 277, 251, 278, 279, 252, 280, 301, 281, 282, 303, 302, 304, 335, 305, 336, 376, 377, 406, 339, 239, 258, 259, 378, 283, 337, 338, 379, 238, 253, 254, 284, 306, 310, 256, 285, 307, 340, 309, 341, 308, 342, 343, 382, 417, 449, 450, 344, 257, 288, 380, 407, 255, 408, 409, 445, 410, 228, 415, 447, 448, 384, 411, 446, 287, 412, 413, 414, 381, 416, 286, 209, 210, 229, 240, 260, 211, 27, 230, 232, 233, 242, 261, 262, 289, 290, 312, 347, 385, 321, 360, 366, 328, 371, 418, 231, 241, 419, 451, 452, 453, 494, 454, 495, 526, 552, 496, 348, 349, 386, 420, 455, 456, 497, 527, 528, 500, 532, 533, 534, 558, 578, 544, 565, 566, 545, 567, 579, 568, 569, 580, 570, 320, 499, 531, 557, 530, 556, 577, 234, 112, 163, 243, 266, 272, 113, 267, 298, 268, 194, 195, 269, 299, 300, 334, 270, 271, 273, 274, 498, 529, 553, 554, 573, 574, 555, 581, 585, 586, 587, 588, 582, 575, 576, 583, 584, 457, 501, 535, 314, 502, 388, 421, 422, 458, 423, 536, 537, 444, 493, 538, 503, 351, 387, 350, 311, 345, 346, 383, 313, 352, 353, 354, 356, 390, 426, 461, 462, 504, 463, 464, 505, 506, 539, 465, 466, 467, 468, 391, 75, 355, 389, 359, 424, 26, 459, 212, 425, 460, 358, 357, 392, 291, 292, 315, 13, 293, 316, 317, 361, 294, 318, 319, 362, 393, 363, 394, 395, 427, 396, 397, 398, 399, 428, 400, 429, 401, 402, 403, 364, 404, 430, 431, 432, 469, 433, 470, 471, 472, 475, 434, 474, 473, 507, 435, 476, 477, 508, 436, 478, 509, 540, 559, 437, 479, 480, 177, 438, 481, 482, 510, 483, 439, 484, 440, 485, 441, 486, 511, 541, 542, 560, 561, 543, 562, 563, 145, 190, 564, 487, 488, 442, 443, 489, 512, 513, 514, 518, 515, 519, 546, 516, 517, 490, 520, 491, 492, 521, 547, 522, 548, 549, 523, 524, 550, 525, 551, 571, 572, 365, 295, 322, 323, 324, 263, 264, 265, 296, 297, 325, 326, 369, 367, 368, 327, 370, 329, 330, 331, 372, 373, 332, 374, 333, 375, 405, 128, 176, 20, 35, 55, 87, 56, 11]
theorem buildDeletes_clos : Tryz.prog.closure 4 = buildDeletes_L := closure_by_table Tryz.prog tabT_all (by kernel_rfl)
theorem buildDeletes_inPlace : Tryz.prog.inPlace 4 = Rows.buildDeletesRow.inPlace := inPlace_by_table Tryz.prog buildDeletes_clos tabN_all (by kernel_rfl)
theorem buildDeletes_named : Tryz.prog.varsNamed 4 = Rows.buildDeletesRow.named := varsNamed_by_table Tryz.prog buildDeletes_clos tabG_all tabE_all (by kernel_rfl)
theorem buildDeletes_unf : Tryz.prog.unfollowed 4 = true := by
  obtain ⟨c, hc⟩ : ∃ c, Tryz.f76.body = some c := ⟨_, rfl⟩
  exact unfollowed_by_table Tryz.prog buildDeletes_clos (g := 76) (by kernel_rfl) (fn := Tryz.f76) (by kernel_rfl) hc (by cases hc; kernel_rfl)
theorem buildDeletes_k0 : (Rows.buildDeletesRow.wf (OpenSpec.ofChange Rows.buildDeletesSpec)) = true := by kernel_rfl
theorem buildDeletes_k3 : (Tryz.f4.params.all (Tryz.pinned.checked.prog.readableRec ·)) = true := by kernel_rfl
theorem buildDeletes_k4 : (namedTie Tryz.pinned.checked.prog Rows.buildDeletesRow.named Rows.buildDeletesSpec.vars) = true := by kernel_rfl
theorem buildDeletes_k5 : ((Rows.buildDeletesRow.stops == [])) = true := by kernel_rfl
theorem buildDeletes_k6 : ((Tryz.pinned.checked.prog.stops == [])) = true := by kernel_rfl
theorem buildDeletes_k7 : ((Rows.buildDeletesRow.knobs == [])) = true := by kernel_rfl
theorem buildDeletes_k8 : ((Tryz.pinned.checked.prog.stopKnobs == [])) = true := by kernel_rfl
theorem buildDeletes_k9 : ((Rows.buildDeletesRow.inPlace == Tryz.pinned.checked.prog.inPlace 4)) = true := beq_iff_eq.2 buildDeletes_inPlace.symm
theorem buildDeletes_k10 : ((Rows.buildDeletesRow.unfollowed == Tryz.pinned.checked.prog.unfollowed 4)) = true := beq_iff_eq.2 buildDeletes_unf.symm
theorem buildDeletes_k11 : ((Rows.buildDeletesRow.recurses == Tryz.pinned.checked.prog.recurses 4)) = true := beq_iff_eq.2 (show true = Tryz.prog.recurses 4 by unfold Program.recurses; rw [buildDeletes_unf]; rfl)
theorem buildDeletes_k12 : ((Rows.buildDeletesRow.named == Tryz.pinned.checked.prog.varsNamed 4)) = true := beq_iff_eq.2 buildDeletes_named.symm
theorem buildDeletes_k13 : ((Rows.buildDeletesRow.maps == (Tryz.f4.params.toList ++ Rows.buildDeletesSpec.plain.varTypes Tryz.pinned.checked.prog).any (Tryz.pinned.checked.prog.mapsRec ·))) = true := by kernel_rfl
theorem buildDeletes_k14 : ((Rows.buildDeletesRow.ifaces == (Tryz.f4.params.toList ++ Rows.buildDeletesSpec.plain.varTypes Tryz.pinned.checked.prog).any (Tryz.pinned.checked.prog.ifacesRec ·))) = true := by kernel_rfl
theorem buildDeletes_k15 : ((Rows.buildDeletesRow.mapsOut == Tryz.pinned.checked.prog.mapsAmong Tryz.f4.resultTypes.toList)) = true := by kernel_rfl
theorem buildDeletes_k16 : ((Rows.buildDeletesRow.loops == (Tryz.f4.params.toList ++ Rows.buildDeletesSpec.plain.varTypes Tryz.pinned.checked.prog).any (Tryz.pinned.checked.prog.loopsFrom ·))) = true := by kernel_rfl
theorem buildDeletes_k17 : ((Rows.buildDeletesRow.wideKeys == (Tryz.f4.params.toList ++ Rows.buildDeletesSpec.plain.varTypes Tryz.pinned.checked.prog ++ Tryz.f4.resultTypes.toList).any (Tryz.pinned.checked.prog.wideKeysFrom ·))) = true := by kernel_rfl
theorem buildDeletes_k18 : (Rows.buildDeletesSpec.vars.all (Tryz.pinned.checked.prog.varReadable ·)) = true := by kernel_rfl
theorem buildDeletes_k19 : (Tryz.f4.resultTypes.all (fun t => Tryz.pinned.checked.prog.readableRec t && decide (t < Tryz.pinned.checked.prog.types.size))) = true := by kernel_rfl
theorem buildDeletes_k20 : ((Rows.buildDeletesRow.ifacesOut == Tryz.f4.resultTypes.toList.any (Tryz.pinned.checked.prog.ifacesRec ·))) = true := by kernel_rfl
theorem buildDeletes_k21 : ((Rows.buildDeletesRow.loopsOut == Tryz.f4.resultTypes.toList.any (Tryz.pinned.checked.prog.loopsFrom ·))) = true := by kernel_rfl
theorem buildDeletes_k22 : ((Rows.buildDeletesRow.plainKeys == Tryz.pinned.checked.prog.plainKeys)) = true := by kernel_rfl
theorem buildDeletes_k23 : (Rows.buildDeletesRow.shortTexts.isNone) = true := by kernel_rfl
theorem buildDeletes_k26 : ((Rows.buildDeletesRow.lifted == Tryz.pinned.checked.prog.liftsFinal)) = true := by kernel_rfl
theorem buildDeletes_k27 : ((Tryz.pinned.checked.prog.make == some Rows.buildDeletesRow.make)) = true := by kernel_rfl
theorem buildDeletes_k28 : ((Rows.buildDeletesRow.kinds == (if Rows.buildDeletesRow.domain.isEmpty then [] else Tryz.f4.params.toList.map fun t => match Tryz.pinned.checked.prog.underlying t with | some (.int k) => some k | _ => none))) = true := by kernel_rfl
theorem buildDeletes_k29 : ((Rows.buildDeletesRow.pinned == Rows.buildDeletesRow.pinnedBy)) = true := by kernel_rfl
theorem buildDeletes_k30 : ((Rows.buildDeletesRow.veiled == (Tryz.f4.params.toList ++ Rows.buildDeletesSpec.plain.varTypes Tryz.pinned.checked.prog ++ Tryz.f4.resultTypes.toList).any (Tryz.pinned.checked.prog.veiledRec ·))) = true := by kernel_rfl
theorem buildDeletes_k31 : (Rows.buildDeletesRow.veiledFits Tryz.pinned.checked.prog Tryz.f4.params.toList (Tryz.f4.params.toList ++ Rows.buildDeletesSpec.plain.varTypes Tryz.pinned.checked.prog ++ Tryz.f4.resultTypes.toList)) = true := by kernel_rfl
theorem buildDeletes_closed : joinedFacts Tryz.pinned.checked.prog 4 Tryz.f4 Rows.buildDeletesSpec Rows.buildDeletesRow = true := band (band (band (band (band (band (band (band (band (band (band (band (band (band (band (band (band (band (band (band (band (band (band (band (band (band (band (band (band (band (band (buildDeletes_k0) laidOut_ok) mapsRowed_ok) buildDeletes_k3) buildDeletes_k4) buildDeletes_k5) buildDeletes_k6) buildDeletes_k7) buildDeletes_k8) buildDeletes_k9) buildDeletes_k10) buildDeletes_k11) buildDeletes_k12) buildDeletes_k13) buildDeletes_k14) buildDeletes_k15) buildDeletes_k16) buildDeletes_k17) buildDeletes_k18) buildDeletes_k19) buildDeletes_k20) buildDeletes_k21) buildDeletes_k22) buildDeletes_k23) stopsHeard_ok) mayEnter_ok) buildDeletes_k26) buildDeletes_k27) buildDeletes_k28) buildDeletes_k29) buildDeletes_k30) buildDeletes_k31
abbrev buildDeletes_lst : List (String × DataW Unit) := Rows.buildDeletesRow.laid
theorem buildDeletes_plain : (buildDeletes_lst.all fun x => x.2.handleName?.isNone) = true := by kernel_rfl
theorem buildDeletes_noInit : Tryz.prog.inits.idxOf? 4 = none := by kernel_rfl
theorem buildDeletes_fn : Tryz.prog.funcs[4]? = some Tryz.f4 := by kernel_rfl
theorem buildDeletes_zip1 (os : Os) : ((World.laidAll Tryz.prog os buildDeletes_lst).forCall (fun _ _ => 0) ⟨#[], #[.bool false, .bool false, .bool false, .bool false, .bool false], []⟩).variablesZipB Tryz.prog = true := by kernel_rfl
theorem buildDeletes_zip2 (os : Os) : ((((World.laidAll Tryz.prog os buildDeletes_lst).forCall (fun _ _ => 0) ⟨#[], #[.bool false, .bool false, .bool false, .bool false, .bool false], []⟩).heap.toList.drop Tryz.prog.globals.size).take ((begin Tryz.prog (fun _ _ => 0) default).world.heap.size - Tryz.prog.globals.size) =
      (begin Tryz.prog (fun _ _ => 0) default).world.heap.toList.drop Tryz.prog.globals.size) := by kernel_rfl
theorem buildDeletes_fits (os : Os) : (World.holding Tryz.prog os ⟨#[], #[], []⟩).layFits Tryz.prog buildDeletes_lst [] = true := by kernel_rfl
theorem buildDeletes_ifaces (os : Os) : (World.holding Tryz.prog os ⟨#[], #[], []⟩).layIfaces Tryz.prog buildDeletes_lst (World.laidAll Tryz.prog os buildDeletes_lst) = true := by kernel_rfl
theorem buildDeletes_okB (os : Os) : Input.okWideB Tryz.prog ((World.laidAll Tryz.prog os buildDeletes_lst).forCall (fun _ _ => 0) ⟨#[], #[.bool false, .bool false, .bool false, .bool false, .bool false], []⟩) 4 ⟨#[], #[.bool false, .bool false, .bool false, .bool false, .bool false], []⟩ = true := by kernel_rfl
theorem buildDeletes_preB (os : Os) (H : Type) (enc : TypeId × Value → H) : Rows.buildDeletesSpec.preB enc Tryz.prog Tryz.f4 [] false ((World.laidAll Tryz.prog os buildDeletes_lst).forCall (fun _ _ => 0) ⟨#[], #[.bool false, .bool false, .bool false, .bool false, .bool false], []⟩).memory #[.bool false, .bool false, .bool false, .bool false, .bool false] 8 = true := by kernel_rfl
theorem buildDeletes_szB (os : Os) (H : Type) (enc : TypeId × Value → H) : Rows.buildDeletesSpec.sizedB enc Tryz.prog Tryz.f4 false ((World.laidAll Tryz.prog os buildDeletes_lst).forCall (fun _ _ => 0) ⟨#[], #[.bool false, .bool false, .bool false, .bool false, .bool false], []⟩).memory #[.bool false, .bool false, .bool false, .bool false, .bool false] 8 = true := by kernel_rfl
theorem buildDeletes_asciiIn : ("strings.asciiSpace", DataW.agg (asciiL.map fun x => (DataW.lit (.int .u8 x) : DataW Unit))) ∈ buildDeletes_lst := List.mem_iff_getElem?.2 ⟨5, by kernel_rfl⟩
theorem buildDeletes_uInt : Tryz.prog.underlying 3 = some (.int .i64) := by kernel_rfl
theorem buildDeletes_uBool : Tryz.prog.underlying 4 = some .bool := by kernel_rfl
theorem buildDeletes_params : Tryz.f4.params = #[4, 4, 4, 4, 4] := by kernel_rfl
theorem buildDeletes_results : Tryz.f4.resultTypes = #[4] := by kernel_rfl
theorem buildDeletes_body : ∃ c, Tryz.f4.body = some c := ⟨_, rfl⟩
theorem buildDeletes_lifted (os : Os) (started : os.Started) (H : Type) (enc : TypeId × Value → H) :
    ReturnsInHanded {} Tryz.checked os 4 .any (fun w args => (Rows.buildDeletesSpec.pre enc Tryz.prog Tryz.f4 Rows.buildDeletesRow.domain false w args ∧ laidMetH Tryz.prog buildDeletes_lst w) ∧ sizedMet enc Tryz.prog Tryz.f4 (OpenSpec.ofChange Rows.buildDeletesSpec) false w args)
      (Rows.buildDeletesSpec.post enc Tryz.prog Tryz.f4 false true false false) := by
  refine returnsInHanded_of_change_and (C := Tryz.checked) (X := fun w _ => laidMetH Tryz.prog buildDeletes_lst w) (fun _ _ _ hh h => h.of_heap hh) own started buildDeletes_noInit buildDeletes_fn
    (ChangeSpec.witness_shaped (enc := enc) (C := Tryz.checked) (os := os) (X := fun w _ => laidMetH Tryz.prog buildDeletes_lst w) false (World.laidAll Tryz.prog os buildDeletes_lst) #[.bool false, .bool false, .bool false, .bool false, .bool false] 8 (World.laidAll_os _ _ _)
      (World.shaped_of_ZipB (buildDeletes_zip1 os) (buildDeletes_zip2 os)) (buildDeletes_okB os) (buildDeletes_preB os H enc) (buildDeletes_szB os H enc)
      (by rw [MakeChecks.laidMetH_plain _ _ _ buildDeletes_plain]; exact laidMet_laidAll _ (buildDeletes_fits os) (buildDeletes_ifaces os))) ?_
  intro W base args ds gs before hval0 hW _ _ hL _
  have hval : ∀ (j : Nat) t v, Tryz.f4.params[j]? = some t → args[j]? = some v → Value.okWide Tryz.prog W .any base t v := hval0
  have hW' := hW
  obtain ⟨p, q, hA0, hV, rfl, _, _⟩ := hW
  have hA : DataW.TrodAll enc Tryz.prog W 0 (fun _ => true) true Tryz.f4.params.toList args.toList ds p := hA0
  rw [buildDeletes_params] at hA hval
  obtain ⟨v0, vs0, d0, ds0, p0, p0', ha0, rfl, rfl, h0, hr0⟩ := trodAll_cons hA
  obtain ⟨v1, vs1, d1, ds1, p1, p1', rfl, rfl, rfl, h1, hr1⟩ := trodAll_cons hr0
  obtain ⟨v2, vs2, d2, ds2, p2, p2', rfl, rfl, rfl, h2, hr2⟩ := trodAll_cons hr1
  obtain ⟨v3, vs3, d3, ds3, p3, p3', rfl, rfl, rfl, h3, hr3⟩ := trodAll_cons hr2
  obtain ⟨v4, vs4, d4, ds4, p4, p4', rfl, rfl, rfl, h4, hr4⟩ := trodAll_cons hr3
  obtain ⟨rfl, rfl, rfl⟩ := trodAll_nil hr4
  obtain rfl : args = #[v0, v1, v2, v3, v4] := by cases args; simp_all
  obtain ⟨rfl, rfl⟩ := trodVars_none hV
  obtain ⟨n0, rfl, rfl, rfl⟩ := open_bool buildDeletes_uBool (hval 0 4 v0 rfl rfl) h0
  obtain ⟨n1, rfl, rfl, rfl⟩ := open_bool buildDeletes_uBool (hval 1 4 v1 rfl rfl) h1
  obtain ⟨n2, rfl, rfl, rfl⟩ := open_bool buildDeletes_uBool (hval 2 4 v2 rfl rfl) h2
  obtain ⟨n3, rfl, rfl, rfl⟩ := open_bool buildDeletes_uBool (hval 3 4 v3 rfl rfl) h3
  obtain ⟨n4, rfl, rfl, rfl⟩ := open_bool buildDeletes_uBool (hval 4 4 v4 rfl rfl) h4
  obtain ⟨c, hb⟩ := buildDeletes_body
  have hv : VRs (fun _ => none) (.cons (.b n0) (.cons (.b n1) (.cons (.b n2) (.cons (.b n3) (.cons (.b n4) .nil))))) [Value.bool n0, Value.bool n1, Value.bool n2, Value.bool n3, Value.bool n4] := ⟨_, _, rfl, by simp [VR], ⟨_, _, rfl, by simp [VR], ⟨_, _, rfl, by simp [VR], ⟨_, _, rfl, by simp [VR], ⟨_, _, rfl, by simp [VR], rfl⟩⟩⟩⟩⟩
  refine (top_run follows nameOK hkBok buildDeletes_fn hb tblIn hv (bdAll n0 n1 n2 n3 n4) (tables buildDeletes_plain buildDeletes_asciiIn hL)).mono fun e W' ⟨he, hs⟩ => ?_
  refine ⟨_, he, _, _, _, [], [], [], hW', ?_, ?_, ?_, hs.keptBut _, fun h => by cases h⟩
  · rw [buildDeletes_results]
    exact trodAll_mk1 (shut_bool buildDeletes_uBool true)
  · rw [buildDeletes_params]
    exact trodAll_cons_mk (shut_bool buildDeletes_uBool n0) (trodAll_mk4 (shut_bool buildDeletes_uBool n1) (shut_bool buildDeletes_uBool n2) (shut_bool buildDeletes_uBool n3) (shut_bool buildDeletes_uBool n4))
  · rfl
theorem buildDeletes_named1 : Tryz.pinned.checked.prog.funcNamed Rows.buildDeletesRow.func = some 4 := by kernel_rfl
theorem buildDeletes_wrapper : Tryz.f4.isWrapper Tryz.pinned.checked.prog Rows.buildDeletesRow.wrapper Rows.buildDeletesRow.mainSum := by unfold Func.isWrapper; first | (rw [if_pos (by decide +kernel)]; kernel_rfl) | (rw [if_neg (by decide +kernel)]; exact ⟨rfl, rfl⟩)
theorem buildDeletes_inst : Tryz.f4.isInstance Tryz.pinned.checked.prog Rows.buildDeletesRow.origin Rows.buildDeletesRow.targs := of_decide_eq_true (by kernel_rfl)
theorem buildDeletes_holds : Rows.BuildDeletesSaid :=
  OpenClaim.holds_of_wide 4 Tryz.f4 rfl rfl rfl rfl rfl rfl rfl ⟨rfl, rfl, rfl, rfl, rfl⟩ rfl rfl rfl rfl rfl buildDeletes_named1 buildDeletes_fn buildDeletes_closed buildDeletes_inst buildDeletes_wrapper
    (fun os started H enc _ => buildDeletes_lifted os started H enc)
end
end Go.Proofs.YtepcbpcbmkikeaaGreatDoor
