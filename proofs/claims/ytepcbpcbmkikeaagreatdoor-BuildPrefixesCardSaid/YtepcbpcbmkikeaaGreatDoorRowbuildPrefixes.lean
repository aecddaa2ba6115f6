/-
  The row of buildPrefixes: for every input the law returns true.
-/
import Derived.Test.YtepcbpcbmkikeaaGreatDoorRunbuildPrefixes
import Derived.Test.YtepcbpcbmkikeaaGreatDoorXRowK3
import Derived.OpenShut
import Derived.Carry
import Derived.Lay
open Go Go.Mx Go.ChangeShapes Go.WideShapes Go.RowKit
namespace Go.Proofs.YtepcbpcbmkikeaaGreatDoor
set_option maxRecDepth 1000000
noncomputable section
def buildPrefixes_L : List Nat := [3, 8, 10, 12, 21, 36, 50, 77, 90, 107, 149, 133, 134, 135, 182, 57, 88, 129, 178, 213, 137, 183, 179, 214, 41, 63, 48, 76, 58, 59, 89, 130, 180, 215, 181, 216, 131, 132, 37, 22, 23, 25, 38, 24, 9, 18, 19, 34, 52, 78, 114, 79, 43, 64, 98, 140, 141, 164, 186, 187, 142, 143, 188, 189, 218, 219, 80, 83, 81, 115, 61, 92, 91, 93, 95, 136, 94, 97, 139, 185, 138, 184, 70, 217, 96, 116, 153, 117, 118, 119, 165, 166, 167, 198, 39, 60, 203, 225, 199, 200, 224, 204, 44, 201, 168, 202, 69, 106, 173, 207, 82, 54, 84, 85, 120, 169, 121, 170, 206, 205, 226, 122, 123, 86, 124, 53, 171, 125, 126, 172, 127, 148, 191, 192, 220, 221, 222, 235, 236, 244, 245, 275, 246, 108, 150, 151, 276, 174, 175, 208, 227, 237, 247, 248, 249, 250, 277, 251, 278, 279, 252, 280, 301, 281, 282, 303, 302, 304, 335, 305, 336, 376, 377, 406, 339, 239, 258, 259, 378, 283, 337, 338, 379, 238, 253, 254, 284, 306, 310, 256, 285, 307, 340, 309, 341, 308, 342, 343, 382, 417, 449, 450, 344, 257, 288, 380, 407, 255, 408, 409, 445, 410, 228, 415, 447, 448, 384, 411, 446, 287, 412, 413, 414, 381, 416, 286, 209, 210, 229, 240, 260, 211, 27, 230, 232, 233, 242, 261, 262, 289, 290, 312, 347, 385, 321, 360, 366, 328, 371, 418, 231, 241, 419, 451, 452, 453, 494, 454, 495, 526, 552, 496, 348, 349, 386, 420, 455, 456, 497, 527, 528, 500, 532, 533, 534, 558, 578, 544, 565, 566, 545, 567, 579, 568, 569, 580, 570, 320, 499, 531, 557, 530, 556, 577, 234, 112, 163, 243, 266, 272, 113, 267, 298, 268, 194, 195, 269, 299, 300, 334, 270, 271, 273, 274, 498, 529, 553, 554, 573, 574, 555, 581, 585, 586, 587, 588, 582, 575, 576, 583, 584, 457, 501, 535, 314, 502, 388, 421, 422, 458, 423, 536, 537, 444, 493, 538, 503, 351, 387, 350, 311, 345, 346, 383, 313, 352, 353, 354, 356, 390, 426, 461, 462, 504, 463, 464, 505, 506, 539, 465, 466, 467, 468, 391, 75, 355, 389, 359, 424, 26, 459, 212, 425, 460, 358, 357, 392, 291, 292, 315, 13, 293, 316, 317, 361, 294, 318, 319, 362, 393, 363, 394, 395, 427, 396, 397, 398, 399, 428, 400, 429, 401, 402, 403, 364, 404, 430, 431, 432, 469, 433, 470, 471, 472, 475, 434, 474, 473, 507, 435, 476, 477, 508, 436, 478, 509, 540, 559, 437, 479, 480, 177, 438, 481, 482, 510, 483, 439, 484, 440, 485, 441, 486, 511, 541, 542, 560, 561, 543, 562, 563, 145, 190, 564, 487, 488, 442, 443, 489, 512, 513, 514, 518, 515, 519, 546, 516, 517, 490, 520, 491, 492, 521, 547, 522, 548, 549, 523, 524, 550, 525, 551, 571, 572, 365, 295, 322, 323, 324, 263, 264, 265, 296, 297, 325, 326, 369, 367, 368, 327, 370, 329, 330, 331, 372, 373, 332, 374, 333, 375, 405, 128, 176, 20, 35, 55, 87, 56, 11]
theorem buildPrefixes_clos : Tryz.prog.closure 3 = buildPrefixes_L := closure_by_table Tryz.prog tabT_all (by kernel_rfl)
theorem buildPrefixes_inPlace : Tryz.prog.inPlace 3 = Rows.buildPrefixesRow.inPlace := inPlace_by_table Tryz.prog buildPrefixes_clos tabN_all (by kernel_rfl)
theorem buildPrefixes_named : Tryz.prog.varsNamed 3 = Rows.buildPrefixesRow.named := varsNamed_by_table Tryz.prog buildPrefixes_clos tabG_all tabE_all (by kernel_rfl)
theorem buildPrefixes_unf : Tryz.prog.unfollowed 3 = true := by
  obtain ⟨c, hc⟩ : ∃ c, Tryz.f76.body = some c := ⟨_, rfl⟩
  exact unfollowed_by_table Tryz.prog buildPrefixes_clos (g := 76) (by kernel_rfl) (fn := Tryz.f76) (by kernel_rfl) hc (by cases hc; kernel_rfl)
theorem buildPrefixes_k0 : (Rows.buildPrefixesRow.wf (OpenSpec.ofChange Rows.buildPrefixesSpec)) = true := by kernel_rfl
theorem buildPrefixes_k3 : (Tryz.f3.params.all (Tryz.pinned.checked.prog.readableRec ·)) = true := by kernel_rfl
theorem buildPrefixes_k4 : (namedTie Tryz.pinned.checked.prog Rows.buildPrefixesRow.named Rows.buildPrefixesSpec.vars) = true := by kernel_rfl
theorem buildPrefixes_k5 : ((Rows.buildPrefixesRow.stops == [])) = true := by kernel_rfl
theorem buildPrefixes_k6 : ((Tryz.pinned.checked.prog.stops == [])) = true := by kernel_rfl
theorem buildPrefixes_k7 : ((Rows.buildPrefixesRow.knobs == [])) = true := by kernel_rfl
theorem buildPrefixes_k8 : ((Tryz.pinned.checked.prog.stopKnobs == [])) = true := by kernel_rfl
theorem buildPrefixes_k9 : ((Rows.buildPrefixesRow.inPlace == Tryz.pinned.checked.prog.inPlace 3)) = true := beq_iff_eq.2 buildPrefixes_inPlace.symm
theorem buildPrefixes_k10 : ((Rows.buildPrefixesRow.unfollowed == Tryz.pinned.checked.prog.unfollowed 3)) = true := beq_iff_eq.2 buildPrefixes_unf.symm
theorem buildPrefixes_k11 : ((Rows.buildPrefixesRow.recurses == Tryz.pinned.checked.prog.recurses 3)) = true := beq_iff_eq.2 (show true = Tryz.prog.recurses 3 by unfold Program.recurses; rw [buildPrefixes_unf]; rfl)
theorem buildPrefixes_k12 : ((Rows.buildPrefixesRow.named == Tryz.pinned.checked.prog.varsNamed 3)) = true := beq_iff_eq.2 buildPrefixes_named.symm
theorem buildPrefixes_k13 : ((Rows.buildPrefixesRow.maps == (Tryz.f3.params.toList ++ Rows.buildPrefixesSpec.plain.varTypes Tryz.pinned.checked.prog).any (Tryz.pinned.checked.prog.mapsRec ·))) = true := by kernel_rfl
theorem buildPrefixes_k14 : ((Rows.buildPrefixesRow.ifaces == (Tryz.f3.params.toList ++ Rows.buildPrefixesSpec.plain.varTypes Tryz.pinned.checked.prog).any (Tryz.pinned.checked.prog.ifacesRec ·))) = true := by kernel_rfl
theorem buildPrefixes_k15 : ((Rows.buildPrefixesRow.mapsOut == Tryz.pinned.checked.prog.mapsAmong Tryz.f3.resultTypes.toList)) = true := by kernel_rfl
theorem buildPrefixes_k16 : ((Rows.buildPrefixesRow.loops == (Tryz.f3.params.toList ++ Rows.buildPrefixesSpec.plain.varTypes Tryz.pinned.checked.prog).any (Tryz.pinned.checked.prog.loopsFrom ·))) = true := by kernel_rfl
theorem buildPrefixes_k17 : ((Rows.buildPrefixesRow.wideKeys == (Tryz.f3.params.toList ++ Rows.buildPrefixesSpec.plain.varTypes Tryz.pinned.checked.prog ++ Tryz.f3.resultTypes.toList).any (Tryz.pinned.checked.prog.wideKeysFrom ·))) = true := by kernel_rfl
theorem buildPrefixes_k18 : (Rows.buildPrefixesSpec.vars.all (Tryz.pinned.checked.prog.varReadable ·)) = true := by kernel_rfl
theorem buildPrefixes_k19 : (Tryz.f3.resultTypes.all (fun t => Tryz.pinned.checked.prog.readableRec t && decide (t < Tryz.pinned.checked.prog.types.size))) = true := by kernel_rfl
theorem buildPrefixes_k20 : ((Rows.buildPrefixesRow.ifacesOut == Tryz.f3.resultTypes.toList.any (Tryz.pinned.checked.prog.ifacesRec ·))) = true := by kernel_rfl
theorem buildPrefixes_k21 : ((Rows.buildPrefixesRow.loopsOut == Tryz.f3.resultTypes.toList.any (Tryz.pinned.checked.prog.loopsFrom ·))) = true := by kernel_rfl
theorem buildPrefixes_k22 : ((Rows.buildPrefixesRow.plainKeys == Tryz.pinned.checked.prog.plainKeys)) = true := by kernel_rfl
theorem buildPrefixes_k23 : (Rows.buildPrefixesRow.shortTexts.isNone) = true := by kernel_rfl
theorem buildPrefixes_k26 : ((Rows.buildPrefixesRow.lifted == Tryz.pinned.checked.prog.liftsFinal)) = true := by kernel_rfl
theorem buildPrefixes_k27 : ((Tryz.pinned.checked.prog.make == some Rows.buildPrefixesRow.make)) = true := by kernel_rfl
theorem buildPrefixes_k28 : ((Rows.buildPrefixesRow.kinds == (if Rows.buildPrefixesRow.domain.isEmpty then [] else Tryz.f3.params.toList.map fun t => match Tryz.pinned.checked.prog.underlying t with | some (.int k) => some k | _ => none))) = true := by kernel_rfl
theorem buildPrefixes_k29 : ((Rows.buildPrefixesRow.pinned == Rows.buildPrefixesRow.pinnedBy)) = true := by kernel_rfl
theorem buildPrefixes_k30 : ((Rows.buildPrefixesRow.veiled == (Tryz.f3.params.toList ++ Rows.buildPrefixesSpec.plain.varTypes Tryz.pinned.checked.prog ++ Tryz.f3.resultTypes.toList).any (Tryz.pinned.checked.prog.veiledRec ·))) = true := by kernel_rfl
theorem buildPrefixes_k31 : (Rows.buildPrefixesRow.veiledFits Tryz.pinned.checked.prog Tryz.f3.params.toList (Tryz.f3.params.toList ++ Rows.buildPrefixesSpec.plain.varTypes Tryz.pinned.checked.prog ++ Tryz.f3.resultTypes.toList)) = true := by kernel_rfl
theorem buildPrefixes_closed : joinedFacts Tryz.pinned.checked.prog 3 Tryz.f3 Rows.buildPrefixesSpec Rows.buildPrefixesRow = true := band (band (band (band (band (band (band (band (band (band (band (band (band (band (band (band (band (band (band (band (band (band (band (band (band (band (band (band (band (band (band (buildPrefixes_k0) laidOut_ok) mapsRowed_ok) buildPrefixes_k3) buildPrefixes_k4) buildPrefixes_k5) buildPrefixes_k6) buildPrefixes_k7) buildPrefixes_k8) buildPrefixes_k9) buildPrefixes_k10) buildPrefixes_k11) buildPrefixes_k12) buildPrefixes_k13) buildPrefixes_k14) buildPrefixes_k15) buildPrefixes_k16) buildPrefixes_k17) buildPrefixes_k18) buildPrefixes_k19) buildPrefixes_k20) buildPrefixes_k21) buildPrefixes_k22) buildPrefixes_k23) stopsHeard_ok) mayEnter_ok) buildPrefixes_k26) buildPrefixes_k27) buildPrefixes_k28) buildPrefixes_k29) buildPrefixes_k30) buildPrefixes_k31
abbrev buildPrefixes_lst : List (String × DataW Unit) := Rows.buildPrefixesRow.laid
theorem buildPrefixes_plain : (buildPrefixes_lst.all fun x => x.2.handleName?.isNone) = true := by kernel_rfl
theorem buildPrefixes_noInit : Tryz.prog.inits.idxOf? 3 = none := by kernel_rfl
theorem buildPrefixes_fn : Tryz.prog.funcs[3]? = some Tryz.f3 := by kernel_rfl
theorem buildPrefixes_zip1 (os : Os) : ((World.laidAll Tryz.prog os buildPrefixes_lst).forCall (fun _ _ => 0) ⟨#[], #[.bool false, .bool false, .bool false, .agg #[.bool false, .bool false, .bool false, .bool false, .bool false, .bool false], .bool false], []⟩).variablesZipB Tryz.prog = true := by kernel_rfl
theorem buildPrefixes_zip2 (os : Os) : ((((World.laidAll Tryz.prog os buildPrefixes_lst).forCall (fun _ _ => 0) ⟨#[], #[.bool false, .bool false, .bool false, .agg #[.bool false, .bool false, .bool false, .bool false, .bool false, .bool false], .bool false], []⟩).heap.toList.drop Tryz.prog.globals.size).take ((begin Tryz.prog (fun _ _ => 0) default).world.heap.size - Tryz.prog.globals.size) =
      (begin Tryz.prog (fun _ _ => 0) default).world.heap.toList.drop Tryz.prog.globals.size) := by kernel_rfl
theorem buildPrefixes_fits (os : Os) : (World.holding Tryz.prog os ⟨#[], #[], []⟩).layFits Tryz.prog buildPrefixes_lst [] = true := by kernel_rfl
theorem buildPrefixes_ifaces (os : Os) : (World.holding Tryz.prog os ⟨#[], #[], []⟩).layIfaces Tryz.prog buildPrefixes_lst (World.laidAll Tryz.prog os buildPrefixes_lst) = true := by kernel_rfl
theorem buildPrefixes_okB (os : Os) : Input.okWideB Tryz.prog ((World.laidAll Tryz.prog os buildPrefixes_lst).forCall (fun _ _ => 0) ⟨#[], #[.bool false, .bool false, .bool false, .agg #[.bool false, .bool false, .bool false, .bool false, .bool false, .bool false], .bool false], []⟩) 3 ⟨#[], #[.bool false, .bool false, .bool false, .agg #[.bool false, .bool false, .bool false, .bool false, .bool false, .bool false], .bool false], []⟩ = true := by kernel_rfl
theorem buildPrefixes_preB (os : Os) (H : Type) (enc : TypeId × Value → H) : Rows.buildPrefixesSpec.preB enc Tryz.prog Tryz.f3 [] false ((World.laidAll Tryz.prog os buildPrefixes_lst).forCall (fun _ _ => 0) ⟨#[], #[.bool false, .bool false, .bool false, .agg #[.bool false, .bool false, .bool false, .bool false, .bool false, .bool false], .bool false], []⟩).memory #[.bool false, .bool false, .bool false, .agg #[.bool false, .bool false, .bool false, .bool false, .bool false, .bool false], .bool false] 8 = true := by kernel_rfl
theorem buildPrefixes_szB (os : Os) (H : Type) (enc : TypeId × Value → H) : Rows.buildPrefixesSpec.sizedB enc Tryz.prog Tryz.f3 false ((World.laidAll Tryz.prog os buildPrefixes_lst).forCall (fun _ _ => 0) ⟨#[], #[.bool false, .bool false, .bool false, .agg #[.bool false, .bool false, .bool false, .bool false, .bool false, .bool false], .bool false], []⟩).memory #[.bool false, .bool false, .bool false, .agg #[.bool false, .bool false, .bool false, .bool false, .bool false, .bool false], .bool false] 8 = true := by kernel_rfl
theorem buildPrefixes_asciiIn : ("strings.asciiSpace", DataW.agg (asciiL.map fun x => (DataW.lit (.int .u8 x) : DataW Unit))) ∈ buildPrefixes_lst := List.mem_iff_getElem?.2 ⟨5, by kernel_rfl⟩
theorem buildPrefixes_uInt : Tryz.prog.underlying 3 = some (.int .i64) := by kernel_rfl
theorem buildPrefixes_uBool : Tryz.prog.underlying 4 = some .bool := by kernel_rfl
theorem buildPrefixes_params : Tryz.f3.params = #[4, 4, 4, 23, 4] := by kernel_rfl
theorem buildPrefixes_results : Tryz.f3.resultTypes = #[4] := by kernel_rfl
theorem buildPrefixes_body : ∃ c, Tryz.f3.body = some c := ⟨_, rfl⟩
theorem buildPrefixes_flagsOk : boolsB Tryz.prog 23 6 = true := by kernel_rfl
theorem buildPrefixes_flagsR : Tryz.pinned.checked.prog.readableRec 23 = true := by kernel_rfl
theorem buildPrefixes_flagsT : 23 < Tryz.pinned.checked.prog.types.size := of_decide_eq_true (by kernel_rfl)
theorem buildPrefixes_lifted (os : Os) (started : os.Started) (H : Type) (enc : TypeId × Value → H) :
    ReturnsInHanded {} Tryz.checked os 3 .any (fun w args => (Rows.buildPrefixesSpec.pre enc Tryz.prog Tryz.f3 Rows.buildPrefixesRow.domain false w args ∧ laidMetH Tryz.prog buildPrefixes_lst w) ∧ sizedMet enc Tryz.prog Tryz.f3 (OpenSpec.ofChange Rows.buildPrefixesSpec) false w args)
      (Rows.buildPrefixesSpec.post enc Tryz.prog Tryz.f3 false true false false) := by
  refine returnsInHanded_of_change_and (C := Tryz.checked) (X := fun w _ => laidMetH Tryz.prog buildPrefixes_lst w) (fun _ _ _ hh h => h.of_heap hh) own started buildPrefixes_noInit buildPrefixes_fn
    (ChangeSpec.witness_shaped (enc := enc) (C := Tryz.checked) (os := os) (X := fun w _ => laidMetH Tryz.prog buildPrefixes_lst w) false (World.laidAll Tryz.prog os buildPrefixes_lst) #[.bool false, .bool false, .bool false, .agg #[.bool false, .bool false, .bool false, .bool false, .bool false, .bool false], .bool false] 8 (World.laidAll_os _ _ _)
      (World.shaped_of_ZipB (buildPrefixes_zip1 os) (buildPrefixes_zip2 os)) (buildPrefixes_okB os) (buildPrefixes_preB os H enc) (buildPrefixes_szB os H enc)
      (by rw [MakeChecks.laidMetH_plain _ _ _ buildPrefixes_plain]; exact laidMet_laidAll _ (buildPrefixes_fits os) (buildPrefixes_ifaces os))) ?_
  intro W base args ds gs before hval0 hW _ _ hL _
  have hval : ∀ (j : Nat) t v, Tryz.f3.params[j]? = some t → args[j]? = some v → Value.okWide Tryz.prog W .any base t v := hval0
  have hW' := hW
  obtain ⟨p, q, hA0, hV, rfl, _, _⟩ := hW
  have hA : DataW.TrodAll enc Tryz.prog W 0 (fun _ => true) true Tryz.f3.params.toList args.toList ds p := hA0
  rw [buildPrefixes_params] at hA hval
  obtain ⟨v0, vs0, d0, ds0, p0, p0', ha0, rfl, rfl, h0, hr0⟩ := trodAll_cons hA
  obtain ⟨v1, vs1, d1, ds1, p1, p1', rfl, rfl, rfl, h1, hr1⟩ := trodAll_cons hr0
  obtain ⟨v2, vs2, d2, ds2, p2, p2', rfl, rfl, rfl, h2, hr2⟩ := trodAll_cons hr1
  obtain ⟨v3, vs3, d3, ds3, p3, p3', rfl, rfl, rfl, h3, hr3⟩ := trodAll_cons hr2
  obtain ⟨v4, vs4, d4, ds4, p4, p4', rfl, rfl, rfl, h4, hr4⟩ := trodAll_cons hr3
  obtain ⟨rfl, rfl, rfl⟩ := trodAll_nil hr4
  obtain rfl : args = #[v0, v1, v2, v3, v4] := by cases args; simp_all
  obtain ⟨rfl, rfl⟩ := trodVars_none hV
  obtain ⟨n0, rfl, rfl, rfl⟩ := open_bool buildPrefixes_uBool (hval 0 4 v0 rfl rfl) h0
  obtain ⟨n1, rfl, rfl, rfl⟩ := open_bool buildPrefixes_uBool (hval 1 4 v1 rfl rfl) h1
  obtain ⟨n2, rfl, rfl, rfl⟩ := open_bool buildPrefixes_uBool (hval 2 4 v2 rfl rfl) h2
  obtain ⟨l3, hl3, rfl, rfl⟩ := open_bools buildPrefixes_flagsOk (hval 3 23 v3 rfl rfl) h3
  obtain ⟨n3a, n3b, n3c, n3d, n3e, n3f, rfl⟩ := six hl3
  obtain ⟨n4, rfl, rfl, rfl⟩ := open_bool buildPrefixes_uBool (hval 4 4 v4 rfl rfl) h4
  obtain ⟨c, hb⟩ := buildPrefixes_body
  have hv : VRs (fun _ => none) (.cons (.b n0) (.cons (.b n1) (.cons (.b n2) (.cons (.a (boolsV [n3a, n3b, n3c, n3d, n3e, n3f])) (.cons (.b n4) .nil))))) [Value.bool n0, Value.bool n1, Value.bool n2, Value.agg ⟨[n3a, n3b, n3c, n3d, n3e, n3f].map Value.bool⟩, Value.bool n4] := ⟨_, _, rfl, by simp [VR], ⟨_, _, rfl, by simp [VR], ⟨_, _, rfl, by simp [VR], ⟨_, _, rfl, VR_boolsV _ _, ⟨_, _, rfl, by simp [VR], rfl⟩⟩⟩⟩⟩
  refine (top_run follows nameOK hkBok buildPrefixes_fn hb tblIn hv (bpAll n0 n1 n2 n3a n3b n3c n3d n3e n3f n4) (tables buildPrefixes_plain buildPrefixes_asciiIn hL)).mono fun e W' ⟨he, hs⟩ => ?_
  refine ⟨_, he, _, _, _, [], [], [], hW', ?_, ?_, ?_, hs.keptBut _, fun h => by cases h⟩
  · rw [buildPrefixes_results]
    exact trodAll_mk1 (shut_bool buildPrefixes_uBool true)
  · rw [buildPrefixes_params]
    exact trodAll_cons_mk (shut_bool buildPrefixes_uBool n0) (trodAll_mk4 (shut_bool buildPrefixes_uBool n1) (shut_bool buildPrefixes_uBool n2) (Below.trod laidOut_ok buildPrefixes_flagsR buildPrefixes_flagsT h3 hs.below (fun _ hx => by cases hx)) (shut_bool buildPrefixes_uBool n4))
  · rfl
theorem buildPrefixes_named1 : Tryz.pinned.checked.prog.funcNamed Rows.buildPrefixesRow.func = some 3 := by kernel_rfl
theorem buildPrefixes_wrapper : Tryz.f3.isWrapper Tryz.pinned.checked.prog Rows.buildPrefixesRow.wrapper Rows.buildPrefixesRow.mainSum := by unfold Func.isWrapper; first | (rw [if_pos (by decide +kernel)]; kernel_rfl) | (rw [if_neg (by decide +kernel)]; exact ⟨rfl, rfl⟩)
theorem buildPrefixes_inst : Tryz.f3.isInstance Tryz.pinned.checked.prog Rows.buildPrefixesRow.origin Rows.buildPrefixesRow.targs := of_decide_eq_true (by kernel_rfl)
theorem buildPrefixes_holds : Rows.BuildPrefixesSaid :=
  OpenClaim.holds_of_wide 3 Tryz.f3 rfl rfl rfl rfl rfl rfl rfl ⟨rfl, rfl, rfl, rfl, rfl⟩ rfl rfl rfl rfl rfl buildPrefixes_named1 buildPrefixes_fn buildPrefixes_closed buildPrefixes_inst buildPrefixes_wrapper
    (fun os started H enc _ => buildPrefixes_lifted os started H enc)
end
end Go.Proofs.YtepcbpcbmkikeaaGreatDoor
