/-
  The row of quartermasterWrong: for every input the law returns true.
-/
import Derived.Test.YtagfjgbbebdleaaGreatDoorRunquartermasterWrong
import Derived.OpenShut
import Derived.Carry
import Derived.Lay
open Go Go.Mx Go.ChangeShapes Go.WideShapes Go.RowKit
namespace Go.Proofs.YtagfjgbbebdleaaGreatDoor
set_option maxRecDepth 1000000
noncomputable section
def quartermasterWrong_L : List Nat := [3, 4, 5, 6, 12, 32, 53, 87, 88, 134, 54, 89, 55, 90, 135, 187, 136, 137, 138, 188, 7, 13, 33, 56, 91, 92, 140, 139, 141, 93, 94, 142, 143, 189, 190, 8, 9, 14, 26, 48, 77, 76, 124, 125, 181, 47, 11, 49, 15, 16, 36, 35, 57, 95, 102, 144, 99, 148, 116, 27, 145, 146, 96, 58, 59, 61, 97, 60, 34, 30, 17, 37, 18, 38, 62, 63, 98, 147, 191, 100, 150, 201, 149, 192, 198, 222, 193, 243, 194, 244, 245, 195, 246, 247, 294, 196, 197, 199, 200, 19, 39, 20, 40, 64, 41, 21, 42, 22, 43, 46, 75, 122, 170, 162, 171, 172, 173, 228, 174, 229, 230, 175, 231, 284, 232, 233, 286, 285, 287, 337, 288, 338, 391, 392, 432, 341, 151, 202, 203, 393, 234, 339, 340, 394, 123, 176, 177, 235, 289, 293, 179, 236, 290, 342, 292, 343, 291, 344, 345, 262, 397, 443, 480, 481, 29, 50, 346, 180, 239, 395, 433, 178, 434, 435, 476, 436, 101, 441, 478, 479, 399, 437, 477, 238, 438, 439, 440, 396, 442, 110, 155, 237, 65, 66, 103, 104, 152, 204, 105, 67, 106, 108, 109, 154, 205, 206, 248, 249, 296, 349, 400, 305, 362, 368, 312, 373, 444, 107, 153, 445, 482, 483, 484, 526, 485, 527, 183, 558, 580, 528, 350, 351, 401, 446, 486, 487, 529, 559, 532, 563, 564, 51, 79, 78, 80, 82, 126, 81, 84, 128, 127, 182, 240, 83, 52, 85, 129, 184, 241, 242, 86, 130, 185, 131, 132, 186, 133, 304, 531, 562, 585, 561, 584, 598, 530, 560, 581, 582, 594, 595, 583, 599, 603, 604, 605, 161, 217, 606, 600, 596, 597, 601, 602, 488, 533, 565, 298, 534, 403, 447, 448, 489, 449, 566, 567, 470, 523, 568, 535, 353, 402, 352, 295, 347, 348, 398, 297, 354, 355, 356, 358, 405, 452, 492, 493, 536, 494, 495, 537, 538, 569, 496, 497, 498, 499, 406, 167, 357, 404, 361, 450, 490, 451, 491, 360, 359, 407, 250, 251, 299, 252, 300, 301, 363, 253, 302, 303, 364, 408, 365, 409, 410, 453, 411, 412, 413, 414, 454, 415, 455, 416, 417, 418, 366, 419, 456, 457, 458, 500, 459, 501, 502, 503, 506, 460, 505, 504, 539, 461, 507, 508, 540, 462, 509, 541, 570, 586, 463, 510, 511, 464, 512, 542, 513, 465, 514, 466, 515, 467, 516, 543, 571, 572, 587, 588, 573, 589, 386, 590, 258, 318, 591, 517, 518, 468, 469, 519, 544, 545, 546, 550, 547, 551, 574, 548, 549, 520, 552, 521, 522, 553, 575, 554, 576, 577, 555, 556, 578, 557, 579, 592, 593, 379, 367, 254, 306, 307, 308, 207, 208, 209, 255, 256, 309, 310, 371, 369, 370, 311, 372, 313, 314, 315, 374, 375, 316, 376, 317, 377, 420, 44, 23, 45, 68, 111, 156, 112, 69, 70, 71, 113, 114, 157, 210, 211, 257, 259, 213, 214, 212, 158, 159, 160, 216, 115, 165, 221, 267, 268, 321, 269, 270, 322, 323, 381, 271, 272, 273, 274, 166, 261, 319, 320, 378, 380, 421, 422, 471, 472, 524, 473, 218, 263, 265, 525, 428, 423, 424, 215, 260, 163, 164, 219, 264, 220, 266, 72, 117, 74, 121, 73, 118, 119, 168, 223, 275, 276, 279, 277, 324, 325, 326, 327, 382, 383, 384, 425, 474, 429, 426, 385, 427, 278, 225, 280, 281, 328, 329, 387, 431, 430, 475, 330, 331, 282, 332, 224, 333, 334, 388, 335, 389, 336, 390, 120, 169, 226, 283, 227, 24, 10, 25, 28, 31]
theorem quartermasterWrong_clos : Tryz.prog.closure 3 = quartermasterWrong_L := closure_by_table Tryz.prog tabT_all (by kernel_rfl)
theorem quartermasterWrong_inPlace : Tryz.prog.inPlace 3 = Rows.quartermasterWrongRow.inPlace := inPlace_by_table Tryz.prog quartermasterWrong_clos tabN_all (by kernel_rfl)
theorem quartermasterWrong_named : Tryz.prog.varsNamed 3 = Rows.quartermasterWrongRow.named := varsNamed_by_table Tryz.prog quartermasterWrong_clos tabG_all tabE_all (by kernel_rfl)
theorem quartermasterWrong_unf : Tryz.prog.unfollowed 3 = true := by
  obtain ⟨c, hc⟩ : ∃ c, Tryz.f27.body = some c := ⟨_, rfl⟩
  exact unfollowed_by_table Tryz.prog quartermasterWrong_clos (g := 27) (by kernel_rfl) (fn := Tryz.f27) (by kernel_rfl) hc (by cases hc; kernel_rfl)
theorem quartermasterWrong_k0 : (Rows.quartermasterWrongRow.wf (OpenSpec.ofChange Rows.quartermasterWrongSpec)) = true := by kernel_rfl
theorem quartermasterWrong_k3 : (Tryz.f3.params.all (Tryz.pinned.checked.prog.readableRec ·)) = true := by kernel_rfl
theorem quartermasterWrong_k4 : (namedTie Tryz.pinned.checked.prog Rows.quartermasterWrongRow.named Rows.quartermasterWrongSpec.vars) = true := by kernel_rfl
theorem quartermasterWrong_k5 : ((Rows.quartermasterWrongRow.stops == [])) = true := by kernel_rfl
theorem quartermasterWrong_k6 : ((Tryz.pinned.checked.prog.stops == [])) = true := by kernel_rfl
theorem quartermasterWrong_k7 : ((Rows.quartermasterWrongRow.knobs == [])) = true := by kernel_rfl
theorem quartermasterWrong_k8 : ((Tryz.pinned.checked.prog.stopKnobs == [])) = true := by kernel_rfl
theorem quartermasterWrong_k9 : ((Rows.quartermasterWrongRow.inPlace == Tryz.pinned.checked.prog.inPlace 3)) = true := beq_iff_eq.2 quartermasterWrong_inPlace.symm
theorem quartermasterWrong_k10 : ((Rows.quartermasterWrongRow.unfollowed == Tryz.pinned.checked.prog.unfollowed 3)) = true := beq_iff_eq.2 quartermasterWrong_unf.symm
theorem quartermasterWrong_k11 : ((Rows.quartermasterWrongRow.recurses == Tryz.pinned.checked.prog.recurses 3)) = true := beq_iff_eq.2 (show true = Tryz.prog.recurses 3 by unfold Program.recurses; rw [quartermasterWrong_unf]; rfl)
theorem quartermasterWrong_k12 : ((Rows.quartermasterWrongRow.named == Tryz.pinned.checked.prog.varsNamed 3)) = true := beq_iff_eq.2 quartermasterWrong_named.symm
theorem quartermasterWrong_k13 : ((Rows.quartermasterWrongRow.maps == (Tryz.f3.params.toList ++ Rows.quartermasterWrongSpec.plain.varTypes Tryz.pinned.checked.prog).any (Tryz.pinned.checked.prog.mapsRec ·))) = true := by kernel_rfl
theorem quartermasterWrong_k14 : ((Rows.quartermasterWrongRow.ifaces == (Tryz.f3.params.toList ++ Rows.quartermasterWrongSpec.plain.varTypes Tryz.pinned.checked.prog).any (Tryz.pinned.checked.prog.ifacesRec ·))) = true := by kernel_rfl
theorem quartermasterWrong_k15 : ((Rows.quartermasterWrongRow.mapsOut == Tryz.pinned.checked.prog.mapsAmong Tryz.f3.resultTypes.toList)) = true := by kernel_rfl
theorem quartermasterWrong_k16 : ((Rows.quartermasterWrongRow.loops == (Tryz.f3.params.toList ++ Rows.quartermasterWrongSpec.plain.varTypes Tryz.pinned.checked.prog).any (Tryz.pinned.checked.prog.loopsFrom ·))) = true := by kernel_rfl
theorem quartermasterWrong_k17 : ((Rows.quartermasterWrongRow.wideKeys == (Tryz.f3.params.toList ++ Rows.quartermasterWrongSpec.plain.varTypes Tryz.pinned.checked.prog ++ Tryz.f3.resultTypes.toList).any (Tryz.pinned.checked.prog.wideKeysFrom ·))) = true := by kernel_rfl
theorem quartermasterWrong_k18 : (Rows.quartermasterWrongSpec.vars.all (Tryz.pinned.checked.prog.varReadable ·)) = true := by kernel_rfl
theorem quartermasterWrong_k19 : (Tryz.f3.resultTypes.all (fun t => Tryz.pinned.checked.prog.readableRec t && decide (t < Tryz.pinned.checked.prog.types.size))) = true := by kernel_rfl
theorem quartermasterWrong_k20 : ((Rows.quartermasterWrongRow.ifacesOut == Tryz.f3.resultTypes.toList.any (Tryz.pinned.checked.prog.ifacesRec ·))) = true := by kernel_rfl
theorem quartermasterWrong_k21 : ((Rows.quartermasterWrongRow.loopsOut == Tryz.f3.resultTypes.toList.any (Tryz.pinned.checked.prog.loopsFrom ·))) = true := by kernel_rfl
theorem quartermasterWrong_k22 : ((Rows.quartermasterWrongRow.plainKeys == Tryz.pinned.checked.prog.plainKeys)) = true := by kernel_rfl
theorem quartermasterWrong_k23 : (Rows.quartermasterWrongRow.shortTexts.isNone) = true := by kernel_rfl
theorem quartermasterWrong_k26 : ((Rows.quartermasterWrongRow.lifted == Tryz.pinned.checked.prog.liftsFinal)) = true := by kernel_rfl
theorem quartermasterWrong_k27 : ((Tryz.pinned.checked.prog.make == some Rows.quartermasterWrongRow.make)) = true := by kernel_rfl
theorem quartermasterWrong_k28 : ((Rows.quartermasterWrongRow.kinds == (if Rows.quartermasterWrongRow.domain.isEmpty then [] else Tryz.f3.params.toList.map fun t => match Tryz.pinned.checked.prog.underlying t with | some (.int k) => some k | _ => none))) = true := by kernel_rfl
theorem quartermasterWrong_k29 : ((Rows.quartermasterWrongRow.pinned == Rows.quartermasterWrongRow.pinnedBy)) = true := by kernel_rfl
theorem quartermasterWrong_k30 : ((Rows.quartermasterWrongRow.veiled == (Tryz.f3.params.toList ++ Rows.quartermasterWrongSpec.plain.varTypes Tryz.pinned.checked.prog ++ Tryz.f3.resultTypes.toList).any (Tryz.pinned.checked.prog.veiledRec ·))) = true := by kernel_rfl
theorem quartermasterWrong_k31 : (Rows.quartermasterWrongRow.veiledFits Tryz.pinned.checked.prog Tryz.f3.params.toList (Tryz.f3.params.toList ++ Rows.quartermasterWrongSpec.plain.varTypes Tryz.pinned.checked.prog ++ Tryz.f3.resultTypes.toList)) = true := by kernel_rfl
theorem quartermasterWrong_closed : joinedFacts Tryz.pinned.checked.prog 3 Tryz.f3 Rows.quartermasterWrongSpec Rows.quartermasterWrongRow = true := band (band (band (band (band (band (band (band (band (band (band (band (band (band (band (band (band (band (band (band (band (band (band (band (band (band (band (band (band (band (band (quartermasterWrong_k0) laidOut_ok) mapsRowed_ok) quartermasterWrong_k3) quartermasterWrong_k4) quartermasterWrong_k5) quartermasterWrong_k6) quartermasterWrong_k7) quartermasterWrong_k8) quartermasterWrong_k9) quartermasterWrong_k10) quartermasterWrong_k11) quartermasterWrong_k12) quartermasterWrong_k13) quartermasterWrong_k14) quartermasterWrong_k15) quartermasterWrong_k16) quartermasterWrong_k17) quartermasterWrong_k18) quartermasterWrong_k19) quartermasterWrong_k20) quartermasterWrong_k21) quartermasterWrong_k22) quartermasterWrong_k23) stopsHeard_ok) mayEnter_ok) quartermasterWrong_k26) quartermasterWrong_k27) quartermasterWrong_k28) quartermasterWrong_k29) quartermasterWrong_k30) quartermasterWrong_k31
abbrev quartermasterWrong_lst : List (String × DataW Unit) := Rows.quartermasterWrongRow.laid
theorem quartermasterWrong_plain : (quartermasterWrong_lst.all fun x => x.2.handleName?.isNone) = true := by kernel_rfl
theorem quartermasterWrong_noInit : Tryz.prog.inits.idxOf? 3 = none := by kernel_rfl
theorem quartermasterWrong_fn : Tryz.prog.funcs[3]? = some Tryz.f3 := by kernel_rfl
theorem quartermasterWrong_zip1 (os : Os) : ((World.laidAll Tryz.prog os quartermasterWrong_lst).forCall (fun _ _ => 0) ⟨#[], #[.int .i64 (-1)], []⟩).variablesZipB Tryz.prog = true := by kernel_rfl
theorem quartermasterWrong_zip2 (os : Os) : ((((World.laidAll Tryz.prog os quartermasterWrong_lst).forCall (fun _ _ => 0) ⟨#[], #[.int .i64 (-1)], []⟩).heap.toList.drop Tryz.prog.globals.size).take ((begin Tryz.prog (fun _ _ => 0) default).world.heap.size - Tryz.prog.globals.size) =
      (begin Tryz.prog (fun _ _ => 0) default).world.heap.toList.drop Tryz.prog.globals.size) := by kernel_rfl
theorem quartermasterWrong_fits (os : Os) : (World.holding Tryz.prog os ⟨#[], #[], []⟩).layFits Tryz.prog quartermasterWrong_lst [] = true := by kernel_rfl
theorem quartermasterWrong_ifaces (os : Os) : (World.holding Tryz.prog os ⟨#[], #[], []⟩).layIfaces Tryz.prog quartermasterWrong_lst (World.laidAll Tryz.prog os quartermasterWrong_lst) = true := by kernel_rfl
theorem quartermasterWrong_okB (os : Os) : Input.okWideB Tryz.prog ((World.laidAll Tryz.prog os quartermasterWrong_lst).forCall (fun _ _ => 0) ⟨#[], #[.int .i64 (-1)], []⟩) 3 ⟨#[], #[.int .i64 (-1)], []⟩ = true := by kernel_rfl
theorem quartermasterWrong_preB (os : Os) (H : Type) (enc : TypeId × Value → H) : Rows.quartermasterWrongSpec.preB enc Tryz.prog Tryz.f3 [] false ((World.laidAll Tryz.prog os quartermasterWrong_lst).forCall (fun _ _ => 0) ⟨#[], #[.int .i64 (-1)], []⟩).memory #[.int .i64 (-1)] 8 = true := by kernel_rfl
theorem quartermasterWrong_szB (os : Os) (H : Type) (enc : TypeId × Value → H) : Rows.quartermasterWrongSpec.sizedB enc Tryz.prog Tryz.f3 false ((World.laidAll Tryz.prog os quartermasterWrong_lst).forCall (fun _ _ => 0) ⟨#[], #[.int .i64 (-1)], []⟩).memory #[.int .i64 (-1)] 8 = true := by kernel_rfl
theorem quartermasterWrong_asciiIn : ("strings.asciiSpace", DataW.agg (asciiL.map fun x => (DataW.lit (.int .u8 x) : DataW Unit))) ∈ quartermasterWrong_lst := List.mem_iff_getElem?.2 ⟨5, by kernel_rfl⟩
theorem quartermasterWrong_uInt : Tryz.prog.underlying 3 = some (.int .i64) := by kernel_rfl
theorem quartermasterWrong_uBool : Tryz.prog.underlying 4 = some .bool := by kernel_rfl
theorem quartermasterWrong_params : Tryz.f3.params = #[3] := by kernel_rfl
theorem quartermasterWrong_results : Tryz.f3.resultTypes = #[4] := by kernel_rfl
theorem quartermasterWrong_body : ∃ c, Tryz.f3.body = some c := ⟨_, rfl⟩
theorem quartermasterWrong_lifted (os : Os) (started : os.Started) (H : Type) (enc : TypeId × Value → H) :
    ReturnsInHanded {} Tryz.checked os 3 .any (fun w args => (Rows.quartermasterWrongSpec.pre enc Tryz.prog Tryz.f3 Rows.quartermasterWrongRow.domain false w args ∧ laidMetH Tryz.prog quartermasterWrong_lst w) ∧ sizedMet enc Tryz.prog Tryz.f3 (OpenSpec.ofChange Rows.quartermasterWrongSpec) false w args)
      (Rows.quartermasterWrongSpec.post enc Tryz.prog Tryz.f3 false true false false) := by
  refine returnsInHanded_of_change_and (C := Tryz.checked) (X := fun w _ => laidMetH Tryz.prog quartermasterWrong_lst w) (fun _ _ _ hh h => h.of_heap hh) own started quartermasterWrong_noInit quartermasterWrong_fn
    (ChangeSpec.witness_shaped (enc := enc) (C := Tryz.checked) (os := os) (X := fun w _ => laidMetH Tryz.prog quartermasterWrong_lst w) false (World.laidAll Tryz.prog os quartermasterWrong_lst) #[.int .i64 (-1)] 8 (World.laidAll_os _ _ _)
      (World.shaped_of_ZipB (quartermasterWrong_zip1 os) (quartermasterWrong_zip2 os)) (quartermasterWrong_okB os) (quartermasterWrong_preB os H enc) (quartermasterWrong_szB os H enc)
      (by rw [MakeChecks.laidMetH_plain _ _ _ quartermasterWrong_plain]; exact laidMet_laidAll _ (quartermasterWrong_fits os) (quartermasterWrong_ifaces os))) ?_
  intro W base args ds gs before hval0 hW _ _ hL _
  have hval : ∀ (j : Nat) t v, Tryz.f3.params[j]? = some t → args[j]? = some v → Value.okWide Tryz.prog W .any base t v := hval0
  have hW' := hW
  obtain ⟨p, q, hA0, hV, rfl, _, _⟩ := hW
  have hA : DataW.TrodAll enc Tryz.prog W 0 (fun _ => true) true Tryz.f3.params.toList args.toList ds p := hA0
  rw [quartermasterWrong_params] at hA hval
  obtain ⟨v0, d0, rfl, rfl, h0⟩ := trodAll_one hA
  obtain ⟨rfl, rfl⟩ := trodVars_none hV
  obtain ⟨n0, rfl, rfl, rfl, hw0⟩ := open_int quartermasterWrong_uInt (hval 0 3 v0 rfl rfl) h0
  obtain ⟨c, hb⟩ := quartermasterWrong_body
  have hv : VRs (fun _ => none) (.cons (.i .i64 n0) .nil) [Value.int .i64 n0] := by simp [VRs, VR]
  refine (top_run follows nameOK hkBok quartermasterWrong_fn hb tblIn hv (qAll n0) (tables quartermasterWrong_plain quartermasterWrong_asciiIn hL)).mono fun e W' ⟨he, hs⟩ => ?_
  refine ⟨_, he, _, _, _, [], [], [], hW', ?_, ?_, ?_, hs.keptBut _, fun h => by cases h⟩
  · rw [quartermasterWrong_results]
    exact trodAll_mk1 (shut_bool quartermasterWrong_uBool true)
  · rw [quartermasterWrong_params]
    exact trodAll_mk1 (shut_int quartermasterWrong_uInt hw0)
  · rfl
theorem quartermasterWrong_named1 : Tryz.pinned.checked.prog.funcNamed Rows.quartermasterWrongRow.func = some 3 := by kernel_rfl
theorem quartermasterWrong_wrapper : Tryz.f3.isWrapper Tryz.pinned.checked.prog Rows.quartermasterWrongRow.wrapper Rows.quartermasterWrongRow.mainSum := by unfold Func.isWrapper; first | (rw [if_pos (by decide +kernel)]; kernel_rfl) | (rw [if_neg (by decide +kernel)]; exact ⟨rfl, rfl⟩)
theorem quartermasterWrong_inst : Tryz.f3.isInstance Tryz.pinned.checked.prog Rows.quartermasterWrongRow.origin Rows.quartermasterWrongRow.targs := of_decide_eq_true (by kernel_rfl)
theorem quartermasterWrong_holds : Rows.QuartermasterWrongSaid :=
  OpenClaim.holds_of_wide 3 Tryz.f3 rfl rfl rfl rfl rfl rfl rfl ⟨rfl, rfl, rfl, rfl, rfl⟩ rfl rfl rfl rfl rfl quartermasterWrong_named1 quartermasterWrong_fn quartermasterWrong_closed quartermasterWrong_inst quartermasterWrong_wrapper
    (fun os started H enc _ => quartermasterWrong_lifted os started H enc)
end
end Go.Proofs.YtagfjgbbebdleaaGreatDoor
