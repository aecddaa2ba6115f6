/-
  The row of quartermasterLong: for every input the law returns true.
-/
import Derived.Test.YtdkpggfooahnnaaGreatDoorRunquartermasterLong
import Derived.Test.YtdkpggfooahnnaaGreatDoorXRowK6
import Derived.OpenShut
import Derived.Carry
import Derived.Lay
import Derived.Test.YtdkpggfooahnnaaGreatDoorLgR
open Go Go.Mx Go.ChangeShapes Go.WideShapes Go.RowKit
namespace Go.Proofs.YtdkpggfooahnnaaGreatDoor
set_option maxRecDepth 1000000
noncomputable section
def quartermasterLong_L : List Nat := [3, 6, 7, 10, 17, 37, 58, 92, 93, 139, 59, 94, 60, 95, 140, 192, 141, 142, 143, 193, 11, 18, 38, 61, 96, 97, 145, 144, 146, 98, 99, 147, 148, 194, 195, 12, 13, 19, 31, 53, 82, 81, 129, 130, 186, 52, 15, 54, 20, 21, 41, 40, 62, 100, 107, 149, 104, 153, 121, 32, 150, 151, 101, 63, 64, 66, 102, 65, 39, 35, 22, 42, 23, 43, 67, 68, 103, 152, 196, 105, 155, 206, 154, 197, 203, 227, 198, 248, 199, 249, 250, 200, 251, 252, 299, 201, 202, 204, 205, 24, 44, 25, 45, 69, 46, 26, 47, 27, 48, 51, 80, 127, 175, 167, 176, 177, 178, 233, 179, 234, 235, 180, 236, 289, 237, 238, 291, 290, 292, 342, 293, 343, 396, 397, 437, 346, 156, 207, 208, 398, 239, 344, 345, 399, 128, 181, 182, 240, 294, 298, 184, 241, 295, 347, 297, 348, 296, 349, 350, 267, 402, 448, 485, 486, 34, 55, 351, 185, 244, 400, 438, 183, 439, 440, 481, 441, 106, 446, 483, 484, 404, 442, 482, 243, 443, 444, 445, 401, 447, 115, 160, 242, 70, 71, 108, 109, 157, 209, 110, 72, 111, 113, 114, 159, 210, 211, 253, 254, 301, 354, 405, 310, 367, 373, 317, 378, 449, 112, 158, 450, 487, 488, 489, 531, 490, 532, 188, 563, 585, 533, 355, 356, 406, 451, 491, 492, 534, 564, 537, 568, 569, 56, 84, 83, 85, 87, 131, 86, 89, 133, 132, 187, 245, 88, 57, 90, 134, 189, 246, 247, 91, 135, 190, 136, 137, 191, 138, 309, 536, 567, 590, 566, 589, 603, 535, 565, 586, 587, 599, 600, 588, 604, 608, 609, 610, 166, 222, 611, 605, 601, 602, 606, 607, 493, 538, 570, 303, 539, 408, 452, 453, 494, 454, 571, 572, 475, 528, 573, 540, 358, 407, 357, 300, 352, 353, 403, 302, 359, 360, 361, 363, 410, 457, 497, 498, 541, 499, 500, 542, 543, 574, 501, 502, 503, 504, 411, 172, 362, 409, 366, 455, 495, 456, 496, 365, 364, 412, 255, 256, 304, 257, 305, 306, 368, 258, 307, 308, 369, 413, 370, 414, 415, 458, 416, 417, 418, 419, 459, 420, 460, 421, 422, 423, 371, 424, 461, 462, 463, 505, 464, 506, 507, 508, 511, 465, 510, 509, 544, 466, 512, 513, 545, 467, 514, 546, 575, 591, 468, 515, 516, 469, 517, 547, 518, 470, 519, 471, 520, 472, 521, 548, 576, 577, 592, 593, 578, 594, 391, 595, 263, 323, 596, 522, 523, 473, 474, 524, 549, 550, 551, 555, 552, 556, 579, 553, 554, 525, 557, 526, 527, 558, 580, 559, 581, 582, 560, 561, 583, 562, 584, 597, 598, 384, 372, 259, 311, 312, 313, 212, 213, 214, 260, 261, 314, 315, 376, 374, 375, 316, 377, 318, 319, 320, 379, 380, 321, 381, 322, 382, 425, 49, 28, 50, 73, 116, 161, 117, 74, 75, 76, 118, 119, 162, 215, 216, 262, 264, 218, 219, 217, 163, 164, 165, 221, 120, 170, 226, 272, 273, 326, 274, 275, 327, 328, 386, 276, 277, 278, 279, 171, 266, 324, 325, 383, 385, 426, 427, 476, 477, 529, 478, 223, 268, 270, 530, 433, 428, 429, 220, 265, 168, 169, 224, 269, 225, 271, 77, 122, 79, 126, 78, 123, 124, 173, 228, 280, 281, 284, 282, 329, 330, 331, 332, 387, 388, 389, 430, 479, 434, 431, 390, 432, 283, 230, 285, 286, 333, 334, 392, 436, 435, 480, 335, 336, 287, 337, 229, 338, 339, 393, 340, 394, 341, 395, 125, 174, 231, 288, 232, 29, 14, 30, 33, 36]
theorem quartermasterLong_clos : Tryz.prog.closure 3 = quartermasterLong_L := closure_by_table Tryz.prog tabT_all (by kernel_rfl)
theorem quartermasterLong_inPlace : Tryz.prog.inPlace 3 = Rows.quartermasterLongRow.inPlace := inPlace_by_table Tryz.prog quartermasterLong_clos tabN_all (by kernel_rfl)
theorem quartermasterLong_named : Tryz.prog.varsNamed 3 = Rows.quartermasterLongRow.named := varsNamed_by_table Tryz.prog quartermasterLong_clos tabG_all tabE_all (by kernel_rfl)
theorem quartermasterLong_unf : Tryz.prog.unfollowed 3 = true := by
  obtain ⟨c, hc⟩ : ∃ c, Tryz.f32.body = some c := ⟨_, rfl⟩
  exact unfollowed_by_table Tryz.prog quartermasterLong_clos (g := 32) (by kernel_rfl) (fn := Tryz.f32) (by kernel_rfl) hc (by cases hc; kernel_rfl)
theorem quartermasterLong_k0 : (Rows.quartermasterLongRow.wf (OpenSpec.ofChange Rows.quartermasterLongSpec)) = true := by kernel_rfl
theorem quartermasterLong_k3 : (Tryz.f3.params.all (Tryz.pinned.checked.prog.readableRec ·)) = true := by kernel_rfl
theorem quartermasterLong_k4 : (namedTie Tryz.pinned.checked.prog Rows.quartermasterLongRow.named Rows.quartermasterLongSpec.vars) = true := by kernel_rfl
theorem quartermasterLong_k5 : ((Rows.quartermasterLongRow.stops == [])) = true := by kernel_rfl
theorem quartermasterLong_k6 : ((Tryz.pinned.checked.prog.stops == [])) = true := by kernel_rfl
theorem quartermasterLong_k7 : ((Rows.quartermasterLongRow.knobs == [])) = true := by kernel_rfl
theorem quartermasterLong_k8 : ((Tryz.pinned.checked.prog.stopKnobs == [])) = true := by kernel_rfl
theorem quartermasterLong_k9 : ((Rows.quartermasterLongRow.inPlace == Tryz.pinned.checked.prog.inPlace 3)) = true := beq_iff_eq.2 quartermasterLong_inPlace.symm
theorem quartermasterLong_k10 : ((Rows.quartermasterLongRow.unfollowed == Tryz.pinned.checked.prog.unfollowed 3)) = true := beq_iff_eq.2 quartermasterLong_unf.symm
theorem quartermasterLong_k11 : ((Rows.quartermasterLongRow.recurses == Tryz.pinned.checked.prog.recurses 3)) = true := beq_iff_eq.2 (show true = Tryz.prog.recurses 3 by unfold Program.recurses; rw [quartermasterLong_unf]; rfl)
theorem quartermasterLong_k12 : ((Rows.quartermasterLongRow.named == Tryz.pinned.checked.prog.varsNamed 3)) = true := beq_iff_eq.2 quartermasterLong_named.symm
theorem quartermasterLong_k13 : ((Rows.quartermasterLongRow.maps == (Tryz.f3.params.toList ++ Rows.quartermasterLongSpec.plain.varTypes Tryz.pinned.checked.prog).any (Tryz.pinned.checked.prog.mapsRec ·))) = true := by kernel_rfl
theorem quartermasterLong_k14 : ((Rows.quartermasterLongRow.ifaces == (Tryz.f3.params.toList ++ Rows.quartermasterLongSpec.plain.varTypes Tryz.pinned.checked.prog).any (Tryz.pinned.checked.prog.ifacesRec ·))) = true := by kernel_rfl
theorem quartermasterLong_k15 : ((Rows.quartermasterLongRow.mapsOut == Tryz.pinned.checked.prog.mapsAmong Tryz.f3.resultTypes.toList)) = true := by kernel_rfl
theorem quartermasterLong_k16 : ((Rows.quartermasterLongRow.loops == (Tryz.f3.params.toList ++ Rows.quartermasterLongSpec.plain.varTypes Tryz.pinned.checked.prog).any (Tryz.pinned.checked.prog.loopsFrom ·))) = true := by kernel_rfl
theorem quartermasterLong_k17 : ((Rows.quartermasterLongRow.wideKeys == (Tryz.f3.params.toList ++ Rows.quartermasterLongSpec.plain.varTypes Tryz.pinned.checked.prog ++ Tryz.f3.resultTypes.toList).any (Tryz.pinned.checked.prog.wideKeysFrom ·))) = true := by kernel_rfl
theorem quartermasterLong_k18 : (Rows.quartermasterLongSpec.vars.all (Tryz.pinned.checked.prog.varReadable ·)) = true := by kernel_rfl
theorem quartermasterLong_k19 : (Tryz.f3.resultTypes.all (fun t => Tryz.pinned.checked.prog.readableRec t && decide (t < Tryz.pinned.checked.prog.types.size))) = true := by kernel_rfl
theorem quartermasterLong_k20 : ((Rows.quartermasterLongRow.ifacesOut == Tryz.f3.resultTypes.toList.any (Tryz.pinned.checked.prog.ifacesRec ·))) = true := by kernel_rfl
theorem quartermasterLong_k21 : ((Rows.quartermasterLongRow.loopsOut == Tryz.f3.resultTypes.toList.any (Tryz.pinned.checked.prog.loopsFrom ·))) = true := by kernel_rfl
theorem quartermasterLong_k22 : ((Rows.quartermasterLongRow.plainKeys == Tryz.pinned.checked.prog.plainKeys)) = true := by kernel_rfl
theorem quartermasterLong_k23 : (Rows.quartermasterLongRow.shortTexts.isNone) = true := by kernel_rfl
theorem quartermasterLong_k26 : ((Rows.quartermasterLongRow.lifted == Tryz.pinned.checked.prog.liftsFinal)) = true := by kernel_rfl
theorem quartermasterLong_k27 : ((Tryz.pinned.checked.prog.make == some Rows.quartermasterLongRow.make)) = true := by kernel_rfl
theorem quartermasterLong_k28 : ((Rows.quartermasterLongRow.kinds == (if Rows.quartermasterLongRow.domain.isEmpty then [] else Tryz.f3.params.toList.map fun t => match Tryz.pinned.checked.prog.underlying t with | some (.int k) => some k | _ => none))) = true := by kernel_rfl
theorem quartermasterLong_k29 : ((Rows.quartermasterLongRow.pinned == Rows.quartermasterLongRow.pinnedBy)) = true := by kernel_rfl
theorem quartermasterLong_k30 : ((Rows.quartermasterLongRow.veiled == (Tryz.f3.params.toList ++ Rows.quartermasterLongSpec.plain.varTypes Tryz.pinned.checked.prog ++ Tryz.f3.resultTypes.toList).any (Tryz.pinned.checked.prog.veiledRec ·))) = true := by kernel_rfl
theorem quartermasterLong_k31 : (Rows.quartermasterLongRow.veiledFits Tryz.pinned.checked.prog Tryz.f3.params.toList (Tryz.f3.params.toList ++ Rows.quartermasterLongSpec.plain.varTypes Tryz.pinned.checked.prog ++ Tryz.f3.resultTypes.toList)) = true := by kernel_rfl
theorem quartermasterLong_closed : joinedFacts Tryz.pinned.checked.prog 3 Tryz.f3 Rows.quartermasterLongSpec Rows.quartermasterLongRow = true := band (band (band (band (band (band (band (band (band (band (band (band (band (band (band (band (band (band (band (band (band (band (band (band (band (band (band (band (band (band (band (quartermasterLong_k0) laidOut_ok) mapsRowed_ok) quartermasterLong_k3) quartermasterLong_k4) quartermasterLong_k5) quartermasterLong_k6) quartermasterLong_k7) quartermasterLong_k8) quartermasterLong_k9) quartermasterLong_k10) quartermasterLong_k11) quartermasterLong_k12) quartermasterLong_k13) quartermasterLong_k14) quartermasterLong_k15) quartermasterLong_k16) quartermasterLong_k17) quartermasterLong_k18) quartermasterLong_k19) quartermasterLong_k20) quartermasterLong_k21) quartermasterLong_k22) quartermasterLong_k23) stopsHeard_ok) mayEnter_ok) quartermasterLong_k26) quartermasterLong_k27) quartermasterLong_k28) quartermasterLong_k29) quartermasterLong_k30) quartermasterLong_k31
abbrev quartermasterLong_lst : List (String × DataW Unit) := Rows.quartermasterLongRow.laid
theorem quartermasterLong_plain : (quartermasterLong_lst.all fun x => x.2.handleName?.isNone) = true := by kernel_rfl
theorem quartermasterLong_noInit : Tryz.prog.inits.idxOf? 3 = none := by kernel_rfl
theorem quartermasterLong_fn : Tryz.prog.funcs[3]? = some Tryz.f3 := by kernel_rfl
theorem quartermasterLong_zip1 (os : Os) : ((World.laidAll Tryz.prog os quartermasterLong_lst).forCall (fun _ _ => 0) ⟨#[], #[.int .i64 (-1), .int .i64 0], []⟩).variablesZipB Tryz.prog = true := by kernel_rfl
theorem quartermasterLong_zip2 (os : Os) : ((((World.laidAll Tryz.prog os quartermasterLong_lst).forCall (fun _ _ => 0) ⟨#[], #[.int .i64 (-1), .int .i64 0], []⟩).heap.toList.drop Tryz.prog.globals.size).take ((begin Tryz.prog (fun _ _ => 0) default).world.heap.size - Tryz.prog.globals.size) =
      (begin Tryz.prog (fun _ _ => 0) default).world.heap.toList.drop Tryz.prog.globals.size) := by kernel_rfl
theorem quartermasterLong_fits (os : Os) : (World.holding Tryz.prog os ⟨#[], #[], []⟩).layFits Tryz.prog quartermasterLong_lst [] = true := by kernel_rfl
theorem quartermasterLong_ifaces (os : Os) : (World.holding Tryz.prog os ⟨#[], #[], []⟩).layIfaces Tryz.prog quartermasterLong_lst (World.laidAll Tryz.prog os quartermasterLong_lst) = true := by kernel_rfl
theorem quartermasterLong_okB (os : Os) : Input.okWideB Tryz.prog ((World.laidAll Tryz.prog os quartermasterLong_lst).forCall (fun _ _ => 0) ⟨#[], #[.int .i64 (-1), .int .i64 0], []⟩) 3 ⟨#[], #[.int .i64 (-1), .int .i64 0], []⟩ = true := by kernel_rfl
theorem quartermasterLong_preB (os : Os) (H : Type) (enc : TypeId × Value → H) : Rows.quartermasterLongSpec.preB enc Tryz.prog Tryz.f3 [] false ((World.laidAll Tryz.prog os quartermasterLong_lst).forCall (fun _ _ => 0) ⟨#[], #[.int .i64 (-1), .int .i64 0], []⟩).memory #[.int .i64 (-1), .int .i64 0] 8 = true := by kernel_rfl
theorem quartermasterLong_szB (os : Os) (H : Type) (enc : TypeId × Value → H) : Rows.quartermasterLongSpec.sizedB enc Tryz.prog Tryz.f3 false ((World.laidAll Tryz.prog os quartermasterLong_lst).forCall (fun _ _ => 0) ⟨#[], #[.int .i64 (-1), .int .i64 0], []⟩).memory #[.int .i64 (-1), .int .i64 0] 8 = true := by kernel_rfl
theorem quartermasterLong_asciiIn : ("strings.asciiSpace", DataW.agg (asciiL.map fun x => (DataW.lit (.int .u8 x) : DataW Unit))) ∈ quartermasterLong_lst := List.mem_iff_getElem?.2 ⟨5, by kernel_rfl⟩
theorem quartermasterLong_uInt : Tryz.prog.underlying 3 = some (.int .i64) := by kernel_rfl
theorem quartermasterLong_uBool : Tryz.prog.underlying 4 = some .bool := by kernel_rfl
theorem quartermasterLong_params : Tryz.f3.params = #[3, 3] := by kernel_rfl
theorem quartermasterLong_results : Tryz.f3.resultTypes = #[4] := by kernel_rfl
theorem quartermasterLong_body : ∃ c, Tryz.f3.body = some c := ⟨_, rfl⟩
theorem quartermasterLong_powIn : ("internal/strconv.uint64pow10", DataW.agg (powL.map fun x => (DataW.lit (.int .u64 x) : DataW Unit))) ∈ quartermasterLong_lst := List.mem_iff_getElem?.2 ⟨2, by kernel_rfl⟩
theorem quartermasterLong_lifted (os : Os) (started : os.Started) (H : Type) (enc : TypeId × Value → H) :
    ReturnsInHanded {} Tryz.checked os 3 .any (fun w args => (Rows.quartermasterLongSpec.pre enc Tryz.prog Tryz.f3 Rows.quartermasterLongRow.domain false w args ∧ laidMetH Tryz.prog quartermasterLong_lst w) ∧ sizedMet enc Tryz.prog Tryz.f3 (OpenSpec.ofChange Rows.quartermasterLongSpec) false w args)
      (Rows.quartermasterLongSpec.post enc Tryz.prog Tryz.f3 false true false false) := by
  refine returnsInHanded_and_shaped (C := Tryz.checked) (X := fun w _ => laidMetH Tryz.prog quartermasterLong_lst w) (fun _ _ _ hh h => h.of_heap hh) own started quartermasterLong_noInit quartermasterLong_fn
    (ChangeSpec.witness_shaped (enc := enc) (C := Tryz.checked) (os := os) (X := fun w _ => laidMetH Tryz.prog quartermasterLong_lst w) false (World.laidAll Tryz.prog os quartermasterLong_lst) #[.int .i64 (-1), .int .i64 0] 8 (World.laidAll_os _ _ _)
      (World.shaped_of_ZipB (quartermasterLong_zip1 os) (quartermasterLong_zip2 os)) (quartermasterLong_okB os) (quartermasterLong_preB os H enc) (quartermasterLong_szB os H enc)
      (by rw [MakeChecks.laidMetH_plain _ _ _ quartermasterLong_plain]; exact laidMet_laidAll _ (quartermasterLong_fits os) (quartermasterLong_ifaces os))) ?_
  intro W base args ds gs before hval0 hW _ _ hL hsh _
  have hval : ∀ (j : Nat) t v, Tryz.f3.params[j]? = some t → args[j]? = some v → Value.okWide Tryz.prog W .any base t v := hval0
  have hW' := hW
  obtain ⟨p, q, hA0, hV, rfl, _, _⟩ := hW
  have hA : DataW.TrodAll enc Tryz.prog W 0 (fun _ => true) true Tryz.f3.params.toList args.toList ds p := hA0
  rw [quartermasterLong_params] at hA hval
  obtain ⟨v0, v1, d0, d1, p0, p1, rfl, rfl, rfl, h0, h1⟩ := trodAll_two hA
  obtain ⟨rfl, rfl⟩ := trodVars_none hV
  obtain ⟨n0, rfl, rfl, rfl, hw0⟩ := open_int quartermasterLong_uInt (hval 0 3 v0 rfl rfl) h0
  obtain ⟨n1, rfl, rfl, rfl, hw1⟩ := open_int quartermasterLong_uInt (hval 1 3 v1 rfl rfl) h1
  refine (lg_calls n0 n1 (tables quartermasterLong_plain quartermasterLong_asciiIn quartermasterLong_powIn hL) (mlCell hsh)).mono fun e W' ⟨he, hs⟩ => ?_
  refine ⟨_, he, _, _, _, [], [], [], hW', ?_, ?_, ?_, hs.keptBut _, fun h => by cases h⟩
  · rw [quartermasterLong_results]
    exact trodAll_mk1 (shut_bool quartermasterLong_uBool true)
  · rw [quartermasterLong_params]
    exact trodAll_mk2 (shut_int quartermasterLong_uInt hw0) (shut_int quartermasterLong_uInt hw1)
  · rfl
theorem quartermasterLong_named1 : Tryz.pinned.checked.prog.funcNamed Rows.quartermasterLongRow.func = some 3 := by kernel_rfl
theorem quartermasterLong_wrapper : Tryz.f3.isWrapper Tryz.pinned.checked.prog Rows.quartermasterLongRow.wrapper Rows.quartermasterLongRow.mainSum := by unfold Func.isWrapper; first | (rw [if_pos (by decide +kernel)]; kernel_rfl) | (rw [if_neg (by decide +kernel)]; exact ⟨rfl, rfl⟩)
theorem quartermasterLong_inst : Tryz.f3.isInstance Tryz.pinned.checked.prog Rows.quartermasterLongRow.origin Rows.quartermasterLongRow.targs := of_decide_eq_true (by kernel_rfl)
theorem quartermasterLong_holds : Rows.QuartermasterLongSaid :=
  OpenClaim.holds_of_wide 3 Tryz.f3 rfl rfl rfl rfl rfl rfl rfl ⟨rfl, rfl, rfl, rfl, rfl⟩ rfl rfl rfl rfl rfl quartermasterLong_named1 quartermasterLong_fn quartermasterLong_closed quartermasterLong_inst quartermasterLong_wrapper
    (fun os started H enc _ => quartermasterLong_lifted os started H enc)
end
end Go.Proofs.YtdkpggfooahnnaaGreatDoor
