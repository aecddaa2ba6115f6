/-
  Closed facts of the row of buildFails.
-/
import Derived.Test.YtbkilngeedbkpaaGreatDoorHkG
import Derived.Test.YtbkilngeedbkpaaGreatDoorXRowK6
import Derived.OpenShut
import Derived.Carry
import Derived.Lay
open Go Go.Mx Go.ChangeShapes Go.WideShapes Go.RowKit
namespace Go.Proofs.YtbkilngeedbkpaaGreatDoor
set_option maxRecDepth 1000000
noncomputable section
def buildFails_L : List Nat := [5, 14, 8, 11, 23, 41, 40, 69, 115, 139, 198, 173, 174, 175, 239, 70, 116, 176, 240, 300, 190, 267, 241, 301, 54, 79, 60, 92, 71, 72, 117, 177, 242, 302, 243, 303, 178, 179, 50, 24, 25, 27, 51, 26, 16, 34, 35, 63, 93, 146, 213, 147, 19, 38, 67, 109, 110, 169, 168, 170, 111, 112, 171, 172, 237, 238, 148, 151, 149, 214, 77, 125, 124, 126, 128, 189, 127, 130, 192, 269, 191, 268, 86, 335, 129, 215, 202, 216, 44, 217, 278, 279, 280, 340, 52, 76, 345, 384, 341, 342, 383, 346, 42, 343, 281, 344, 85, 138, 286, 349, 150, 95, 152, 153, 218, 282, 219, 283, 348, 347, 385, 220, 221, 154, 222, 94, 284, 223, 224, 285, 225, 197, 271, 272, 336, 337, 338, 381, 382, 426, 427, 479, 428, 140, 199, 200, 480, 287, 7, 18, 37, 65, 98, 99, 100, 101, 156, 102, 157, 158, 103, 159, 227, 160, 161, 229, 228, 230, 290, 231, 291, 351, 352, 387, 294, 68, 113, 114, 353, 162, 292, 293, 354, 66, 104, 105, 163, 232, 236, 107, 164, 233, 295, 235, 296, 234, 297, 298, 357, 398, 434, 435, 299, 108, 167, 355, 388, 106, 389, 390, 430, 391, 39, 396, 432, 433, 359, 392, 431, 166, 393, 394, 395, 356, 397, 165, 20, 21, 43, 73, 118, 22, 45, 46, 48, 49, 75, 119, 120, 180, 181, 245, 306, 360, 254, 319, 325, 261, 330, 399, 47, 74, 400, 436, 437, 438, 490, 439, 491, 525, 552, 492, 307, 308, 361, 401, 440, 441, 493, 526, 527, 496, 531, 532, 533, 558, 578, 543, 565, 566, 544, 567, 579, 568, 569, 580, 570, 253, 495, 530, 557, 529, 556, 577, 386, 144, 212, 429, 481, 487, 145, 482, 522, 483, 274, 275, 484, 523, 524, 551, 485, 486, 488, 489, 494, 528, 553, 554, 573, 574, 555, 581, 585, 586, 587, 588, 582, 575, 576, 583, 584, 442, 497, 534, 247, 498, 363, 402, 403, 443, 404, 535, 536, 425, 478, 537, 499, 310, 362, 309, 244, 304, 305, 358, 246, 311, 312, 313, 315, 365, 407, 446, 447, 500, 448, 449, 501, 502, 538, 450, 451, 452, 453, 366, 91, 314, 364, 318, 405, 80, 444, 350, 406, 445, 317, 316, 367, 182, 183, 248, 56, 184, 249, 250, 320, 185, 251, 252, 321, 368, 322, 369, 370, 408, 371, 372, 373, 374, 409, 375, 410, 376, 377, 378, 323, 379, 411, 412, 413, 454, 414, 455, 456, 457, 460, 415, 459, 458, 503, 416, 461, 462, 504, 417, 463, 505, 539, 559, 418, 464, 465, 289, 419, 466, 467, 506, 468, 420, 469, 421, 470, 422, 471, 507, 540, 541, 560, 561, 542, 562, 563, 194, 270, 564, 472, 473, 423, 424, 474, 508, 509, 510, 514, 511, 515, 545, 512, 513, 475, 516, 476, 477, 517, 546, 518, 547, 548, 519, 520, 549, 521, 550, 571, 572, 324, 186, 255, 256, 257, 121, 122, 123, 187, 188, 258, 259, 328, 326, 327, 260, 329, 262, 263, 264, 331, 332, 265, 333, 266, 334, 380, 226, 288, 36, 64, 96, 155, 97, 17, 15]
theorem buildFails_clos : Tryz.prog.closure 5 = buildFails_L := closure_by_table Tryz.prog tabT_all (by kernel_rfl)
theorem buildFails_inPlace : Tryz.prog.inPlace 5 = Rows.buildFailsRow.inPlace := inPlace_by_table Tryz.prog buildFails_clos tabN_all (by kernel_rfl)
theorem buildFails_named : Tryz.prog.varsNamed 5 = Rows.buildFailsRow.named := varsNamed_by_table Tryz.prog buildFails_clos tabG_all tabE_all (by kernel_rfl)
theorem buildFails_unf : Tryz.prog.unfollowed 5 = true := by
  obtain ⟨c, hc⟩ : ∃ c, Tryz.f92.body = some c := ⟨_, rfl⟩
  exact unfollowed_by_table Tryz.prog buildFails_clos (g := 92) (by kernel_rfl) (fn := Tryz.f92) (by kernel_rfl) hc (by cases hc; kernel_rfl)
theorem buildFails_k0 : (Rows.buildFailsRow.wf (OpenSpec.ofChange Rows.buildFailsSpec)) = true := by kernel_rfl
theorem buildFails_k3 : (Tryz.f5.params.all (Tryz.pinned.checked.prog.readableRec ·)) = true := by kernel_rfl
theorem buildFails_k4 : (namedTie Tryz.pinned.checked.prog Rows.buildFailsRow.named Rows.buildFailsSpec.vars) = true := by kernel_rfl
theorem buildFails_k5 : ((Rows.buildFailsRow.stops == [])) = true := by kernel_rfl
theorem buildFails_k6 : ((Tryz.pinned.checked.prog.stops == [])) = true := by kernel_rfl
theorem buildFails_k7 : ((Rows.buildFailsRow.knobs == [])) = true := by kernel_rfl
theorem buildFails_k8 : ((Tryz.pinned.checked.prog.stopKnobs == [])) = true := by kernel_rfl
theorem buildFails_k9 : ((Rows.buildFailsRow.inPlace == Tryz.pinned.checked.prog.inPlace 5)) = true := beq_iff_eq.2 buildFails_inPlace.symm
theorem buildFails_k10 : ((Rows.buildFailsRow.unfollowed == Tryz.pinned.checked.prog.unfollowed 5)) = true := beq_iff_eq.2 buildFails_unf.symm
theorem buildFails_k11 : ((Rows.buildFailsRow.recurses == Tryz.pinned.checked.prog.recurses 5)) = true := beq_iff_eq.2 (show true = Tryz.prog.recurses 5 by unfold Program.recurses; rw [buildFails_unf]; rfl)
theorem buildFails_k12 : ((Rows.buildFailsRow.named == Tryz.pinned.checked.prog.varsNamed 5)) = true := beq_iff_eq.2 buildFails_named.symm
theorem buildFails_k13 : ((Rows.buildFailsRow.maps == (Tryz.f5.params.toList ++ Rows.buildFailsSpec.plain.varTypes Tryz.pinned.checked.prog).any (Tryz.pinned.checked.prog.mapsRec ·))) = true := by kernel_rfl
theorem buildFails_k14 : ((Rows.buildFailsRow.ifaces == (Tryz.f5.params.toList ++ Rows.buildFailsSpec.plain.varTypes Tryz.pinned.checked.prog).any (Tryz.pinned.checked.prog.ifacesRec ·))) = true := by kernel_rfl
theorem buildFails_k15 : ((Rows.buildFailsRow.mapsOut == Tryz.pinned.checked.prog.mapsAmong Tryz.f5.resultTypes.toList)) = true := by kernel_rfl
theorem buildFails_k16 : ((Rows.buildFailsRow.loops == (Tryz.f5.params.toList ++ Rows.buildFailsSpec.plain.varTypes Tryz.pinned.checked.prog).any (Tryz.pinned.checked.prog.loopsFrom ·))) = true := by kernel_rfl
theorem buildFails_k17 : ((Rows.buildFailsRow.wideKeys == (Tryz.f5.params.toList ++ Rows.buildFailsSpec.plain.varTypes Tryz.pinned.checked.prog ++ Tryz.f5.resultTypes.toList).any (Tryz.pinned.checked.prog.wideKeysFrom ·))) = true := by kernel_rfl
theorem buildFails_k18 : (Rows.buildFailsSpec.vars.all (Tryz.pinned.checked.prog.varReadable ·)) = true := by kernel_rfl
theorem buildFails_k19 : (Tryz.f5.resultTypes.all (fun t => Tryz.pinned.checked.prog.readableRec t && decide (t < Tryz.pinned.checked.prog.types.size))) = true := by kernel_rfl
theorem buildFails_k20 : ((Rows.buildFailsRow.ifacesOut == Tryz.f5.resultTypes.toList.any (Tryz.pinned.checked.prog.ifacesRec ·))) = true := by kernel_rfl
theorem buildFails_k21 : ((Rows.buildFailsRow.loopsOut == Tryz.f5.resultTypes.toList.any (Tryz.pinned.checked.prog.loopsFrom ·))) = true := by kernel_rfl
theorem buildFails_k22 : ((Rows.buildFailsRow.plainKeys == Tryz.pinned.checked.prog.plainKeys)) = true := by kernel_rfl
theorem buildFails_k23 : (Rows.buildFailsRow.shortTexts.isNone) = true := by kernel_rfl
theorem buildFails_k26 : ((Rows.buildFailsRow.lifted == Tryz.pinned.checked.prog.liftsFinal)) = true := by kernel_rfl
theorem buildFails_k27 : ((Tryz.pinned.checked.prog.make == some Rows.buildFailsRow.make)) = true := by kernel_rfl
theorem buildFails_k28 : ((Rows.buildFailsRow.kinds == (if Rows.buildFailsRow.domain.isEmpty then [] else Tryz.f5.params.toList.map fun t => match Tryz.pinned.checked.prog.underlying t with | some (.int k) => some k | _ => none))) = true := by kernel_rfl
theorem buildFails_k29 : ((Rows.buildFailsRow.pinned == Rows.buildFailsRow.pinnedBy)) = true := by kernel_rfl
theorem buildFails_k30 : ((Rows.buildFailsRow.veiled == (Tryz.f5.params.toList ++ Rows.buildFailsSpec.plain.varTypes Tryz.pinned.checked.prog ++ Tryz.f5.resultTypes.toList).any (Tryz.pinned.checked.prog.veiledRec ·))) = true := by kernel_rfl
theorem buildFails_k31 : (Rows.buildFailsRow.veiledFits Tryz.pinned.checked.prog Tryz.f5.params.toList (Tryz.f5.params.toList ++ Rows.buildFailsSpec.plain.varTypes Tryz.pinned.checked.prog ++ Tryz.f5.resultTypes.toList)) = true := by kernel_rfl
theorem buildFails_closed : joinedFacts Tryz.pinned.checked.prog 5 Tryz.f5 Rows.buildFailsSpec Rows.buildFailsRow = true := band (band (band (band (band (band (band (band (band (band (band (band (band (band (band (band (band (band (band (band (band (band (band (band (band (band (band (band (band (band (band (buildFails_k0) laidOut_ok) mapsRowed_ok) buildFails_k3) buildFails_k4) buildFails_k5) buildFails_k6) buildFails_k7) buildFails_k8) buildFails_k9) buildFails_k10) buildFails_k11) buildFails_k12) buildFails_k13) buildFails_k14) buildFails_k15) buildFails_k16) buildFails_k17) buildFails_k18) buildFails_k19) buildFails_k20) buildFails_k21) buildFails_k22) buildFails_k23) stopsHeard_ok) mayEnter_ok) buildFails_k26) buildFails_k27) buildFails_k28) buildFails_k29) buildFails_k30) buildFails_k31
abbrev buildFails_lst : List (String × DataW Unit) := Rows.buildFailsRow.laid
theorem buildFails_plain : (buildFails_lst.all fun x => x.2.handleName?.isNone) = true := by kernel_rfl
theorem buildFails_noInit : Tryz.prog.inits.idxOf? 5 = none := by kernel_rfl
theorem buildFails_fn : Tryz.prog.funcs[5]? = some Tryz.f5 := by kernel_rfl
theorem buildFails_zip1 (os : Os) : ((World.laidAll Tryz.prog os buildFails_lst).forCall (fun _ _ => 0) ⟨#[], #[.int .i64 (-1), .int .i64 0, .bool false, .bool false], []⟩).variablesZipB Tryz.prog = true := by kernel_rfl
theorem buildFails_zip2 (os : Os) : ((((World.laidAll Tryz.prog os buildFails_lst).forCall (fun _ _ => 0) ⟨#[], #[.int .i64 (-1), .int .i64 0, .bool false, .bool false], []⟩).heap.toList.drop Tryz.prog.globals.size).take ((begin Tryz.prog (fun _ _ => 0) default).world.heap.size - Tryz.prog.globals.size) =
      (begin Tryz.prog (fun _ _ => 0) default).world.heap.toList.drop Tryz.prog.globals.size) := by kernel_rfl
theorem buildFails_fits (os : Os) : (World.holding Tryz.prog os ⟨#[], #[], []⟩).layFits Tryz.prog buildFails_lst [] = true := by kernel_rfl
theorem buildFails_ifaces (os : Os) : (World.holding Tryz.prog os ⟨#[], #[], []⟩).layIfaces Tryz.prog buildFails_lst (World.laidAll Tryz.prog os buildFails_lst) = true := by kernel_rfl
theorem buildFails_okB (os : Os) : Input.okWideB Tryz.prog ((World.laidAll Tryz.prog os buildFails_lst).forCall (fun _ _ => 0) ⟨#[], #[.int .i64 (-1), .int .i64 0, .bool false, .bool false], []⟩) 5 ⟨#[], #[.int .i64 (-1), .int .i64 0, .bool false, .bool false], []⟩ = true := by kernel_rfl
theorem buildFails_preB (os : Os) (H : Type) (enc : TypeId × Value → H) : Rows.buildFailsSpec.preB enc Tryz.prog Tryz.f5 [] false ((World.laidAll Tryz.prog os buildFails_lst).forCall (fun _ _ => 0) ⟨#[], #[.int .i64 (-1), .int .i64 0, .bool false, .bool false], []⟩).memory #[.int .i64 (-1), .int .i64 0, .bool false, .bool false] 8 = true := by kernel_rfl
theorem buildFails_szB (os : Os) (H : Type) (enc : TypeId × Value → H) : Rows.buildFailsSpec.sizedB enc Tryz.prog Tryz.f5 false ((World.laidAll Tryz.prog os buildFails_lst).forCall (fun _ _ => 0) ⟨#[], #[.int .i64 (-1), .int .i64 0, .bool false, .bool false], []⟩).memory #[.int .i64 (-1), .int .i64 0, .bool false, .bool false] 8 = true := by kernel_rfl
theorem buildFails_asciiIn : ("strings.asciiSpace", DataW.agg (asciiL.map fun x => (DataW.lit (.int .u8 x) : DataW Unit))) ∈ buildFails_lst := List.mem_iff_getElem?.2 ⟨5, by kernel_rfl⟩
theorem buildFails_uInt : Tryz.prog.underlying 3 = some (.int .i64) := by kernel_rfl
theorem buildFails_uBool : Tryz.prog.underlying 4 = some .bool := by kernel_rfl
theorem buildFails_params : Tryz.f5.params = #[3, 3, 4, 4] := by kernel_rfl
theorem buildFails_results : Tryz.f5.resultTypes = #[4] := by kernel_rfl
theorem buildFails_body : ∃ c, Tryz.f5.body = some c := ⟨_, rfl⟩
theorem buildFails_powIn : ("internal/strconv.uint64pow10", DataW.agg (powL.map fun x => (DataW.lit (.int .u64 x) : DataW Unit))) ∈ buildFails_lst := List.mem_iff_getElem?.2 ⟨2, by kernel_rfl⟩
theorem buildFails_named1 : Tryz.pinned.checked.prog.funcNamed Rows.buildFailsRow.func = some 5 := by kernel_rfl
theorem buildFails_wrapper : Tryz.f5.isWrapper Tryz.pinned.checked.prog Rows.buildFailsRow.wrapper Rows.buildFailsRow.mainSum := by unfold Func.isWrapper; first | (rw [if_pos (by decide +kernel)]; kernel_rfl) | (rw [if_neg (by decide +kernel)]; exact ⟨rfl, rfl⟩)
theorem buildFails_inst : Tryz.f5.isInstance Tryz.pinned.checked.prog Rows.buildFailsRow.origin Rows.buildFailsRow.targs := of_decide_eq_true (by kernel_rfl)
end
end Go.Proofs.YtbkilngeedbkpaaGreatDoor
