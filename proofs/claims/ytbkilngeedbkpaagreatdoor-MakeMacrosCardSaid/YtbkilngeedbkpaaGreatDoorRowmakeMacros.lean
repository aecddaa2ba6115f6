/-
  The row of makeMacros: for every input the law returns true.
-/
import Derived.Test.YtbkilngeedbkpaaGreatDoorRunmakeMacros
import Derived.Test.YtbkilngeedbkpaaGreatDoorXRowK6
import Derived.OpenShut
import Derived.Carry
import Derived.Lay
import Derived.ChangeMaps5
open Go Go.Mx Go.ChangeShapes Go.WideShapes Go.RowKit
namespace Go.Proofs.YtbkilngeedbkpaaGreatDoor
set_option maxRecDepth 1000000
noncomputable section
def makeMacros_L : List Nat := [4, 10, 8, 12, 28, 52, 76, 115, 139, 198, 173, 174, 175, 239, 53, 77, 125, 124, 126, 128, 189, 127, 130, 192, 269, 190, 267, 191, 268, 86, 335, 129, 78, 54, 79, 55, 29, 19, 38, 67, 109, 110, 169, 168, 170, 111, 112, 171, 172, 237, 238, 30, 41, 40, 69, 70, 116, 176, 240, 300, 241, 301, 60, 92, 71, 72, 117, 177, 242, 302, 243, 303, 178, 179, 42, 23, 50, 24, 56, 80, 45, 31, 57, 58, 81, 131, 85, 138, 132, 193, 195, 194, 270, 134, 135, 133, 82, 83, 84, 137, 59, 89, 144, 212, 143, 204, 205, 273, 206, 274, 275, 207, 276, 277, 339, 208, 209, 210, 211, 90, 91, 145, 197, 271, 272, 336, 337, 338, 381, 382, 426, 427, 479, 146, 213, 428, 140, 199, 200, 202, 480, 44, 345, 384, 340, 341, 136, 196, 87, 88, 141, 201, 142, 203, 32, 61, 33, 62, 16, 34, 35, 63, 93, 147, 148, 151, 149, 214, 215, 216, 217, 278, 279, 280, 342, 383, 346, 343, 281, 344, 286, 349, 150, 95, 152, 153, 218, 282, 219, 283, 348, 347, 385, 220, 221, 154, 222, 94, 284, 11, 25, 27, 51, 26, 223, 224, 285, 225, 287, 7, 18, 37, 65, 98, 99, 100, 101, 156, 102, 157, 158, 103, 159, 227, 160, 161, 229, 228, 230, 290, 231, 291, 351, 352, 387, 294, 68, 113, 114, 353, 162, 292, 293, 354, 66, 104, 105, 163, 232, 236, 107, 164, 233, 295, 235, 296, 234, 297, 298, 357, 398, 434, 435, 299, 108, 167, 355, 388, 106, 389, 390, 430, 391, 39, 396, 432, 433, 359, 392, 431, 166, 393, 394, 395, 356, 397, 165, 20, 21, 43, 73, 118, 22, 46, 48, 49, 75, 119, 120, 180, 181, 245, 306, 360, 254, 319, 325, 261, 330, 399, 47, 74, 400, 436, 437, 438, 490, 439, 491, 525, 552, 492, 307, 308, 361, 401, 440, 441, 493, 526, 527, 496, 531, 532, 533, 558, 578, 543, 565, 566, 544, 567, 579, 568, 569, 580, 570, 253, 495, 530, 557, 529, 556, 577, 386, 429, 481, 487, 482, 522, 483, 484, 523, 524, 551, 485, 486, 488, 489, 494, 528, 553, 554, 573, 574, 555, 581, 585, 586, 587, 588, 582, 575, 576, 583, 584, 442, 497, 534, 247, 498, 363, 402, 403, 443, 404, 535, 536, 425, 478, 537, 499, 310, 362, 309, 244, 304, 305, 358, 246, 311, 312, 313, 315, 365, 407, 446, 447, 500, 448, 449, 501, 502, 538, 450, 451, 452, 453, 366, 314, 364, 318, 405, 444, 350, 406, 445, 317, 316, 367, 182, 183, 248, 184, 249, 250, 320, 185, 251, 252, 321, 368, 322, 369, 370, 408, 371, 372, 373, 374, 409, 375, 410, 376, 377, 378, 323, 379, 411, 412, 413, 454, 414, 455, 456, 457, 460, 415, 459, 458, 503, 416, 461, 462, 504, 417, 463, 505, 539, 559, 418, 464, 465, 289, 419, 466, 467, 506, 468, 420, 469, 421, 470, 422, 471, 507, 540, 541, 560, 561, 542, 562, 563, 564, 472, 473, 423, 424, 474, 508, 509, 510, 514, 511, 515, 545, 512, 513, 475, 516, 476, 477, 517, 546, 518, 547, 548, 519, 520, 549, 521, 550, 571, 572, 324, 186, 255, 256, 257, 121, 122, 123, 187, 188, 258, 259, 328, 326, 327, 260, 329, 262, 263, 264, 331, 332, 265, 333, 266, 334, 380, 226, 288, 36, 64, 96, 155, 97, 13]
theorem makeMacros_clos : Tryz.prog.closure 4 = makeMacros_L := closure_by_table Tryz.prog tabT_all (by kernel_rfl)
theorem makeMacros_inPlace : Tryz.prog.inPlace 4 = Rows.makeMacrosRow.inPlace := inPlace_by_table Tryz.prog makeMacros_clos tabN_all (by kernel_rfl)
theorem makeMacros_named : Tryz.prog.varsNamed 4 = Rows.makeMacrosRow.named := varsNamed_by_table Tryz.prog makeMacros_clos tabG_all tabE_all (by kernel_rfl)
theorem makeMacros_unf : Tryz.prog.unfollowed 4 = true := by
  obtain ⟨c, hc⟩ : ∃ c, Tryz.f92.body = some c := ⟨_, rfl⟩
  exact unfollowed_by_table Tryz.prog makeMacros_clos (g := 92) (by kernel_rfl) (fn := Tryz.f92) (by kernel_rfl) hc (by cases hc; kernel_rfl)
theorem makeMacros_k0 : (Rows.makeMacrosRow.wf (OpenSpec.ofChange Rows.makeMacrosSpec)) = true := by kernel_rfl
theorem makeMacros_k3 : (Tryz.f4.params.all (Tryz.pinned.checked.prog.readableRec ·)) = true := by kernel_rfl
theorem makeMacros_k4 : (namedTie Tryz.pinned.checked.prog Rows.makeMacrosRow.named Rows.makeMacrosSpec.vars) = true := by kernel_rfl
theorem makeMacros_k5 : ((Rows.makeMacrosRow.stops == [])) = true := by kernel_rfl
theorem makeMacros_k6 : ((Tryz.pinned.checked.prog.stops == [])) = true := by kernel_rfl
theorem makeMacros_k7 : ((Rows.makeMacrosRow.knobs == [])) = true := by kernel_rfl
theorem makeMacros_k8 : ((Tryz.pinned.checked.prog.stopKnobs == [])) = true := by kernel_rfl
theorem makeMacros_k9 : ((Rows.makeMacrosRow.inPlace == Tryz.pinned.checked.prog.inPlace 4)) = true := beq_iff_eq.2 makeMacros_inPlace.symm
theorem makeMacros_k10 : ((Rows.makeMacrosRow.unfollowed == Tryz.pinned.checked.prog.unfollowed 4)) = true := beq_iff_eq.2 makeMacros_unf.symm
theorem makeMacros_k11 : ((Rows.makeMacrosRow.recurses == Tryz.pinned.checked.prog.recurses 4)) = true := beq_iff_eq.2 (show true = Tryz.prog.recurses 4 by unfold Program.recurses; rw [makeMacros_unf]; rfl)
theorem makeMacros_k12 : ((Rows.makeMacrosRow.named == Tryz.pinned.checked.prog.varsNamed 4)) = true := beq_iff_eq.2 makeMacros_named.symm
theorem makeMacros_k13 : ((Rows.makeMacrosRow.maps == (Tryz.f4.params.toList ++ Rows.makeMacrosSpec.plain.varTypes Tryz.pinned.checked.prog).any (Tryz.pinned.checked.prog.mapsRec ·))) = true := by kernel_rfl
theorem makeMacros_k14 : ((Rows.makeMacrosRow.ifaces == (Tryz.f4.params.toList ++ Rows.makeMacrosSpec.plain.varTypes Tryz.pinned.checked.prog).any (Tryz.pinned.checked.prog.ifacesRec ·))) = true := by kernel_rfl
theorem makeMacros_k15 : ((Rows.makeMacrosRow.mapsOut == Tryz.pinned.checked.prog.mapsAmong Tryz.f4.resultTypes.toList)) = true := by kernel_rfl
theorem makeMacros_k16 : ((Rows.makeMacrosRow.loops == (Tryz.f4.params.toList ++ Rows.makeMacrosSpec.plain.varTypes Tryz.pinned.checked.prog).any (Tryz.pinned.checked.prog.loopsFrom ·))) = true := by kernel_rfl
theorem makeMacros_k17 : ((Rows.makeMacrosRow.wideKeys == (Tryz.f4.params.toList ++ Rows.makeMacrosSpec.plain.varTypes Tryz.pinned.checked.prog ++ Tryz.f4.resultTypes.toList).any (Tryz.pinned.checked.prog.wideKeysFrom ·))) = true := by kernel_rfl
theorem makeMacros_k18 : (Rows.makeMacrosSpec.vars.all (Tryz.pinned.checked.prog.varReadable ·)) = true := by kernel_rfl
theorem makeMacros_k19 : (Tryz.f4.resultTypes.all (fun t => Tryz.pinned.checked.prog.readableRec t && decide (t < Tryz.pinned.checked.prog.types.size))) = true := by kernel_rfl
theorem makeMacros_k20 : ((Rows.makeMacrosRow.ifacesOut == Tryz.f4.resultTypes.toList.any (Tryz.pinned.checked.prog.ifacesRec ·))) = true := by kernel_rfl
theorem makeMacros_k21 : ((Rows.makeMacrosRow.loopsOut == Tryz.f4.resultTypes.toList.any (Tryz.pinned.checked.prog.loopsFrom ·))) = true := by kernel_rfl
theorem makeMacros_k22 : ((Rows.makeMacrosRow.plainKeys == Tryz.pinned.checked.prog.plainKeys)) = true := by kernel_rfl
theorem makeMacros_k23 : (Rows.makeMacrosRow.shortTexts.isNone) = true := by kernel_rfl
theorem makeMacros_k26 : ((Rows.makeMacrosRow.lifted == Tryz.pinned.checked.prog.liftsFinal)) = true := by kernel_rfl
theorem makeMacros_k27 : ((Tryz.pinned.checked.prog.make == some Rows.makeMacrosRow.make)) = true := by kernel_rfl
theorem makeMacros_k28 : ((Rows.makeMacrosRow.kinds == (if Rows.makeMacrosRow.domain.isEmpty then [] else Tryz.f4.params.toList.map fun t => match Tryz.pinned.checked.prog.underlying t with | some (.int k) => some k | _ => none))) = true := by kernel_rfl
theorem makeMacros_k29 : ((Rows.makeMacrosRow.pinned == Rows.makeMacrosRow.pinnedBy)) = true := by kernel_rfl
theorem makeMacros_k30 : ((Rows.makeMacrosRow.veiled == (Tryz.f4.params.toList ++ Rows.makeMacrosSpec.plain.varTypes Tryz.pinned.checked.prog ++ Tryz.f4.resultTypes.toList).any (Tryz.pinned.checked.prog.veiledRec ·))) = true := by kernel_rfl
theorem makeMacros_k31 : (Rows.makeMacrosRow.veiledFits Tryz.pinned.checked.prog Tryz.f4.params.toList (Tryz.f4.params.toList ++ Rows.makeMacrosSpec.plain.varTypes Tryz.pinned.checked.prog ++ Tryz.f4.resultTypes.toList)) = true := by kernel_rfl
theorem makeMacros_closed : joinedFacts Tryz.pinned.checked.prog 4 Tryz.f4 Rows.makeMacrosSpec Rows.makeMacrosRow = true := band (band (band (band (band (band (band (band (band (band (band (band (band (band (band (band (band (band (band (band (band (band (band (band (band (band (band (band (band (band (band (makeMacros_k0) laidOut_ok) mapsRowed_ok) makeMacros_k3) makeMacros_k4) makeMacros_k5) makeMacros_k6) makeMacros_k7) makeMacros_k8) makeMacros_k9) makeMacros_k10) makeMacros_k11) makeMacros_k12) makeMacros_k13) makeMacros_k14) makeMacros_k15) makeMacros_k16) makeMacros_k17) makeMacros_k18) makeMacros_k19) makeMacros_k20) makeMacros_k21) makeMacros_k22) makeMacros_k23) stopsHeard_ok) mayEnter_ok) makeMacros_k26) makeMacros_k27) makeMacros_k28) makeMacros_k29) makeMacros_k30) makeMacros_k31
abbrev makeMacros_lst : List (String × DataW Unit) := Rows.makeMacrosRow.laid
theorem makeMacros_plain : (makeMacros_lst.all fun x => x.2.handleName?.isNone) = true := by kernel_rfl
theorem makeMacros_noInit : Tryz.prog.inits.idxOf? 4 = none := by kernel_rfl
theorem makeMacros_fn : Tryz.prog.funcs[4]? = some Tryz.f4 := by kernel_rfl
theorem makeMacros_zip1 (os : Os) : ((World.laidAll Tryz.prog os makeMacros_lst).forCall (fun _ _ => 0) ⟨#[], #[.string ByteArray.empty, .bool false], []⟩).variablesZipB Tryz.prog = true := by kernel_rfl
theorem makeMacros_zip2 (os : Os) : ((((World.laidAll Tryz.prog os makeMacros_lst).forCall (fun _ _ => 0) ⟨#[], #[.string ByteArray.empty, .bool false], []⟩).heap.toList.drop Tryz.prog.globals.size).take ((begin Tryz.prog (fun _ _ => 0) default).world.heap.size - Tryz.prog.globals.size) =
      (begin Tryz.prog (fun _ _ => 0) default).world.heap.toList.drop Tryz.prog.globals.size) := by kernel_rfl
theorem makeMacros_fits (os : Os) : (World.holding Tryz.prog os ⟨#[], #[], []⟩).layFits Tryz.prog makeMacros_lst [] = true := by kernel_rfl
theorem makeMacros_ifaces (os : Os) : (World.holding Tryz.prog os ⟨#[], #[], []⟩).layIfaces Tryz.prog makeMacros_lst (World.laidAll Tryz.prog os makeMacros_lst) = true := by kernel_rfl
theorem makeMacros_okB (os : Os) : Input.okWideB Tryz.prog ((World.laidAll Tryz.prog os makeMacros_lst).forCall (fun _ _ => 0) ⟨#[], #[.string ByteArray.empty, .bool false], []⟩) 4 ⟨#[], #[.string ByteArray.empty, .bool false], []⟩ = true := by kernel_rfl
theorem makeMacros_preB (os : Os) (H : Type) (enc : TypeId × Value → H) : Rows.makeMacrosSpec.preB enc Tryz.prog Tryz.f4 [] false ((World.laidAll Tryz.prog os makeMacros_lst).forCall (fun _ _ => 0) ⟨#[], #[.string ByteArray.empty, .bool false], []⟩).memory #[.string ByteArray.empty, .bool false] 8 = true := by kernel_rfl
theorem makeMacros_szB (os : Os) (H : Type) (enc : TypeId × Value → H) : Rows.makeMacrosSpec.sizedB enc Tryz.prog Tryz.f4 false ((World.laidAll Tryz.prog os makeMacros_lst).forCall (fun _ _ => 0) ⟨#[], #[.string ByteArray.empty, .bool false], []⟩).memory #[.string ByteArray.empty, .bool false] 8 = true := by kernel_rfl
theorem makeMacros_asciiIn : ("strings.asciiSpace", DataW.agg (asciiL.map fun x => (DataW.lit (.int .u8 x) : DataW Unit))) ∈ makeMacros_lst := List.mem_iff_getElem?.2 ⟨5, by kernel_rfl⟩
theorem makeMacros_uInt : Tryz.prog.underlying 3 = some (.int .i64) := by kernel_rfl
theorem makeMacros_uBool : Tryz.prog.underlying 4 = some .bool := by kernel_rfl
theorem makeMacros_params : Tryz.f4.params = #[9, 4] := by kernel_rfl
theorem makeMacros_results : Tryz.f4.resultTypes = #[4] := by kernel_rfl
theorem makeMacros_body : ∃ c, Tryz.f4.body = some c := ⟨_, rfl⟩
theorem makeMacros_powIn : ("internal/strconv.uint64pow10", DataW.agg (powL.map fun x => (DataW.lit (.int .u64 x) : DataW Unit))) ∈ makeMacros_lst := List.mem_iff_getElem?.2 ⟨2, by kernel_rfl⟩
theorem makeMacros_uStr : Tryz.prog.underlying 9 = some .string := by kernel_rfl
theorem makeMacros_lifted (os : Os) (started : os.Started) (H : Type) (enc : TypeId × Value → H) :
    ReturnsInHanded {} Tryz.checked os 4 .any (fun w args => (Rows.makeMacrosSpec.pre enc Tryz.prog Tryz.f4 Rows.makeMacrosRow.domain false w args ∧ laidMetH Tryz.prog makeMacros_lst w) ∧ sizedMet enc Tryz.prog Tryz.f4 (OpenSpec.ofChange Rows.makeMacrosSpec) false w args)
      (Rows.makeMacrosSpec.post enc Tryz.prog Tryz.f4 false true false false) := by
  refine returnsInHanded_of_change_and (C := Tryz.checked) (X := fun w _ => laidMetH Tryz.prog makeMacros_lst w) (fun _ _ _ hh h => h.of_heap hh) own started makeMacros_noInit makeMacros_fn
    (ChangeSpec.witness_shaped (enc := enc) (C := Tryz.checked) (os := os) (X := fun w _ => laidMetH Tryz.prog makeMacros_lst w) false (World.laidAll Tryz.prog os makeMacros_lst) #[.string ByteArray.empty, .bool false] 8 (World.laidAll_os _ _ _)
      (World.shaped_of_ZipB (makeMacros_zip1 os) (makeMacros_zip2 os)) (makeMacros_okB os) (makeMacros_preB os H enc) (makeMacros_szB os H enc)
      (by rw [MakeChecks.laidMetH_plain _ _ _ makeMacros_plain]; exact laidMet_laidAll _ (makeMacros_fits os) (makeMacros_ifaces os))) ?_
  intro W base args ds gs before hval0 hW _ _ hL _
  have hval : ∀ (j : Nat) t v, Tryz.f4.params[j]? = some t → args[j]? = some v → Value.okWide Tryz.prog W .any base t v := hval0
  have hW' := hW
  obtain ⟨p, q, hA0, hV, rfl, _, _⟩ := hW
  have hA : DataW.TrodAll enc Tryz.prog W 0 (fun _ => true) true Tryz.f4.params.toList args.toList ds p := hA0
  rw [makeMacros_params] at hA hval
  obtain ⟨v0, v1, d0, d1, p0, p1, rfl, rfl, rfl, h0, h1⟩ := trodAll_two hA
  obtain ⟨rfl, rfl⟩ := trodVars_none hV
  obtain ⟨n0, rfl, rfl, rfl, hw0⟩ := Go.ChangeMaps.open_string makeMacros_uStr (hval 0 9 v0 rfl rfl) h0
  obtain ⟨n1, rfl, rfl, rfl⟩ := open_bool makeMacros_uBool (hval 1 4 v1 rfl rfl) h1
  refine (xm_calls n0 hw0 n1 (tables makeMacros_plain makeMacros_asciiIn makeMacros_powIn hL)).mono fun e W' ⟨he, hs⟩ => ?_
  refine ⟨_, he, _, _, _, [], [], [], hW', ?_, ?_, ?_, hs.keptBut _, fun h => by cases h⟩
  · rw [makeMacros_results]
    exact trodAll_mk1 (shut_bool makeMacros_uBool true)
  · rw [makeMacros_params]
    exact trodAll_mk2 (Go.ChangeMaps.shut_string makeMacros_uStr hw0) (shut_bool makeMacros_uBool n1)
  · rfl
theorem makeMacros_named1 : Tryz.pinned.checked.prog.funcNamed Rows.makeMacrosRow.func = some 4 := by kernel_rfl
theorem makeMacros_wrapper : Tryz.f4.isWrapper Tryz.pinned.checked.prog Rows.makeMacrosRow.wrapper Rows.makeMacrosRow.mainSum := by unfold Func.isWrapper; first | (rw [if_pos (by decide +kernel)]; kernel_rfl) | (rw [if_neg (by decide +kernel)]; exact ⟨rfl, rfl⟩)
theorem makeMacros_inst : Tryz.f4.isInstance Tryz.pinned.checked.prog Rows.makeMacrosRow.origin Rows.makeMacrosRow.targs := of_decide_eq_true (by kernel_rfl)
theorem makeMacros_holds : Rows.MakeMacrosSaid :=
  OpenClaim.holds_of_wide 4 Tryz.f4 rfl rfl rfl rfl rfl rfl rfl ⟨rfl, rfl, rfl, rfl, rfl⟩ rfl rfl rfl rfl rfl makeMacros_named1 makeMacros_fn makeMacros_closed makeMacros_inst makeMacros_wrapper
    (fun os started H enc _ => makeMacros_lifted os started H enc)
end
end Go.Proofs.YtbkilngeedbkpaaGreatDoor
