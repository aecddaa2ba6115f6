/-
  The row of buildAutos: for every input the law returns true.
-/
import Derived.Test.YtepcbpcbmkikeaaGreatDoorRunbuildAutos
import Derived.Test.YtepcbpcbmkikeaaGreatDoorXRowK3
import Derived.OpenShut
import Derived.Carry
import Derived.Lay
open Go Go.Mx Go.ChangeShapes Go.WideShapes Go.RowKit
namespace Go.Proofs.YtepcbpcbmkikeaaGreatDoor
set_option maxRecDepth 1000000
noncomputable section
def buildAutos_L : List Nat := [5, 8, 10, 12, 21, 36, 50, 77, 90, 107, 149, 133, 134, 135, 182, 57, 88, 129, 178, 213, 137, 183, 179, 214, 41, 63, 48, 76, 58, 59, 89, 130, 180, 215, 181, 216, 131, 132, 37, 22, 23, 25, 38, 24, 9, 18, 19, 34, 52, 78, 114, 79, 43, 64, 98, 140, 141, 164, 186, 187, 142, 143, 188, 189, 218, 219, 80, 83, 81, 115, 61, 92, 91, 93, 95, 136, 94, 97, 139, 185, 138, 184, 70, 217, 96, 116, 153, 117, 118, 119, 165, 166, 167, 198, 39, 60, 203, 225, 199, 200, 224, 204, 44, 201, 168, 202, 69, 106, 173, 207, 82, 54, 84, 85, 120, 169, 121, 170, 206, 205, 226, 122, 123, 86, 124, 53, 171, 125, 126, 172, 127, 148, 191, 192, 220, 221, 222, 235, 236, 244, 245, 275, 246, 108, 150, 151, 276, 174, 175, 208, 227, 237, 247, 248, 249, 250, 277, 251, 278, 279, 252, 280, 301, 281, 282, 303, 302, 304, 335, 305, 336, 376, 377, 406, 339, 239, 258, 259, 378, 283, 337, 338, 379, 238, 253, 254, 284, 306, 310, 256, 285, 307, 340, 309, 341, 308, 342, 343, 382, 417, 449, 450, 344, 257, 288, 380, 407, 255, 408, 409, 445, 410, 228, 415, 447, 448, 384, 411, 446, 287, 412, 413, 414, 381, 416, 286, 209, 210, 229, 240, 260, 211, 27, 230, 232, 233, 242, 261, 262, 289, 290, 312, 347, 385, 321, 360, 366, 328, 371, 418, 231, 241, 419, 451, 452, 453, 494, 454, 495, 526, 552, 496, 348, 349, 386, 420, 455, 456, 497, 527, 528, 500, 532, 533, 534, 558, 578, 544, 565, 566, 545, 567, 579, 568, 569, 580, 570, 320, 499, 531, 557, 530, 556, 577, 234, 112, 163, 243, 266, 272, 113, 267, 298, 268, 194, 195, 269, 299, 300, 334, 270, 271, 273, 274, 498, 529, 553, 554, 573, 574, 555, 581, 585, 586, 587, 588, 582, 575, 576, 583, 584, 457, 501, 535, 314, 502, 388, 421, 422, 458, 423, 536, 537, 444, 493, 538, 503, 351, 387, 350, 311, 345, 346, 383, 313, 352, 353, 354, 356, 390, 426, 461, 462, 504, 463, 464, 505, 506, 539, 465, 466, 467, 468, 391, 75, 355, 389, 359, 424, 26, 459, 212, 425, 460, 358, 357, 392, 291, 292, 315, 13, 293, 316, 317, 361, 294, 318, 319, 362, 393, 363, 394, 395, 427, 396, 397, 398, 399, 428, 400, 429, 401, 402, 403, 364, 404, 430, 431, 432, 469, 433, 470, 471, 472, 475, 434, 474, 473, 507, 435, 476, 477, 508, 436, 478, 509, 540, 559, 437, 479, 480, 177, 438, 481, 482, 510, 483, 439, 484, 440, 485, 441, 486, 511, 541, 542, 560, 561, 543, 562, 563, 145, 190, 564, 487, 488, 442, 443, 489, 512, 513, 514, 518, 515, 519, 546, 516, 517, 490, 520, 491, 492, 521, 547, 522, 548, 549, 523, 524, 550, 525, 551, 571, 572, 365, 295, 322, 323, 324, 263, 264, 265, 296, 297, 325, 326, 369, 367, 368, 327, 370, 329, 330, 331, 372, 373, 332, 374, 333, 375, 405, 128, 176, 20, 35, 55, 87, 56, 11, 14]
theorem buildAutos_clos : Tryz.prog.closure 5 = buildAutos_L := closure_by_table Tryz.prog tabT_all (by kernel_rfl)
theorem buildAutos_inPlace : Tryz.prog.inPlace 5 = Rows.buildAutosRow.inPlace := inPlace_by_table Tryz.prog buildAutos_clos tabN_all (by kernel_rfl)
theorem buildAutos_named : Tryz.prog.varsNamed 5 = Rows.buildAutosRow.named := varsNamed_by_table Tryz.prog buildAutos_clos tabG_all tabE_all (by kernel_rfl)
theorem buildAutos_unf : Tryz.prog.unfollowed 5 = true := by
  obtain ⟨c, hc⟩ : ∃ c, Tryz.f76.body = some c := ⟨_, rfl⟩
  exact unfollowed_by_table Tryz.prog buildAutos_clos (g := 76) (by kernel_rfl) (fn := Tryz.f76) (by kernel_rfl) hc (by cases hc; kernel_rfl)
theorem buildAutos_k0 : (Rows.buildAutosRow.wf (OpenSpec.ofChange Rows.buildAutosSpec)) = true := by kernel_rfl
theorem buildAutos_k3 : (Tryz.f5.params.all (Tryz.pinned.checked.prog.readableRec ·)) = true := by kernel_rfl
theorem buildAutos_k4 : (namedTie Tryz.pinned.checked.prog Rows.buildAutosRow.named Rows.buildAutosSpec.vars) = true := by kernel_rfl
theorem buildAutos_k5 : ((Rows.buildAutosRow.stops == [])) = true := by kernel_rfl
theorem buildAutos_k6 : ((Tryz.pinned.checked.prog.stops == [])) = true := by kernel_rfl
theorem buildAutos_k7 : ((Rows.buildAutosRow.knobs == [])) = true := by kernel_rfl
theorem buildAutos_k8 : ((Tryz.pinned.checked.prog.stopKnobs == [])) = true := by kernel_rfl
theorem buildAutos_k9 : ((Rows.buildAutosRow.inPlace == Tryz.pinned.checked.prog.inPlace 5)) = true := beq_iff_eq.2 buildAutos_inPlace.symm
theorem buildAutos_k10 : ((Rows.buildAutosRow.unfollowed == Tryz.pinned.checked.prog.unfollowed 5)) = true := beq_iff_eq.2 buildAutos_unf.symm
theorem buildAutos_k11 : ((Rows.buildAutosRow.recurses == Tryz.pinned.checked.prog.recurses 5)) = true := beq_iff_eq.2 (show true = Tryz.prog.recurses 5 by unfold Program.recurses; rw [buildAutos_unf]; rfl)
theorem buildAutos_k12 : ((Rows.buildAutosRow.named == Tryz.pinned.checked.prog.varsNamed 5)) = true := beq_iff_eq.2 buildAutos_named.symm
theorem buildAutos_k13 : ((Rows.buildAutosRow.maps == (Tryz.f5.params.toList ++ Rows.buildAutosSpec.plain.varTypes Tryz.pinned.checked.prog).any (Tryz.pinned.checked.prog.mapsRec ·))) = true := by kernel_rfl
theorem buildAutos_k14 : ((Rows.buildAutosRow.ifaces == (Tryz.f5.params.toList ++ Rows.buildAutosSpec.plain.varTypes Tryz.pinned.checked.prog).any (Tryz.pinned.checked.prog.ifacesRec ·))) = true := by kernel_rfl
theorem buildAutos_k15 : ((Rows.buildAutosRow.mapsOut == Tryz.pinned.checked.prog.mapsAmong Tryz.f5.resultTypes.toList)) = true := by kernel_rfl
theorem buildAutos_k16 : ((Rows.buildAutosRow.loops == (Tryz.f5.params.toList ++ Rows.buildAutosSpec.plain.varTypes Tryz.pinned.checked.prog).any (Tryz.pinned.checked.prog.loopsFrom ·))) = true := by kernel_rfl
theorem buildAutos_k17 : ((Rows.buildAutosRow.wideKeys == (Tryz.f5.params.toList ++ Rows.buildAutosSpec.plain.varTypes Tryz.pinned.checked.prog ++ Tryz.f5.resultTypes.toList).any (Tryz.pinned.checked.prog.wideKeysFrom ·))) = true := by kernel_rfl
theorem buildAutos_k18 : (Rows.buildAutosSpec.vars.all (Tryz.pinned.checked.prog.varReadable ·)) = true := by kernel_rfl
theorem buildAutos_k19 : (Tryz.f5.resultTypes.all (fun t => Tryz.pinned.checked.prog.readableRec t && decide (t < Tryz.pinned.checked.prog.types.size))) = true := by kernel_rfl
theorem buildAutos_k20 : ((Rows.buildAutosRow.ifacesOut == Tryz.f5.resultTypes.toList.any (Tryz.pinned.checked.prog.ifacesRec ·))) = true := by kernel_rfl
theorem buildAutos_k21 : ((Rows.buildAutosRow.loopsOut == Tryz.f5.resultTypes.toList.any (Tryz.pinned.checked.prog.loopsFrom ·))) = true := by kernel_rfl
theorem buildAutos_k22 : ((Rows.buildAutosRow.plainKeys == Tryz.pinned.checked.prog.plainKeys)) = true := by kernel_rfl
theorem buildAutos_k23 : (Rows.buildAutosRow.shortTexts.isNone) = true := by kernel_rfl
theorem buildAutos_k26 : ((Rows.buildAutosRow.lifted == Tryz.pinned.checked.prog.liftsFinal)) = true := by kernel_rfl
theorem buildAutos_k27 : ((Tryz.pinned.checked.prog.make == some Rows.buildAutosRow.make)) = true := by kernel_rfl
theorem buildAutos_k28 : ((Rows.buildAutosRow.kinds == (if Rows.buildAutosRow.domain.isEmpty then [] else Tryz.f5.params.toList.map fun t => match Tryz.pinned.checked.prog.underlying t with | some (.int k) => some k | _ => none))) = true := by kernel_rfl
theorem buildAutos_k29 : ((Rows.buildAutosRow.pinned == Rows.buildAutosRow.pinnedBy)) = true := by kernel_rfl
theorem buildAutos_k30 : ((Rows.buildAutosRow.veiled == (Tryz.f5.params.toList ++ Rows.buildAutosSpec.plain.varTypes Tryz.pinned.checked.prog ++ Tryz.f5.resultTypes.toList).any (Tryz.pinned.checked.prog.veiledRec ·))) = true := by kernel_rfl
theorem buildAutos_k31 : (Rows.buildAutosRow.veiledFits Tryz.pinned.checked.prog Tryz.f5.params.toList (Tryz.f5.params.toList ++ Rows.buildAutosSpec.plain.varTypes Tryz.pinned.checked.prog ++ Tryz.f5.resultTypes.toList)) = true := by kernel_rfl
theorem buildAutos_closed : joinedFacts Tryz.pinned.checked.prog 5 Tryz.f5 Rows.buildAutosSpec Rows.buildAutosRow = true := band (band (band (band (band (band (band (band (band (band (band (band (band (band (band (band (band (band (band (band (band (band (band (band (band (band (band (band (band (band (band (buildAutos_k0) laidOut_ok) mapsRowed_ok) buildAutos_k3) buildAutos_k4) buildAutos_k5) buildAutos_k6) buildAutos_k7) buildAutos_k8) buildAutos_k9) buildAutos_k10) buildAutos_k11) buildAutos_k12) buildAutos_k13) buildAutos_k14) buildAutos_k15) buildAutos_k16) buildAutos_k17) buildAutos_k18) buildAutos_k19) buildAutos_k20) buildAutos_k21) buildAutos_k22) buildAutos_k23) stopsHeard_ok) mayEnter_ok) buildAutos_k26) buildAutos_k27) buildAutos_k28) buildAutos_k29) buildAutos_k30) buildAutos_k31
abbrev buildAutos_lst : List (String × DataW Unit) := Rows.buildAutosRow.laid
theorem buildAutos_plain : (buildAutos_lst.all fun x => x.2.handleName?.isNone) = true := by kernel_rfl
theorem buildAutos_noInit : Tryz.prog.inits.idxOf? 5 = none := by kernel_rfl
theorem buildAutos_fn : Tryz.prog.funcs[5]? = some Tryz.f5 := by kernel_rfl
theorem buildAutos_zip1 (os : Os) : ((World.laidAll Tryz.prog os buildAutos_lst).forCall (fun _ _ => 0) ⟨#[], #[.int .i64 (-1), .slice none 0 0], []⟩).variablesZipB Tryz.prog = true := by kernel_rfl
theorem buildAutos_zip2 (os : Os) : ((((World.laidAll Tryz.prog os buildAutos_lst).forCall (fun _ _ => 0) ⟨#[], #[.int .i64 (-1), .slice none 0 0], []⟩).heap.toList.drop Tryz.prog.globals.size).take ((begin Tryz.prog (fun _ _ => 0) default).world.heap.size - Tryz.prog.globals.size) =
      (begin Tryz.prog (fun _ _ => 0) default).world.heap.toList.drop Tryz.prog.globals.size) := by kernel_rfl
theorem buildAutos_fits (os : Os) : (World.holding Tryz.prog os ⟨#[], #[], []⟩).layFits Tryz.prog buildAutos_lst [] = true := by kernel_rfl
theorem buildAutos_ifaces (os : Os) : (World.holding Tryz.prog os ⟨#[], #[], []⟩).layIfaces Tryz.prog buildAutos_lst (World.laidAll Tryz.prog os buildAutos_lst) = true := by kernel_rfl
theorem buildAutos_okB (os : Os) : Input.okWideB Tryz.prog ((World.laidAll Tryz.prog os buildAutos_lst).forCall (fun _ _ => 0) ⟨#[], #[.int .i64 (-1), .slice none 0 0], []⟩) 5 ⟨#[], #[.int .i64 (-1), .slice none 0 0], []⟩ = true := by kernel_rfl
theorem buildAutos_preB (os : Os) (H : Type) (enc : TypeId × Value → H) : Rows.buildAutosSpec.preB enc Tryz.prog Tryz.f5 [] false ((World.laidAll Tryz.prog os buildAutos_lst).forCall (fun _ _ => 0) ⟨#[], #[.int .i64 (-1), .slice none 0 0], []⟩).memory #[.int .i64 (-1), .slice none 0 0] 8 = true := by kernel_rfl
theorem buildAutos_szB (os : Os) (H : Type) (enc : TypeId × Value → H) : Rows.buildAutosSpec.sizedB enc Tryz.prog Tryz.f5 false ((World.laidAll Tryz.prog os buildAutos_lst).forCall (fun _ _ => 0) ⟨#[], #[.int .i64 (-1), .slice none 0 0], []⟩).memory #[.int .i64 (-1), .slice none 0 0] 8 = true := by kernel_rfl
theorem buildAutos_asciiIn : ("strings.asciiSpace", DataW.agg (asciiL.map fun x => (DataW.lit (.int .u8 x) : DataW Unit))) ∈ buildAutos_lst := List.mem_iff_getElem?.2 ⟨5, by kernel_rfl⟩
theorem buildAutos_uInt : Tryz.prog.underlying 3 = some (.int .i64) := by kernel_rfl
theorem buildAutos_uBool : Tryz.prog.underlying 4 = some .bool := by kernel_rfl
theorem buildAutos_params : Tryz.f5.params = #[3, 46] := by kernel_rfl
theorem buildAutos_results : Tryz.f5.resultTypes = #[4] := by kernel_rfl
theorem buildAutos_body : ∃ c, Tryz.f5.body = some c := ⟨_, rfl⟩
theorem buildAutos_uSl : Tryz.prog.underlying 46 = some (.slice 4) := by kernel_rfl
theorem buildAutos_cBool : Tryz.prog.cellsOf 4 = 1 := by kernel_rfl
theorem buildAutos_slR : Tryz.pinned.checked.prog.readableRec 46 = true := by kernel_rfl
theorem buildAutos_slT : 46 < Tryz.pinned.checked.prog.types.size := of_decide_eq_true (by kernel_rfl)
theorem buildAutos_calls {H : Type} {enc : TypeId × Value → H} {W : World} {n0 : Int} {v1 : Value} {d1 : DataW H} {p1 : List MemPlace} (hL : laidMetH Tryz.prog buildAutos_lst W) (hval : Value.okWide Tryz.prog W .any 0 46 v1) (h1 : DataW.Trod enc Tryz.prog W 0 (fun _ => true) true 46 v1 d1 p1) :
    Calls Tryz.prog 5 #[Value.int .i64 n0, v1] W fun e W' => e = .returned (.bool true) ∧ Stays W W' := by
  obtain ⟨cd, hb⟩ := buildAutos_body
  have tab := tables buildAutos_plain buildAutos_asciiIn hL
  rcases open_boolslice buildAutos_uSl buildAutos_uBool buildAutos_cBool (okWide_slice buildAutos_uSl hval) h1 with rfl | ⟨A, c, rfl⟩ | ⟨b, off, len, cap, arr, ty, fz, l, rfl, h0, hle, hblk, hsz, hll, hcs⟩
  · exact top_run follows nameOK hkBok buildAutos_fn hb tblIn (args := .cons (.i .i64 n0) (.cons .sn .nil)) ⟨_, _, rfl, by simp [VR], _, _, rfl, by simp [VR], rfl⟩ (ba_allsn n0) tab
  · exact top_run follows nameOK hkBok buildAutos_fn hb tblIn (args := .cons (.i .i64 n0) (.cons .se .nil)) ⟨_, _, rfl, by simp [VR], _, _, rfl, by simp [VR], rfl⟩ (ba_allse n0) tab
  · subst hll
    obtain ⟨arr', ty', t1, t2⟩ := tableCells buildAutos_plain buildAutos_asciiIn hL
    have hap := bools_apart t1 t2 hblk hcs h0
    have hsl : VR (fun i => if i = 12 then some ⟨b, off, arr.size⟩ else none) (.sl 12 0 l.length 1) (.slice (some ⟨b, off, none⟩) l.length cap) := by
      simp only [VR]
      exact ⟨⟨b, off, arr.size⟩, cap, rfl, hle, by show off + 0 + cap * 1 ≤ arr.size; omega, rfl⟩
    exact top_run_sl follows nameOK hkBok buildAutos_fn hb (args := .cons (.i .i64 n0) (.cons (.sl 12 0 l.length 1) .nil)) tblIn (plain_boolsV l) hblk (by omega) (CR_boolsV hcs)
      (fun p hp => by rw [tblEq] at hp; obtain rfl := List.mem_singleton.1 hp; exact hap) ⟨_, _, rfl, by simp [VR], _, _, rfl, hsl, rfl⟩ (ba_allsl n0 l h0) tab
theorem buildAutos_lifted (os : Os) (started : os.Started) (H : Type) (enc : TypeId × Value → H) :
    ReturnsInHanded {} Tryz.checked os 5 .any (fun w args => (Rows.buildAutosSpec.pre enc Tryz.prog Tryz.f5 Rows.buildAutosRow.domain false w args ∧ laidMetH Tryz.prog buildAutos_lst w) ∧ sizedMet enc Tryz.prog Tryz.f5 (OpenSpec.ofChange Rows.buildAutosSpec) false w args)
      (Rows.buildAutosSpec.post enc Tryz.prog Tryz.f5 false true false false) := by
  refine returnsInHanded_of_change_and (C := Tryz.checked) (X := fun w _ => laidMetH Tryz.prog buildAutos_lst w) (fun _ _ _ hh h => h.of_heap hh) own started buildAutos_noInit buildAutos_fn
    (ChangeSpec.witness_shaped (enc := enc) (C := Tryz.checked) (os := os) (X := fun w _ => laidMetH Tryz.prog buildAutos_lst w) false (World.laidAll Tryz.prog os buildAutos_lst) #[.int .i64 (-1), .slice none 0 0] 8 (World.laidAll_os _ _ _)
      (World.shaped_of_ZipB (buildAutos_zip1 os) (buildAutos_zip2 os)) (buildAutos_okB os) (buildAutos_preB os H enc) (buildAutos_szB os H enc)
      (by rw [MakeChecks.laidMetH_plain _ _ _ buildAutos_plain]; exact laidMet_laidAll _ (buildAutos_fits os) (buildAutos_ifaces os))) ?_
  intro W base args ds gs before hval0 hW _ _ hL _
  have hval : ∀ (j : Nat) t v, Tryz.f5.params[j]? = some t → args[j]? = some v → Value.okWide Tryz.prog W .any base t v := hval0
  have hW' := hW
  obtain ⟨p, q, hA0, hV, rfl, _, _⟩ := hW
  have hA : DataW.TrodAll enc Tryz.prog W 0 (fun _ => true) true Tryz.f5.params.toList args.toList ds p := hA0
  rw [buildAutos_params] at hA hval
  obtain ⟨v0, v1, d0, d1, p0, p1, rfl, rfl, rfl, h0, h1⟩ := trodAll_two hA
  obtain ⟨rfl, rfl⟩ := trodVars_none hV
  obtain ⟨n0, rfl, rfl, rfl, hw0⟩ := open_int buildAutos_uInt (hval 0 3 v0 rfl rfl) h0
  refine (buildAutos_calls (n0 := n0) hL (hval 1 46 v1 rfl rfl) h1).mono fun e W' ⟨he, hs⟩ => ?_
  refine ⟨_, he, _, _, _, [], [] ++ p1, [], hW', ?_, ?_, ?_, hs.keptBut _, fun h => by cases h⟩
  · rw [buildAutos_results]
    exact trodAll_mk1 (shut_bool buildAutos_uBool true)
  · rw [buildAutos_params]
    exact trodAll_mk2 (shut_int buildAutos_uInt hw0) (Below.trod laidOut_ok buildAutos_slR buildAutos_slT h1 hs.below (fun y hy => hW'.lt y (by simp [hy])))
  · rfl
theorem buildAutos_named1 : Tryz.pinned.checked.prog.funcNamed Rows.buildAutosRow.func = some 5 := by kernel_rfl
theorem buildAutos_wrapper : Tryz.f5.isWrapper Tryz.pinned.checked.prog Rows.buildAutosRow.wrapper Rows.buildAutosRow.mainSum := by unfold Func.isWrapper; first | (rw [if_pos (by decide +kernel)]; kernel_rfl) | (rw [if_neg (by decide +kernel)]; exact ⟨rfl, rfl⟩)
theorem buildAutos_inst : Tryz.f5.isInstance Tryz.pinned.checked.prog Rows.buildAutosRow.origin Rows.buildAutosRow.targs := of_decide_eq_true (by kernel_rfl)
theorem buildAutos_holds : Rows.BuildAutosSaid :=
  OpenClaim.holds_of_wide 5 Tryz.f5 rfl rfl rfl rfl rfl rfl rfl ⟨rfl, rfl, rfl, rfl, rfl⟩ rfl rfl rfl rfl rfl buildAutos_named1 buildAutos_fn buildAutos_closed buildAutos_inst buildAutos_wrapper
    (fun os started H enc _ => buildAutos_lifted os started H enc)
end
end Go.Proofs.YtepcbpcbmkikeaaGreatDoor
