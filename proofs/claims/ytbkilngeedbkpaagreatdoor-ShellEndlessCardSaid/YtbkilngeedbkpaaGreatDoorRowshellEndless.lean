/-
  The row of shellEndless: for every input the law returns true.
-/
import Derived.Test.YtbkilngeedbkpaaGreatDoorRunshellEndless
import Derived.Test.YtbkilngeedbkpaaGreatDoorXRowK6
import Derived.OpenShut
import Derived.Carry
import Derived.Lay
open Go Go.Mx Go.ChangeShapes Go.WideShapes Go.RowKit
namespace Go.Proofs.YtbkilngeedbkpaaGreatDoor
set_option maxRecDepth 1000000
noncomputable section
def shellEndless_L : List Nat := [3, 6, 8, 7, 18, 37, 65, 98, 86, 139, 198, 99, 100, 101, 156, 102, 157, 54, 79, 158, 103, 159, 227, 160, 161, 229, 228, 230, 290, 231, 291, 351, 352, 387, 294, 68, 113, 114, 353, 162, 292, 293, 354, 66, 104, 105, 163, 232, 236, 107, 164, 233, 295, 235, 296, 234, 297, 298, 199, 357, 398, 434, 435, 146, 213, 299, 108, 167, 355, 388, 106, 389, 390, 430, 391, 39, 396, 432, 433, 359, 392, 431, 166, 393, 394, 395, 356, 397, 52, 76, 115, 173, 174, 175, 239, 165, 19, 38, 67, 109, 110, 169, 168, 170, 111, 112, 171, 172, 237, 238, 20, 40, 69, 21, 41, 70, 116, 176, 240, 300, 190, 267, 241, 301, 60, 92, 71, 72, 117, 177, 242, 302, 243, 303, 178, 179, 42, 23, 50, 24, 43, 73, 118, 44, 22, 45, 46, 48, 49, 75, 119, 120, 180, 181, 245, 306, 360, 254, 319, 325, 261, 330, 399, 47, 74, 400, 436, 437, 438, 490, 439, 491, 269, 525, 552, 492, 307, 308, 361, 401, 440, 441, 493, 526, 527, 496, 531, 532, 77, 125, 124, 126, 128, 189, 127, 130, 192, 191, 268, 335, 129, 533, 558, 578, 543, 565, 566, 544, 567, 579, 568, 569, 580, 570, 253, 495, 530, 557, 529, 556, 577, 386, 144, 212, 429, 481, 487, 145, 482, 522, 483, 274, 275, 484, 523, 524, 551, 485, 486, 488, 489, 494, 528, 553, 554, 573, 574, 555, 581, 585, 586, 587, 85, 138, 588, 582, 575, 576, 583, 584, 442, 497, 534, 247, 498, 363, 402, 403, 443, 404, 535, 536, 425, 478, 537, 499, 310, 362, 309, 244, 304, 305, 358, 246, 311, 312, 313, 315, 365, 407, 446, 447, 500, 448, 449, 501, 502, 538, 450, 451, 452, 453, 366, 91, 314, 364, 318, 405, 80, 444, 286, 349, 384, 350, 406, 445, 317, 316, 367, 182, 183, 248, 56, 11, 25, 27, 51, 26, 184, 249, 250, 320, 185, 251, 252, 321, 368, 322, 369, 370, 408, 371, 372, 373, 374, 409, 375, 410, 376, 377, 378, 323, 379, 411, 412, 413, 454, 414, 455, 456, 457, 460, 415, 459, 458, 503, 416, 461, 462, 504, 417, 463, 505, 539, 559, 418, 464, 465, 289, 419, 466, 467, 506, 468, 420, 469, 421, 470, 284, 422, 471, 507, 540, 541, 560, 561, 542, 562, 282, 563, 194, 270, 564, 472, 473, 423, 424, 474, 508, 509, 510, 514, 511, 515, 545, 512, 513, 475, 516, 476, 477, 517, 546, 518, 547, 548, 519, 520, 549, 521, 550, 571, 572, 337, 324, 186, 255, 256, 257, 121, 122, 123, 187, 188, 258, 259, 328, 326, 327, 260, 329, 262, 263, 264, 331, 332, 265, 333, 266, 334, 380, 9]
theorem shellEndless_clos : Tryz.prog.closure 3 = shellEndless_L := closure_by_table Tryz.prog tabT_all (by kernel_rfl)
theorem shellEndless_inPlace : Tryz.prog.inPlace 3 = Rows.shellEndlessRow.inPlace := inPlace_by_table Tryz.prog shellEndless_clos tabN_all (by kernel_rfl)
theorem shellEndless_named : Tryz.prog.varsNamed 3 = Rows.shellEndlessRow.named := varsNamed_by_table Tryz.prog shellEndless_clos tabG_all tabE_all (by kernel_rfl)
theorem shellEndless_unf : Tryz.prog.unfollowed 3 = true := by
  obtain ⟨c, hc⟩ : ∃ c, Tryz.f65.body = some c := ⟨_, rfl⟩
  exact unfollowed_by_table Tryz.prog shellEndless_clos (g := 65) (by kernel_rfl) (fn := Tryz.f65) (by kernel_rfl) hc (by cases hc; kernel_rfl)
theorem shellEndless_k0 : (Rows.shellEndlessRow.wf (OpenSpec.ofChange Rows.shellEndlessSpec)) = true := by kernel_rfl
theorem shellEndless_k3 : (Tryz.f3.params.all (Tryz.pinned.checked.prog.readableRec ·)) = true := by kernel_rfl
theorem shellEndless_k4 : (namedTie Tryz.pinned.checked.prog Rows.shellEndlessRow.named Rows.shellEndlessSpec.vars) = true := by kernel_rfl
theorem shellEndless_k5 : ((Rows.shellEndlessRow.stops == [])) = true := by kernel_rfl
theorem shellEndless_k6 : ((Tryz.pinned.checked.prog.stops == [])) = true := by kernel_rfl
theorem shellEndless_k7 : ((Rows.shellEndlessRow.knobs == [])) = true := by kernel_rfl
theorem shellEndless_k8 : ((Tryz.pinned.checked.prog.stopKnobs == [])) = true := by kernel_rfl
theorem shellEndless_k9 : ((Rows.shellEndlessRow.inPlace == Tryz.pinned.checked.prog.inPlace 3)) = true := beq_iff_eq.2 shellEndless_inPlace.symm
theorem shellEndless_k10 : ((Rows.shellEndlessRow.unfollowed == Tryz.pinned.checked.prog.unfollowed 3)) = true := beq_iff_eq.2 shellEndless_unf.symm
theorem shellEndless_k11 : ((Rows.shellEndlessRow.recurses == Tryz.pinned.checked.prog.recurses 3)) = true := beq_iff_eq.2 (show true = Tryz.prog.recurses 3 by unfold Program.recurses; rw [shellEndless_unf]; rfl)
theorem shellEndless_k12 : ((Rows.shellEndlessRow.named == Tryz.pinned.checked.prog.varsNamed 3)) = true := beq_iff_eq.2 shellEndless_named.symm
theorem shellEndless_k13 : ((Rows.shellEndlessRow.maps == (Tryz.f3.params.toList ++ Rows.shellEndlessSpec.plain.varTypes Tryz.pinned.checked.prog).any (Tryz.pinned.checked.prog.mapsRec ·))) = true := by kernel_rfl
theorem shellEndless_k14 : ((Rows.shellEndlessRow.ifaces == (Tryz.f3.params.toList ++ Rows.shellEndlessSpec.plain.varTypes Tryz.pinned.checked.prog).any (Tryz.pinned.checked.prog.ifacesRec ·))) = true := by kernel_rfl
theorem shellEndless_k15 : ((Rows.shellEndlessRow.mapsOut == Tryz.pinned.checked.prog.mapsAmong Tryz.f3.resultTypes.toList)) = true := by kernel_rfl
theorem shellEndless_k16 : ((Rows.shellEndlessRow.loops == (Tryz.f3.params.toList ++ Rows.shellEndlessSpec.plain.varTypes Tryz.pinned.checked.prog).any (Tryz.pinned.checked.prog.loopsFrom ·))) = true := by kernel_rfl
theorem shellEndless_k17 : ((Rows.shellEndlessRow.wideKeys == (Tryz.f3.params.toList ++ Rows.shellEndlessSpec.plain.varTypes Tryz.pinned.checked.prog ++ Tryz.f3.resultTypes.toList).any (Tryz.pinned.checked.prog.wideKeysFrom ·))) = true := by kernel_rfl
theorem shellEndless_k18 : (Rows.shellEndlessSpec.vars.all (Tryz.pinned.checked.prog.varReadable ·)) = true := by kernel_rfl
theorem shellEndless_k19 : (Tryz.f3.resultTypes.all (fun t => Tryz.pinned.checked.prog.readableRec t && decide (t < Tryz.pinned.checked.prog.types.size))) = true := by kernel_rfl
theorem shellEndless_k20 : ((Rows.shellEndlessRow.ifacesOut == Tryz.f3.resultTypes.toList.any (Tryz.pinned.checked.prog.ifacesRec ·))) = true := by kernel_rfl
theorem shellEndless_k21 : ((Rows.shellEndlessRow.loopsOut == Tryz.f3.resultTypes.toList.any (Tryz.pinned.checked.prog.loopsFrom ·))) = true := by kernel_rfl
theorem shellEndless_k22 : ((Rows.shellEndlessRow.plainKeys == Tryz.pinned.checked.prog.plainKeys)) = true := by kernel_rfl
theorem shellEndless_k23 : (Rows.shellEndlessRow.shortTexts.isNone) = true := by kernel_rfl
theorem shellEndless_k26 : ((Rows.shellEndlessRow.lifted == Tryz.pinned.checked.prog.liftsFinal)) = true := by kernel_rfl
theorem shellEndless_k27 : ((Tryz.pinned.checked.prog.make == some Rows.shellEndlessRow.make)) = true := by kernel_rfl
theorem shellEndless_k28 : ((Rows.shellEndlessRow.kinds == (if Rows.shellEndlessRow.domain.isEmpty then [] else Tryz.f3.params.toList.map fun t => match Tryz.pinned.checked.prog.underlying t with | some (.int k) => some k | _ => none))) = true := by kernel_rfl
theorem shellEndless_k29 : ((Rows.shellEndlessRow.pinned == Rows.shellEndlessRow.pinnedBy)) = true := by kernel_rfl
theorem shellEndless_k30 : ((Rows.shellEndlessRow.veiled == (Tryz.f3.params.toList ++ Rows.shellEndlessSpec.plain.varTypes Tryz.pinned.checked.prog ++ Tryz.f3.resultTypes.toList).any (Tryz.pinned.checked.prog.veiledRec ·))) = true := by kernel_rfl
theorem shellEndless_k31 : (Rows.shellEndlessRow.veiledFits Tryz.pinned.checked.prog Tryz.f3.params.toList (Tryz.f3.params.toList ++ Rows.shellEndlessSpec.plain.varTypes Tryz.pinned.checked.prog ++ Tryz.f3.resultTypes.toList)) = true := by kernel_rfl
theorem shellEndless_closed : joinedFacts Tryz.pinned.checked.prog 3 Tryz.f3 Rows.shellEndlessSpec Rows.shellEndlessRow = true := band (band (band (band (band (band (band (band (band (band (band (band (band (band (band (band (band (band (band (band (band (band (band (band (band (band (band (band (band (band (band (shellEndless_k0) laidOut_ok) mapsRowed_ok) shellEndless_k3) shellEndless_k4) shellEndless_k5) shellEndless_k6) shellEndless_k7) shellEndless_k8) shellEndless_k9) shellEndless_k10) shellEndless_k11) shellEndless_k12) shellEndless_k13) shellEndless_k14) shellEndless_k15) shellEndless_k16) shellEndless_k17) shellEndless_k18) shellEndless_k19) shellEndless_k20) shellEndless_k21) shellEndless_k22) shellEndless_k23) stopsHeard_ok) mayEnter_ok) shellEndless_k26) shellEndless_k27) shellEndless_k28) shellEndless_k29) shellEndless_k30) shellEndless_k31
abbrev shellEndless_lst : List (String × DataW Unit) := Rows.shellEndlessRow.laid
theorem shellEndless_plain : (shellEndless_lst.all fun x => x.2.handleName?.isNone) = true := by kernel_rfl
theorem shellEndless_noInit : Tryz.prog.inits.idxOf? 3 = none := by kernel_rfl
theorem shellEndless_fn : Tryz.prog.funcs[3]? = some Tryz.f3 := by kernel_rfl
theorem shellEndless_zip1 (os : Os) : ((World.laidAll Tryz.prog os shellEndless_lst).forCall (fun _ _ => 0) ⟨#[], #[.int .i64 (-1), .int .i64 0], []⟩).variablesZipB Tryz.prog = true := by kernel_rfl
theorem shellEndless_zip2 (os : Os) : ((((World.laidAll Tryz.prog os shellEndless_lst).forCall (fun _ _ => 0) ⟨#[], #[.int .i64 (-1), .int .i64 0], []⟩).heap.toList.drop Tryz.prog.globals.size).take ((begin Tryz.prog (fun _ _ => 0) default).world.heap.size - Tryz.prog.globals.size) =
      (begin Tryz.prog (fun _ _ => 0) default).world.heap.toList.drop Tryz.prog.globals.size) := by kernel_rfl
theorem shellEndless_fits (os : Os) : (World.holding Tryz.prog os ⟨#[], #[], []⟩).layFits Tryz.prog shellEndless_lst [] = true := by kernel_rfl
theorem shellEndless_ifaces (os : Os) : (World.holding Tryz.prog os ⟨#[], #[], []⟩).layIfaces Tryz.prog shellEndless_lst (World.laidAll Tryz.prog os shellEndless_lst) = true := by kernel_rfl
theorem shellEndless_okB (os : Os) : Input.okWideB Tryz.prog ((World.laidAll Tryz.prog os shellEndless_lst).forCall (fun _ _ => 0) ⟨#[], #[.int .i64 (-1), .int .i64 0], []⟩) 3 ⟨#[], #[.int .i64 (-1), .int .i64 0], []⟩ = true := by kernel_rfl
theorem shellEndless_preB (os : Os) (H : Type) (enc : TypeId × Value → H) : Rows.shellEndlessSpec.preB enc Tryz.prog Tryz.f3 [] false ((World.laidAll Tryz.prog os shellEndless_lst).forCall (fun _ _ => 0) ⟨#[], #[.int .i64 (-1), .int .i64 0], []⟩).memory #[.int .i64 (-1), .int .i64 0] 8 = true := by kernel_rfl
theorem shellEndless_szB (os : Os) (H : Type) (enc : TypeId × Value → H) : Rows.shellEndlessSpec.sizedB enc Tryz.prog Tryz.f3 false ((World.laidAll Tryz.prog os shellEndless_lst).forCall (fun _ _ => 0) ⟨#[], #[.int .i64 (-1), .int .i64 0], []⟩).memory #[.int .i64 (-1), .int .i64 0] 8 = true := by kernel_rfl
theorem shellEndless_asciiIn : ("strings.asciiSpace", DataW.agg (asciiL.map fun x => (DataW.lit (.int .u8 x) : DataW Unit))) ∈ shellEndless_lst := List.mem_iff_getElem?.2 ⟨0, by kernel_rfl⟩
theorem shellEndless_uInt : Tryz.prog.underlying 3 = some (.int .i64) := by kernel_rfl
theorem shellEndless_uBool : Tryz.prog.underlying 4 = some .bool := by kernel_rfl
theorem shellEndless_params : Tryz.f3.params = #[3, 3] := by kernel_rfl
theorem shellEndless_results : Tryz.f3.resultTypes = #[4] := by kernel_rfl
theorem shellEndless_body : ∃ c, Tryz.f3.body = some c := ⟨_, rfl⟩
theorem shellEndless_powIn : ("internal/strconv.uint64pow10", DataW.agg (powL.map fun x => (DataW.lit (.int .u64 x) : DataW Unit))) ∈ shellEndless_lst := List.mem_iff_getElem?.2 ⟨2, by kernel_rfl⟩
theorem shellEndless_lifted (os : Os) (started : os.Started) (H : Type) (enc : TypeId × Value → H) :
    ReturnsInHanded {} Tryz.checked os 3 .any (fun w args => (Rows.shellEndlessSpec.pre enc Tryz.prog Tryz.f3 Rows.shellEndlessRow.domain false w args ∧ laidMetH Tryz.prog shellEndless_lst w) ∧ sizedMet enc Tryz.prog Tryz.f3 (OpenSpec.ofChange Rows.shellEndlessSpec) false w args)
      (Rows.shellEndlessSpec.post enc Tryz.prog Tryz.f3 false true false false) := by
  refine returnsInHanded_of_change_and (C := Tryz.checked) (X := fun w _ => laidMetH Tryz.prog shellEndless_lst w) (fun _ _ _ hh h => h.of_heap hh) own started shellEndless_noInit shellEndless_fn
    (ChangeSpec.witness_shaped (enc := enc) (C := Tryz.checked) (os := os) (X := fun w _ => laidMetH Tryz.prog shellEndless_lst w) false (World.laidAll Tryz.prog os shellEndless_lst) #[.int .i64 (-1), .int .i64 0] 8 (World.laidAll_os _ _ _)
      (World.shaped_of_ZipB (shellEndless_zip1 os) (shellEndless_zip2 os)) (shellEndless_okB os) (shellEndless_preB os H enc) (shellEndless_szB os H enc)
      (by rw [MakeChecks.laidMetH_plain _ _ _ shellEndless_plain]; exact laidMet_laidAll _ (shellEndless_fits os) (shellEndless_ifaces os))) ?_
  intro W base args ds gs before hval0 hW _ _ hL _
  have hval : ∀ (j : Nat) t v, Tryz.f3.params[j]? = some t → args[j]? = some v → Value.okWide Tryz.prog W .any base t v := hval0
  have hW' := hW
  obtain ⟨p, q, hA0, hV, rfl, _, _⟩ := hW
  have hA : DataW.TrodAll enc Tryz.prog W 0 (fun _ => true) true Tryz.f3.params.toList args.toList ds p := hA0
  rw [shellEndless_params] at hA hval
  obtain ⟨v0, v1, d0, d1, p0, p1, rfl, rfl, rfl, h0, h1⟩ := trodAll_two hA
  obtain ⟨rfl, rfl⟩ := trodVars_none hV
  obtain ⟨n0, rfl, rfl, rfl, hw0⟩ := open_int shellEndless_uInt (hval 0 3 v0 rfl rfl) h0
  obtain ⟨n1, rfl, rfl, rfl, hw1⟩ := open_int shellEndless_uInt (hval 1 3 v1 rfl rfl) h1
  refine (xe_calls n0 n1 (tables shellEndless_plain shellEndless_asciiIn shellEndless_powIn hL)).mono fun e W' ⟨he, hs⟩ => ?_
  refine ⟨_, he, _, _, _, [], [], [], hW', ?_, ?_, ?_, hs.keptBut _, fun h => by cases h⟩
  · rw [shellEndless_results]
    exact trodAll_mk1 (shut_bool shellEndless_uBool true)
  · rw [shellEndless_params]
    exact trodAll_mk2 (shut_int shellEndless_uInt hw0) (shut_int shellEndless_uInt hw1)
  · rfl
theorem shellEndless_named1 : Tryz.pinned.checked.prog.funcNamed Rows.shellEndlessRow.func = some 3 := by kernel_rfl
theorem shellEndless_wrapper : Tryz.f3.isWrapper Tryz.pinned.checked.prog Rows.shellEndlessRow.wrapper Rows.shellEndlessRow.mainSum := by unfold Func.isWrapper; first | (rw [if_pos (by decide +kernel)]; kernel_rfl) | (rw [if_neg (by decide +kernel)]; exact ⟨rfl, rfl⟩)
theorem shellEndless_inst : Tryz.f3.isInstance Tryz.pinned.checked.prog Rows.shellEndlessRow.origin Rows.shellEndlessRow.targs := of_decide_eq_true (by kernel_rfl)
theorem shellEndless_holds : Rows.ShellEndlessSaid :=
  OpenClaim.holds_of_wide 3 Tryz.f3 rfl rfl rfl rfl rfl rfl rfl ⟨rfl, rfl, rfl, rfl, rfl⟩ rfl rfl rfl rfl rfl shellEndless_named1 shellEndless_fn shellEndless_closed shellEndless_inst shellEndless_wrapper
    (fun os started H enc _ => shellEndless_lifted os started H enc)
end
end Go.Proofs.YtbkilngeedbkpaaGreatDoor
