/-
  The row of quartermasterFiles: for every input the law returns true.
-/
import Derived.Test.YtdkpggfooahnnaaGreatDoorRunquartermasterFiles
import Derived.Test.YtdkpggfooahnnaaGreatDoorXRowK6
import Derived.OpenShut
import Derived.Carry
import Derived.Lay
open Go Go.Mx Go.ChangeShapes Go.WideShapes Go.RowKit
namespace Go.Proofs.YtdkpggfooahnnaaGreatDoor
set_option maxRecDepth 1000000
noncomputable section
def quartermasterFiles_L : List Nat := [4, 6, 7, 10, 17, 37, 58, 92, 93, 139, 59, 94, 60, 95, 140, 192, 141, 142, 143, 193, 11, 18, 38, 61, 96, 97, 145, 144, 146, 98, 99, 147, 148, 194, 195, 12, 13, 19, 31, 53, 82, 81, 129, 130, 186, 52, 15, 54, 20, 21, 41, 40, 62, 100, 107, 149, 104, 153, 121, 32, 150, 151, 101, 63, 64, 66, 102, 65, 39, 35, 22, 42, 23, 43, 67, 68, 103, 152, 196, 105, 155, 206, 154, 197, 203, 227, 198, 248, 199, 249, 250, 200, 251, 252, 299, 201, 202, 204, 205, 24, 44, 25, 45, 69, 46, 26, 47, 27, 48, 51, 80, 127, 175, 167, 176, 177, 178, 233, 179, 234, 235, 180, 236, 289, 237, 238, 291, 290, 292, 342, 293, 343, 396, 397, 437, 346, 156, 207, 208, 398, 239, 344, 345, 399, 128, 181, 182, 240, 294, 298, 184, 241, 295, 347, 297, 348, 296, 349, 350, 267, 402, 448, 485, 486, 34, 55, 351, 185, 244, 400, 438, 183, 439, 440, 481, 441, 106, 446, 483, 484, 404, 442, 482, 243, 443, 444, 445, 401, 447, 115, 160, 242, 70, 71, 108, 109, 157, 209, 110, 72, 111, 113, 114, 159, 210, 211, 253, 254, 301, 354, 405, 310, 367, 373, 317, 378, 449, 112, 158, 450, 487, 488, 489, 531, 490, 532, 188, 563, 585, 533, 355, 356, 406, 451, 491, 492, 534, 564, 537, 568, 569, 56, 84, 83, 85, 87, 131, 86, 89, 133, 132, 187, 245, 88, 57, 90, 134, 189, 246, 247, 91, 135, 190, 136, 137, 191, 138, 309, 536, 567, 590, 566, 589, 603, 535, 565, 586, 587, 599, 600, 588, 604, 608, 609, 610, 166, 222, 611, 605, 601, 602, 606, 607, 493, 538, 570, 303, 539, 408, 452, 453, 494, 454, 571, 572, 475, 528, 573, 540, 358, 407, 357, 300, 352, 353, 403, 302, 359, 360, 361, 363, 410, 457, 497, 498, 541, 499, 500, 542, 543, 574, 501, 502, 503, 504, 411, 172, 362, 409, 366, 455, 495, 456, 496, 365, 364, 412, 255, 256, 304, 257, 305, 306, 368, 258, 307, 308, 369, 413, 370, 414, 415, 458, 416, 417, 418, 419, 459, 420, 460, 421, 422, 423, 371, 424, 461, 462, 463, 505, 464, 506, 507, 508, 511, 465, 510, 509, 544, 466, 512, 513, 545, 467, 514, 546, 575, 591, 468, 515, 516, 469, 517, 547, 518, 470, 519, 471, 520, 472, 521, 548, 576, 577, 592, 593, 578, 594, 391, 595, 263, 323, 596, 522, 523, 473, 474, 524, 549, 550, 551, 555, 552, 556, 579, 553, 554, 525, 557, 526, 527, 558, 580, 559, 581, 582, 560, 561, 583, 562, 584, 597, 598, 384, 372, 259, 311, 312, 313, 212, 213, 214, 260, 261, 314, 315, 376, 374, 375, 316, 377, 318, 319, 320, 379, 380, 321, 381, 322, 382, 425, 49, 28, 50, 73, 116, 161, 117, 74, 75, 76, 118, 119, 162, 215, 216, 262, 264, 218, 219, 217, 163, 164, 165, 221, 120, 170, 226, 272, 273, 326, 274, 275, 327, 328, 386, 276, 277, 278, 279, 171, 266, 324, 325, 383, 385, 426, 427, 476, 477, 529, 478, 223, 268, 270, 530, 433, 428, 429, 220, 265, 168, 169, 224, 269, 225, 271, 77, 122, 79, 126, 78, 123, 124, 173, 228, 280, 281, 284, 282, 329, 330, 331, 332, 387, 388, 389, 430, 479, 434, 431, 390, 432, 283, 230, 285, 286, 333, 334, 392, 436, 435, 480, 335, 336, 287, 337, 229, 338, 339, 393, 340, 394, 341, 395, 125, 174, 231, 288, 232, 29, 14, 30, 33, 36, 8, 9, 16]
theorem quartermasterFiles_clos : Tryz.prog.closure 4 = quartermasterFiles_L := closure_by_table Tryz.prog tabT_all (by kernel_rfl)
theorem quartermasterFiles_inPlace : Tryz.prog.inPlace 4 = Rows.quartermasterFilesRow.inPlace := inPlace_by_table Tryz.prog quartermasterFiles_clos tabN_all (by kernel_rfl)
theorem quartermasterFiles_named : Tryz.prog.varsNamed 4 = Rows.quartermasterFilesRow.named := varsNamed_by_table Tryz.prog quartermasterFiles_clos tabG_all tabE_all (by kernel_rfl)
theorem quartermasterFiles_unf : Tryz.prog.unfollowed 4 = true := by
  obtain ⟨c, hc⟩ : ∃ c, Tryz.f32.body = some c := ⟨_, rfl⟩
  exact unfollowed_by_table Tryz.prog quartermasterFiles_clos (g := 32) (by kernel_rfl) (fn := Tryz.f32) (by kernel_rfl) hc (by cases hc; kernel_rfl)
theorem quartermasterFiles_k0 : (Rows.quartermasterFilesRow.wf (OpenSpec.ofChange Rows.quartermasterFilesSpec)) = true := by kernel_rfl
theorem quartermasterFiles_k3 : (Tryz.f4.params.all (Tryz.pinned.checked.prog.readableRec ·)) = true := by kernel_rfl
theorem quartermasterFiles_k4 : (namedTie Tryz.pinned.checked.prog Rows.quartermasterFilesRow.named Rows.quartermasterFilesSpec.vars) = true := by kernel_rfl
theorem quartermasterFiles_k5 : ((Rows.quartermasterFilesRow.stops == [])) = true := by kernel_rfl
theorem quartermasterFiles_k6 : ((Tryz.pinned.checked.prog.stops == [])) = true := by kernel_rfl
theorem quartermasterFiles_k7 : ((Rows.quartermasterFilesRow.knobs == [])) = true := by kernel_rfl
theorem quartermasterFiles_k8 : ((Tryz.pinned.checked.prog.stopKnobs == [])) = true := by kernel_rfl
theorem quartermasterFiles_k9 : ((Rows.quartermasterFilesRow.inPlace == Tryz.pinned.checked.prog.inPlace 4)) = true := beq_iff_eq.2 quartermasterFiles_inPlace.symm
theorem quartermasterFiles_k10 : ((Rows.quartermasterFilesRow.unfollowed == Tryz.pinned.checked.prog.unfollowed 4)) = true := beq_iff_eq.2 quartermasterFiles_unf.symm
theorem quartermasterFiles_k11 : ((Rows.quartermasterFilesRow.recurses == Tryz.pinned.checked.prog.recurses 4)) = true := beq_iff_eq.2 (show true = Tryz.prog.recurses 4 by unfold Program.recurses; rw [quartermasterFiles_unf]; rfl)
theorem quartermasterFiles_k12 : ((Rows.quartermasterFilesRow.named == Tryz.pinned.checked.prog.varsNamed 4)) = true := beq_iff_eq.2 quartermasterFiles_named.symm
theorem quartermasterFiles_k13 : ((Rows.quartermasterFilesRow.maps == (Tryz.f4.params.toList ++ Rows.quartermasterFilesSpec.plain.varTypes Tryz.pinned.checked.prog).any (Tryz.pinned.checked.prog.mapsRec ·))) = true := by kernel_rfl
theorem quartermasterFiles_k14 : ((Rows.quartermasterFilesRow.ifaces == (Tryz.f4.params.toList ++ Rows.quartermasterFilesSpec.plain.varTypes Tryz.pinned.checked.prog).any (Tryz.pinned.checked.prog.ifacesRec ·))) = true := by kernel_rfl
theorem quartermasterFiles_k15 : ((Rows.quartermasterFilesRow.mapsOut == Tryz.pinned.checked.prog.mapsAmong Tryz.f4.resultTypes.toList)) = true := by kernel_rfl
theorem quartermasterFiles_k16 : ((Rows.quartermasterFilesRow.loops == (Tryz.f4.params.toList ++ Rows.quartermasterFilesSpec.plain.varTypes Tryz.pinned.checked.prog).any (Tryz.pinned.checked.prog.loopsFrom ·))) = true := by kernel_rfl
theorem quartermasterFiles_k17 : ((Rows.quartermasterFilesRow.wideKeys == (Tryz.f4.params.toList ++ Rows.quartermasterFilesSpec.plain.varTypes Tryz.pinned.checked.prog ++ Tryz.f4.resultTypes.toList).any (Tryz.pinned.checked.prog.wideKeysFrom ·))) = true := by kernel_rfl
theorem quartermasterFiles_k18 : (Rows.quartermasterFilesSpec.vars.all (Tryz.pinned.checked.prog.varReadable ·)) = true := by kernel_rfl
theorem quartermasterFiles_k19 : (Tryz.f4.resultTypes.all (fun t => Tryz.pinned.checked.prog.readableRec t && decide (t < Tryz.pinned.checked.prog.types.size))) = true := by kernel_rfl
theorem quartermasterFiles_k20 : ((Rows.quartermasterFilesRow.ifacesOut == Tryz.f4.resultTypes.toList.any (Tryz.pinned.checked.prog.ifacesRec ·))) = true := by kernel_rfl
theorem quartermasterFiles_k21 : ((Rows.quartermasterFilesRow.loopsOut == Tryz.f4.resultTypes.toList.any (Tryz.pinned.checked.prog.loopsFrom ·))) = true := by kernel_rfl
theorem quartermasterFiles_k22 : ((Rows.quartermasterFilesRow.plainKeys == Tryz.pinned.checked.prog.plainKeys)) = true := by kernel_rfl
theorem quartermasterFiles_k23 : (Rows.quartermasterFilesRow.shortTexts.isNone) = true := by kernel_rfl
theorem quartermasterFiles_k26 : ((Rows.quartermasterFilesRow.lifted == Tryz.pinned.checked.prog.liftsFinal)) = true := by kernel_rfl
theorem quartermasterFiles_k27 : ((Tryz.pinned.checked.prog.make == some Rows.quartermasterFilesRow.make)) = true := by kernel_rfl
theorem quartermasterFiles_k28 : ((Rows.quartermasterFilesRow.kinds == (if Rows.quartermasterFilesRow.domain.isEmpty then [] else Tryz.f4.params.toList.map fun t => match Tryz.pinned.checked.prog.underlying t with | some (.int k) => some k | _ => none))) = true := by kernel_rfl
theorem quartermasterFiles_k29 : ((Rows.quartermasterFilesRow.pinned == Rows.quartermasterFilesRow.pinnedBy)) = true := by kernel_rfl
theorem quartermasterFiles_k30 : ((Rows.quartermasterFilesRow.veiled == (Tryz.f4.params.toList ++ Rows.quartermasterFilesSpec.plain.varTypes Tryz.pinned.checked.prog ++ Tryz.f4.resultTypes.toList).any (Tryz.pinned.checked.prog.veiledRec ·))) = true := by kernel_rfl
theorem quartermasterFiles_k31 : (Rows.quartermasterFilesRow.veiledFits Tryz.pinned.checked.prog Tryz.f4.params.toList (Tryz.f4.params.toList ++ Rows.quartermasterFilesSpec.plain.varTypes Tryz.pinned.checked.prog ++ Tryz.f4.resultTypes.toList)) = true := by kernel_rfl
theorem quartermasterFiles_closed : joinedFacts Tryz.pinned.checked.prog 4 Tryz.f4 Rows.quartermasterFilesSpec Rows.quartermasterFilesRow = true := band (band (band (band (band (band (band (band (band (band (band (band (band (band (band (band (band (band (band (band (band (band (band (band (band (band (band (band (band (band (band (quartermasterFiles_k0) laidOut_ok) mapsRowed_ok) quartermasterFiles_k3) quartermasterFiles_k4) quartermasterFiles_k5) quartermasterFiles_k6) quartermasterFiles_k7) quartermasterFiles_k8) quartermasterFiles_k9) quartermasterFiles_k10) quartermasterFiles_k11) quartermasterFiles_k12) quartermasterFiles_k13) quartermasterFiles_k14) quartermasterFiles_k15) quartermasterFiles_k16) quartermasterFiles_k17) quartermasterFiles_k18) quartermasterFiles_k19) quartermasterFiles_k20) quartermasterFiles_k21) quartermasterFiles_k22) quartermasterFiles_k23) stopsHeard_ok) mayEnter_ok) quartermasterFiles_k26) quartermasterFiles_k27) quartermasterFiles_k28) quartermasterFiles_k29) quartermasterFiles_k30) quartermasterFiles_k31
abbrev quartermasterFiles_lst : List (String × DataW Unit) := Rows.quartermasterFilesRow.laid
theorem quartermasterFiles_plain : (quartermasterFiles_lst.all fun x => x.2.handleName?.isNone) = true := by kernel_rfl
theorem quartermasterFiles_noInit : Tryz.prog.inits.idxOf? 4 = none := by kernel_rfl
theorem quartermasterFiles_fn : Tryz.prog.funcs[4]? = some Tryz.f4 := by kernel_rfl
theorem quartermasterFiles_zip1 (os : Os) : ((World.laidAll Tryz.prog os quartermasterFiles_lst).forCall (fun _ _ => 0) ⟨#[], #[.slice none 0 0], []⟩).variablesZipB Tryz.prog = true := by kernel_rfl
theorem quartermasterFiles_zip2 (os : Os) : ((((World.laidAll Tryz.prog os quartermasterFiles_lst).forCall (fun _ _ => 0) ⟨#[], #[.slice none 0 0], []⟩).heap.toList.drop Tryz.prog.globals.size).take ((begin Tryz.prog (fun _ _ => 0) default).world.heap.size - Tryz.prog.globals.size) =
      (begin Tryz.prog (fun _ _ => 0) default).world.heap.toList.drop Tryz.prog.globals.size) := by kernel_rfl
theorem quartermasterFiles_fits (os : Os) : (World.holding Tryz.prog os ⟨#[], #[], []⟩).layFits Tryz.prog quartermasterFiles_lst [] = true := by kernel_rfl
theorem quartermasterFiles_ifaces (os : Os) : (World.holding Tryz.prog os ⟨#[], #[], []⟩).layIfaces Tryz.prog quartermasterFiles_lst (World.laidAll Tryz.prog os quartermasterFiles_lst) = true := by kernel_rfl
theorem quartermasterFiles_okB (os : Os) : Input.okWideB Tryz.prog ((World.laidAll Tryz.prog os quartermasterFiles_lst).forCall (fun _ _ => 0) ⟨#[], #[.slice none 0 0], []⟩) 4 ⟨#[], #[.slice none 0 0], []⟩ = true := by kernel_rfl
theorem quartermasterFiles_preB (os : Os) (H : Type) (enc : TypeId × Value → H) : Rows.quartermasterFilesSpec.preB enc Tryz.prog Tryz.f4 [] false ((World.laidAll Tryz.prog os quartermasterFiles_lst).forCall (fun _ _ => 0) ⟨#[], #[.slice none 0 0], []⟩).memory #[.slice none 0 0] 8 = true := by kernel_rfl
theorem quartermasterFiles_szB (os : Os) (H : Type) (enc : TypeId × Value → H) : Rows.quartermasterFilesSpec.sizedB enc Tryz.prog Tryz.f4 false ((World.laidAll Tryz.prog os quartermasterFiles_lst).forCall (fun _ _ => 0) ⟨#[], #[.slice none 0 0], []⟩).memory #[.slice none 0 0] 8 = true := by kernel_rfl
theorem quartermasterFiles_asciiIn : ("strings.asciiSpace", DataW.agg (asciiL.map fun x => (DataW.lit (.int .u8 x) : DataW Unit))) ∈ quartermasterFiles_lst := List.mem_iff_getElem?.2 ⟨5, by kernel_rfl⟩
theorem quartermasterFiles_uInt : Tryz.prog.underlying 3 = some (.int .i64) := by kernel_rfl
theorem quartermasterFiles_uBool : Tryz.prog.underlying 4 = some .bool := by kernel_rfl
theorem quartermasterFiles_params : Tryz.f4.params = #[26] := by kernel_rfl
theorem quartermasterFiles_results : Tryz.f4.resultTypes = #[4] := by kernel_rfl
theorem quartermasterFiles_body : ∃ c, Tryz.f4.body = some c := ⟨_, rfl⟩
theorem quartermasterFiles_powIn : ("internal/strconv.uint64pow10", DataW.agg (powL.map fun x => (DataW.lit (.int .u64 x) : DataW Unit))) ∈ quartermasterFiles_lst := List.mem_iff_getElem?.2 ⟨2, by kernel_rfl⟩
theorem quartermasterFiles_stU : Tryz.prog.underlying 26 = some (.slice 9) := by kernel_rfl
theorem quartermasterFiles_stE : Tryz.prog.underlying 9 = some .string := by kernel_rfl
theorem quartermasterFiles_stC : Tryz.prog.cellsOf 9 = 1 := by kernel_rfl
theorem quartermasterFiles_stR : Tryz.pinned.checked.prog.readableRec 26 = true := by kernel_rfl
theorem quartermasterFiles_stT : 26 < Tryz.pinned.checked.prog.types.size := of_decide_eq_true (by kernel_rfl)
theorem quartermasterFiles_calls {H : Type} {encH : TypeId × Value → H} {W : World} {v0 : Value} {d0 : DataW H} {p0 : List MemPlace} (hL : laidMetH Tryz.prog quartermasterFiles_lst W) (hval : Value.okWide Tryz.prog W .any 0 26 v0) (h0 : DataW.Trod encH Tryz.prog W 0 (fun _ => true) true 26 v0 d0 p0) :
    Calls Tryz.prog 4 #[v0] W fun e W' => e = .returned (.bool true) ∧ Stays W W' := by
  obtain ⟨cd, hb⟩ := xy_body
  have tab := tables quartermasterFiles_plain quartermasterFiles_asciiIn quartermasterFiles_powIn hL
  have atN : ∀ vals : List Nat, atomsR 13 vals 12 = none := fun vals => by unfold atomsR; rw [if_pos (by omega)]
  have go0 : ∀ (x : V), VR (atomsR 13 []) x v0 → (∀ τ, xyRun τ x .nil 0 = true) → Calls Tryz.prog 4 #[v0] W fun e W' => e = .returned (.bool true) ∧ Stays W W' := fun x hx hrun =>
    top_run_k nameOK rY xy_fn hb tblIn (args := .cons x .nil) (ob := [(12, .c .nil 0 false)]) (nx := 73) (by omega) (ρa := atomsR 13 []) (fun i L h => by
      unfold atomsR at h
      split at h
      · cases h
      · simp at h) (none_ob2 (by omega) (atN [])) (by simp only [VRs]; exact ⟨_, _, rfl, hx, rfl⟩) hrun tab
  rcases open_strslice quartermasterFiles_stU quartermasterFiles_stE quartermasterFiles_stC (okWide_slice quartermasterFiles_stU hval) h0 with rfl | ⟨A, c, rfl⟩ | ⟨b, off, cap, arr, ty, fz, l, rfl, h1, hle, hblk, hsz, hcs, hmx⟩
  · exact go0 .sn (by simp [VR]) (xy_s 0)
  · exact go0 .se (by simp [VR]) (xy_e 0)
  have hoff : off ≤ arr.size := by omega
  have hcs2 : arr.toList.drop off = l.map Value.string ++ (arr.toList.drop off).drop l.length := by rw [← hcs, List.take_append_drop]
  have go : ∀ (vals : List Nat) (lx : V) (vs rest : List Value), vals.length ≤ 60 → l.map Value.string = vs ++ rest → VRs (strsR 12 b off arr.size vals) lx vs → (∀ τ, xyRun τ (.sl 12 0 l.length 1) lx ty = true) → Calls Tryz.prog 4 #[.slice (some ⟨b, off, none⟩) l.length cap] W fun e W' => e = .returned (.bool true) ∧ Stays W W' := fun vals lx vs rest hlen hr hl hrun =>
    top_run_k nameOK rY xy_fn hb tblIn (args := .cons (.sl 12 0 l.length 1) .nil) (nx := 73) (by omega) (fun i L h => by have := strsR_in i L h; omega) (strs_ob (by omega) hblk hoff (by rw [hcs2, hr, List.append_assoc]) hl) (by simp only [VRs]; exact ⟨_, _, rfl, strs_V hle hsz, rfl⟩) hrun tab
  by_cases hn : l.length ≤ 20
  rotate_left
  · obtain ⟨m, hm⟩ : ∃ m, l.length = m + 21 := ⟨l.length - 21, by omega⟩
    exact go [] .nil [] (l.map Value.string) (by simp) rfl (by simp [VRs]) fun τ => by rw [hm]; exact xy_many m ty τ
  rcases lsG_case line_case l hmx with ⟨ws, hws, hl⟩ | ⟨j, c, ws, hj, hc, hws, hl⟩
  · have hword := hl (strsR 12 b off arr.size ws) 13 fun k x hk => strsR_at (ng := 12) (j := k) hk
    cases l with
    | nil => simp at h1
    | cons s0 r =>
      have hw2 : VRs (strsR 12 b off arr.size ws) (.cons (gdL 13) (lsG gdL (fun _ => .nil) r.length (13 + 3) r.length)) (.string s0 :: r.map Value.string) := hword
      simp only [VRs] at hw2
      obtain ⟨y, ys, e1, e2, e3⟩ := hw2
      injection e1 with e1 e4
      subst e1
      subst e4
      obtain ⟨e, he⟩ := gdL_split e2
      exact go ws (.cons (gdE e 13) (lsG gdL (fun _ => .nil) r.length (13 + 3) r.length)) (.string s0 :: r.map Value.string) [] (by simp at hws hn ⊢; omega) (by simp) (by simp only [VRs]; exact ⟨_, _, rfl, he, e3⟩) (xy_g r.length e (by simp at hn; omega) ty)
  · exact go ws _ _ [] (by omega) (by simp) (hl _ 13 fun k x hk => strsR_at (ng := 12) (j := k) hk) (xy_b l.length j c hn hj hc ty)
theorem quartermasterFiles_lifted (os : Os) (started : os.Started) (H : Type) (enc : TypeId × Value → H) :
    ReturnsInHanded {} Tryz.checked os 4 .any (fun w args => (Rows.quartermasterFilesSpec.pre enc Tryz.prog Tryz.f4 Rows.quartermasterFilesRow.domain false w args ∧ laidMetH Tryz.prog quartermasterFiles_lst w) ∧ sizedMet enc Tryz.prog Tryz.f4 (OpenSpec.ofChange Rows.quartermasterFilesSpec) false w args)
      (Rows.quartermasterFilesSpec.post enc Tryz.prog Tryz.f4 false true false false) := by
  refine returnsInHanded_of_change_and (C := Tryz.checked) (X := fun w _ => laidMetH Tryz.prog quartermasterFiles_lst w) (fun _ _ _ hh h => h.of_heap hh) own started quartermasterFiles_noInit quartermasterFiles_fn
    (ChangeSpec.witness_shaped (enc := enc) (C := Tryz.checked) (os := os) (X := fun w _ => laidMetH Tryz.prog quartermasterFiles_lst w) false (World.laidAll Tryz.prog os quartermasterFiles_lst) #[.slice none 0 0] 8 (World.laidAll_os _ _ _)
      (World.shaped_of_ZipB (quartermasterFiles_zip1 os) (quartermasterFiles_zip2 os)) (quartermasterFiles_okB os) (quartermasterFiles_preB os H enc) (quartermasterFiles_szB os H enc)
      (by rw [MakeChecks.laidMetH_plain _ _ _ quartermasterFiles_plain]; exact laidMet_laidAll _ (quartermasterFiles_fits os) (quartermasterFiles_ifaces os))) ?_
  intro W base args ds gs before hval0 hW _ _ hL _
  have hval : ∀ (j : Nat) t v, Tryz.f4.params[j]? = some t → args[j]? = some v → Value.okWide Tryz.prog W .any base t v := hval0
  have hW' := hW
  obtain ⟨p, q, hA0, hV, rfl, _, _⟩ := hW
  have hA : DataW.TrodAll enc Tryz.prog W 0 (fun _ => true) true Tryz.f4.params.toList args.toList ds p := hA0
  rw [quartermasterFiles_params] at hA hval
  obtain ⟨v0, d0, rfl, rfl, h0⟩ := trodAll_one hA
  obtain ⟨rfl, rfl⟩ := trodVars_none hV
  refine (quartermasterFiles_calls hL (hval 0 26 v0 rfl rfl) h0).mono fun e W' ⟨he, hs⟩ => ?_
  refine ⟨_, he, _, _, _, [], p, [], hW', ?_, ?_, ?_, hs.keptBut _, fun h => by cases h⟩
  · rw [quartermasterFiles_results]
    exact trodAll_mk1 (shut_bool quartermasterFiles_uBool true)
  · rw [quartermasterFiles_params]
    exact trodAll_mk1 (Below.trod laidOut_ok quartermasterFiles_stR quartermasterFiles_stT h0 hs.below (fun y hy => hW'.lt y (by simp [hy])))
  · rfl
theorem quartermasterFiles_named1 : Tryz.pinned.checked.prog.funcNamed Rows.quartermasterFilesRow.func = some 4 := by kernel_rfl
theorem quartermasterFiles_wrapper : Tryz.f4.isWrapper Tryz.pinned.checked.prog Rows.quartermasterFilesRow.wrapper Rows.quartermasterFilesRow.mainSum := by unfold Func.isWrapper; first | (rw [if_pos (by decide +kernel)]; kernel_rfl) | (rw [if_neg (by decide +kernel)]; exact ⟨rfl, rfl⟩)
theorem quartermasterFiles_inst : Tryz.f4.isInstance Tryz.pinned.checked.prog Rows.quartermasterFilesRow.origin Rows.quartermasterFilesRow.targs := of_decide_eq_true (by kernel_rfl)
theorem quartermasterFiles_holds : Rows.QuartermasterFilesSaid :=
  OpenClaim.holds_of_wide 4 Tryz.f4 rfl rfl rfl rfl rfl rfl rfl ⟨rfl, rfl, rfl, rfl, rfl⟩ rfl rfl rfl rfl rfl quartermasterFiles_named1 quartermasterFiles_fn quartermasterFiles_closed quartermasterFiles_inst quartermasterFiles_wrapper
    (fun os started H enc _ => quartermasterFiles_lifted os started H enc)
end
end Go.Proofs.YtdkpggfooahnnaaGreatDoor
