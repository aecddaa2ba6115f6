/-
  The row of execPipes: for every input the law returns true.
-/
import Derived.Test.YtidfafhlcmfdeaaGreatDoorPRunexecPipes
import Derived.Test.YtidfafhlcmfdeaaGreatDoorPXRowK4
import Derived.OpenShut
import Derived.Carry
import Derived.Lay
open Go Go.Mx Go.ChangeShapes Go.WideShapes Go.RowKit
namespace Go.Proofs.YtidfafhlcmfdeaaGreatDoor
set_option maxRecDepth 1000000
noncomputable section
def execPipes_L : List Nat := [5, 7, 10, 13, 25, 16, 31, 51, 75, 90, 132, 101, 102, 103, 144, 32, 52, 76, 104, 145, 146, 195, 105, 147, 53, 77, 33, 54, 34, 35, 55, 78, 106, 148, 107, 149, 79, 80, 39, 26, 27, 28, 8, 15, 29, 40, 62, 41, 42, 43, 63, 44, 64, 65, 45, 66, 91, 67, 68, 93, 92, 94, 133, 95, 134, 184, 185, 227, 137, 188, 228, 189, 186, 69, 135, 136, 187, 30, 46, 47, 70, 96, 100, 49, 71, 97, 138, 99, 139, 98, 140, 142, 193, 194, 239, 278, 279, 141, 192, 143, 50, 74, 190, 229, 48, 230, 231, 273, 232, 174, 237, 275, 276, 200, 233, 274, 73, 234, 235, 236, 191, 238, 277, 330, 72, 9, 17, 18, 36, 56, 19, 11, 20, 21, 23, 24, 38, 57, 58, 81, 82, 109, 152, 201, 118, 167, 213, 254, 302, 348, 349, 301, 402, 403, 350, 351, 404, 405, 432, 433, 173, 126, 179, 241, 22, 37, 242, 280, 281, 282, 331, 283, 332, 378, 379, 422, 333, 153, 154, 202, 243, 284, 285, 334, 380, 381, 337, 385, 386, 303, 353, 352, 198, 355, 199, 354, 357, 407, 406, 196, 240, 356, 387, 428, 453, 413, 440, 441, 414, 442, 457, 443, 444, 458, 445, 117, 336, 384, 427, 383, 426, 452, 289, 251, 300, 342, 392, 398, 252, 393, 429, 394, 344, 345, 395, 430, 431, 454, 396, 397, 399, 400, 335, 382, 423, 424, 448, 449, 425, 459, 464, 465, 466, 363, 412, 467, 460, 450, 451, 461, 462, 286, 338, 388, 111, 119, 339, 204, 244, 245, 287, 246, 389, 390, 272, 329, 391, 340, 156, 203, 155, 108, 150, 151, 197, 110, 157, 158, 159, 161, 207, 250, 292, 293, 343, 294, 295, 346, 347, 401, 296, 297, 298, 299, 208, 209, 160, 205, 164, 247, 211, 288, 206, 249, 291, 341, 248, 290, 163, 162, 210, 83, 84, 112, 165, 166, 212, 253, 85, 113, 114, 168, 86, 115, 116, 169, 214, 170, 215, 216, 255, 217, 218, 219, 220, 256, 221, 257, 222, 223, 224, 171, 225, 258, 259, 260, 304, 261, 305, 306, 307, 310, 262, 309, 308, 358, 263, 311, 312, 359, 264, 313, 360, 408, 434, 265, 314, 315, 319, 266, 316, 361, 317, 267, 318, 268, 320, 321, 269, 322, 362, 409, 410, 435, 436, 411, 437, 455, 438, 456, 463, 439, 323, 324, 270, 271, 325, 364, 365, 366, 370, 367, 371, 415, 368, 369, 326, 372, 327, 328, 373, 416, 374, 417, 418, 375, 376, 419, 377, 420, 446, 447, 421, 172, 87, 120, 121, 122, 59, 60, 61, 88, 89, 123, 124, 177, 175, 176, 125, 178, 127, 128, 129, 180, 181, 130, 182, 131, 183, 226, 12]
theorem execPipes_clos : Tryz.prog.closure 5 = execPipes_L := closure_by_table Tryz.prog tabT_all (by kernel_rfl)
theorem execPipes_inPlace : Tryz.prog.inPlace 5 = Rows.execPipesRow.inPlace := inPlace_by_table Tryz.prog execPipes_clos tabN_all (by kernel_rfl)
theorem execPipes_named : Tryz.prog.varsNamed 5 = Rows.execPipesRow.named := varsNamed_by_table Tryz.prog execPipes_clos tabG_all tabE_all (by kernel_rfl)
theorem execPipes_unf : Tryz.prog.unfollowed 5 = true := by
  obtain ⟨c, hc⟩ : ∃ c, Tryz.f54.body = some c := ⟨_, rfl⟩
  exact unfollowed_by_table Tryz.prog execPipes_clos (g := 54) (by kernel_rfl) (fn := Tryz.f54) (by kernel_rfl) hc (by cases hc; kernel_rfl)
theorem execPipes_k0 : (Rows.execPipesRow.wf (OpenSpec.ofChange Rows.execPipesSpec)) = true := by kernel_rfl
theorem execPipes_k3 : (Tryz.f5.params.all (Tryz.pinned.checked.prog.readableRec ·)) = true := by kernel_rfl
theorem execPipes_k4 : (namedTie Tryz.pinned.checked.prog Rows.execPipesRow.named Rows.execPipesSpec.vars) = true := by kernel_rfl
theorem execPipes_k5 : ((Rows.execPipesRow.stops == [])) = true := by kernel_rfl
theorem execPipes_k6 : ((Tryz.pinned.checked.prog.stops == [])) = true := by kernel_rfl
theorem execPipes_k7 : ((Rows.execPipesRow.knobs == [])) = true := by kernel_rfl
theorem execPipes_k8 : ((Tryz.pinned.checked.prog.stopKnobs == [])) = true := by kernel_rfl
theorem execPipes_k9 : ((Rows.execPipesRow.inPlace == Tryz.pinned.checked.prog.inPlace 5)) = true := beq_iff_eq.2 execPipes_inPlace.symm
theorem execPipes_k10 : ((Rows.execPipesRow.unfollowed == Tryz.pinned.checked.prog.unfollowed 5)) = true := beq_iff_eq.2 execPipes_unf.symm
theorem execPipes_k11 : ((Rows.execPipesRow.recurses == Tryz.pinned.checked.prog.recurses 5)) = true := beq_iff_eq.2 (show true = Tryz.prog.recurses 5 by unfold Program.recurses; rw [execPipes_unf]; rfl)
theorem execPipes_k12 : ((Rows.execPipesRow.named == Tryz.pinned.checked.prog.varsNamed 5)) = true := beq_iff_eq.2 execPipes_named.symm
theorem execPipes_k13 : ((Rows.execPipesRow.maps == (Tryz.f5.params.toList ++ Rows.execPipesSpec.plain.varTypes Tryz.pinned.checked.prog).any (Tryz.pinned.checked.prog.mapsRec ·))) = true := by kernel_rfl
theorem execPipes_k14 : ((Rows.execPipesRow.ifaces == (Tryz.f5.params.toList ++ Rows.execPipesSpec.plain.varTypes Tryz.pinned.checked.prog).any (Tryz.pinned.checked.prog.ifacesRec ·))) = true := by kernel_rfl
theorem execPipes_k15 : ((Rows.execPipesRow.mapsOut == Tryz.pinned.checked.prog.mapsAmong Tryz.f5.resultTypes.toList)) = true := by kernel_rfl
theorem execPipes_k16 : ((Rows.execPipesRow.loops == (Tryz.f5.params.toList ++ Rows.execPipesSpec.plain.varTypes Tryz.pinned.checked.prog).any (Tryz.pinned.checked.prog.loopsFrom ·))) = true := by kernel_rfl
theorem execPipes_k17 : ((Rows.execPipesRow.wideKeys == (Tryz.f5.params.toList ++ Rows.execPipesSpec.plain.varTypes Tryz.pinned.checked.prog ++ Tryz.f5.resultTypes.toList).any (Tryz.pinned.checked.prog.wideKeysFrom ·))) = true := by kernel_rfl
theorem execPipes_k18 : (Rows.execPipesSpec.vars.all (Tryz.pinned.checked.prog.varReadable ·)) = true := by kernel_rfl
theorem execPipes_k19 : (Tryz.f5.resultTypes.all (fun t => Tryz.pinned.checked.prog.readableRec t && decide (t < Tryz.pinned.checked.prog.types.size))) = true := by kernel_rfl
theorem execPipes_k20 : ((Rows.execPipesRow.ifacesOut == Tryz.f5.resultTypes.toList.any (Tryz.pinned.checked.prog.ifacesRec ·))) = true := by kernel_rfl
theorem execPipes_k21 : ((Rows.execPipesRow.loopsOut == Tryz.f5.resultTypes.toList.any (Tryz.pinned.checked.prog.loopsFrom ·))) = true := by kernel_rfl
theorem execPipes_k22 : ((Rows.execPipesRow.plainKeys == Tryz.pinned.checked.prog.plainKeys)) = true := by kernel_rfl
theorem execPipes_k23 : (Rows.execPipesRow.shortTexts.isNone) = true := by kernel_rfl
theorem execPipes_k26 : ((Rows.execPipesRow.lifted == Tryz.pinned.checked.prog.liftsFinal)) = true := by kernel_rfl
theorem execPipes_k27 : ((Tryz.pinned.checked.prog.make == some Rows.execPipesRow.make)) = true := by kernel_rfl
theorem execPipes_k28 : ((Rows.execPipesRow.kinds == (if Rows.execPipesRow.domain.isEmpty then [] else Tryz.f5.params.toList.map fun t => match Tryz.pinned.checked.prog.underlying t with | some (.int k) => some k | _ => none))) = true := by kernel_rfl
theorem execPipes_k29 : ((Rows.execPipesRow.pinned == Rows.execPipesRow.pinnedBy)) = true := by kernel_rfl
theorem execPipes_k30 : ((Rows.execPipesRow.veiled == (Tryz.f5.params.toList ++ Rows.execPipesSpec.plain.varTypes Tryz.pinned.checked.prog ++ Tryz.f5.resultTypes.toList).any (Tryz.pinned.checked.prog.veiledRec ·))) = true := by kernel_rfl
theorem execPipes_k31 : (Rows.execPipesRow.veiledFits Tryz.pinned.checked.prog Tryz.f5.params.toList (Tryz.f5.params.toList ++ Rows.execPipesSpec.plain.varTypes Tryz.pinned.checked.prog ++ Tryz.f5.resultTypes.toList)) = true := by kernel_rfl
theorem execPipes_closed : joinedFacts Tryz.pinned.checked.prog 5 Tryz.f5 Rows.execPipesSpec Rows.execPipesRow = true := band (band (band (band (band (band (band (band (band (band (band (band (band (band (band (band (band (band (band (band (band (band (band (band (band (band (band (band (band (band (band (execPipes_k0) laidOut_ok) mapsRowed_ok) execPipes_k3) execPipes_k4) execPipes_k5) execPipes_k6) execPipes_k7) execPipes_k8) execPipes_k9) execPipes_k10) execPipes_k11) execPipes_k12) execPipes_k13) execPipes_k14) execPipes_k15) execPipes_k16) execPipes_k17) execPipes_k18) execPipes_k19) execPipes_k20) execPipes_k21) execPipes_k22) execPipes_k23) stopsHeard_ok) mayEnter_ok) execPipes_k26) execPipes_k27) execPipes_k28) execPipes_k29) execPipes_k30) execPipes_k31
abbrev execPipes_lst : List (String × DataW Unit) := Rows.execPipesRow.laid
theorem execPipes_plain : (execPipes_lst.all fun x => x.2.handleName?.isNone) = true := by kernel_rfl
theorem execPipes_noInit : Tryz.prog.inits.idxOf? 5 = none := by kernel_rfl
theorem execPipes_fn : Tryz.prog.funcs[5]? = some Tryz.f5 := by kernel_rfl
theorem execPipes_zip1 (os : Os) : ((World.laidAll Tryz.prog os execPipes_lst).forCall (fun _ _ => 0) ⟨#[], #[.slice none 0 0, .int .i64 (-1), .bool false, .bool false], []⟩).variablesZipB Tryz.prog = true := by kernel_rfl
theorem execPipes_zip2 (os : Os) : ((((World.laidAll Tryz.prog os execPipes_lst).forCall (fun _ _ => 0) ⟨#[], #[.slice none 0 0, .int .i64 (-1), .bool false, .bool false], []⟩).heap.toList.drop Tryz.prog.globals.size).take ((begin Tryz.prog (fun _ _ => 0) default).world.heap.size - Tryz.prog.globals.size) =
      (begin Tryz.prog (fun _ _ => 0) default).world.heap.toList.drop Tryz.prog.globals.size) := by kernel_rfl
theorem execPipes_fits (os : Os) : (World.holding Tryz.prog os ⟨#[], #[], []⟩).layFits Tryz.prog execPipes_lst [] = true := by kernel_rfl
theorem execPipes_ifaces (os : Os) : (World.holding Tryz.prog os ⟨#[], #[], []⟩).layIfaces Tryz.prog execPipes_lst (World.laidAll Tryz.prog os execPipes_lst) = true := by kernel_rfl
theorem execPipes_okB (os : Os) : Input.okWideB Tryz.prog ((World.laidAll Tryz.prog os execPipes_lst).forCall (fun _ _ => 0) ⟨#[], #[.slice none 0 0, .int .i64 (-1), .bool false, .bool false], []⟩) 5 ⟨#[], #[.slice none 0 0, .int .i64 (-1), .bool false, .bool false], []⟩ = true := by kernel_rfl
theorem execPipes_preB (os : Os) (H : Type) (enc : TypeId × Value → H) : Rows.execPipesSpec.preB enc Tryz.prog Tryz.f5 [] false ((World.laidAll Tryz.prog os execPipes_lst).forCall (fun _ _ => 0) ⟨#[], #[.slice none 0 0, .int .i64 (-1), .bool false, .bool false], []⟩).memory #[.slice none 0 0, .int .i64 (-1), .bool false, .bool false] 8 = true := by kernel_rfl
theorem execPipes_szB (os : Os) (H : Type) (enc : TypeId × Value → H) : Rows.execPipesSpec.sizedB enc Tryz.prog Tryz.f5 false ((World.laidAll Tryz.prog os execPipes_lst).forCall (fun _ _ => 0) ⟨#[], #[.slice none 0 0, .int .i64 (-1), .bool false, .bool false], []⟩).memory #[.slice none 0 0, .int .i64 (-1), .bool false, .bool false] 8 = true := by kernel_rfl
theorem execPipes_asciiIn : ("strings.asciiSpace", DataW.agg (asciiL.map fun x => (DataW.lit (.int .u8 x) : DataW Unit))) ∈ execPipes_lst := List.mem_iff_getElem?.2 ⟨2, by kernel_rfl⟩
theorem execPipes_uInt : Tryz.prog.underlying 3 = some (.int .i64) := by kernel_rfl
theorem execPipes_uBool : Tryz.prog.underlying 4 = some .bool := by kernel_rfl
theorem execPipes_params : Tryz.f5.params = #[27, 3, 4, 4] := by kernel_rfl
theorem execPipes_results : Tryz.f5.resultTypes = #[4] := by kernel_rfl
theorem execPipes_body : ∃ c, Tryz.f5.body = some c := ⟨_, rfl⟩
theorem execPipes_powIn : ("internal/strconv.uint64pow10", DataW.agg (powL.map fun x => (DataW.lit (.int .u64 x) : DataW Unit))) ∈ execPipes_lst := List.mem_iff_getElem?.2 ⟨4, by kernel_rfl⟩
theorem execPipes_uBy : Tryz.prog.underlying 27 = some (.slice 5) := by kernel_rfl
theorem execPipes_uU8 : Tryz.prog.underlying 5 = some (.int .u8) := by kernel_rfl
theorem execPipes_cU8 : Tryz.prog.cellsOf 5 = 1 := by kernel_rfl
theorem execPipes_byR : Tryz.pinned.checked.prog.readableRec 27 = true := by kernel_rfl
theorem execPipes_byT : 27 < Tryz.pinned.checked.prog.types.size := of_decide_eq_true (by kernel_rfl)
theorem execPipes_calls {H : Type} {enc : TypeId × Value → H} {W : World} {v0 : Value} {d0 : DataW H} {p0 : List MemPlace} (hL : laidMetH Tryz.prog execPipes_lst W) (hval : Value.okWide Tryz.prog W .any 0 27 v0) (h0 : DataW.Trod enc Tryz.prog W 0 (fun _ => true) true 27 v0 d0 p0) (n : Int) (p q : Bool) :
    Calls Tryz.prog 5 #[v0, .int .i64 n, .bool p, .bool q] W fun e W' => e = .returned (.bool true) ∧ Stays W W' := by
  obtain ⟨cd, hb⟩ := execPipes_body
  have tab := tables execPipes_plain execPipes_asciiIn execPipes_powIn hL
  rcases open_byteslice execPipes_uBy execPipes_uU8 execPipes_cU8 (okWide_slice execPipes_uBy hval) h0 with rfl | ⟨A, c, rfl⟩ | ⟨b, off, len, cap, arr, ty, fz, l, rfl, h1, hle, hmax, hblk, hsz, hll, hcs⟩
  · exact top_run follows nameOK hkBok execPipes_fn hb tblIn (args := .cons .sn (.cons (.i .i64 n) (.cons (.b p) (.cons (.b q) .nil)))) ⟨_, _, rfl, by simp [VR], _, _, rfl, VRi _ _ _, _, _, rfl, VRb _ _, _, _, rfl, VRb _ _, rfl⟩ (xp_alls n p q) tab
  · exact top_run follows nameOK hkBok execPipes_fn hb tblIn (args := .cons .se (.cons (.i .i64 n) (.cons (.b p) (.cons (.b q) .nil)))) ⟨_, _, rfl, by simp [VR], _, _, rfl, VRi _ _ _, _, _, rfl, VRb _ _, _, _, rfl, VRb _ _, rfl⟩ (xp_alle n p q) tab
  · subst hll
    by_cases hbig : l.length ≤ 500
    · have hlh : 1 ≤ l.length ∧ l.length ≤ 500 := ⟨h1, hbig⟩
      exact top_run_g follows nameOK hkBok execPipes_fn hb (args := .cons (bytesA 12 1 500) (.cons (.i .i64 n) (.cons (.b p) (.cons (.b q) .nil)))) tblIn (nx := 14) (by omega) bytesR_in (bytes_ob hlh hblk hle hsz hcs) ⟨_, _, rfl, bytesA_V hlh hle hsz, _, _, rfl, VRi _ _ _, _, _, rfl, VRb _ _, _, _, rfl, VRb _ _, rfl⟩ (xp_allp ty n p q) tab
    · have hmx : cap ≤ 9223372036854775807 := hmax
      have hlh : 501 ≤ l.length ∧ l.length ≤ 9223372036854775807 := ⟨by omega, by omega⟩
      exact top_run_g follows nameOK hkBok execPipes_fn hb (args := .cons (bytesA 12 501 9223372036854775807) (.cons (.i .i64 n) (.cons (.b p) (.cons (.b q) .nil)))) tblIn (nx := 14) (by omega) bytesR_in (bytes_ob hlh hblk hle hsz hcs) ⟨_, _, rfl, bytesA_V hlh hle hsz, _, _, rfl, VRi _ _ _, _, _, rfl, VRb _ _, _, _, rfl, VRb _ _, rfl⟩ (xp_long ty n p q) tab
theorem execPipes_lifted (os : Os) (started : os.Started) (H : Type) (enc : TypeId × Value → H) :
    ReturnsInHanded {} Tryz.checked os 5 .any (fun w args => (Rows.execPipesSpec.pre enc Tryz.prog Tryz.f5 Rows.execPipesRow.domain false w args ∧ laidMetH Tryz.prog execPipes_lst w) ∧ sizedMet enc Tryz.prog Tryz.f5 (OpenSpec.ofChange Rows.execPipesSpec) false w args)
      (Rows.execPipesSpec.post enc Tryz.prog Tryz.f5 false true false false) := by
  refine returnsInHanded_of_change_and (C := Tryz.checked) (X := fun w _ => laidMetH Tryz.prog execPipes_lst w) (fun _ _ _ hh h => h.of_heap hh) own started execPipes_noInit execPipes_fn
    (ChangeSpec.witness_shaped (enc := enc) (C := Tryz.checked) (os := os) (X := fun w _ => laidMetH Tryz.prog execPipes_lst w) false (World.laidAll Tryz.prog os execPipes_lst) #[.slice none 0 0, .int .i64 (-1), .bool false, .bool false] 8 (World.laidAll_os _ _ _)
      (World.shaped_of_ZipB (execPipes_zip1 os) (execPipes_zip2 os)) (execPipes_okB os) (execPipes_preB os H enc) (execPipes_szB os H enc)
      (by rw [MakeChecks.laidMetH_plain _ _ _ execPipes_plain]; exact laidMet_laidAll _ (execPipes_fits os) (execPipes_ifaces os))) ?_
  intro W base args ds gs before hval0 hW _ _ hL _
  have hval : ∀ (j : Nat) t v, Tryz.f5.params[j]? = some t → args[j]? = some v → Value.okWide Tryz.prog W .any base t v := hval0
  have hW' := hW
  obtain ⟨p, q, hA0, hV, rfl, _, _⟩ := hW
  have hA : DataW.TrodAll enc Tryz.prog W 0 (fun _ => true) true Tryz.f5.params.toList args.toList ds p := hA0
  rw [execPipes_params] at hA hval
  obtain ⟨v0, v1, v2, v3, d0, d1, d2, d3, p0, p1, p2, p3, rfl, rfl, rfl, h0, h1, h2, h3⟩ := trodAll_four hA
  obtain ⟨rfl, rfl⟩ := trodVars_none hV
  obtain ⟨n1, rfl, rfl, rfl, hw1⟩ := open_int execPipes_uInt (hval 1 3 v1 rfl rfl) h1
  obtain ⟨n2, rfl, rfl, rfl⟩ := open_bool execPipes_uBool (hval 2 4 v2 rfl rfl) h2
  obtain ⟨n3, rfl, rfl, rfl⟩ := open_bool execPipes_uBool (hval 3 4 v3 rfl rfl) h3
  refine (execPipes_calls hL (hval 0 27 v0 rfl rfl) h0 n1 n2 n3).mono fun e W' ⟨he, hs⟩ => ?_
  refine ⟨_, he, _, _, _, [], p0 ++ ([] ++ ([] ++ ([]))), [], hW', ?_, ?_, ?_, hs.keptBut _, fun h => by cases h⟩
  · rw [execPipes_results]
    exact trodAll_mk1 (shut_bool execPipes_uBool true)
  · rw [execPipes_params]
    exact trodAll_mk4 (Below.trod laidOut_ok execPipes_byR execPipes_byT h0 hs.below (fun y hy => hW'.lt y (by simp [hy]))) (shut_int execPipes_uInt hw1) (shut_bool execPipes_uBool n2) (shut_bool execPipes_uBool n3)
  · rfl
theorem execPipes_named1 : Tryz.pinned.checked.prog.funcNamed Rows.execPipesRow.func = some 5 := by kernel_rfl
theorem execPipes_wrapper : Tryz.f5.isWrapper Tryz.pinned.checked.prog Rows.execPipesRow.wrapper Rows.execPipesRow.mainSum := by unfold Func.isWrapper; first | (rw [if_pos (by decide +kernel)]; kernel_rfl) | (rw [if_neg (by decide +kernel)]; exact ⟨rfl, rfl⟩)
theorem execPipes_inst : Tryz.f5.isInstance Tryz.pinned.checked.prog Rows.execPipesRow.origin Rows.execPipesRow.targs := of_decide_eq_true (by kernel_rfl)
theorem execPipes_holds : Rows.ExecPipesSaid :=
  OpenClaim.holds_of_wide 5 Tryz.f5 rfl rfl rfl rfl rfl rfl rfl ⟨rfl, rfl, rfl, rfl, rfl⟩ rfl rfl rfl rfl rfl execPipes_named1 execPipes_fn execPipes_closed execPipes_inst execPipes_wrapper
    (fun os started H enc _ => execPipes_lifted os started H enc)
end
end Go.Proofs.YtidfafhlcmfdeaaGreatDoor
