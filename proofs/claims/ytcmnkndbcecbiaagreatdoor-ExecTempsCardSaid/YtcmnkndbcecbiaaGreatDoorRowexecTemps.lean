/-
  The row of execTemps: for every input the law returns true.
-/
import Derived.Test.YtcmnkndbcecbiaaGreatDoorRunexecTemps
import Derived.Test.YtcmnkndbcecbiaaGreatDoorXRowK6
import Derived.OpenShut
import Derived.Carry
import Derived.Lay
import Derived.ChangeMaps5
open Go Go.Mx Go.ChangeShapes Go.WideShapes Go.RowKit
namespace Go.Proofs.YtcmnkndbcecbiaaGreatDoor
set_option maxRecDepth 1000000
noncomputable section
def execTemps_L : List Nat := [6, 7, 9, 16, 29, 18, 35, 56, 80, 95, 137, 106, 107, 108, 149, 36, 57, 81, 109, 150, 151, 198, 110, 152, 58, 82, 37, 59, 38, 39, 60, 83, 111, 153, 112, 154, 84, 85, 43, 28, 30, 31, 8, 17, 33, 45, 67, 46, 47, 48, 68, 49, 69, 70, 50, 71, 96, 72, 73, 98, 97, 99, 138, 100, 139, 187, 188, 228, 142, 191, 229, 192, 189, 74, 140, 141, 190, 34, 51, 52, 75, 101, 105, 54, 76, 102, 143, 104, 144, 103, 145, 147, 196, 197, 240, 278, 279, 146, 195, 148, 55, 79, 193, 230, 53, 231, 232, 273, 233, 177, 238, 275, 276, 203, 234, 274, 78, 235, 236, 237, 194, 239, 277, 330, 77, 10, 19, 20, 40, 61, 21, 11, 22, 23, 25, 26, 42, 62, 63, 86, 87, 114, 157, 204, 123, 170, 214, 254, 302, 348, 349, 301, 402, 403, 350, 351, 404, 405, 432, 433, 176, 131, 182, 242, 24, 41, 243, 280, 281, 282, 331, 283, 332, 378, 379, 422, 333, 158, 159, 205, 244, 284, 285, 334, 380, 381, 337, 385, 386, 303, 353, 352, 201, 355, 202, 354, 357, 407, 406, 199, 241, 356, 387, 428, 453, 413, 440, 441, 414, 442, 457, 443, 444, 458, 445, 122, 336, 384, 427, 383, 426, 452, 289, 252, 300, 342, 392, 398, 253, 393, 429, 394, 344, 345, 395, 430, 431, 454, 396, 397, 399, 400, 335, 382, 423, 424, 448, 449, 425, 459, 464, 465, 466, 363, 412, 467, 460, 450, 451, 461, 462, 286, 338, 388, 116, 124, 339, 207, 245, 246, 287, 247, 389, 390, 272, 329, 391, 340, 161, 206, 160, 113, 155, 156, 200, 115, 162, 163, 164, 166, 210, 251, 292, 293, 343, 294, 295, 346, 347, 401, 296, 297, 298, 299, 211, 212, 165, 208, 169, 248, 27, 288, 209, 250, 291, 341, 249, 290, 168, 167, 213, 88, 89, 117, 12, 14, 32, 44, 90, 118, 119, 171, 91, 120, 121, 172, 215, 173, 216, 217, 255, 218, 219, 220, 221, 256, 222, 257, 223, 224, 225, 174, 226, 258, 259, 260, 304, 261, 305, 306, 307, 310, 262, 309, 308, 358, 263, 311, 312, 359, 264, 313, 360, 408, 434, 265, 314, 315, 319, 266, 316, 361, 317, 267, 318, 268, 320, 321, 269, 322, 362, 409, 410, 435, 436, 411, 437, 455, 438, 456, 463, 439, 323, 324, 270, 271, 325, 364, 365, 366, 370, 367, 371, 415, 368, 369, 326, 372, 327, 328, 373, 416, 374, 417, 418, 375, 376, 419, 377, 420, 446, 447, 421, 175, 92, 125, 126, 127, 64, 65, 66, 93, 94, 128, 129, 180, 178, 179, 130, 181, 132, 133, 134, 183, 184, 135, 185, 136, 186, 227, 13]
theorem execTemps_clos : Tryz.prog.closure 6 = execTemps_L := closure_by_table Tryz.prog tabT_all (by kernel_rfl)
theorem execTemps_inPlace : Tryz.prog.inPlace 6 = Rows.execTempsRow.inPlace := inPlace_by_table Tryz.prog execTemps_clos tabN_all (by kernel_rfl)
theorem execTemps_named : Tryz.prog.varsNamed 6 = Rows.execTempsRow.named := varsNamed_by_table Tryz.prog execTemps_clos tabG_all tabE_all (by kernel_rfl)
theorem execTemps_unf : Tryz.prog.unfollowed 6 = true := by
  obtain ⟨c, hc⟩ : ∃ c, Tryz.f59.body = some c := ⟨_, rfl⟩
  exact unfollowed_by_table Tryz.prog execTemps_clos (g := 59) (by kernel_rfl) (fn := Tryz.f59) (by kernel_rfl) hc (by cases hc; kernel_rfl)
theorem execTemps_k0 : (Rows.execTempsRow.wf (OpenSpec.ofChange Rows.execTempsSpec)) = true := by kernel_rfl
theorem execTemps_k3 : (Tryz.f6.params.all (Tryz.pinned.checked.prog.readableRec ·)) = true := by kernel_rfl
theorem execTemps_k4 : (namedTie Tryz.pinned.checked.prog Rows.execTempsRow.named Rows.execTempsSpec.vars) = true := by kernel_rfl
theorem execTemps_k5 : ((Rows.execTempsRow.stops == [])) = true := by kernel_rfl
theorem execTemps_k6 : ((Tryz.pinned.checked.prog.stops == [])) = true := by kernel_rfl
theorem execTemps_k7 : ((Rows.execTempsRow.knobs == [])) = true := by kernel_rfl
theorem execTemps_k8 : ((Tryz.pinned.checked.prog.stopKnobs == [])) = true := by kernel_rfl
theorem execTemps_k9 : ((Rows.execTempsRow.inPlace == Tryz.pinned.checked.prog.inPlace 6)) = true := beq_iff_eq.2 execTemps_inPlace.symm
theorem execTemps_k10 : ((Rows.execTempsRow.unfollowed == Tryz.pinned.checked.prog.unfollowed 6)) = true := beq_iff_eq.2 execTemps_unf.symm
theorem execTemps_k11 : ((Rows.execTempsRow.recurses == Tryz.pinned.checked.prog.recurses 6)) = true := beq_iff_eq.2 (show true = Tryz.prog.recurses 6 by unfold Program.recurses; rw [execTemps_unf]; rfl)
theorem execTemps_k12 : ((Rows.execTempsRow.named == Tryz.pinned.checked.prog.varsNamed 6)) = true := beq_iff_eq.2 execTemps_named.symm
theorem execTemps_k13 : ((Rows.execTempsRow.maps == (Tryz.f6.params.toList ++ Rows.execTempsSpec.plain.varTypes Tryz.pinned.checked.prog).any (Tryz.pinned.checked.prog.mapsRec ·))) = true := by kernel_rfl
theorem execTemps_k14 : ((Rows.execTempsRow.ifaces == (Tryz.f6.params.toList ++ Rows.execTempsSpec.plain.varTypes Tryz.pinned.checked.prog).any (Tryz.pinned.checked.prog.ifacesRec ·))) = true := by kernel_rfl
theorem execTemps_k15 : ((Rows.execTempsRow.mapsOut == Tryz.pinned.checked.prog.mapsAmong Tryz.f6.resultTypes.toList)) = true := by kernel_rfl
theorem execTemps_k16 : ((Rows.execTempsRow.loops == (Tryz.f6.params.toList ++ Rows.execTempsSpec.plain.varTypes Tryz.pinned.checked.prog).any (Tryz.pinned.checked.prog.loopsFrom ·))) = true := by kernel_rfl
theorem execTemps_k17 : ((Rows.execTempsRow.wideKeys == (Tryz.f6.params.toList ++ Rows.execTempsSpec.plain.varTypes Tryz.pinned.checked.prog ++ Tryz.f6.resultTypes.toList).any (Tryz.pinned.checked.prog.wideKeysFrom ·))) = true := by kernel_rfl
theorem execTemps_k18 : (Rows.execTempsSpec.vars.all (Tryz.pinned.checked.prog.varReadable ·)) = true := by kernel_rfl
theorem execTemps_k19 : (Tryz.f6.resultTypes.all (fun t => Tryz.pinned.checked.prog.readableRec t && decide (t < Tryz.pinned.checked.prog.types.size))) = true := by kernel_rfl
theorem execTemps_k20 : ((Rows.execTempsRow.ifacesOut == Tryz.f6.resultTypes.toList.any (Tryz.pinned.checked.prog.ifacesRec ·))) = true := by kernel_rfl
theorem execTemps_k21 : ((Rows.execTempsRow.loopsOut == Tryz.f6.resultTypes.toList.any (Tryz.pinned.checked.prog.loopsFrom ·))) = true := by kernel_rfl
theorem execTemps_k22 : ((Rows.execTempsRow.plainKeys == Tryz.pinned.checked.prog.plainKeys)) = true := by kernel_rfl
theorem execTemps_k23 : (Rows.execTempsRow.shortTexts.isNone) = true := by kernel_rfl
theorem execTemps_k26 : ((Rows.execTempsRow.lifted == Tryz.pinned.checked.prog.liftsFinal)) = true := by kernel_rfl
theorem execTemps_k27 : ((Tryz.pinned.checked.prog.make == some Rows.execTempsRow.make)) = true := by kernel_rfl
theorem execTemps_k28 : ((Rows.execTempsRow.kinds == (if Rows.execTempsRow.domain.isEmpty then [] else Tryz.f6.params.toList.map fun t => match Tryz.pinned.checked.prog.underlying t with | some (.int k) => some k | _ => none))) = true := by kernel_rfl
theorem execTemps_k29 : ((Rows.execTempsRow.pinned == Rows.execTempsRow.pinnedBy)) = true := by kernel_rfl
theorem execTemps_k30 : ((Rows.execTempsRow.veiled == (Tryz.f6.params.toList ++ Rows.execTempsSpec.plain.varTypes Tryz.pinned.checked.prog ++ Tryz.f6.resultTypes.toList).any (Tryz.pinned.checked.prog.veiledRec ·))) = true := by kernel_rfl
theorem execTemps_k31 : (Rows.execTempsRow.veiledFits Tryz.pinned.checked.prog Tryz.f6.params.toList (Tryz.f6.params.toList ++ Rows.execTempsSpec.plain.varTypes Tryz.pinned.checked.prog ++ Tryz.f6.resultTypes.toList)) = true := by kernel_rfl
theorem execTemps_closed : joinedFacts Tryz.pinned.checked.prog 6 Tryz.f6 Rows.execTempsSpec Rows.execTempsRow = true := band (band (band (band (band (band (band (band (band (band (band (band (band (band (band (band (band (band (band (band (band (band (band (band (band (band (band (band (band (band (band (execTemps_k0) laidOut_ok) mapsRowed_ok) execTemps_k3) execTemps_k4) execTemps_k5) execTemps_k6) execTemps_k7) execTemps_k8) execTemps_k9) execTemps_k10) execTemps_k11) execTemps_k12) execTemps_k13) execTemps_k14) execTemps_k15) execTemps_k16) execTemps_k17) execTemps_k18) execTemps_k19) execTemps_k20) execTemps_k21) execTemps_k22) execTemps_k23) stopsHeard_ok) mayEnter_ok) execTemps_k26) execTemps_k27) execTemps_k28) execTemps_k29) execTemps_k30) execTemps_k31
abbrev execTemps_lst : List (String × DataW Unit) := Rows.execTempsRow.laid
theorem execTemps_plain : (execTemps_lst.all fun x => x.2.handleName?.isNone) = true := by kernel_rfl
theorem execTemps_noInit : Tryz.prog.inits.idxOf? 6 = none := by kernel_rfl
theorem execTemps_fn : Tryz.prog.funcs[6]? = some Tryz.f6 := by kernel_rfl
theorem execTemps_zip1 (os : Os) : ((World.laidAll Tryz.prog os execTemps_lst).forCall (fun _ _ => 0) ⟨#[], #[.string ByteArray.empty, .string ByteArray.empty, .bool false], []⟩).variablesZipB Tryz.prog = true := by kernel_rfl
theorem execTemps_zip2 (os : Os) : ((((World.laidAll Tryz.prog os execTemps_lst).forCall (fun _ _ => 0) ⟨#[], #[.string ByteArray.empty, .string ByteArray.empty, .bool false], []⟩).heap.toList.drop Tryz.prog.globals.size).take ((begin Tryz.prog (fun _ _ => 0) default).world.heap.size - Tryz.prog.globals.size) =
      (begin Tryz.prog (fun _ _ => 0) default).world.heap.toList.drop Tryz.prog.globals.size) := by kernel_rfl
theorem execTemps_fits (os : Os) : (World.holding Tryz.prog os ⟨#[], #[], []⟩).layFits Tryz.prog execTemps_lst [] = true := by kernel_rfl
theorem execTemps_ifaces (os : Os) : (World.holding Tryz.prog os ⟨#[], #[], []⟩).layIfaces Tryz.prog execTemps_lst (World.laidAll Tryz.prog os execTemps_lst) = true := by kernel_rfl
theorem execTemps_okB (os : Os) : Input.okWideB Tryz.prog ((World.laidAll Tryz.prog os execTemps_lst).forCall (fun _ _ => 0) ⟨#[], #[.string ByteArray.empty, .string ByteArray.empty, .bool false], []⟩) 6 ⟨#[], #[.string ByteArray.empty, .string ByteArray.empty, .bool false], []⟩ = true := by kernel_rfl
theorem execTemps_preB (os : Os) (H : Type) (enc : TypeId × Value → H) : Rows.execTempsSpec.preB enc Tryz.prog Tryz.f6 [] false ((World.laidAll Tryz.prog os execTemps_lst).forCall (fun _ _ => 0) ⟨#[], #[.string ByteArray.empty, .string ByteArray.empty, .bool false], []⟩).memory #[.string ByteArray.empty, .string ByteArray.empty, .bool false] 8 = true := by kernel_rfl
theorem execTemps_szB (os : Os) (H : Type) (enc : TypeId × Value → H) : Rows.execTempsSpec.sizedB enc Tryz.prog Tryz.f6 false ((World.laidAll Tryz.prog os execTemps_lst).forCall (fun _ _ => 0) ⟨#[], #[.string ByteArray.empty, .string ByteArray.empty, .bool false], []⟩).memory #[.string ByteArray.empty, .string ByteArray.empty, .bool false] 8 = true := by kernel_rfl
theorem execTemps_asciiIn : ("strings.asciiSpace", DataW.agg (asciiL.map fun x => (DataW.lit (.int .u8 x) : DataW Unit))) ∈ execTemps_lst := List.mem_iff_getElem?.2 ⟨2, by kernel_rfl⟩
theorem execTemps_uInt : Tryz.prog.underlying 3 = some (.int .i64) := by kernel_rfl
theorem execTemps_uBool : Tryz.prog.underlying 4 = some .bool := by kernel_rfl
theorem execTemps_params : Tryz.f6.params = #[9, 9, 4] := by kernel_rfl
theorem execTemps_results : Tryz.f6.resultTypes = #[4] := by kernel_rfl
theorem execTemps_body : ∃ c, Tryz.f6.body = some c := ⟨_, rfl⟩
theorem execTemps_powIn : ("internal/strconv.uint64pow10", DataW.agg (powL.map fun x => (DataW.lit (.int .u64 x) : DataW Unit))) ∈ execTemps_lst := List.mem_iff_getElem?.2 ⟨4, by kernel_rfl⟩
theorem execTemps_uStr : Tryz.prog.underlying 9 = some .string := by kernel_rfl
theorem execTemps_lifted (os : Os) (started : os.Started) (H : Type) (enc : TypeId × Value → H) :
    ReturnsInHanded {} Tryz.checked os 6 .any (fun w args => (Rows.execTempsSpec.pre enc Tryz.prog Tryz.f6 Rows.execTempsRow.domain false w args ∧ laidMetH Tryz.prog execTemps_lst w) ∧ sizedMet enc Tryz.prog Tryz.f6 (OpenSpec.ofChange Rows.execTempsSpec) false w args)
      (Rows.execTempsSpec.post enc Tryz.prog Tryz.f6 false true false false) := by
  refine returnsInHanded_of_change_and (C := Tryz.checked) (X := fun w _ => laidMetH Tryz.prog execTemps_lst w) (fun _ _ _ hh h => h.of_heap hh) own started execTemps_noInit execTemps_fn
    (ChangeSpec.witness_shaped (enc := enc) (C := Tryz.checked) (os := os) (X := fun w _ => laidMetH Tryz.prog execTemps_lst w) false (World.laidAll Tryz.prog os execTemps_lst) #[.string ByteArray.empty, .string ByteArray.empty, .bool false] 8 (World.laidAll_os _ _ _)
      (World.shaped_of_ZipB (execTemps_zip1 os) (execTemps_zip2 os)) (execTemps_okB os) (execTemps_preB os H enc) (execTemps_szB os H enc)
      (by rw [MakeChecks.laidMetH_plain _ _ _ execTemps_plain]; exact laidMet_laidAll _ (execTemps_fits os) (execTemps_ifaces os))) ?_
  intro W base args ds gs before hval0 hW _ _ hL _
  have hval : ∀ (j : Nat) t v, Tryz.f6.params[j]? = some t → args[j]? = some v → Value.okWide Tryz.prog W .any base t v := hval0
  have hW' := hW
  obtain ⟨p, q, hA0, hV, rfl, _, _⟩ := hW
  have hA : DataW.TrodAll enc Tryz.prog W 0 (fun _ => true) true Tryz.f6.params.toList args.toList ds p := hA0
  rw [execTemps_params] at hA hval
  obtain ⟨v0, v1, v2, d0, d1, d2, p0, p1, p2, rfl, rfl, rfl, h0, h1, h2⟩ := trodAll_three hA
  obtain ⟨rfl, rfl⟩ := trodVars_none hV
  obtain ⟨n0, rfl, rfl, rfl, hw0⟩ := Go.ChangeMaps.open_string execTemps_uStr (hval 0 9 v0 rfl rfl) h0
  obtain ⟨n1, rfl, rfl, rfl, hw1⟩ := Go.ChangeMaps.open_string execTemps_uStr (hval 1 9 v1 rfl rfl) h1
  obtain ⟨n2, rfl, rfl, rfl⟩ := open_bool execTemps_uBool (hval 2 4 v2 rfl rfl) h2
  refine (xt_calls n0 hw0 n1 hw1 n2 (tables execTemps_plain execTemps_asciiIn execTemps_powIn hL)).mono fun e W' ⟨he, hs⟩ => ?_
  refine ⟨_, he, _, _, _, [], [], [], hW', ?_, ?_, ?_, hs.keptBut _, fun h => by cases h⟩
  · rw [execTemps_results]
    exact trodAll_mk1 (shut_bool execTemps_uBool true)
  · rw [execTemps_params]
    exact trodAll_mk3 (Go.ChangeMaps.shut_string execTemps_uStr hw0) (Go.ChangeMaps.shut_string execTemps_uStr hw1) (shut_bool execTemps_uBool n2)
  · rfl
theorem execTemps_named1 : Tryz.pinned.checked.prog.funcNamed Rows.execTempsRow.func = some 6 := by kernel_rfl
theorem execTemps_wrapper : Tryz.f6.isWrapper Tryz.pinned.checked.prog Rows.execTempsRow.wrapper Rows.execTempsRow.mainSum := by unfold Func.isWrapper; first | (rw [if_pos (by decide +kernel)]; kernel_rfl) | (rw [if_neg (by decide +kernel)]; exact ⟨rfl, rfl⟩)
theorem execTemps_inst : Tryz.f6.isInstance Tryz.pinned.checked.prog Rows.execTempsRow.origin Rows.execTempsRow.targs := of_decide_eq_true (by kernel_rfl)
theorem execTemps_holds : Rows.ExecTempsSaid :=
  OpenClaim.holds_of_wide 6 Tryz.f6 rfl rfl rfl rfl rfl rfl rfl ⟨rfl, rfl, rfl, rfl, rfl⟩ rfl rfl rfl rfl rfl execTemps_named1 execTemps_fn execTemps_closed execTemps_inst execTemps_wrapper
    (fun os started H enc _ => execTemps_lifted os started H enc)
end
end Go.Proofs.YtcmnkndbcecbiaaGreatDoor
