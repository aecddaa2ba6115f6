/-
  The row of execShells: for every input the law returns true.
-/
import Derived.Test.YtnpdmljafaolpaaGreatDoorRunexecShells
import Derived.Test.YtnpdmljafaolpaaGreatDoorXRowK6
import Derived.OpenShut
import Derived.Carry
import Derived.Lay
import Derived.ChangeMaps5
open Go Go.Mx Go.ChangeShapes Go.WideShapes Go.RowKit
namespace Go.Proofs.YtnpdmljafaolpaaGreatDoor
set_option maxRecDepth 1000000
noncomputable section
def execShells_L : List Nat := [3, 4, 5, 6, 11, 16, 28, 47, 71, 86, 128, 97, 98, 99, 140, 29, 48, 72, 100, 141, 142, 191, 101, 143, 49, 73, 30, 50, 31, 32, 51, 74, 102, 144, 103, 145, 75, 76, 25, 12, 13, 14, 7, 15, 26, 36, 58, 37, 38, 39, 59, 40, 60, 61, 41, 62, 87, 63, 64, 89, 88, 90, 129, 91, 130, 180, 181, 223, 133, 184, 224, 185, 182, 65, 131, 132, 183, 27, 42, 43, 66, 92, 96, 45, 67, 93, 134, 95, 135, 94, 136, 138, 189, 190, 235, 274, 275, 137, 188, 139, 46, 70, 186, 225, 44, 226, 227, 269, 228, 170, 233, 271, 272, 196, 229, 270, 69, 230, 231, 232, 187, 234, 273, 326, 68, 8, 17, 18, 33, 52, 19, 9, 20, 21, 23, 24, 35, 53, 54, 77, 78, 105, 148, 197, 114, 163, 209, 250, 298, 344, 345, 297, 398, 399, 346, 347, 400, 401, 428, 429, 169, 122, 175, 237, 22, 34, 238, 276, 277, 278, 327, 279, 328, 374, 375, 418, 329, 149, 150, 198, 239, 280, 281, 330, 376, 377, 333, 381, 382, 299, 349, 348, 194, 351, 195, 350, 353, 403, 402, 192, 236, 352, 383, 424, 449, 409, 436, 437, 410, 438, 453, 439, 440, 454, 441, 113, 332, 380, 423, 379, 422, 448, 285, 247, 296, 338, 388, 394, 248, 389, 425, 390, 340, 341, 391, 426, 427, 450, 392, 393, 395, 396, 331, 378, 419, 420, 444, 445, 421, 455, 460, 461, 462, 359, 408, 463, 456, 446, 447, 457, 458, 282, 334, 384, 107, 115, 335, 200, 240, 241, 283, 242, 385, 386, 268, 325, 387, 336, 152, 199, 151, 104, 146, 147, 193, 106, 153, 154, 155, 157, 203, 246, 288, 289, 339, 290, 291, 342, 343, 397, 292, 293, 294, 295, 204, 205, 156, 201, 160, 243, 207, 284, 202, 245, 287, 337, 244, 286, 159, 158, 206, 79, 80, 108, 161, 162, 208, 249, 81, 109, 110, 164, 82, 111, 112, 165, 210, 166, 211, 212, 251, 213, 214, 215, 216, 252, 217, 253, 218, 219, 220, 167, 221, 254, 255, 256, 300, 257, 301, 302, 303, 306, 258, 305, 304, 354, 259, 307, 308, 355, 260, 309, 356, 404, 430, 261, 310, 311, 315, 262, 312, 357, 313, 263, 314, 264, 316, 317, 265, 318, 358, 405, 406, 431, 432, 407, 433, 451, 434, 452, 459, 435, 319, 320, 266, 267, 321, 360, 361, 362, 366, 363, 367, 411, 364, 365, 322, 368, 323, 324, 369, 412, 370, 413, 414, 371, 372, 415, 373, 416, 442, 443, 417, 168, 83, 116, 117, 118, 55, 56, 57, 84, 85, 119, 120, 173, 171, 172, 121, 174, 123, 124, 125, 176, 177, 126, 178, 127, 179, 222, 10]
theorem execShells_clos : Tryz.prog.closure 3 = execShells_L := closure_by_table Tryz.prog tabT_all (by kernel_rfl)
theorem execShells_inPlace : Tryz.prog.inPlace 3 = Rows.execShellsRow.inPlace := inPlace_by_table Tryz.prog execShells_clos tabN_all (by kernel_rfl)
theorem execShells_named : Tryz.prog.varsNamed 3 = Rows.execShellsRow.named := varsNamed_by_table Tryz.prog execShells_clos tabG_all tabE_all (by kernel_rfl)
theorem execShells_unf : Tryz.prog.unfollowed 3 = true := by
  obtain ⟨c, hc⟩ : ∃ c, Tryz.f50.body = some c := ⟨_, rfl⟩
  exact unfollowed_by_table Tryz.prog execShells_clos (g := 50) (by kernel_rfl) (fn := Tryz.f50) (by kernel_rfl) hc (by cases hc; kernel_rfl)
theorem execShells_k0 : (Rows.execShellsRow.wf (OpenSpec.ofChange Rows.execShellsSpec)) = true := by kernel_rfl
theorem execShells_k3 : (Tryz.f3.params.all (Tryz.pinned.checked.prog.readableRec ·)) = true := by kernel_rfl
theorem execShells_k4 : (namedTie Tryz.pinned.checked.prog Rows.execShellsRow.named Rows.execShellsSpec.vars) = true := by kernel_rfl
theorem execShells_k5 : ((Rows.execShellsRow.stops == [])) = true := by kernel_rfl
theorem execShells_k6 : ((Tryz.pinned.checked.prog.stops == [])) = true := by kernel_rfl
theorem execShells_k7 : ((Rows.execShellsRow.knobs == [])) = true := by kernel_rfl
theorem execShells_k8 : ((Tryz.pinned.checked.prog.stopKnobs == [])) = true := by kernel_rfl
theorem execShells_k9 : ((Rows.execShellsRow.inPlace == Tryz.pinned.checked.prog.inPlace 3)) = true := beq_iff_eq.2 execShells_inPlace.symm
theorem execShells_k10 : ((Rows.execShellsRow.unfollowed == Tryz.pinned.checked.prog.unfollowed 3)) = true := beq_iff_eq.2 execShells_unf.symm
theorem execShells_k11 : ((Rows.execShellsRow.recurses == Tryz.pinned.checked.prog.recurses 3)) = true := beq_iff_eq.2 (show true = Tryz.prog.recurses 3 by unfold Program.recurses; rw [execShells_unf]; rfl)
theorem execShells_k12 : ((Rows.execShellsRow.named == Tryz.pinned.checked.prog.varsNamed 3)) = true := beq_iff_eq.2 execShells_named.symm
theorem execShells_k13 : ((Rows.execShellsRow.maps == (Tryz.f3.params.toList ++ Rows.execShellsSpec.plain.varTypes Tryz.pinned.checked.prog).any (Tryz.pinned.checked.prog.mapsRec ·))) = true := by kernel_rfl
theorem execShells_k14 : ((Rows.execShellsRow.ifaces == (Tryz.f3.params.toList ++ Rows.execShellsSpec.plain.varTypes Tryz.pinned.checked.prog).any (Tryz.pinned.checked.prog.ifacesRec ·))) = true := by kernel_rfl
theorem execShells_k15 : ((Rows.execShellsRow.mapsOut == Tryz.pinned.checked.prog.mapsAmong Tryz.f3.resultTypes.toList)) = true := by kernel_rfl
theorem execShells_k16 : ((Rows.execShellsRow.loops == (Tryz.f3.params.toList ++ Rows.execShellsSpec.plain.varTypes Tryz.pinned.checked.prog).any (Tryz.pinned.checked.prog.loopsFrom ·))) = true := by kernel_rfl
theorem execShells_k17 : ((Rows.execShellsRow.wideKeys == (Tryz.f3.params.toList ++ Rows.execShellsSpec.plain.varTypes Tryz.pinned.checked.prog ++ Tryz.f3.resultTypes.toList).any (Tryz.pinned.checked.prog.wideKeysFrom ·))) = true := by kernel_rfl
theorem execShells_k18 : (Rows.execShellsSpec.vars.all (Tryz.pinned.checked.prog.varReadable ·)) = true := by kernel_rfl
theorem execShells_k19 : (Tryz.f3.resultTypes.all (fun t => Tryz.pinned.checked.prog.readableRec t && decide (t < Tryz.pinned.checked.prog.types.size))) = true := by kernel_rfl
theorem execShells_k20 : ((Rows.execShellsRow.ifacesOut == Tryz.f3.resultTypes.toList.any (Tryz.pinned.checked.prog.ifacesRec ·))) = true := by kernel_rfl
theorem execShells_k21 : ((Rows.execShellsRow.loopsOut == Tryz.f3.resultTypes.toList.any (Tryz.pinned.checked.prog.loopsFrom ·))) = true := by kernel_rfl
theorem execShells_k22 : ((Rows.execShellsRow.plainKeys == Tryz.pinned.checked.prog.plainKeys)) = true := by kernel_rfl
theorem execShells_k23 : (Rows.execShellsRow.shortTexts.isNone) = true := by kernel_rfl
theorem execShells_k26 : ((Rows.execShellsRow.lifted == Tryz.pinned.checked.prog.liftsFinal)) = true := by kernel_rfl
theorem execShells_k27 : ((Tryz.pinned.checked.prog.make == some Rows.execShellsRow.make)) = true := by kernel_rfl
theorem execShells_k28 : ((Rows.execShellsRow.kinds == (if Rows.execShellsRow.domain.isEmpty then [] else Tryz.f3.params.toList.map fun t => match Tryz.pinned.checked.prog.underlying t with | some (.int k) => some k | _ => none))) = true := by kernel_rfl
theorem execShells_k29 : ((Rows.execShellsRow.pinned == Rows.execShellsRow.pinnedBy)) = true := by kernel_rfl
theorem execShells_k30 : ((Rows.execShellsRow.veiled == (Tryz.f3.params.toList ++ Rows.execShellsSpec.plain.varTypes Tryz.pinned.checked.prog ++ Tryz.f3.resultTypes.toList).any (Tryz.pinned.checked.prog.veiledRec ·))) = true := by kernel_rfl
theorem execShells_k31 : (Rows.execShellsRow.veiledFits Tryz.pinned.checked.prog Tryz.f3.params.toList (Tryz.f3.params.toList ++ Rows.execShellsSpec.plain.varTypes Tryz.pinned.checked.prog ++ Tryz.f3.resultTypes.toList)) = true := by kernel_rfl
theorem execShells_closed : joinedFacts Tryz.pinned.checked.prog 3 Tryz.f3 Rows.execShellsSpec Rows.execShellsRow = true := band (band (band (band (band (band (band (band (band (band (band (band (band (band (band (band (band (band (band (band (band (band (band (band (band (band (band (band (band (band (band (execShells_k0) laidOut_ok) mapsRowed_ok) execShells_k3) execShells_k4) execShells_k5) execShells_k6) execShells_k7) execShells_k8) execShells_k9) execShells_k10) execShells_k11) execShells_k12) execShells_k13) execShells_k14) execShells_k15) execShells_k16) execShells_k17) execShells_k18) execShells_k19) execShells_k20) execShells_k21) execShells_k22) execShells_k23) stopsHeard_ok) mayEnter_ok) execShells_k26) execShells_k27) execShells_k28) execShells_k29) execShells_k30) execShells_k31
abbrev execShells_lst : List (String × DataW Unit) := Rows.execShellsRow.laid
theorem execShells_plain : (execShells_lst.all fun x => x.2.handleName?.isNone) = true := by kernel_rfl
theorem execShells_noInit : Tryz.prog.inits.idxOf? 3 = none := by kernel_rfl
theorem execShells_fn : Tryz.prog.funcs[3]? = some Tryz.f3 := by kernel_rfl
theorem execShells_zip1 (os : Os) : ((World.laidAll Tryz.prog os execShells_lst).forCall (fun _ _ => 0) ⟨#[], #[.string ByteArray.empty, .bool false], []⟩).variablesZipB Tryz.prog = true := by kernel_rfl
theorem execShells_zip2 (os : Os) : ((((World.laidAll Tryz.prog os execShells_lst).forCall (fun _ _ => 0) ⟨#[], #[.string ByteArray.empty, .bool false], []⟩).heap.toList.drop Tryz.prog.globals.size).take ((begin Tryz.prog (fun _ _ => 0) default).world.heap.size - Tryz.prog.globals.size) =
      (begin Tryz.prog (fun _ _ => 0) default).world.heap.toList.drop Tryz.prog.globals.size) := by kernel_rfl
theorem execShells_fits (os : Os) : (World.holding Tryz.prog os ⟨#[], #[], []⟩).layFits Tryz.prog execShells_lst [] = true := by kernel_rfl
theorem execShells_ifaces (os : Os) : (World.holding Tryz.prog os ⟨#[], #[], []⟩).layIfaces Tryz.prog execShells_lst (World.laidAll Tryz.prog os execShells_lst) = true := by kernel_rfl
theorem execShells_okB (os : Os) : Input.okWideB Tryz.prog ((World.laidAll Tryz.prog os execShells_lst).forCall (fun _ _ => 0) ⟨#[], #[.string ByteArray.empty, .bool false], []⟩) 3 ⟨#[], #[.string ByteArray.empty, .bool false], []⟩ = true := by kernel_rfl
theorem execShells_preB (os : Os) (H : Type) (enc : TypeId × Value → H) : Rows.execShellsSpec.preB enc Tryz.prog Tryz.f3 [] false ((World.laidAll Tryz.prog os execShells_lst).forCall (fun _ _ => 0) ⟨#[], #[.string ByteArray.empty, .bool false], []⟩).memory #[.string ByteArray.empty, .bool false] 8 = true := by kernel_rfl
theorem execShells_szB (os : Os) (H : Type) (enc : TypeId × Value → H) : Rows.execShellsSpec.sizedB enc Tryz.prog Tryz.f3 false ((World.laidAll Tryz.prog os execShells_lst).forCall (fun _ _ => 0) ⟨#[], #[.string ByteArray.empty, .bool false], []⟩).memory #[.string ByteArray.empty, .bool false] 8 = true := by kernel_rfl
theorem execShells_asciiIn : ("strings.asciiSpace", DataW.agg (asciiL.map fun x => (DataW.lit (.int .u8 x) : DataW Unit))) ∈ execShells_lst := List.mem_iff_getElem?.2 ⟨2, by kernel_rfl⟩
theorem execShells_uInt : Tryz.prog.underlying 3 = some (.int .i64) := by kernel_rfl
theorem execShells_uBool : Tryz.prog.underlying 4 = some .bool := by kernel_rfl
theorem execShells_params : Tryz.f3.params = #[9, 4] := by kernel_rfl
theorem execShells_results : Tryz.f3.resultTypes = #[4] := by kernel_rfl
theorem execShells_body : ∃ c, Tryz.f3.body = some c := ⟨_, rfl⟩
theorem execShells_powIn : ("internal/strconv.uint64pow10", DataW.agg (powL.map fun x => (DataW.lit (.int .u64 x) : DataW Unit))) ∈ execShells_lst := List.mem_iff_getElem?.2 ⟨4, by kernel_rfl⟩
theorem execShells_uStr : Tryz.prog.underlying 9 = some .string := by kernel_rfl
theorem execShells_lifted (os : Os) (started : os.Started) (H : Type) (enc : TypeId × Value → H) :
    ReturnsInHanded {} Tryz.checked os 3 .any (fun w args => (Rows.execShellsSpec.pre enc Tryz.prog Tryz.f3 Rows.execShellsRow.domain false w args ∧ laidMetH Tryz.prog execShells_lst w) ∧ sizedMet enc Tryz.prog Tryz.f3 (OpenSpec.ofChange Rows.execShellsSpec) false w args)
      (Rows.execShellsSpec.post enc Tryz.prog Tryz.f3 false true false false) := by
  refine returnsInHanded_of_change_and (C := Tryz.checked) (X := fun w _ => laidMetH Tryz.prog execShells_lst w) (fun _ _ _ hh h => h.of_heap hh) own started execShells_noInit execShells_fn
    (ChangeSpec.witness_shaped (enc := enc) (C := Tryz.checked) (os := os) (X := fun w _ => laidMetH Tryz.prog execShells_lst w) false (World.laidAll Tryz.prog os execShells_lst) #[.string ByteArray.empty, .bool false] 8 (World.laidAll_os _ _ _)
      (World.shaped_of_ZipB (execShells_zip1 os) (execShells_zip2 os)) (execShells_okB os) (execShells_preB os H enc) (execShells_szB os H enc)
      (by rw [MakeChecks.laidMetH_plain _ _ _ execShells_plain]; exact laidMet_laidAll _ (execShells_fits os) (execShells_ifaces os))) ?_
  intro W base args ds gs before hval0 hW _ _ hL _
  have hval : ∀ (j : Nat) t v, Tryz.f3.params[j]? = some t → args[j]? = some v → Value.okWide Tryz.prog W .any base t v := hval0
  have hW' := hW
  obtain ⟨p, q, hA0, hV, rfl, _, _⟩ := hW
  have hA : DataW.TrodAll enc Tryz.prog W 0 (fun _ => true) true Tryz.f3.params.toList args.toList ds p := hA0
  rw [execShells_params] at hA hval
  obtain ⟨v0, v1, d0, d1, p0, p1, rfl, rfl, rfl, h0, h1⟩ := trodAll_two hA
  obtain ⟨rfl, rfl⟩ := trodVars_none hV
  obtain ⟨n0, rfl, rfl, rfl, hw0⟩ := Go.ChangeMaps.open_string execShells_uStr (hval 0 9 v0 rfl rfl) h0
  obtain ⟨n1, rfl, rfl, rfl⟩ := open_bool execShells_uBool (hval 1 4 v1 rfl rfl) h1
  refine (xh_calls n0 hw0 n1 (tables execShells_plain execShells_asciiIn execShells_powIn hL)).mono fun e W' ⟨he, hs⟩ => ?_
  refine ⟨_, he, _, _, _, [], [], [], hW', ?_, ?_, ?_, hs.keptBut _, fun h => by cases h⟩
  · rw [execShells_results]
    exact trodAll_mk1 (shut_bool execShells_uBool true)
  · rw [execShells_params]
    exact trodAll_mk2 (Go.ChangeMaps.shut_string execShells_uStr hw0) (shut_bool execShells_uBool n1)
  · rfl
theorem execShells_named1 : Tryz.pinned.checked.prog.funcNamed Rows.execShellsRow.func = some 3 := by kernel_rfl
theorem execShells_wrapper : Tryz.f3.isWrapper Tryz.pinned.checked.prog Rows.execShellsRow.wrapper Rows.execShellsRow.mainSum := by unfold Func.isWrapper; first | (rw [if_pos (by decide +kernel)]; kernel_rfl) | (rw [if_neg (by decide +kernel)]; exact ⟨rfl, rfl⟩)
theorem execShells_inst : Tryz.f3.isInstance Tryz.pinned.checked.prog Rows.execShellsRow.origin Rows.execShellsRow.targs := of_decide_eq_true (by kernel_rfl)
theorem execShells_holds : Rows.ExecShellsSaid :=
  OpenClaim.holds_of_wide 3 Tryz.f3 rfl rfl rfl rfl rfl rfl rfl ⟨rfl, rfl, rfl, rfl, rfl⟩ rfl rfl rfl rfl rfl execShells_named1 execShells_fn execShells_closed execShells_inst execShells_wrapper
    (fun os started H enc _ => execShells_lifted os started H enc)
end
end Go.Proofs.YtnpdmljafaolpaaGreatDoor
