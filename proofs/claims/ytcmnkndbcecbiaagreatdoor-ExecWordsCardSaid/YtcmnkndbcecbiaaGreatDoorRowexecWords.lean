/-
  The row of execWords: for every input the law returns true.
-/
import Derived.Test.YtcmnkndbcecbiaaGreatDoorRunexecWords
import Derived.Test.YtcmnkndbcecbiaaGreatDoorXRowK6
import Derived.OpenShut
import Derived.Carry
import Derived.Lay
open Go Go.Mx Go.ChangeShapes Go.WideShapes Go.RowKit
namespace Go.Proofs.YtcmnkndbcecbiaaGreatDoor
set_option maxRecDepth 1000000
noncomputable section
def execWords_L : List Nat := [4, 7, 9, 16, 29, 18, 35, 56, 80, 95, 137, 106, 107, 108, 149, 36, 57, 81, 109, 150, 151, 198, 110, 152, 58, 82, 37, 59, 38, 39, 60, 83, 111, 153, 112, 154, 84, 85, 43, 28, 30, 31, 8, 17, 33, 45, 67, 46, 47, 48, 68, 49, 69, 70, 50, 71, 96, 72, 73, 98, 97, 99, 138, 100, 139, 187, 188, 228, 142, 191, 229, 192, 189, 74, 140, 141, 190, 34, 51, 52, 75, 101, 105, 54, 76, 102, 143, 104, 144, 103, 145, 147, 196, 197, 240, 278, 279, 146, 195, 148, 55, 79, 193, 230, 53, 231, 232, 273, 233, 177, 238, 275, 276, 203, 234, 274, 78, 235, 236, 237, 194, 239, 277, 330, 77, 10, 19, 20, 40, 61, 21, 11, 22, 23, 25, 26, 42, 62, 63, 86, 87, 114, 157, 204, 123, 170, 214, 254, 302, 348, 349, 301, 402, 403, 350, 351, 404, 405, 432, 433, 176, 131, 182, 242, 24, 41, 243, 280, 281, 282, 331, 283, 332, 378, 379, 422, 333, 158, 159, 205, 244, 284, 285, 334, 380, 381, 337, 385, 386, 303, 353, 352, 201, 355, 202, 354, 357, 407, 406, 199, 241, 356, 387, 428, 453, 413, 440, 441, 414, 442, 457, 443, 444, 458, 445, 122, 336, 384, 427, 383, 426, 452, 289, 252, 300, 342, 392, 398, 253, 393, 429, 394, 344, 345, 395, 430, 431, 454, 396, 397, 399, 400, 335, 382, 423, 424, 448, 449, 425, 459, 464, 465, 466, 363, 412, 467, 460, 450, 451, 461, 462, 286, 338, 388, 116, 124, 339, 207, 245, 246, 287, 247, 389, 390, 272, 329, 391, 340, 161, 206, 160, 113, 155, 156, 200, 115, 162, 163, 164, 166, 210, 251, 292, 293, 343, 294, 295, 346, 347, 401, 296, 297, 298, 299, 211, 212, 165, 208, 169, 248, 27, 288, 209, 250, 291, 341, 249, 290, 168, 167, 213, 88, 89, 117, 12, 14, 32, 44, 90, 118, 119, 171, 91, 120, 121, 172, 215, 173, 216, 217, 255, 218, 219, 220, 221, 256, 222, 257, 223, 224, 225, 174, 226, 258, 259, 260, 304, 261, 305, 306, 307, 310, 262, 309, 308, 358, 263, 311, 312, 359, 264, 313, 360, 408, 434, 265, 314, 315, 319, 266, 316, 361, 317, 267, 318, 268, 320, 321, 269, 322, 362, 409, 410, 435, 436, 411, 437, 455, 438, 456, 463, 439, 323, 324, 270, 271, 325, 364, 365, 366, 370, 367, 371, 415, 368, 369, 326, 372, 327, 328, 373, 416, 374, 417, 418, 375, 376, 419, 377, 420, 446, 447, 421, 175, 92, 125, 126, 127, 64, 65, 66, 93, 94, 128, 129, 180, 178, 179, 130, 181, 132, 133, 134, 183, 184, 135, 185, 136, 186, 227, 13]
theorem execWords_clos : Tryz.prog.closure 4 = execWords_L := closure_by_table Tryz.prog tabT_all (by kernel_rfl)
theorem execWords_inPlace : Tryz.prog.inPlace 4 = Rows.execWordsRow.inPlace := inPlace_by_table Tryz.prog execWords_clos tabN_all (by kernel_rfl)
theorem execWords_named : Tryz.prog.varsNamed 4 = Rows.execWordsRow.named := varsNamed_by_table Tryz.prog execWords_clos tabG_all tabE_all (by kernel_rfl)
theorem execWords_unf : Tryz.prog.unfollowed 4 = true := by
  obtain ⟨c, hc⟩ : ∃ c, Tryz.f59.body = some c := ⟨_, rfl⟩
  exact unfollowed_by_table Tryz.prog execWords_clos (g := 59) (by kernel_rfl) (fn := Tryz.f59) (by kernel_rfl) hc (by cases hc; kernel_rfl)
theorem execWords_k0 : (Rows.execWordsRow.wf (OpenSpec.ofChange Rows.execWordsSpec)) = true := by kernel_rfl
theorem execWords_k3 : (Tryz.f4.params.all (Tryz.pinned.checked.prog.readableRec ·)) = true := by kernel_rfl
theorem execWords_k4 : (namedTie Tryz.pinned.checked.prog Rows.execWordsRow.named Rows.execWordsSpec.vars) = true := by kernel_rfl
theorem execWords_k5 : ((Rows.execWordsRow.stops == [])) = true := by kernel_rfl
theorem execWords_k6 : ((Tryz.pinned.checked.prog.stops == [])) = true := by kernel_rfl
theorem execWords_k7 : ((Rows.execWordsRow.knobs == [])) = true := by kernel_rfl
theorem execWords_k8 : ((Tryz.pinned.checked.prog.stopKnobs == [])) = true := by kernel_rfl
theorem execWords_k9 : ((Rows.execWordsRow.inPlace == Tryz.pinned.checked.prog.inPlace 4)) = true := beq_iff_eq.2 execWords_inPlace.symm
theorem execWords_k10 : ((Rows.execWordsRow.unfollowed == Tryz.pinned.checked.prog.unfollowed 4)) = true := beq_iff_eq.2 execWords_unf.symm
theorem execWords_k11 : ((Rows.execWordsRow.recurses == Tryz.pinned.checked.prog.recurses 4)) = true := beq_iff_eq.2 (show true = Tryz.prog.recurses 4 by unfold Program.recurses; rw [execWords_unf]; rfl)
theorem execWords_k12 : ((Rows.execWordsRow.named == Tryz.pinned.checked.prog.varsNamed 4)) = true := beq_iff_eq.2 execWords_named.symm
theorem execWords_k13 : ((Rows.execWordsRow.maps == (Tryz.f4.params.toList ++ Rows.execWordsSpec.plain.varTypes Tryz.pinned.checked.prog).any (Tryz.pinned.checked.prog.mapsRec ·))) = true := by kernel_rfl
theorem execWords_k14 : ((Rows.execWordsRow.ifaces == (Tryz.f4.params.toList ++ Rows.execWordsSpec.plain.varTypes Tryz.pinned.checked.prog).any (Tryz.pinned.checked.prog.ifacesRec ·))) = true := by kernel_rfl
theorem execWords_k15 : ((Rows.execWordsRow.mapsOut == Tryz.pinned.checked.prog.mapsAmong Tryz.f4.resultTypes.toList)) = true := by kernel_rfl
theorem execWords_k16 : ((Rows.execWordsRow.loops == (Tryz.f4.params.toList ++ Rows.execWordsSpec.plain.varTypes Tryz.pinned.checked.prog).any (Tryz.pinned.checked.prog.loopsFrom ·))) = true := by kernel_rfl
theorem execWords_k17 : ((Rows.execWordsRow.wideKeys == (Tryz.f4.params.toList ++ Rows.execWordsSpec.plain.varTypes Tryz.pinned.checked.prog ++ Tryz.f4.resultTypes.toList).any (Tryz.pinned.checked.prog.wideKeysFrom ·))) = true := by kernel_rfl
theorem execWords_k18 : (Rows.execWordsSpec.vars.all (Tryz.pinned.checked.prog.varReadable ·)) = true := by kernel_rfl
theorem execWords_k19 : (Tryz.f4.resultTypes.all (fun t => Tryz.pinned.checked.prog.readableRec t && decide (t < Tryz.pinned.checked.prog.types.size))) = true := by kernel_rfl
theorem execWords_k20 : ((Rows.execWordsRow.ifacesOut == Tryz.f4.resultTypes.toList.any (Tryz.pinned.checked.prog.ifacesRec ·))) = true := by kernel_rfl
theorem execWords_k21 : ((Rows.execWordsRow.loopsOut == Tryz.f4.resultTypes.toList.any (Tryz.pinned.checked.prog.loopsFrom ·))) = true := by kernel_rfl
theorem execWords_k22 : ((Rows.execWordsRow.plainKeys == Tryz.pinned.checked.prog.plainKeys)) = true := by kernel_rfl
theorem execWords_k23 : (Rows.execWordsRow.shortTexts.isNone) = true := by kernel_rfl
theorem execWords_k26 : ((Rows.execWordsRow.lifted == Tryz.pinned.checked.prog.liftsFinal)) = true := by kernel_rfl
theorem execWords_k27 : ((Tryz.pinned.checked.prog.make == some Rows.execWordsRow.make)) = true := by kernel_rfl
theorem execWords_k28 : ((Rows.execWordsRow.kinds == (if Rows.execWordsRow.domain.isEmpty then [] else Tryz.f4.params.toList.map fun t => match Tryz.pinned.checked.prog.underlying t with | some (.int k) => some k | _ => none))) = true := by kernel_rfl
theorem execWords_k29 : ((Rows.execWordsRow.pinned == Rows.execWordsRow.pinnedBy)) = true := by kernel_rfl
theorem execWords_k30 : ((Rows.execWordsRow.veiled == (Tryz.f4.params.toList ++ Rows.execWordsSpec.plain.varTypes Tryz.pinned.checked.prog ++ Tryz.f4.resultTypes.toList).any (Tryz.pinned.checked.prog.veiledRec ·))) = true := by kernel_rfl
theorem execWords_k31 : (Rows.execWordsRow.veiledFits Tryz.pinned.checked.prog Tryz.f4.params.toList (Tryz.f4.params.toList ++ Rows.execWordsSpec.plain.varTypes Tryz.pinned.checked.prog ++ Tryz.f4.resultTypes.toList)) = true := by kernel_rfl
theorem execWords_closed : joinedFacts Tryz.pinned.checked.prog 4 Tryz.f4 Rows.execWordsSpec Rows.execWordsRow = true := band (band (band (band (band (band (band (band (band (band (band (band (band (band (band (band (band (band (band (band (band (band (band (band (band (band (band (band (band (band (band (execWords_k0) laidOut_ok) mapsRowed_ok) execWords_k3) execWords_k4) execWords_k5) execWords_k6) execWords_k7) execWords_k8) execWords_k9) execWords_k10) execWords_k11) execWords_k12) execWords_k13) execWords_k14) execWords_k15) execWords_k16) execWords_k17) execWords_k18) execWords_k19) execWords_k20) execWords_k21) execWords_k22) execWords_k23) stopsHeard_ok) mayEnter_ok) execWords_k26) execWords_k27) execWords_k28) execWords_k29) execWords_k30) execWords_k31
abbrev execWords_lst : List (String × DataW Unit) := Rows.execWordsRow.laid
theorem execWords_plain : (execWords_lst.all fun x => x.2.handleName?.isNone) = true := by kernel_rfl
theorem execWords_noInit : Tryz.prog.inits.idxOf? 4 = none := by kernel_rfl
theorem execWords_fn : Tryz.prog.funcs[4]? = some Tryz.f4 := by kernel_rfl
theorem execWords_zip1 (os : Os) : ((World.laidAll Tryz.prog os execWords_lst).forCall (fun _ _ => 0) ⟨#[], #[.slice none 0 0, .bool false], []⟩).variablesZipB Tryz.prog = true := by kernel_rfl
theorem execWords_zip2 (os : Os) : ((((World.laidAll Tryz.prog os execWords_lst).forCall (fun _ _ => 0) ⟨#[], #[.slice none 0 0, .bool false], []⟩).heap.toList.drop Tryz.prog.globals.size).take ((begin Tryz.prog (fun _ _ => 0) default).world.heap.size - Tryz.prog.globals.size) =
      (begin Tryz.prog (fun _ _ => 0) default).world.heap.toList.drop Tryz.prog.globals.size) := by kernel_rfl
theorem execWords_fits (os : Os) : (World.holding Tryz.prog os ⟨#[], #[], []⟩).layFits Tryz.prog execWords_lst [] = true := by kernel_rfl
theorem execWords_ifaces (os : Os) : (World.holding Tryz.prog os ⟨#[], #[], []⟩).layIfaces Tryz.prog execWords_lst (World.laidAll Tryz.prog os execWords_lst) = true := by kernel_rfl
theorem execWords_okB (os : Os) : Input.okWideB Tryz.prog ((World.laidAll Tryz.prog os execWords_lst).forCall (fun _ _ => 0) ⟨#[], #[.slice none 0 0, .bool false], []⟩) 4 ⟨#[], #[.slice none 0 0, .bool false], []⟩ = true := by kernel_rfl
theorem execWords_preB (os : Os) (H : Type) (enc : TypeId × Value → H) : Rows.execWordsSpec.preB enc Tryz.prog Tryz.f4 [] false ((World.laidAll Tryz.prog os execWords_lst).forCall (fun _ _ => 0) ⟨#[], #[.slice none 0 0, .bool false], []⟩).memory #[.slice none 0 0, .bool false] 8 = true := by kernel_rfl
theorem execWords_szB (os : Os) (H : Type) (enc : TypeId × Value → H) : Rows.execWordsSpec.sizedB enc Tryz.prog Tryz.f4 false ((World.laidAll Tryz.prog os execWords_lst).forCall (fun _ _ => 0) ⟨#[], #[.slice none 0 0, .bool false], []⟩).memory #[.slice none 0 0, .bool false] 8 = true := by kernel_rfl
theorem execWords_asciiIn : ("strings.asciiSpace", DataW.agg (asciiL.map fun x => (DataW.lit (.int .u8 x) : DataW Unit))) ∈ execWords_lst := List.mem_iff_getElem?.2 ⟨2, by kernel_rfl⟩
theorem execWords_uInt : Tryz.prog.underlying 3 = some (.int .i64) := by kernel_rfl
theorem execWords_uBool : Tryz.prog.underlying 4 = some .bool := by kernel_rfl
theorem execWords_params : Tryz.f4.params = #[39, 4] := by kernel_rfl
theorem execWords_results : Tryz.f4.resultTypes = #[4] := by kernel_rfl
theorem execWords_body : ∃ c, Tryz.f4.body = some c := ⟨_, rfl⟩
theorem execWords_powIn : ("internal/strconv.uint64pow10", DataW.agg (powL.map fun x => (DataW.lit (.int .u64 x) : DataW Unit))) ∈ execWords_lst := List.mem_iff_getElem?.2 ⟨4, by kernel_rfl⟩
theorem execWords_stU : Tryz.prog.underlying 39 = some (.slice 9) := by kernel_rfl
theorem execWords_stE : Tryz.prog.underlying 9 = some .string := by kernel_rfl
theorem execWords_stC : Tryz.prog.cellsOf 9 = 1 := by kernel_rfl
theorem execWords_stR : Tryz.pinned.checked.prog.readableRec 39 = true := by kernel_rfl
theorem execWords_stT : 39 < Tryz.pinned.checked.prog.types.size := of_decide_eq_true (by kernel_rfl)
theorem execWords_calls {H : Type} {encH : TypeId × Value → H} {W : World} {v0 : Value} {d0 : DataW H} {p0 : List MemPlace} (hL : laidMetH Tryz.prog execWords_lst W) (hval : Value.okWide Tryz.prog W .any 0 39 v0) (h0 : DataW.Trod encH Tryz.prog W 0 (fun _ => true) true 39 v0 d0 p0) (q : Bool) :
    Calls Tryz.prog 4 #[v0, .bool q] W fun e W' => e = .returned (.bool true) ∧ Stays W W' := by
  obtain ⟨cd, hb⟩ := xw_body
  have tab := tables execWords_plain execWords_asciiIn execWords_powIn hL
  have un : ∀ {ρ : Ren} {x : Value}, VR ρ .nil x := fun {ρ x} => by simp only [VR]
  have atN : ∀ vals : List Nat, atomsR 13 vals 12 = none := fun vals => by unfold atomsR; rw [if_pos (by omega)]
  have go0 : ∀ (x : V), VR (atomsR 13 []) x v0 → (∀ τ, xwRun τ x .nil .nil 0 = true) → Calls Tryz.prog 4 #[v0, .bool q] W fun e W' => e = .returned (.bool true) ∧ Stays W W' := fun x hx hrun =>
    top_run_k nameOK rFW xw_fn hb tblIn (args := .cons x (.cons .nil .nil)) (ob := [(12, .c .nil 0 false)]) (nx := 43) (by omega) (ρa := atomsR 13 []) (fun i L h => by
      unfold atomsR at h
      split at h
      · cases h
      · simp at h) (none_ob2 (by omega) (atN [])) (by simp only [VRs]; exact ⟨_, _, rfl, hx, _, _, rfl, un, rfl⟩) hrun tab
  rcases open_strslice execWords_stU execWords_stE execWords_stC (okWide_slice execWords_stU hval) h0 with rfl | ⟨A, c, rfl⟩ | ⟨b, off, cap, arr, ty, fz, l, rfl, h1, hle, hblk, hsz, hcs, hmx⟩
  · exact go0 .sn (by simp [VR]) (xw_s 0)
  · exact go0 .se (by simp [VR]) (xw_e 0)
  have hoff : off ≤ arr.size := by omega
  have hcs2 : arr.toList.drop off = l.map Value.string ++ (arr.toList.drop off).drop l.length := by rw [← hcs, List.take_append_drop]
  have go : ∀ (vals : List Nat) (z lx : V) (vs rest : List Value), vals.length ≤ 30 → l.map Value.string = vs ++ rest → VRs (strsR 12 b off arr.size vals) lx vs → VR (strsR 12 b off arr.size vals) z (.bool q) → (∀ τ, xwRun τ (.sl 12 0 l.length 1) lx z ty = true) → Calls Tryz.prog 4 #[.slice (some ⟨b, off, none⟩) l.length cap, .bool q] W fun e W' => e = .returned (.bool true) ∧ Stays W W' := fun vals z lx vs rest hlen hr hl hz hrun =>
    top_run_k nameOK rFW xw_fn hb tblIn (args := .cons (.sl 12 0 l.length 1) (.cons z .nil)) (nx := 43) (by omega) (fun i L h => by have := strsR_in i L h; omega) (strs_ob (by omega) hblk hoff (by rw [hcs2, hr, List.append_assoc]) hl) (by simp only [VRs]; exact ⟨_, _, rfl, strs_V hle hsz, _, _, rfl, hz, rfl⟩) hrun tab
  by_cases hn : l.length ≤ 10
  rotate_left
  · obtain ⟨m, hm⟩ : ∃ m, l.length = m + 11 := ⟨l.length - 11, by omega⟩
    exact go [] .nil .nil [] (l.map Value.string) (by simp) rfl (by simp [VRs]) un fun τ => by rw [hm]; exact xw_many m ty τ
  obtain ⟨j, t, ws, hj, hws, hl⟩ := lst_case (M := M) (lo := 97) (hi := 122) (B := 40) mOut l hmx
  have hword : VRs (strsR 12 b off arr.size ws) (lstV M 97 122 40 t l.length 13 j) (l.map Value.string) := hl _ 13 fun k x hk => strsR_at (ng := 12) (j := k) hk
  rcases hj with ⟨rfl, rfl⟩ | ⟨hj, ht, ht1⟩
  · exact go ws (.b q) _ _ [] (by omega) (by simp) hword (VRb _ _) (xw_h l.length h1 hn q ty)
  · exact go ws .nil _ _ [] (by omega) (by simp) hword un (xw_l l.length j t hn hj ht ht1 ty)
theorem execWords_lifted (os : Os) (started : os.Started) (H : Type) (enc : TypeId × Value → H) :
    ReturnsInHanded {} Tryz.checked os 4 .any (fun w args => (Rows.execWordsSpec.pre enc Tryz.prog Tryz.f4 Rows.execWordsRow.domain false w args ∧ laidMetH Tryz.prog execWords_lst w) ∧ sizedMet enc Tryz.prog Tryz.f4 (OpenSpec.ofChange Rows.execWordsSpec) false w args)
      (Rows.execWordsSpec.post enc Tryz.prog Tryz.f4 false true false false) := by
  refine returnsInHanded_of_change_and (C := Tryz.checked) (X := fun w _ => laidMetH Tryz.prog execWords_lst w) (fun _ _ _ hh h => h.of_heap hh) own started execWords_noInit execWords_fn
    (ChangeSpec.witness_shaped (enc := enc) (C := Tryz.checked) (os := os) (X := fun w _ => laidMetH Tryz.prog execWords_lst w) false (World.laidAll Tryz.prog os execWords_lst) #[.slice none 0 0, .bool false] 8 (World.laidAll_os _ _ _)
      (World.shaped_of_ZipB (execWords_zip1 os) (execWords_zip2 os)) (execWords_okB os) (execWords_preB os H enc) (execWords_szB os H enc)
      (by rw [MakeChecks.laidMetH_plain _ _ _ execWords_plain]; exact laidMet_laidAll _ (execWords_fits os) (execWords_ifaces os))) ?_
  intro W base args ds gs before hval0 hW _ _ hL _
  have hval : ∀ (j : Nat) t v, Tryz.f4.params[j]? = some t → args[j]? = some v → Value.okWide Tryz.prog W .any base t v := hval0
  have hW' := hW
  obtain ⟨p, q, hA0, hV, rfl, _, _⟩ := hW
  have hA : DataW.TrodAll enc Tryz.prog W 0 (fun _ => true) true Tryz.f4.params.toList args.toList ds p := hA0
  rw [execWords_params] at hA hval
  obtain ⟨v0, v1, d0, d1, p0, p1, rfl, rfl, rfl, h0, h1⟩ := trodAll_two hA
  obtain ⟨rfl, rfl⟩ := trodVars_none hV
  obtain ⟨n1, rfl, rfl, rfl⟩ := open_bool execWords_uBool (hval 1 4 v1 rfl rfl) h1
  refine (execWords_calls hL (hval 0 39 v0 rfl rfl) h0 n1).mono fun e W' ⟨he, hs⟩ => ?_
  refine ⟨_, he, _, _, _, [], p0 ++ ([]), [], hW', ?_, ?_, ?_, hs.keptBut _, fun h => by cases h⟩
  · rw [execWords_results]
    exact trodAll_mk1 (shut_bool execWords_uBool true)
  · rw [execWords_params]
    exact trodAll_mk2 (Below.trod laidOut_ok execWords_stR execWords_stT h0 hs.below (fun y hy => hW'.lt y (by simp [hy]))) (shut_bool execWords_uBool n1)
  · rfl
theorem execWords_named1 : Tryz.pinned.checked.prog.funcNamed Rows.execWordsRow.func = some 4 := by kernel_rfl
theorem execWords_wrapper : Tryz.f4.isWrapper Tryz.pinned.checked.prog Rows.execWordsRow.wrapper Rows.execWordsRow.mainSum := by unfold Func.isWrapper; first | (rw [if_pos (by decide +kernel)]; kernel_rfl) | (rw [if_neg (by decide +kernel)]; exact ⟨rfl, rfl⟩)
theorem execWords_inst : Tryz.f4.isInstance Tryz.pinned.checked.prog Rows.execWordsRow.origin Rows.execWordsRow.targs := of_decide_eq_true (by kernel_rfl)
theorem execWords_holds : Rows.ExecWordsSaid :=
  OpenClaim.holds_of_wide 4 Tryz.f4 rfl rfl rfl rfl rfl rfl rfl ⟨rfl, rfl, rfl, rfl, rfl⟩ rfl rfl rfl rfl rfl execWords_named1 execWords_fn execWords_closed execWords_inst execWords_wrapper
    (fun os started H enc _ => execWords_lifted os started H enc)
end
end Go.Proofs.YtcmnkndbcecbiaaGreatDoor
