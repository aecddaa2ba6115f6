/-
  The row of execCalls: for every input the law returns true.
-/
import Derived.Test.YtcmnkndbcecbiaaGreatDoorRunexecCalls
import Derived.Test.YtcmnkndbcecbiaaGreatDoorXRowK6
import Derived.OpenShut
import Derived.Carry
import Derived.Lay
open Go Go.Mx Go.ChangeShapes Go.WideShapes Go.RowKit
namespace Go.Proofs.YtcmnkndbcecbiaaGreatDoor
set_option maxRecDepth 1000000
noncomputable section
def execCalls_L : List Nat := [5, 7, 9, 16, 29, 18, 35, 56, 80, 95, 137, 106, 107, 108, 149, 36, 57, 81, 109, 150, 151, 198, 110, 152, 58, 82, 37, 59, 38, 39, 60, 83, 111, 153, 112, 154, 84, 85, 43, 28, 30, 31, 8, 17, 33, 45, 67, 46, 47, 48, 68, 49, 69, 70, 50, 71, 96, 72, 73, 98, 97, 99, 138, 100, 139, 187, 188, 228, 142, 191, 229, 192, 189, 74, 140, 141, 190, 34, 51, 52, 75, 101, 105, 54, 76, 102, 143, 104, 144, 103, 145, 147, 196, 197, 240, 278, 279, 146, 195, 148, 55, 79, 193, 230, 53, 231, 232, 273, 233, 177, 238, 275, 276, 203, 234, 274, 78, 235, 236, 237, 194, 239, 277, 330, 77, 10, 19, 20, 40, 61, 21, 11, 22, 23, 25, 26, 42, 62, 63, 86, 87, 114, 157, 204, 123, 170, 214, 254, 302, 348, 349, 301, 402, 403, 350, 351, 404, 405, 432, 433, 176, 131, 182, 242, 24, 41, 243, 280, 281, 282, 331, 283, 332, 378, 379, 422, 333, 158, 159, 205, 244, 284, 285, 334, 380, 381, 337, 385, 386, 303, 353, 352, 201, 355, 202, 354, 357, 407, 406, 199, 241, 356, 387, 428, 453, 413, 440, 441, 414, 442, 457, 443, 444, 458, 445, 122, 336, 384, 427, 383, 426, 452, 289, 252, 300, 342, 392, 398, 253, 393, 429, 394, 344, 345, 395, 430, 431, 454, 396, 397, 399, 400, 335, 382, 423, 424, 448, 449, 425, 459, 464, 465, 466, 363, 412, 467, 460, 450, 451, 461, 462, 286, 338, 388, 116, 124, 339, 207, 245, 246, 287, 247, 389, 390, 272, 329, 391, 340, 161, 206, 160, 113, 155, 156, 200, 115, 162, 163, 164, 166, 210, 251, 292, 293, 343, 294, 295, 346, 347, 401, 296, 297, 298, 299, 211, 212, 165, 208, 169, 248, 27, 288, 209, 250, 291, 341, 249, 290, 168, 167, 213, 88, 89, 117, 12, 14, 32, 44, 90, 118, 119, 171, 91, 120, 121, 172, 215, 173, 216, 217, 255, 218, 219, 220, 221, 256, 222, 257, 223, 224, 225, 174, 226, 258, 259, 260, 304, 261, 305, 306, 307, 310, 262, 309, 308, 358, 263, 311, 312, 359, 264, 313, 360, 408, 434, 265, 314, 315, 319, 266, 316, 361, 317, 267, 318, 268, 320, 321, 269, 322, 362, 409, 410, 435, 436, 411, 437, 455, 438, 456, 463, 439, 323, 324, 270, 271, 325, 364, 365, 366, 370, 367, 371, 415, 368, 369, 326, 372, 327, 328, 373, 416, 374, 417, 418, 375, 376, 419, 377, 420, 446, 447, 421, 175, 92, 125, 126, 127, 64, 65, 66, 93, 94, 128, 129, 180, 178, 179, 130, 181, 132, 133, 134, 183, 184, 135, 185, 136, 186, 227, 13, 15]
theorem execCalls_clos : Tryz.prog.closure 5 = execCalls_L := closure_by_table Tryz.prog tabT_all (by kernel_rfl)
theorem execCalls_inPlace : Tryz.prog.inPlace 5 = Rows.execCallsRow.inPlace := inPlace_by_table Tryz.prog execCalls_clos tabN_all (by kernel_rfl)
theorem execCalls_named : Tryz.prog.varsNamed 5 = Rows.execCallsRow.named := varsNamed_by_table Tryz.prog execCalls_clos tabG_all tabE_all (by kernel_rfl)
theorem execCalls_unf : Tryz.prog.unfollowed 5 = true := by
  obtain ⟨c, hc⟩ : ∃ c, Tryz.f59.body = some c := ⟨_, rfl⟩
  exact unfollowed_by_table Tryz.prog execCalls_clos (g := 59) (by kernel_rfl) (fn := Tryz.f59) (by kernel_rfl) hc (by cases hc; kernel_rfl)
theorem execCalls_k0 : (Rows.execCallsRow.wf (OpenSpec.ofChange Rows.execCallsSpec)) = true := by kernel_rfl
theorem execCalls_k3 : (Tryz.f5.params.all (Tryz.pinned.checked.prog.readableRec ·)) = true := by kernel_rfl
theorem execCalls_k4 : (namedTie Tryz.pinned.checked.prog Rows.execCallsRow.named Rows.execCallsSpec.vars) = true := by kernel_rfl
theorem execCalls_k5 : ((Rows.execCallsRow.stops == [])) = true := by kernel_rfl
theorem execCalls_k6 : ((Tryz.pinned.checked.prog.stops == [])) = true := by kernel_rfl
theorem execCalls_k7 : ((Rows.execCallsRow.knobs == [])) = true := by kernel_rfl
theorem execCalls_k8 : ((Tryz.pinned.checked.prog.stopKnobs == [])) = true := by kernel_rfl
theorem execCalls_k9 : ((Rows.execCallsRow.inPlace == Tryz.pinned.checked.prog.inPlace 5)) = true := beq_iff_eq.2 execCalls_inPlace.symm
theorem execCalls_k10 : ((Rows.execCallsRow.unfollowed == Tryz.pinned.checked.prog.unfollowed 5)) = true := beq_iff_eq.2 execCalls_unf.symm
theorem execCalls_k11 : ((Rows.execCallsRow.recurses == Tryz.pinned.checked.prog.recurses 5)) = true := beq_iff_eq.2 (show true = Tryz.prog.recurses 5 by unfold Program.recurses; rw [execCalls_unf]; rfl)
theorem execCalls_k12 : ((Rows.execCallsRow.named == Tryz.pinned.checked.prog.varsNamed 5)) = true := beq_iff_eq.2 execCalls_named.symm
theorem execCalls_k13 : ((Rows.execCallsRow.maps == (Tryz.f5.params.toList ++ Rows.execCallsSpec.plain.varTypes Tryz.pinned.checked.prog).any (Tryz.pinned.checked.prog.mapsRec ·))) = true := by kernel_rfl
theorem execCalls_k14 : ((Rows.execCallsRow.ifaces == (Tryz.f5.params.toList ++ Rows.execCallsSpec.plain.varTypes Tryz.pinned.checked.prog).any (Tryz.pinned.checked.prog.ifacesRec ·))) = true := by kernel_rfl
theorem execCalls_k15 : ((Rows.execCallsRow.mapsOut == Tryz.pinned.checked.prog.mapsAmong Tryz.f5.resultTypes.toList)) = true := by kernel_rfl
theorem execCalls_k16 : ((Rows.execCallsRow.loops == (Tryz.f5.params.toList ++ Rows.execCallsSpec.plain.varTypes Tryz.pinned.checked.prog).any (Tryz.pinned.checked.prog.loopsFrom ·))) = true := by kernel_rfl
theorem execCalls_k17 : ((Rows.execCallsRow.wideKeys == (Tryz.f5.params.toList ++ Rows.execCallsSpec.plain.varTypes Tryz.pinned.checked.prog ++ Tryz.f5.resultTypes.toList).any (Tryz.pinned.checked.prog.wideKeysFrom ·))) = true := by kernel_rfl
theorem execCalls_k18 : (Rows.execCallsSpec.vars.all (Tryz.pinned.checked.prog.varReadable ·)) = true := by kernel_rfl
theorem execCalls_k19 : (Tryz.f5.resultTypes.all (fun t => Tryz.pinned.checked.prog.readableRec t && decide (t < Tryz.pinned.checked.prog.types.size))) = true := by kernel_rfl
theorem execCalls_k20 : ((Rows.execCallsRow.ifacesOut == Tryz.f5.resultTypes.toList.any (Tryz.pinned.checked.prog.ifacesRec ·))) = true := by kernel_rfl
theorem execCalls_k21 : ((Rows.execCallsRow.loopsOut == Tryz.f5.resultTypes.toList.any (Tryz.pinned.checked.prog.loopsFrom ·))) = true := by kernel_rfl
theorem execCalls_k22 : ((Rows.execCallsRow.plainKeys == Tryz.pinned.checked.prog.plainKeys)) = true := by kernel_rfl
theorem execCalls_k23 : (Rows.execCallsRow.shortTexts.isNone) = true := by kernel_rfl
theorem execCalls_k26 : ((Rows.execCallsRow.lifted == Tryz.pinned.checked.prog.liftsFinal)) = true := by kernel_rfl
theorem execCalls_k27 : ((Tryz.pinned.checked.prog.make == some Rows.execCallsRow.make)) = true := by kernel_rfl
theorem execCalls_k28 : ((Rows.execCallsRow.kinds == (if Rows.execCallsRow.domain.isEmpty then [] else Tryz.f5.params.toList.map fun t => match Tryz.pinned.checked.prog.underlying t with | some (.int k) => some k | _ => none))) = true := by kernel_rfl
theorem execCalls_k29 : ((Rows.execCallsRow.pinned == Rows.execCallsRow.pinnedBy)) = true := by kernel_rfl
theorem execCalls_k30 : ((Rows.execCallsRow.veiled == (Tryz.f5.params.toList ++ Rows.execCallsSpec.plain.varTypes Tryz.pinned.checked.prog ++ Tryz.f5.resultTypes.toList).any (Tryz.pinned.checked.prog.veiledRec ·))) = true := by kernel_rfl
theorem execCalls_k31 : (Rows.execCallsRow.veiledFits Tryz.pinned.checked.prog Tryz.f5.params.toList (Tryz.f5.params.toList ++ Rows.execCallsSpec.plain.varTypes Tryz.pinned.checked.prog ++ Tryz.f5.resultTypes.toList)) = true := by kernel_rfl
theorem execCalls_closed : joinedFacts Tryz.pinned.checked.prog 5 Tryz.f5 Rows.execCallsSpec Rows.execCallsRow = true := band (band (band (band (band (band (band (band (band (band (band (band (band (band (band (band (band (band (band (band (band (band (band (band (band (band (band (band (band (band (band (execCalls_k0) laidOut_ok) mapsRowed_ok) execCalls_k3) execCalls_k4) execCalls_k5) execCalls_k6) execCalls_k7) execCalls_k8) execCalls_k9) execCalls_k10) execCalls_k11) execCalls_k12) execCalls_k13) execCalls_k14) execCalls_k15) execCalls_k16) execCalls_k17) execCalls_k18) execCalls_k19) execCalls_k20) execCalls_k21) execCalls_k22) execCalls_k23) stopsHeard_ok) mayEnter_ok) execCalls_k26) execCalls_k27) execCalls_k28) execCalls_k29) execCalls_k30) execCalls_k31
abbrev execCalls_lst : List (String × DataW Unit) := Rows.execCallsRow.laid
theorem execCalls_plain : (execCalls_lst.all fun x => x.2.handleName?.isNone) = true := by kernel_rfl
theorem execCalls_noInit : Tryz.prog.inits.idxOf? 5 = none := by kernel_rfl
theorem execCalls_fn : Tryz.prog.funcs[5]? = some Tryz.f5 := by kernel_rfl
theorem execCalls_zip1 (os : Os) : ((World.laidAll Tryz.prog os execCalls_lst).forCall (fun _ _ => 0) ⟨#[], #[.slice none 0 0, .int .i64 (-1)], []⟩).variablesZipB Tryz.prog = true := by kernel_rfl
theorem execCalls_zip2 (os : Os) : ((((World.laidAll Tryz.prog os execCalls_lst).forCall (fun _ _ => 0) ⟨#[], #[.slice none 0 0, .int .i64 (-1)], []⟩).heap.toList.drop Tryz.prog.globals.size).take ((begin Tryz.prog (fun _ _ => 0) default).world.heap.size - Tryz.prog.globals.size) =
      (begin Tryz.prog (fun _ _ => 0) default).world.heap.toList.drop Tryz.prog.globals.size) := by kernel_rfl
theorem execCalls_fits (os : Os) : (World.holding Tryz.prog os ⟨#[], #[], []⟩).layFits Tryz.prog execCalls_lst [] = true := by kernel_rfl
theorem execCalls_ifaces (os : Os) : (World.holding Tryz.prog os ⟨#[], #[], []⟩).layIfaces Tryz.prog execCalls_lst (World.laidAll Tryz.prog os execCalls_lst) = true := by kernel_rfl
theorem execCalls_okB (os : Os) : Input.okWideB Tryz.prog ((World.laidAll Tryz.prog os execCalls_lst).forCall (fun _ _ => 0) ⟨#[], #[.slice none 0 0, .int .i64 (-1)], []⟩) 5 ⟨#[], #[.slice none 0 0, .int .i64 (-1)], []⟩ = true := by kernel_rfl
theorem execCalls_preB (os : Os) (H : Type) (enc : TypeId × Value → H) : Rows.execCallsSpec.preB enc Tryz.prog Tryz.f5 [] false ((World.laidAll Tryz.prog os execCalls_lst).forCall (fun _ _ => 0) ⟨#[], #[.slice none 0 0, .int .i64 (-1)], []⟩).memory #[.slice none 0 0, .int .i64 (-1)] 8 = true := by kernel_rfl
theorem execCalls_szB (os : Os) (H : Type) (enc : TypeId × Value → H) : Rows.execCallsSpec.sizedB enc Tryz.prog Tryz.f5 false ((World.laidAll Tryz.prog os execCalls_lst).forCall (fun _ _ => 0) ⟨#[], #[.slice none 0 0, .int .i64 (-1)], []⟩).memory #[.slice none 0 0, .int .i64 (-1)] 8 = true := by kernel_rfl
theorem execCalls_asciiIn : ("strings.asciiSpace", DataW.agg (asciiL.map fun x => (DataW.lit (.int .u8 x) : DataW Unit))) ∈ execCalls_lst := List.mem_iff_getElem?.2 ⟨2, by kernel_rfl⟩
theorem execCalls_uInt : Tryz.prog.underlying 3 = some (.int .i64) := by kernel_rfl
theorem execCalls_uBool : Tryz.prog.underlying 4 = some .bool := by kernel_rfl
theorem execCalls_params : Tryz.f5.params = #[39, 3] := by kernel_rfl
theorem execCalls_results : Tryz.f5.resultTypes = #[4] := by kernel_rfl
theorem execCalls_body : ∃ c, Tryz.f5.body = some c := ⟨_, rfl⟩
theorem execCalls_powIn : ("internal/strconv.uint64pow10", DataW.agg (powL.map fun x => (DataW.lit (.int .u64 x) : DataW Unit))) ∈ execCalls_lst := List.mem_iff_getElem?.2 ⟨4, by kernel_rfl⟩
theorem execCalls_stU : Tryz.prog.underlying 39 = some (.slice 9) := by kernel_rfl
theorem execCalls_stE : Tryz.prog.underlying 9 = some .string := by kernel_rfl
theorem execCalls_stC : Tryz.prog.cellsOf 9 = 1 := by kernel_rfl
theorem execCalls_stR : Tryz.pinned.checked.prog.readableRec 39 = true := by kernel_rfl
theorem execCalls_stT : 39 < Tryz.pinned.checked.prog.types.size := of_decide_eq_true (by kernel_rfl)
theorem execCalls_calls {H : Type} {encH : TypeId × Value → H} {W : World} {v0 : Value} {d0 : DataW H} {p0 : List MemPlace} (hL : laidMetH Tryz.prog execCalls_lst W) (hval : Value.okWide Tryz.prog W .any 0 39 v0) (h0 : DataW.Trod encH Tryz.prog W 0 (fun _ => true) true 39 v0 d0 p0) (s : Int) :
    Calls Tryz.prog 5 #[v0, .int .i64 s] W fun e W' => e = .returned (.bool true) ∧ Stays W W' := by
  obtain ⟨cd, hb⟩ := xl_body
  have tab := tables execCalls_plain execCalls_asciiIn execCalls_powIn hL
  have un : ∀ {ρ : Ren} {x : Value}, VR ρ .nil x := fun {ρ x} => by simp only [VR]
  have atN : ∀ vals : List Nat, atomsR 13 vals 12 = none := fun vals => by unfold atomsR; rw [if_pos (by omega)]
  have go0 : ∀ {hk : List (Nat × HookF)}, CKok Tryz.prog 12 (runL Tryz.prog 12 (hkL hk) lk 100000) → ∀ (vals : List Nat) (x g z : V), vals.length = 26 → VR (atomsR 13 vals) g v0 → VR (atomsR 13 vals) z (.int .i64 s) → (∀ τ, xlRun hk τ g .nil z 0 = true) → Calls Tryz.prog 5 #[v0, .int .i64 s] W fun e W' => e = .returned (.bool true) ∧ Stays W W' := fun {hk} hR vals _ g z hlen hg hz hrun =>
    top_run_k nameOK hR xl_fn hb tblIn (args := .cons g (.cons z .nil)) (ob := [(12, .c .nil 0 false)]) (nx := 39) (by omega) (ρa := atomsR 13 vals) (fun i L h => by
      unfold atomsR at h
      split at h
      · cases h
      · cases e : vals[i - 13]? with
        | none => rw [e] at h; cases h
        | some x => have := (List.getElem?_eq_some_iff.1 e).1; omega) (none_ob2 (by omega) (atN vals)) (by simp only [VRs]; exact ⟨_, _, rfl, hg, _, _, rfl, hz, rfl⟩) hrun tab
  have pad : ∀ d1 d2 : Nat, (List.replicate 24 0 ++ [d1, d2]).length = 26 := fun _ _ => rfl
  have p1 : ∀ d1 d2 : Nat, ∃ L, atomsR 13 (List.replicate 24 0 ++ [d1, d2]) 37 = some L ∧ L.base = d1 := fun d1 d2 => atomsR_at (ng := 13) (j := 24) rfl
  have p2 : ∀ d1 d2 : Nat, ∃ L, atomsR 13 (List.replicate 24 0 ++ [d1, d2]) (37 + 1) = some L ∧ L.base = d2 := fun d1 d2 => atomsR_at (ng := 13) (j := 25) rfl
  rcases open_strslice execCalls_stU execCalls_stE execCalls_stC (okWide_slice execCalls_stU hval) h0 with rfl | ⟨A, c, rfl⟩ | ⟨b, off, cap, arr, ty, fz, l, rfl, h1, hle, hblk, hsz, hcs, hmx⟩
  · have hg : ∀ vals, VR (atomsR 13 vals) .sn (.slice none 0 0) := fun vals => by simp [VR]
    rcases xl_status s with ⟨m, rfl⟩ | ⟨m, rfl⟩ | ⟨k, T, d1, d2, hT, hv, _⟩
    · exact go0 rF6 (List.replicate 24 0 ++ [0, 0]) .nil _ _ (pad _ _) (hg _) (VRi _ _ _) (xl_ngs m 0)
    · exact go0 rF6 (List.replicate 24 0 ++ [0, 0]) .nil _ _ (pad _ _) (hg _) (VRi _ _ _) (xl_bgs m 0)
    · have hv' := hv _ (p1 d1 d2) (p2 d1 d2)
      rcases hT with ⟨_, rfl⟩ | ⟨_, rfl⟩ | ⟨_, rfl⟩ | ⟨_, rfl⟩ | ⟨_, rfl⟩ | ⟨_, rfl⟩
      · exact go0 rF0 _ .nil _ _ (pad d1 d2) (hg _) hv' (xl_hs_0 0)
      · exact go0 rF1 _ .nil _ _ (pad d1 d2) (hg _) hv' (xl_hs_1 0)
      · exact go0 rF2 _ .nil _ _ (pad d1 d2) (hg _) hv' (xl_hs_2 0)
      · exact go0 rF3 _ .nil _ _ (pad d1 d2) (hg _) hv' (xl_hs_3 0)
      · exact go0 rF4 _ .nil _ _ (pad d1 d2) (hg _) hv' (xl_hs_4 0)
      · exact go0 rF5 _ .nil _ _ (pad d1 d2) (hg _) hv' (xl_hs_5 0)
  · have hg : ∀ vals, VR (atomsR 13 vals) .se (.slice (some A) 0 c) := fun vals => by simp [VR]
    rcases xl_status s with ⟨m, rfl⟩ | ⟨m, rfl⟩ | ⟨k, T, d1, d2, hT, hv, _⟩
    · exact go0 rF6 (List.replicate 24 0 ++ [0, 0]) .nil _ _ (pad _ _) (hg _) (VRi _ _ _) (xl_nge m 0)
    · exact go0 rF6 (List.replicate 24 0 ++ [0, 0]) .nil _ _ (pad _ _) (hg _) (VRi _ _ _) (xl_bge m 0)
    · have hv' := hv _ (p1 d1 d2) (p2 d1 d2)
      rcases hT with ⟨_, rfl⟩ | ⟨_, rfl⟩ | ⟨_, rfl⟩ | ⟨_, rfl⟩ | ⟨_, rfl⟩ | ⟨_, rfl⟩
      · exact go0 rF0 _ .nil _ _ (pad d1 d2) (hg _) hv' (xl_he_0 0)
      · exact go0 rF1 _ .nil _ _ (pad d1 d2) (hg _) hv' (xl_he_1 0)
      · exact go0 rF2 _ .nil _ _ (pad d1 d2) (hg _) hv' (xl_he_2 0)
      · exact go0 rF3 _ .nil _ _ (pad d1 d2) (hg _) hv' (xl_he_3 0)
      · exact go0 rF4 _ .nil _ _ (pad d1 d2) (hg _) hv' (xl_he_4 0)
      · exact go0 rF5 _ .nil _ _ (pad d1 d2) (hg _) hv' (xl_he_5 0)
  have hoff : off ≤ arr.size := by omega
  have hcs2 : arr.toList.drop off = l.map Value.string ++ (arr.toList.drop off).drop l.length := by rw [← hcs, List.take_append_drop]
  have go : ∀ {hk : List (Nat × HookF)}, CKok Tryz.prog 12 (runL Tryz.prog 12 (hkL hk) lk 100000) → ∀ (vals : List Nat) (z lx : V) (vs rest : List Value), vals.length ≤ 26 → l.map Value.string = vs ++ rest → VRs (strsR 12 b off arr.size vals) lx vs → VR (strsR 12 b off arr.size vals) z (.int .i64 s) → (∀ τ, xlRun hk τ (.sl 12 0 l.length 1) lx z ty = true) → Calls Tryz.prog 5 #[.slice (some ⟨b, off, none⟩) l.length cap, .int .i64 s] W fun e W' => e = .returned (.bool true) ∧ Stays W W' := fun {hk} hR vals z lx vs rest hlen hr hl hz hrun =>
    top_run_k nameOK hR xl_fn hb tblIn (args := .cons (.sl 12 0 l.length 1) (.cons z .nil)) (nx := 39) (by omega) (fun i L h => by have := strsR_in i L h; omega) (strs_ob (by omega) hblk hoff (by rw [hcs2, hr, List.append_assoc]) hl) (by simp only [VRs]; exact ⟨_, _, rfl, strs_V hle hsz, _, _, rfl, hz, rfl⟩) hrun tab
  by_cases hn : l.length ≤ 8
  rotate_left
  · obtain ⟨m, hm⟩ : ∃ m, l.length = m + 9 := ⟨l.length - 9, by omega⟩
    rcases xl_status s with ⟨q, rfl⟩ | ⟨q, rfl⟩ | ⟨_, _, _, _, _, _, u, hu, rfl⟩
    · exact go rF6 [] _ .nil [] (l.map Value.string) (by simp) rfl (by simp [VRs]) (VRi _ _ _) fun τ => by rw [hm]; exact xl_manyN m q ty τ
    · exact go rF6 [] _ .nil [] (l.map Value.string) (by simp) rfl (by simp [VRs]) (VRi _ _ _) fun τ => by rw [hm]; exact xl_manyB m q ty τ
    · exact go rF6 (List.replicate 24 0 ++ [u]) (.x 37 .i64 0 255) .nil [] (l.map Value.string) (by simp) rfl (by simp [VRs]) (VR_xn (strsR_at (ng := 12) (j := 24) rfl) ⟨Nat.zero_le _, hu⟩) fun τ => by rw [hm]; exact xl_many m ty τ
  obtain ⟨j, t, ws, hj, hws, hl⟩ := lst_case (M := M) (lo := 97) (hi := 122) (B := 40) mOut l hmx
  have hpl : ∀ ds : List Nat, ds.length = 2 → (ws ++ (List.replicate (24 - 3 * l.length) 0 ++ ds)).length ≤ 26 := fun ds hds => by simp only [List.length_append, List.length_replicate]; omega
  have hword : ∀ ds : List Nat, VRs (strsR 12 b off arr.size (ws ++ (List.replicate (24 - 3 * l.length) 0 ++ ds))) (lstV M 97 122 40 t l.length 13 j) (l.map Value.string) := fun ds => hl _ 13 fun k x hk => strsR_at (ng := 12) (j := k) (by
    have := (List.getElem?_eq_some_iff.1 hk).1
    rw [List.getElem?_append_left this]
    exact hk)
  have hdig : ∀ (ds : List Nat) (i x : Nat), ds[i]? = some x → ∃ L, strsR 12 b off arr.size (ws ++ (List.replicate (24 - 3 * l.length) 0 ++ ds)) (37 + i) = some L ∧ L.base = x := fun ds i x hi => by
    rw [show 37 + i = 12 + 1 + (24 + i) by omega]
    refine strsR_at ?_
    rw [List.getElem?_append_right (by omega), List.getElem?_append_right (by rw [List.length_replicate]; omega), List.length_replicate, show 24 + i - ws.length - (24 - 3 * l.length) = i by omega]
    exact hi
  rcases xl_status s with ⟨q, rfl⟩ | ⟨q, rfl⟩ | ⟨k, T, d1, d2, hT, hv, u, hu, rfl⟩
  · exact go rF6 [] _ .nil [] (l.map Value.string) (by simp) rfl (by simp [VRs]) (VRi _ _ _) (xl_ng l.length h1 hn q ty)
  · exact go rF6 [] _ .nil [] (l.map Value.string) (by simp) rfl (by simp [VRs]) (VRi _ _ _) (xl_bg l.length h1 hn q ty)
  rcases hj with ⟨rfl, rfl⟩ | ⟨hj, ht, ht1⟩
  · have hv' := hv _ (hdig [d1, d2] 0 d1 rfl) (hdig [d1, d2] 1 d2 rfl)
    have hw' := hword [d1, d2]
    rcases hT with ⟨_, rfl⟩ | ⟨_, rfl⟩ | ⟨_, rfl⟩ | ⟨_, rfl⟩ | ⟨_, rfl⟩ | ⟨_, rfl⟩
    · exact go rF0 _ _ _ _ [] (hpl _ rfl) (by simp) hw' hv' (xl_h0 l.length h1 hn ty)
    · exact go rF1 _ _ _ _ [] (hpl _ rfl) (by simp) hw' hv' (xl_h1 l.length h1 hn ty)
    · exact go rF2 _ _ _ _ [] (hpl _ rfl) (by simp) hw' hv' (xl_h2 l.length h1 hn ty)
    · exact go rF3 _ _ _ _ [] (hpl _ rfl) (by simp) hw' hv' (xl_h3 l.length h1 hn ty)
    · exact go rF4 _ _ _ _ [] (hpl _ rfl) (by simp) hw' hv' (xl_h4 l.length h1 hn ty)
    · exact go rF5 _ _ _ _ [] (hpl _ rfl) (by simp) hw' hv' (xl_h5 l.length h1 hn ty)
  · exact go rF6 _ _ _ _ [] (hpl [u, 0] rfl) (by simp) (hword [u, 0]) (VR_xn (hdig [u, 0] 0 u rfl) ⟨Nat.zero_le _, hu⟩) (xl_l l.length j t hn hj ht ht1 ty)
theorem execCalls_lifted (os : Os) (started : os.Started) (H : Type) (enc : TypeId × Value → H) :
    ReturnsInHanded {} Tryz.checked os 5 .any (fun w args => (Rows.execCallsSpec.pre enc Tryz.prog Tryz.f5 Rows.execCallsRow.domain false w args ∧ laidMetH Tryz.prog execCalls_lst w) ∧ sizedMet enc Tryz.prog Tryz.f5 (OpenSpec.ofChange Rows.execCallsSpec) false w args)
      (Rows.execCallsSpec.post enc Tryz.prog Tryz.f5 false true false false) := by
  refine returnsInHanded_of_change_and (C := Tryz.checked) (X := fun w _ => laidMetH Tryz.prog execCalls_lst w) (fun _ _ _ hh h => h.of_heap hh) own started execCalls_noInit execCalls_fn
    (ChangeSpec.witness_shaped (enc := enc) (C := Tryz.checked) (os := os) (X := fun w _ => laidMetH Tryz.prog execCalls_lst w) false (World.laidAll Tryz.prog os execCalls_lst) #[.slice none 0 0, .int .i64 (-1)] 8 (World.laidAll_os _ _ _)
      (World.shaped_of_ZipB (execCalls_zip1 os) (execCalls_zip2 os)) (execCalls_okB os) (execCalls_preB os H enc) (execCalls_szB os H enc)
      (by rw [MakeChecks.laidMetH_plain _ _ _ execCalls_plain]; exact laidMet_laidAll _ (execCalls_fits os) (execCalls_ifaces os))) ?_
  intro W base args ds gs before hval0 hW _ _ hL _
  have hval : ∀ (j : Nat) t v, Tryz.f5.params[j]? = some t → args[j]? = some v → Value.okWide Tryz.prog W .any base t v := hval0
  have hW' := hW
  obtain ⟨p, q, hA0, hV, rfl, _, _⟩ := hW
  have hA : DataW.TrodAll enc Tryz.prog W 0 (fun _ => true) true Tryz.f5.params.toList args.toList ds p := hA0
  rw [execCalls_params] at hA hval
  obtain ⟨v0, v1, d0, d1, p0, p1, rfl, rfl, rfl, h0, h1⟩ := trodAll_two hA
  obtain ⟨rfl, rfl⟩ := trodVars_none hV
  obtain ⟨n1, rfl, rfl, rfl, hw1⟩ := open_int execCalls_uInt (hval 1 3 v1 rfl rfl) h1
  refine (execCalls_calls hL (hval 0 39 v0 rfl rfl) h0 n1).mono fun e W' ⟨he, hs⟩ => ?_
  refine ⟨_, he, _, _, _, [], p0 ++ ([]), [], hW', ?_, ?_, ?_, hs.keptBut _, fun h => by cases h⟩
  · rw [execCalls_results]
    exact trodAll_mk1 (shut_bool execCalls_uBool true)
  · rw [execCalls_params]
    exact trodAll_mk2 (Below.trod laidOut_ok execCalls_stR execCalls_stT h0 hs.below (fun y hy => hW'.lt y (by simp [hy]))) (shut_int execCalls_uInt hw1)
  · rfl
theorem execCalls_named1 : Tryz.pinned.checked.prog.funcNamed Rows.execCallsRow.func = some 5 := by kernel_rfl
theorem execCalls_wrapper : Tryz.f5.isWrapper Tryz.pinned.checked.prog Rows.execCallsRow.wrapper Rows.execCallsRow.mainSum := by unfold Func.isWrapper; first | (rw [if_pos (by decide +kernel)]; kernel_rfl) | (rw [if_neg (by decide +kernel)]; exact ⟨rfl, rfl⟩)
theorem execCalls_inst : Tryz.f5.isInstance Tryz.pinned.checked.prog Rows.execCallsRow.origin Rows.execCallsRow.targs := of_decide_eq_true (by kernel_rfl)
theorem execCalls_holds : Rows.ExecCallsSaid :=
  OpenClaim.holds_of_wide 5 Tryz.f5 rfl rfl rfl rfl rfl rfl rfl ⟨rfl, rfl, rfl, rfl, rfl⟩ rfl rfl rfl rfl rfl execCalls_named1 execCalls_fn execCalls_closed execCalls_inst execCalls_wrapper
    (fun os started H enc _ => execCalls_lifted os started H enc)
end
end Go.Proofs.YtcmnkndbcecbiaaGreatDoor
