/-
  The row of toolsPrint: for every input the law returns true.
-/
import Derived.Test.YtiinlpdophgfjaaGreatDoorRuntoolsPrint
import Derived.Test.YtiinlpdophgfjaaGreatDoorXRowK6
import Derived.OpenShut
import Derived.Carry
import Derived.Lay
import Derived.ChangeMaps5
open Go Go.Mx Go.ChangeShapes Go.WideShapes Go.RowKit
namespace Go.Proofs.YtiinlpdophgfjaaGreatDoor
set_option maxRecDepth 1000000
noncomputable section
def toolsPrint_L : List Nat := [3, 4, 7, 6, 10, 12, 13, 14, 27, 56, 92, 122, 93, 123, 57, 58, 26, 15, 28, 59, 94, 118, 146, 147, 169, 177, 178, 148, 149, 179, 180, 205, 206, 29, 30, 60, 95, 124, 125, 152, 153, 126, 110, 139, 174, 80, 113, 181, 207, 208, 209, 222, 211, 210, 172, 198, 197, 199, 201, 218, 200, 203, 220, 225, 215, 223, 219, 224, 226, 186, 185, 202, 76, 109, 212, 182, 154, 155, 183, 184, 34, 16, 32, 33, 62, 67, 64, 96, 127, 156, 187, 213, 97, 128, 157, 188, 214, 189, 216, 98, 129, 99, 100, 101, 63, 11, 31, 61, 17, 35, 36, 65, 66, 37, 68, 70, 102, 69, 18, 38, 71, 103, 130, 72, 104, 131, 158, 105, 133, 168, 132, 159, 165, 195, 160, 190, 161, 191, 192, 162, 193, 194, 217, 163, 164, 166, 167, 19, 39, 40, 45, 74, 46, 20, 41, 42, 73, 43, 21, 44, 22, 47, 48, 23, 49, 75, 106, 107, 134, 135, 108, 136, 170, 137, 171, 196, 173, 204, 221, 111, 140, 141, 112, 142, 175, 143, 144, 176, 145, 138, 50, 51, 24, 25, 52, 77, 78, 79, 84, 81, 85, 114, 82, 83, 53, 86, 54, 55, 87, 115, 88, 116, 117, 89, 90, 119, 91, 120, 150, 151, 121, 8, 5, 9]
theorem toolsPrint_clos : Tryz.prog.closure 3 = toolsPrint_L := closure_by_table Tryz.prog tabT_all (by kernel_rfl)
theorem toolsPrint_inPlace : Tryz.prog.inPlace 3 = Rows.toolsPrintRow.inPlace := inPlace_by_table Tryz.prog toolsPrint_clos tabN_all (by kernel_rfl)
theorem toolsPrint_named : Tryz.prog.varsNamed 3 = Rows.toolsPrintRow.named := varsNamed_by_table Tryz.prog toolsPrint_clos tabG_all tabE_all (by kernel_rfl)
theorem toolsPrint_unf : Tryz.prog.unfollowed 3 = true := by
  obtain ⟨c, hc⟩ : ∃ c, Tryz.f6.body = some c := ⟨_, rfl⟩
  exact unfollowed_by_table Tryz.prog toolsPrint_clos (g := 6) (by kernel_rfl) (fn := Tryz.f6) (by kernel_rfl) hc (by cases hc; kernel_rfl)
theorem toolsPrint_k0 : (Rows.toolsPrintRow.wf (OpenSpec.ofChange Rows.toolsPrintSpec)) = true := by kernel_rfl
theorem toolsPrint_k3 : (Tryz.f3.params.all (Tryz.pinned.checked.prog.readableRec ·)) = true := by kernel_rfl
theorem toolsPrint_k4 : (namedTie Tryz.pinned.checked.prog Rows.toolsPrintRow.named Rows.toolsPrintSpec.vars) = true := by kernel_rfl
theorem toolsPrint_k5 : ((Rows.toolsPrintRow.stops == [])) = true := by kernel_rfl
theorem toolsPrint_k6 : ((Tryz.pinned.checked.prog.stops == [])) = true := by kernel_rfl
theorem toolsPrint_k7 : ((Rows.toolsPrintRow.knobs == [])) = true := by kernel_rfl
theorem toolsPrint_k8 : ((Tryz.pinned.checked.prog.stopKnobs == [])) = true := by kernel_rfl
theorem toolsPrint_k9 : ((Rows.toolsPrintRow.inPlace == Tryz.pinned.checked.prog.inPlace 3)) = true := beq_iff_eq.2 toolsPrint_inPlace.symm
theorem toolsPrint_k10 : ((Rows.toolsPrintRow.unfollowed == Tryz.pinned.checked.prog.unfollowed 3)) = true := beq_iff_eq.2 toolsPrint_unf.symm
theorem toolsPrint_k11 : ((Rows.toolsPrintRow.recurses == Tryz.pinned.checked.prog.recurses 3)) = true := beq_iff_eq.2 (show true = Tryz.prog.recurses 3 by unfold Program.recurses; rw [toolsPrint_unf]; rfl)
theorem toolsPrint_k12 : ((Rows.toolsPrintRow.named == Tryz.pinned.checked.prog.varsNamed 3)) = true := beq_iff_eq.2 toolsPrint_named.symm
theorem toolsPrint_k13 : ((Rows.toolsPrintRow.maps == (Tryz.f3.params.toList ++ Rows.toolsPrintSpec.plain.varTypes Tryz.pinned.checked.prog).any (Tryz.pinned.checked.prog.mapsRec ·))) = true := by kernel_rfl
theorem toolsPrint_k14 : ((Rows.toolsPrintRow.ifaces == (Tryz.f3.params.toList ++ Rows.toolsPrintSpec.plain.varTypes Tryz.pinned.checked.prog).any (Tryz.pinned.checked.prog.ifacesRec ·))) = true := by kernel_rfl
theorem toolsPrint_k15 : ((Rows.toolsPrintRow.mapsOut == Tryz.pinned.checked.prog.mapsAmong Tryz.f3.resultTypes.toList)) = true := by kernel_rfl
theorem toolsPrint_k16 : ((Rows.toolsPrintRow.loops == (Tryz.f3.params.toList ++ Rows.toolsPrintSpec.plain.varTypes Tryz.pinned.checked.prog).any (Tryz.pinned.checked.prog.loopsFrom ·))) = true := by kernel_rfl
theorem toolsPrint_k17 : ((Rows.toolsPrintRow.wideKeys == (Tryz.f3.params.toList ++ Rows.toolsPrintSpec.plain.varTypes Tryz.pinned.checked.prog ++ Tryz.f3.resultTypes.toList).any (Tryz.pinned.checked.prog.wideKeysFrom ·))) = true := by kernel_rfl
theorem toolsPrint_k18 : (Rows.toolsPrintSpec.vars.all (Tryz.pinned.checked.prog.varReadable ·)) = true := by kernel_rfl
theorem toolsPrint_k19 : (Tryz.f3.resultTypes.all (fun t => Tryz.pinned.checked.prog.readableRec t && decide (t < Tryz.pinned.checked.prog.types.size))) = true := by kernel_rfl
theorem toolsPrint_k20 : ((Rows.toolsPrintRow.ifacesOut == Tryz.f3.resultTypes.toList.any (Tryz.pinned.checked.prog.ifacesRec ·))) = true := by kernel_rfl
theorem toolsPrint_k21 : ((Rows.toolsPrintRow.loopsOut == Tryz.f3.resultTypes.toList.any (Tryz.pinned.checked.prog.loopsFrom ·))) = true := by kernel_rfl
theorem toolsPrint_k22 : ((Rows.toolsPrintRow.plainKeys == Tryz.pinned.checked.prog.plainKeys)) = true := by kernel_rfl
theorem toolsPrint_k23 : (Rows.toolsPrintRow.shortTexts.isNone) = true := by kernel_rfl
theorem toolsPrint_k26 : ((Rows.toolsPrintRow.lifted == Tryz.pinned.checked.prog.liftsFinal)) = true := by kernel_rfl
theorem toolsPrint_k27 : ((Tryz.pinned.checked.prog.make == some Rows.toolsPrintRow.make)) = true := by kernel_rfl
theorem toolsPrint_k28 : ((Rows.toolsPrintRow.kinds == (if Rows.toolsPrintRow.domain.isEmpty then [] else Tryz.f3.params.toList.map fun t => match Tryz.pinned.checked.prog.underlying t with | some (.int k) => some k | _ => none))) = true := by kernel_rfl
theorem toolsPrint_k29 : ((Rows.toolsPrintRow.pinned == Rows.toolsPrintRow.pinnedBy)) = true := by kernel_rfl
theorem toolsPrint_k30 : ((Rows.toolsPrintRow.veiled == (Tryz.f3.params.toList ++ Rows.toolsPrintSpec.plain.varTypes Tryz.pinned.checked.prog ++ Tryz.f3.resultTypes.toList).any (Tryz.pinned.checked.prog.veiledRec ·))) = true := by kernel_rfl
theorem toolsPrint_k31 : (Rows.toolsPrintRow.veiledFits Tryz.pinned.checked.prog Tryz.f3.params.toList (Tryz.f3.params.toList ++ Rows.toolsPrintSpec.plain.varTypes Tryz.pinned.checked.prog ++ Tryz.f3.resultTypes.toList)) = true := by kernel_rfl
theorem toolsPrint_closed : joinedFacts Tryz.pinned.checked.prog 3 Tryz.f3 Rows.toolsPrintSpec Rows.toolsPrintRow = true := band (band (band (band (band (band (band (band (band (band (band (band (band (band (band (band (band (band (band (band (band (band (band (band (band (band (band (band (band (band (band (toolsPrint_k0) laidOut_ok) mapsRowed_ok) toolsPrint_k3) toolsPrint_k4) toolsPrint_k5) toolsPrint_k6) toolsPrint_k7) toolsPrint_k8) toolsPrint_k9) toolsPrint_k10) toolsPrint_k11) toolsPrint_k12) toolsPrint_k13) toolsPrint_k14) toolsPrint_k15) toolsPrint_k16) toolsPrint_k17) toolsPrint_k18) toolsPrint_k19) toolsPrint_k20) toolsPrint_k21) toolsPrint_k22) toolsPrint_k23) stopsHeard_ok) mayEnter_ok) toolsPrint_k26) toolsPrint_k27) toolsPrint_k28) toolsPrint_k29) toolsPrint_k30) toolsPrint_k31
abbrev toolsPrint_lst : List (String × DataW Unit) := Rows.toolsPrintRow.laid
theorem toolsPrint_plain : (toolsPrint_lst.all fun x => x.2.handleName?.isNone) = true := by kernel_rfl
theorem toolsPrint_noInit : Tryz.prog.inits.idxOf? 3 = none := by kernel_rfl
theorem toolsPrint_fn : Tryz.prog.funcs[3]? = some Tryz.f3 := by kernel_rfl
theorem toolsPrint_zip1 (os : Os) : ((World.laidAll Tryz.prog os toolsPrint_lst).forCall (fun _ _ => 0) ⟨#[], #[.string ByteArray.empty, .int .i64 (-1), .slice none 0 0], []⟩).variablesZipB Tryz.prog = true := by kernel_rfl
theorem toolsPrint_zip2 (os : Os) : ((((World.laidAll Tryz.prog os toolsPrint_lst).forCall (fun _ _ => 0) ⟨#[], #[.string ByteArray.empty, .int .i64 (-1), .slice none 0 0], []⟩).heap.toList.drop Tryz.prog.globals.size).take ((begin Tryz.prog (fun _ _ => 0) default).world.heap.size - Tryz.prog.globals.size) =
      (begin Tryz.prog (fun _ _ => 0) default).world.heap.toList.drop Tryz.prog.globals.size) := by kernel_rfl
theorem toolsPrint_fits (os : Os) : (World.holding Tryz.prog os ⟨#[], #[], []⟩).layFits Tryz.prog toolsPrint_lst [] = true := by kernel_rfl
theorem toolsPrint_ifaces (os : Os) : (World.holding Tryz.prog os ⟨#[], #[], []⟩).layIfaces Tryz.prog toolsPrint_lst (World.laidAll Tryz.prog os toolsPrint_lst) = true := by kernel_rfl
theorem toolsPrint_okB (os : Os) : Input.okWideB Tryz.prog ((World.laidAll Tryz.prog os toolsPrint_lst).forCall (fun _ _ => 0) ⟨#[], #[.string ByteArray.empty, .int .i64 (-1), .slice none 0 0], []⟩) 3 ⟨#[], #[.string ByteArray.empty, .int .i64 (-1), .slice none 0 0], []⟩ = true := by kernel_rfl
theorem toolsPrint_preB (os : Os) (H : Type) (enc : TypeId × Value → H) : Rows.toolsPrintSpec.preB enc Tryz.prog Tryz.f3 [] false ((World.laidAll Tryz.prog os toolsPrint_lst).forCall (fun _ _ => 0) ⟨#[], #[.string ByteArray.empty, .int .i64 (-1), .slice none 0 0], []⟩).memory #[.string ByteArray.empty, .int .i64 (-1), .slice none 0 0] 8 = true := by kernel_rfl
theorem toolsPrint_szB (os : Os) (H : Type) (enc : TypeId × Value → H) : Rows.toolsPrintSpec.sizedB enc Tryz.prog Tryz.f3 false ((World.laidAll Tryz.prog os toolsPrint_lst).forCall (fun _ _ => 0) ⟨#[], #[.string ByteArray.empty, .int .i64 (-1), .slice none 0 0], []⟩).memory #[.string ByteArray.empty, .int .i64 (-1), .slice none 0 0] 8 = true := by kernel_rfl
theorem toolsPrint_uInt : Tryz.prog.underlying 3 = some (.int .i64) := by kernel_rfl
theorem toolsPrint_uBool : Tryz.prog.underlying 4 = some .bool := by kernel_rfl
theorem toolsPrint_params : Tryz.f3.params = #[9, 3, 22] := by kernel_rfl
theorem toolsPrint_results : Tryz.f3.resultTypes = #[4] := by kernel_rfl
theorem toolsPrint_body : ∃ c, Tryz.f3.body = some c := ⟨_, rfl⟩
theorem toolsPrint_powIn : ("internal/strconv.uint64pow10", DataW.agg (powL.map fun x => (DataW.lit (.int .u64 x) : DataW Unit))) ∈ toolsPrint_lst := List.mem_iff_getElem?.2 ⟨2, by kernel_rfl⟩
theorem toolsPrint_uStr : Tryz.prog.underlying 9 = some .string := by kernel_rfl
theorem toolsPrint_stU : Tryz.prog.underlying 22 = some (.slice 9) := by kernel_rfl
theorem toolsPrint_stE : Tryz.prog.underlying 9 = some .string := by kernel_rfl
theorem toolsPrint_stC : Tryz.prog.cellsOf 9 = 1 := by kernel_rfl
theorem toolsPrint_stR : Tryz.pinned.checked.prog.readableRec 22 = true := by kernel_rfl
theorem toolsPrint_stT : 22 < Tryz.pinned.checked.prog.types.size := of_decide_eq_true (by kernel_rfl)
theorem toolsPrint_calls {H : Type} {encH : TypeId × Value → H} {W : World} (hL : laidMetH Tryz.prog toolsPrint_lst W) (s : ByteArray) (_hs0 : s.size ≤ maxLen) (n : Int) {v2 : Value} {d2 : DataW H} {p2 : List MemPlace} (hval : Value.okWide Tryz.prog W .any 0 22 v2) (h2 : DataW.Trod encH Tryz.prog W 0 (fun _ => true) true 22 v2 d2 p2) (hn : (Lit.int .i64 n).wf = true) :
    Calls Tryz.prog 3 #[.string s, .int .i64 n, v2] W fun e W' => e = .returned (.bool true) ∧ Stays W W' := by
  obtain ⟨hn1, hn2⟩ : -9223372036854775808 ≤ n ∧ n ≤ 9223372036854775807 := by
    simp only [Lit.wf, Bool.and_eq_true, decide_eq_true_eq] at hn
    exact hn
  obtain ⟨arr0, ty0, pw1, pw2⟩ := powAt toolsPrint_plain toolsPrint_powIn hL
  have tab : ∃ arr ty, W.heap[4]? = some (.cells arr ty (0, 0)) ∧ arr.toList = Lib.pow10Tab.map fun n => Value.int .u64 n := ⟨arr0, ty0, pw1, by rw [pw2, pow_eq]; rfl⟩
  have hal : Calls Tryz.prog 4 #[] W fun e w' => e = .returned (.bool true) ∧ Below W.heap.size W w' := by
    obtain ⟨c, hb⟩ := al_body
    exact (top_run follows nameOK hk0ok al_fn hb tblIn (args := .nil) (vs := []) (by simp only [VRs]) alive4 (tabs W)).mono fun e W' h => ⟨h.1, below_staysP h.2⟩
  rcases open_strslice toolsPrint_stU toolsPrint_stE toolsPrint_stC (okWide_slice toolsPrint_stU hval) h2 with rfl | ⟨A, c, rfl⟩ | ⟨b, off, cap, arr, ty, fz, l, rfl, h1, hle, hblk, hsz, hcs, hmx⟩
  · refine (tp_any s n _ _ _ W hal fun hs _ hg w1 hb1 => ?_).mono fun e W' h => ⟨h.1, stays_belowP h.2⟩
    have hat : ∀ {j m : Nat}, [enc s.data.toList, zz n][j]? = some m → ∃ L, atomsR 10 [enc s.data.toList, zz n] (10 + j) = some L ∧ L.base = m := fun h => atomsR_at h
    have hin : ∀ i L, atomsR 10 [enc s.data.toList, zz n] i = some L → 10 ≤ i ∧ i < 10 + 2 := fun i L h => by
      unfold atomsR at h
      split at h
      · cases h
      · cases e : [enc s.data.toList, zz n][i - 10]? with
        | none => rw [e] at h; cases h
        | some x => have := (List.getElem?_eq_some_iff.1 e).1; simp at this; omega
    obtain ⟨k, hk, rk⟩ := VR_num3 (ρ := atomsR 10 [enc s.data.toList, zz n]) hn1 hn2 (hat (j := 1) rfl)
    exact rest_go hb1 tab (ρa := atomsR 10 [enc s.data.toList, zz n]) (fun i L h => by have := hin i L h; omega) (none_ob' (by omega) (by unfold atomsR; rw [if_pos (by omega)])) (VR_good hs hg (hat (j := 0) rfl)) rk (c := .sn) (by simp only [VR]) (tp_n k hk)
  · refine (tp_any s n _ _ _ W hal fun hs _ hg w1 hb1 => ?_).mono fun e W' h => ⟨h.1, stays_belowP h.2⟩
    have hat : ∀ {j m : Nat}, [enc s.data.toList, zz n][j]? = some m → ∃ L, atomsR 10 [enc s.data.toList, zz n] (10 + j) = some L ∧ L.base = m := fun h => atomsR_at h
    have hin : ∀ i L, atomsR 10 [enc s.data.toList, zz n] i = some L → 10 ≤ i ∧ i < 10 + 2 := fun i L h => by
      unfold atomsR at h
      split at h
      · cases h
      · cases e : [enc s.data.toList, zz n][i - 10]? with
        | none => rw [e] at h; cases h
        | some x => have := (List.getElem?_eq_some_iff.1 e).1; simp at this; omega
    obtain ⟨k, hk, rk⟩ := VR_num3 (ρ := atomsR 10 [enc s.data.toList, zz n]) hn1 hn2 (hat (j := 1) rfl)
    exact rest_go hb1 tab (ρa := atomsR 10 [enc s.data.toList, zz n]) (fun i L h => by have := hin i L h; omega) (none_ob' (by omega) (by unfold atomsR; rw [if_pos (by omega)])) (VR_good hs hg (hat (j := 0) rfl)) rk (c := .se) (by simp only [VR]; exact ⟨_, _, rfl⟩) (tp_e k hk)
  · refine (tp_any s n _ _ _ W hal fun hs hm hg w1 hb1 => ?_).mono fun e W' h => ⟨h.1, stays_belowP h.2⟩
    have hoff : off ≤ arr.size := by omega
    have hcs2 : arr.toList.drop off = l.map Value.string ++ (arr.toList.drop off).drop l.length := by rw [← hcs, List.take_append_drop]
    have hat : ∀ {j m : Nat}, (enc s.data.toList :: zz n :: l.map (fun s => enc s.data.toList))[j]? = some m → ∃ L, strsR 9 b off arr.size (enc s.data.toList :: zz n :: l.map (fun s => enc s.data.toList)) (10 + j) = some L ∧ L.base = m := fun h => strsR_at h
    obtain ⟨k, hk, rk⟩ := VR_num3 (ρ := strsR 9 b off arr.size (enc s.data.toList :: zz n :: l.map (fun s => enc s.data.toList))) hn1 hn2 (hat (j := 1) rfl)
    have hx : VRs (strsR 9 b off arr.size (enc s.data.toList :: zz n :: l.map (fun s => enc s.data.toList))) (elsV 0 9223372036854775807 l.length 12 .nil) (l.map Value.string ++ []) :=
      VRs_els (by simp [VRs]) l 12 (fun q hq => ⟨Nat.zero_le _, hmx q hq⟩) fun j q hj => by
        have := hat (j := j + 2) (m := enc q.data.toList) (by rw [List.getElem?_cons_succ, List.getElem?_cons_succ, List.getElem?_map, hj]; rfl)
        rwa [show 10 + (j + 2) = 12 + j by omega] at this
    rw [List.append_nil] at hx
    exact rest_go hb1 tab (ρa := strsR 9 b off arr.size (enc s.data.toList :: zz n :: l.map (fun s => enc s.data.toList))) (fun i L h => by have := strsR_in i L h; simp at this; omega) (strs_ob' (strs_apart h1 hblk hcs pw1 pw2) (by omega) hblk hoff hcs2 hx) (VR_good hs hg (hat (j := 0) rfl)) rk (c := .sl 9 0 l.length 1) (strs_V hle hsz) (tp_m k hk l.length h1 hm ty)
theorem toolsPrint_lifted (os : Os) (started : os.Started) (H : Type) (enc : TypeId × Value → H) :
    ReturnsInHanded {} Tryz.checked os 3 .any (fun w args => (Rows.toolsPrintSpec.pre enc Tryz.prog Tryz.f3 Rows.toolsPrintRow.domain false w args ∧ laidMetH Tryz.prog toolsPrint_lst w) ∧ sizedMet enc Tryz.prog Tryz.f3 (OpenSpec.ofChange Rows.toolsPrintSpec) false w args)
      (Rows.toolsPrintSpec.post enc Tryz.prog Tryz.f3 false true false false) := by
  refine returnsInHanded_of_change_and (C := Tryz.checked) (X := fun w _ => laidMetH Tryz.prog toolsPrint_lst w) (fun _ _ _ hh h => h.of_heap hh) own started toolsPrint_noInit toolsPrint_fn
    (ChangeSpec.witness_shaped (enc := enc) (C := Tryz.checked) (os := os) (X := fun w _ => laidMetH Tryz.prog toolsPrint_lst w) false (World.laidAll Tryz.prog os toolsPrint_lst) #[.string ByteArray.empty, .int .i64 (-1), .slice none 0 0] 8 (World.laidAll_os _ _ _)
      (World.shaped_of_ZipB (toolsPrint_zip1 os) (toolsPrint_zip2 os)) (toolsPrint_okB os) (toolsPrint_preB os H enc) (toolsPrint_szB os H enc)
      (by rw [MakeChecks.laidMetH_plain _ _ _ toolsPrint_plain]; exact laidMet_laidAll _ (toolsPrint_fits os) (toolsPrint_ifaces os))) ?_
  intro W base args ds gs before hval0 hW _ _ hL _
  have hval : ∀ (j : Nat) t v, Tryz.f3.params[j]? = some t → args[j]? = some v → Value.okWide Tryz.prog W .any base t v := hval0
  have hW' := hW
  obtain ⟨p, q, hA0, hV, rfl, _, _⟩ := hW
  have hA : DataW.TrodAll enc Tryz.prog W 0 (fun _ => true) true Tryz.f3.params.toList args.toList ds p := hA0
  rw [toolsPrint_params] at hA hval
  obtain ⟨v0, v1, v2, d0, d1, d2, p0, p1, p2, rfl, rfl, rfl, h0, h1, h2⟩ := trodAll_three hA
  obtain ⟨rfl, rfl⟩ := trodVars_none hV
  obtain ⟨n0, rfl, rfl, rfl, hw0⟩ := Go.ChangeMaps.open_string toolsPrint_uStr (hval 0 9 v0 rfl rfl) h0
  obtain ⟨n1, rfl, rfl, rfl, hw1⟩ := open_int toolsPrint_uInt (hval 1 3 v1 rfl rfl) h1
  refine (toolsPrint_calls hL n0 hw0 n1 (hval 2 22 v2 rfl rfl) h2 hw1).mono fun e W' ⟨he, hs⟩ => ?_
  refine ⟨_, he, _, _, _, [], [] ++ ([] ++ (p2)), [], hW', ?_, ?_, ?_, hs.keptBut _, fun h => by cases h⟩
  · rw [toolsPrint_results]
    exact trodAll_mk1 (shut_bool toolsPrint_uBool true)
  · rw [toolsPrint_params]
    exact trodAll_mk3 (Go.ChangeMaps.shut_string toolsPrint_uStr hw0) (shut_int toolsPrint_uInt hw1) (Below.trod laidOut_ok toolsPrint_stR toolsPrint_stT h2 hs.below (fun y hy => hW'.lt y (by simp [hy])))
  · rfl
theorem toolsPrint_named1 : Tryz.pinned.checked.prog.funcNamed Rows.toolsPrintRow.func = some 3 := by kernel_rfl
theorem toolsPrint_wrapper : Tryz.f3.isWrapper Tryz.pinned.checked.prog Rows.toolsPrintRow.wrapper Rows.toolsPrintRow.mainSum := by unfold Func.isWrapper; first | (rw [if_pos (by decide +kernel)]; kernel_rfl) | (rw [if_neg (by decide +kernel)]; exact ⟨rfl, rfl⟩)
theorem toolsPrint_inst : Tryz.f3.isInstance Tryz.pinned.checked.prog Rows.toolsPrintRow.origin Rows.toolsPrintRow.targs := of_decide_eq_true (by kernel_rfl)
theorem toolsPrint_holds : Rows.ToolsPrintSaid :=
  OpenClaim.holds_of_wide 3 Tryz.f3 rfl rfl rfl rfl rfl rfl rfl ⟨rfl, rfl, rfl, rfl, rfl⟩ rfl rfl rfl rfl rfl toolsPrint_named1 toolsPrint_fn toolsPrint_closed toolsPrint_inst toolsPrint_wrapper
    (fun os started H enc _ => toolsPrint_lifted os started H enc)
end
end Go.Proofs.YtiinlpdophgfjaaGreatDoor
