/-
  The row of expandSums: for every input the law returns true.
-/
import Derived.Test.YtoflpofblogmcaaGreatDoorRunexpandSums
import Derived.Test.YtoflpofblogmcaaGreatDoorXRowK6
import Derived.OpenShut
import Derived.Carry
import Derived.Lay
open Go Go.Mx Go.ChangeShapes Go.WideShapes Go.RowKit
namespace Go.Proofs.YtoflpofblogmcaaGreatDoor
set_option maxRecDepth 1000000
noncomputable section
def expandSums_L : List Nat := [3, 4, 7, 14, 21, 15, 22, 23, 24, 25, 26, 27, 29, 36, 47, 37, 38, 48, 57, 49, 39, 40, 50, 28, 8, 16, 9, 17, 30, 41, 51, 52, 58, 67, 87, 35, 43, 55, 44, 45, 46, 56, 31, 42, 54, 32, 68, 88, 69, 19, 33, 34, 89, 70, 62, 61, 74, 96, 112, 113, 144, 145, 146, 114, 115, 147, 148, 167, 168, 75, 76, 97, 116, 149, 77, 98, 118, 117, 119, 121, 150, 120, 123, 153, 171, 151, 169, 152, 170, 176, 122, 78, 99, 124, 154, 172, 173, 100, 125, 155, 126, 127, 156, 128, 79, 60, 73, 95, 72, 93, 109, 94, 111, 143, 110, 134, 140, 166, 135, 161, 136, 162, 163, 137, 164, 165, 175, 138, 139, 141, 142, 59, 71, 90, 91, 105, 106, 92, 130, 157, 158, 159, 174, 177, 160, 131, 107, 108, 132, 133, 53, 63, 80, 18, 5, 11, 12, 20, 64, 81, 101, 102, 129, 103, 82, 83, 85, 104, 84, 65, 66, 86, 10, 6, 13]
theorem expandSums_clos : Tryz.prog.closure 3 = expandSums_L := closure_by_table Tryz.prog tabT_all (by kernel_rfl)
theorem expandSums_inPlace : Tryz.prog.inPlace 3 = Rows.expandSumsRow.inPlace := inPlace_by_table Tryz.prog expandSums_clos tabN_all (by kernel_rfl)
theorem expandSums_named : Tryz.prog.varsNamed 3 = Rows.expandSumsRow.named := varsNamed_by_table Tryz.prog expandSums_clos tabG_all tabE_all (by kernel_rfl)
theorem expandSums_unf : Tryz.prog.unfollowed 3 = true := by
  obtain ⟨c, hc⟩ : ∃ c, Tryz.f95.body = some c := ⟨_, rfl⟩
  exact unfollowed_by_table Tryz.prog expandSums_clos (g := 95) (by kernel_rfl) (fn := Tryz.f95) (by kernel_rfl) hc (by cases hc; kernel_rfl)
theorem expandSums_k0 : (Rows.expandSumsRow.wf (OpenSpec.ofChange Rows.expandSumsSpec)) = true := by kernel_rfl
theorem expandSums_k3 : (Tryz.f3.params.all (Tryz.pinned.checked.prog.readableRec ·)) = true := by kernel_rfl
theorem expandSums_k4 : (namedTie Tryz.pinned.checked.prog Rows.expandSumsRow.named Rows.expandSumsSpec.vars) = true := by kernel_rfl
theorem expandSums_k5 : ((Rows.expandSumsRow.stops == [])) = true := by kernel_rfl
theorem expandSums_k6 : ((Tryz.pinned.checked.prog.stops == [])) = true := by kernel_rfl
theorem expandSums_k7 : ((Rows.expandSumsRow.knobs == [])) = true := by kernel_rfl
theorem expandSums_k8 : ((Tryz.pinned.checked.prog.stopKnobs == [])) = true := by kernel_rfl
theorem expandSums_k9 : ((Rows.expandSumsRow.inPlace == Tryz.pinned.checked.prog.inPlace 3)) = true := beq_iff_eq.2 expandSums_inPlace.symm
theorem expandSums_k10 : ((Rows.expandSumsRow.unfollowed == Tryz.pinned.checked.prog.unfollowed 3)) = true := beq_iff_eq.2 expandSums_unf.symm
theorem expandSums_k11 : ((Rows.expandSumsRow.recurses == Tryz.pinned.checked.prog.recurses 3)) = true := beq_iff_eq.2 (show true = Tryz.prog.recurses 3 by unfold Program.recurses; rw [expandSums_unf]; rfl)
theorem expandSums_k12 : ((Rows.expandSumsRow.named == Tryz.pinned.checked.prog.varsNamed 3)) = true := beq_iff_eq.2 expandSums_named.symm
theorem expandSums_k13 : ((Rows.expandSumsRow.maps == (Tryz.f3.params.toList ++ Rows.expandSumsSpec.plain.varTypes Tryz.pinned.checked.prog).any (Tryz.pinned.checked.prog.mapsRec ·))) = true := by kernel_rfl
theorem expandSums_k14 : ((Rows.expandSumsRow.ifaces == (Tryz.f3.params.toList ++ Rows.expandSumsSpec.plain.varTypes Tryz.pinned.checked.prog).any (Tryz.pinned.checked.prog.ifacesRec ·))) = true := by kernel_rfl
theorem expandSums_k15 : ((Rows.expandSumsRow.mapsOut == Tryz.pinned.checked.prog.mapsAmong Tryz.f3.resultTypes.toList)) = true := by kernel_rfl
theorem expandSums_k16 : ((Rows.expandSumsRow.loops == (Tryz.f3.params.toList ++ Rows.expandSumsSpec.plain.varTypes Tryz.pinned.checked.prog).any (Tryz.pinned.checked.prog.loopsFrom ·))) = true := by kernel_rfl
theorem expandSums_k17 : ((Rows.expandSumsRow.wideKeys == (Tryz.f3.params.toList ++ Rows.expandSumsSpec.plain.varTypes Tryz.pinned.checked.prog ++ Tryz.f3.resultTypes.toList).any (Tryz.pinned.checked.prog.wideKeysFrom ·))) = true := by kernel_rfl
theorem expandSums_k18 : (Rows.expandSumsSpec.vars.all (Tryz.pinned.checked.prog.varReadable ·)) = true := by kernel_rfl
theorem expandSums_k19 : (Tryz.f3.resultTypes.all (fun t => Tryz.pinned.checked.prog.readableRec t && decide (t < Tryz.pinned.checked.prog.types.size))) = true := by kernel_rfl
theorem expandSums_k20 : ((Rows.expandSumsRow.ifacesOut == Tryz.f3.resultTypes.toList.any (Tryz.pinned.checked.prog.ifacesRec ·))) = true := by kernel_rfl
theorem expandSums_k21 : ((Rows.expandSumsRow.loopsOut == Tryz.f3.resultTypes.toList.any (Tryz.pinned.checked.prog.loopsFrom ·))) = true := by kernel_rfl
theorem expandSums_k22 : ((Rows.expandSumsRow.plainKeys == Tryz.pinned.checked.prog.plainKeys)) = true := by kernel_rfl
theorem expandSums_k23 : (Rows.expandSumsRow.shortTexts.isNone) = true := by kernel_rfl
theorem expandSums_k26 : ((Rows.expandSumsRow.lifted == Tryz.pinned.checked.prog.liftsFinal)) = true := by kernel_rfl
theorem expandSums_k27 : ((Tryz.pinned.checked.prog.make == some Rows.expandSumsRow.make)) = true := by kernel_rfl
theorem expandSums_k28 : ((Rows.expandSumsRow.kinds == (if Rows.expandSumsRow.domain.isEmpty then [] else Tryz.f3.params.toList.map fun t => match Tryz.pinned.checked.prog.underlying t with | some (.int k) => some k | _ => none))) = true := by kernel_rfl
theorem expandSums_k29 : ((Rows.expandSumsRow.pinned == Rows.expandSumsRow.pinnedBy)) = true := by kernel_rfl
theorem expandSums_k30 : ((Rows.expandSumsRow.veiled == (Tryz.f3.params.toList ++ Rows.expandSumsSpec.plain.varTypes Tryz.pinned.checked.prog ++ Tryz.f3.resultTypes.toList).any (Tryz.pinned.checked.prog.veiledRec ·))) = true := by kernel_rfl
theorem expandSums_k31 : (Rows.expandSumsRow.veiledFits Tryz.pinned.checked.prog Tryz.f3.params.toList (Tryz.f3.params.toList ++ Rows.expandSumsSpec.plain.varTypes Tryz.pinned.checked.prog ++ Tryz.f3.resultTypes.toList)) = true := by kernel_rfl
theorem expandSums_closed : joinedFacts Tryz.pinned.checked.prog 3 Tryz.f3 Rows.expandSumsSpec Rows.expandSumsRow = true := band (band (band (band (band (band (band (band (band (band (band (band (band (band (band (band (band (band (band (band (band (band (band (band (band (band (band (band (band (band (band (expandSums_k0) laidOut_ok) mapsRowed_ok) expandSums_k3) expandSums_k4) expandSums_k5) expandSums_k6) expandSums_k7) expandSums_k8) expandSums_k9) expandSums_k10) expandSums_k11) expandSums_k12) expandSums_k13) expandSums_k14) expandSums_k15) expandSums_k16) expandSums_k17) expandSums_k18) expandSums_k19) expandSums_k20) expandSums_k21) expandSums_k22) expandSums_k23) stopsHeard_ok) mayEnter_ok) expandSums_k26) expandSums_k27) expandSums_k28) expandSums_k29) expandSums_k30) expandSums_k31
abbrev expandSums_lst : List (String × DataW Unit) := Rows.expandSumsRow.laid
theorem expandSums_plain : (expandSums_lst.all fun x => x.2.handleName?.isNone) = true := by kernel_rfl
theorem expandSums_noInit : Tryz.prog.inits.idxOf? 3 = none := by kernel_rfl
theorem expandSums_fn : Tryz.prog.funcs[3]? = some Tryz.f3 := by kernel_rfl
theorem expandSums_zip1 (os : Os) : ((World.laidAll Tryz.prog os expandSums_lst).forCall (fun _ _ => 0) ⟨#[], #[.int .i64 (-1), .int .i64 (-1), .bool false], []⟩).variablesZipB Tryz.prog = true := by kernel_rfl
theorem expandSums_zip2 (os : Os) : ((((World.laidAll Tryz.prog os expandSums_lst).forCall (fun _ _ => 0) ⟨#[], #[.int .i64 (-1), .int .i64 (-1), .bool false], []⟩).heap.toList.drop Tryz.prog.globals.size).take ((begin Tryz.prog (fun _ _ => 0) default).world.heap.size - Tryz.prog.globals.size) =
      (begin Tryz.prog (fun _ _ => 0) default).world.heap.toList.drop Tryz.prog.globals.size) := by kernel_rfl
theorem expandSums_fits (os : Os) : (World.holding Tryz.prog os ⟨#[], #[], []⟩).layFits Tryz.prog expandSums_lst [] = true := by kernel_rfl
theorem expandSums_ifaces (os : Os) : (World.holding Tryz.prog os ⟨#[], #[], []⟩).layIfaces Tryz.prog expandSums_lst (World.laidAll Tryz.prog os expandSums_lst) = true := by kernel_rfl
theorem expandSums_okB (os : Os) : Input.okWideB Tryz.prog ((World.laidAll Tryz.prog os expandSums_lst).forCall (fun _ _ => 0) ⟨#[], #[.int .i64 (-1), .int .i64 (-1), .bool false], []⟩) 3 ⟨#[], #[.int .i64 (-1), .int .i64 (-1), .bool false], []⟩ = true := by kernel_rfl
theorem expandSums_preB (os : Os) (H : Type) (enc : TypeId × Value → H) : Rows.expandSumsSpec.preB enc Tryz.prog Tryz.f3 [] false ((World.laidAll Tryz.prog os expandSums_lst).forCall (fun _ _ => 0) ⟨#[], #[.int .i64 (-1), .int .i64 (-1), .bool false], []⟩).memory #[.int .i64 (-1), .int .i64 (-1), .bool false] 8 = true := by kernel_rfl
theorem expandSums_szB (os : Os) (H : Type) (enc : TypeId × Value → H) : Rows.expandSumsSpec.sizedB enc Tryz.prog Tryz.f3 false ((World.laidAll Tryz.prog os expandSums_lst).forCall (fun _ _ => 0) ⟨#[], #[.int .i64 (-1), .int .i64 (-1), .bool false], []⟩).memory #[.int .i64 (-1), .int .i64 (-1), .bool false] 8 = true := by kernel_rfl
theorem expandSums_uInt : Tryz.prog.underlying 3 = some (.int .i64) := by kernel_rfl
theorem expandSums_uBool : Tryz.prog.underlying 4 = some .bool := by kernel_rfl
theorem expandSums_params : Tryz.f3.params = #[3, 3, 4] := by kernel_rfl
theorem expandSums_results : Tryz.f3.resultTypes = #[4] := by kernel_rfl
theorem expandSums_body : ∃ c, Tryz.f3.body = some c := ⟨_, rfl⟩
theorem expandSums_powIn : ("internal/strconv.uint64pow10", DataW.agg (powL.map fun x => (DataW.lit (.int .u64 x) : DataW Unit))) ∈ expandSums_lst := List.mem_iff_getElem?.2 ⟨2, by kernel_rfl⟩
theorem expandSums_calls {W : World} (hL : laidMetH Tryz.prog expandSums_lst W) (a b : Int) (c : Bool) (ha : (Lit.int .i64 a).wf = true) (hb0 : (Lit.int .i64 b).wf = true) : Calls Tryz.prog 3 #[.int .i64 a, .int .i64 b, .bool c] W fun e W' => e = .returned (.bool true) ∧ Stays W W' := by
  obtain ⟨cd, hb⟩ := expandSums_body
  obtain ⟨ha1, ha2⟩ : -9223372036854775808 ≤ a ∧ a ≤ 9223372036854775807 := by
    simp only [Lit.wf, Bool.and_eq_true, decide_eq_true_eq] at ha
    exact ha
  obtain ⟨hb1, hb2⟩ : -9223372036854775808 ≤ b ∧ b ≤ 9223372036854775807 := by
    simp only [Lit.wf, Bool.and_eq_true, decide_eq_true_eq] at hb0
    exact hb0
  obtain ⟨arr0, ty0, w1, w2⟩ := powAt expandSums_plain expandSums_powIn hL
  have tab : ∃ arr ty, W.heap[1]? = some (.cells arr ty (0, 0)) ∧ arr.toList = Lib.pow10Tab.map fun n => Value.int .u64 n := ⟨arr0, ty0, w1, by rw [w2, pow_eq]; rfl⟩
  have atN : ∀ vals : List Nat, atomsR 9 vals 8 = none := fun vals => by unfold atomsR; rw [if_pos (by omega)]
  have go : ∀ (A B : V), VR (atomsR 9 [zz a, zz b]) A (.int .i64 a) → VR (atomsR 9 [zz a, zz b]) B (.int .i64 b) → (∀ τ C, esRunP τ C A B (.b c) = C (.v powV (τ 1))) → Calls Tryz.prog 3 #[.int .i64 a, .int .i64 b, .bool c] W fun e W' => e = .returned (.bool true) ∧ Stays W W' := fun A B h1 h2 hrun =>
    top_run_p (n := 100000) follows nameOK hkCok expandSums_fn hb (args := .cons A (.cons B (.cons (.b c) .nil))) (ob := [(8, .c .nil 0 false)]) (nx := 9 + 2) (t := 1) (by omega) (by omega) (ρa := atomsR 9 [zz a, zz b]) (fun i L h => by
      unfold atomsR at h
      split at h
      · cases h
      · cases e : [zz a, zz b][i - 9]? with
        | none => rw [e] at h; cases h
        | some x => have := (List.getElem?_eq_some_iff.1 e).1; simp at this; omega) (none_ob' (by omega) (atN [zz a, zz b])) ⟨_, _, rfl, h1, _, _, rfl, h2, _, _, rfl, by simp only [VR], rfl⟩ hrun tab
  have rv : ∀ {lo hi : Nat} {j : Nat} {n : Int} (l h : Int), unzz lo = l → unzz hi = h → l ≤ n ∧ n ≤ h → [zz a, zz b][j]? = some (zz n) → VR (atomsR 9 [zz a, zz b]) (rngV (9 + j) lo hi) (.int .i64 n) := fun l h e1 e2 hn hj => VR_rng (atomsR_at hj) (by rw [e1]; exact hn.1) (by rw [e2]; exact hn.2)
  have cut : ∀ n : Int, -9223372036854775808 ≤ n → n ≤ 9223372036854775807 → n = Int.negSucc 9223372036854775807 ∨ (-9223372036854775807 ≤ n ∧ n ≤ -1) ∨ (0 ≤ n ∧ n ≤ 9223372036854775807) := fun n h1 h2 => by
    rw [show Int.negSucc 9223372036854775807 = (-9223372036854775808 : Int) from rfl]
    omega
  have mv : ∀ {ρ : Ren} {n : Int}, n = Int.negSucc 9223372036854775807 → VR ρ (.i .i64 (Int.negSucc 9223372036854775807)) (.int .i64 n) := fun {ρ n} h => by rw [h]; exact VRi _ _ _
  rcases cut a ha1 ha2 with h | h | h <;> rcases cut b hb1 hb2 with g | g | g <;> cases c
  · exact go _ _ (mv h) (mv g) es_mmf
  · exact go _ _ (mv h) (mv g) es_mmt
  · exact go _ _ (mv h) (rv (j := 1) (-9223372036854775807) (-1) (by decide) (by decide) g rfl) es_mnf
  · exact go _ _ (mv h) (rv (j := 1) (-9223372036854775807) (-1) (by decide) (by decide) g rfl) es_mnt
  · exact go _ _ (mv h) (rv (j := 1) (0) (9223372036854775807) (by decide) (by decide) g rfl) es_mpf
  · exact go _ _ (mv h) (rv (j := 1) (0) (9223372036854775807) (by decide) (by decide) g rfl) es_mpt
  · exact go _ _ (rv (j := 0) (-9223372036854775807) (-1) (by decide) (by decide) h rfl) (mv g) es_nmf
  · exact go _ _ (rv (j := 0) (-9223372036854775807) (-1) (by decide) (by decide) h rfl) (mv g) es_nmt
  · exact go _ _ (rv (j := 0) (-9223372036854775807) (-1) (by decide) (by decide) h rfl) (rv (j := 1) (-9223372036854775807) (-1) (by decide) (by decide) g rfl) es_nnf
  · exact go _ _ (rv (j := 0) (-9223372036854775807) (-1) (by decide) (by decide) h rfl) (rv (j := 1) (-9223372036854775807) (-1) (by decide) (by decide) g rfl) es_nnt
  · exact go _ _ (rv (j := 0) (-9223372036854775807) (-1) (by decide) (by decide) h rfl) (rv (j := 1) (0) (9223372036854775807) (by decide) (by decide) g rfl) es_npf
  · exact go _ _ (rv (j := 0) (-9223372036854775807) (-1) (by decide) (by decide) h rfl) (rv (j := 1) (0) (9223372036854775807) (by decide) (by decide) g rfl) es_npt
  · exact go _ _ (rv (j := 0) (0) (9223372036854775807) (by decide) (by decide) h rfl) (mv g) es_pmf
  · exact go _ _ (rv (j := 0) (0) (9223372036854775807) (by decide) (by decide) h rfl) (mv g) es_pmt
  · exact go _ _ (rv (j := 0) (0) (9223372036854775807) (by decide) (by decide) h rfl) (rv (j := 1) (-9223372036854775807) (-1) (by decide) (by decide) g rfl) es_pnf
  · exact go _ _ (rv (j := 0) (0) (9223372036854775807) (by decide) (by decide) h rfl) (rv (j := 1) (-9223372036854775807) (-1) (by decide) (by decide) g rfl) es_pnt
  · exact go _ _ (rv (j := 0) (0) (9223372036854775807) (by decide) (by decide) h rfl) (rv (j := 1) (0) (9223372036854775807) (by decide) (by decide) g rfl) es_ppf
  · exact go _ _ (rv (j := 0) (0) (9223372036854775807) (by decide) (by decide) h rfl) (rv (j := 1) (0) (9223372036854775807) (by decide) (by decide) g rfl) es_ppt
theorem expandSums_lifted (os : Os) (started : os.Started) (H : Type) (enc : TypeId × Value → H) :
    ReturnsInHanded {} Tryz.checked os 3 .any (fun w args => (Rows.expandSumsSpec.pre enc Tryz.prog Tryz.f3 Rows.expandSumsRow.domain false w args ∧ laidMetH Tryz.prog expandSums_lst w) ∧ sizedMet enc Tryz.prog Tryz.f3 (OpenSpec.ofChange Rows.expandSumsSpec) false w args)
      (Rows.expandSumsSpec.post enc Tryz.prog Tryz.f3 false true false false) := by
  refine returnsInHanded_of_change_and (C := Tryz.checked) (X := fun w _ => laidMetH Tryz.prog expandSums_lst w) (fun _ _ _ hh h => h.of_heap hh) own started expandSums_noInit expandSums_fn
    (ChangeSpec.witness_shaped (enc := enc) (C := Tryz.checked) (os := os) (X := fun w _ => laidMetH Tryz.prog expandSums_lst w) false (World.laidAll Tryz.prog os expandSums_lst) #[.int .i64 (-1), .int .i64 (-1), .bool false] 8 (World.laidAll_os _ _ _)
      (World.shaped_of_ZipB (expandSums_zip1 os) (expandSums_zip2 os)) (expandSums_okB os) (expandSums_preB os H enc) (expandSums_szB os H enc)
      (by rw [MakeChecks.laidMetH_plain _ _ _ expandSums_plain]; exact laidMet_laidAll _ (expandSums_fits os) (expandSums_ifaces os))) ?_
  intro W base args ds gs before hval0 hW _ _ hL _
  have hval : ∀ (j : Nat) t v, Tryz.f3.params[j]? = some t → args[j]? = some v → Value.okWide Tryz.prog W .any base t v := hval0
  have hW' := hW
  obtain ⟨p, q, hA0, hV, rfl, _, _⟩ := hW
  have hA : DataW.TrodAll enc Tryz.prog W 0 (fun _ => true) true Tryz.f3.params.toList args.toList ds p := hA0
  rw [expandSums_params] at hA hval
  obtain ⟨v0, v1, v2, d0, d1, d2, p0, p1, p2, rfl, rfl, rfl, h0, h1, h2⟩ := trodAll_three hA
  obtain ⟨rfl, rfl⟩ := trodVars_none hV
  obtain ⟨n0, rfl, rfl, rfl, hw0⟩ := open_int expandSums_uInt (hval 0 3 v0 rfl rfl) h0
  obtain ⟨n1, rfl, rfl, rfl, hw1⟩ := open_int expandSums_uInt (hval 1 3 v1 rfl rfl) h1
  obtain ⟨n2, rfl, rfl, rfl⟩ := open_bool expandSums_uBool (hval 2 4 v2 rfl rfl) h2
  refine (expandSums_calls hL n0 n1 n2 hw0 hw1).mono fun e W' ⟨he, hs⟩ => ?_
  refine ⟨_, he, _, _, _, [], [] ++ ([] ++ ([])), [], hW', ?_, ?_, ?_, hs.keptBut _, fun h => by cases h⟩
  · rw [expandSums_results]
    exact trodAll_mk1 (shut_bool expandSums_uBool true)
  · rw [expandSums_params]
    exact trodAll_mk3 (shut_int expandSums_uInt hw0) (shut_int expandSums_uInt hw1) (shut_bool expandSums_uBool n2)
  · rfl
theorem expandSums_named1 : Tryz.pinned.checked.prog.funcNamed Rows.expandSumsRow.func = some 3 := by kernel_rfl
theorem expandSums_wrapper : Tryz.f3.isWrapper Tryz.pinned.checked.prog Rows.expandSumsRow.wrapper Rows.expandSumsRow.mainSum := by unfold Func.isWrapper; first | (rw [if_pos (by decide +kernel)]; kernel_rfl) | (rw [if_neg (by decide +kernel)]; exact ⟨rfl, rfl⟩)
theorem expandSums_inst : Tryz.f3.isInstance Tryz.pinned.checked.prog Rows.expandSumsRow.origin Rows.expandSumsRow.targs := of_decide_eq_true (by kernel_rfl)
theorem expandSums_holds : Rows.ExpandSumsSaid :=
  OpenClaim.holds_of_wide 3 Tryz.f3 rfl rfl rfl rfl rfl rfl rfl ⟨rfl, rfl, rfl, rfl, rfl⟩ rfl rfl rfl rfl rfl expandSums_named1 expandSums_fn expandSums_closed expandSums_inst expandSums_wrapper
    (fun os started H enc _ => expandSums_lifted os started H enc)
end
end Go.Proofs.YtoflpofblogmcaaGreatDoor
