/-
  The row of expandCounts: for every input the law returns true.
-/
import Derived.Test.YtfmcnkepidedpaaGreatDoorCRunexpandCounts
import Derived.Test.YtfmcnkepidedpaaGreatDoorXRowK6
import Derived.OpenShut
import Derived.Carry
import Derived.Lay
import Derived.ChangeMaps5
open Go Go.Mx Go.ChangeShapes Go.WideShapes Go.RowKit
namespace Go.Proofs.YtfmcnkepidedpaaGreatDoor
set_option maxRecDepth 1000000
noncomputable section
def expandCounts_L : List Nat := [4, 5, 8, 18, 6, 19, 25, 26, 27, 28, 29, 30, 32, 39, 50, 40, 41, 51, 60, 52, 42, 43, 53, 31, 9, 20, 10, 21, 33, 44, 54, 55, 61, 70, 89, 38, 46, 58, 47, 48, 49, 59, 34, 45, 57, 35, 71, 90, 72, 23, 36, 37, 91, 73, 65, 64, 77, 98, 114, 115, 146, 147, 148, 116, 117, 149, 150, 169, 170, 78, 79, 99, 118, 151, 80, 100, 120, 119, 121, 123, 152, 122, 125, 155, 173, 153, 171, 154, 172, 178, 124, 81, 101, 126, 156, 174, 175, 102, 127, 157, 128, 129, 158, 130, 11, 63, 76, 97, 75, 95, 111, 96, 113, 145, 112, 136, 142, 168, 137, 163, 138, 164, 165, 139, 166, 167, 177, 140, 141, 143, 144, 62, 74, 92, 93, 107, 108, 94, 132, 159, 160, 161, 176, 179, 162, 133, 109, 110, 134, 135, 56, 66, 82, 22, 7, 16, 17, 24, 67, 83, 103, 104, 131, 105, 84, 85, 87, 106, 86, 68, 69, 88, 12, 14, 15]
theorem expandCounts_clos : Tryz.prog.closure 4 = expandCounts_L := closure_by_table Tryz.prog tabT_all (by kernel_rfl)
theorem expandCounts_inPlace : Tryz.prog.inPlace 4 = Rows.expandCountsRow.inPlace := inPlace_by_table Tryz.prog expandCounts_clos tabN_all (by kernel_rfl)
theorem expandCounts_named : Tryz.prog.varsNamed 4 = Rows.expandCountsRow.named := varsNamed_by_table Tryz.prog expandCounts_clos tabG_all tabE_all (by kernel_rfl)
theorem expandCounts_unf : Tryz.prog.unfollowed 4 = true := by
  obtain ⟨c, hc⟩ : ∃ c, Tryz.f97.body = some c := ⟨_, rfl⟩
  exact unfollowed_by_table Tryz.prog expandCounts_clos (g := 97) (by kernel_rfl) (fn := Tryz.f97) (by kernel_rfl) hc (by cases hc; kernel_rfl)
theorem expandCounts_k0 : (Rows.expandCountsRow.wf (OpenSpec.ofChange Rows.expandCountsSpec)) = true := by kernel_rfl
theorem expandCounts_k3 : (Tryz.f4.params.all (Tryz.pinned.checked.prog.readableRec ·)) = true := by kernel_rfl
theorem expandCounts_k4 : (namedTie Tryz.pinned.checked.prog Rows.expandCountsRow.named Rows.expandCountsSpec.vars) = true := by kernel_rfl
theorem expandCounts_k5 : ((Rows.expandCountsRow.stops == [])) = true := by kernel_rfl
theorem expandCounts_k6 : ((Tryz.pinned.checked.prog.stops == [])) = true := by kernel_rfl
theorem expandCounts_k7 : ((Rows.expandCountsRow.knobs == [])) = true := by kernel_rfl
theorem expandCounts_k8 : ((Tryz.pinned.checked.prog.stopKnobs == [])) = true := by kernel_rfl
theorem expandCounts_k9 : ((Rows.expandCountsRow.inPlace == Tryz.pinned.checked.prog.inPlace 4)) = true := beq_iff_eq.2 expandCounts_inPlace.symm
theorem expandCounts_k10 : ((Rows.expandCountsRow.unfollowed == Tryz.pinned.checked.prog.unfollowed 4)) = true := beq_iff_eq.2 expandCounts_unf.symm
theorem expandCounts_k11 : ((Rows.expandCountsRow.recurses == Tryz.pinned.checked.prog.recurses 4)) = true := beq_iff_eq.2 (show true = Tryz.prog.recurses 4 by unfold Program.recurses; rw [expandCounts_unf]; rfl)
theorem expandCounts_k12 : ((Rows.expandCountsRow.named == Tryz.pinned.checked.prog.varsNamed 4)) = true := beq_iff_eq.2 expandCounts_named.symm
theorem expandCounts_k13 : ((Rows.expandCountsRow.maps == (Tryz.f4.params.toList ++ Rows.expandCountsSpec.plain.varTypes Tryz.pinned.checked.prog).any (Tryz.pinned.checked.prog.mapsRec ·))) = true := by kernel_rfl
theorem expandCounts_k14 : ((Rows.expandCountsRow.ifaces == (Tryz.f4.params.toList ++ Rows.expandCountsSpec.plain.varTypes Tryz.pinned.checked.prog).any (Tryz.pinned.checked.prog.ifacesRec ·))) = true := by kernel_rfl
theorem expandCounts_k15 : ((Rows.expandCountsRow.mapsOut == Tryz.pinned.checked.prog.mapsAmong Tryz.f4.resultTypes.toList)) = true := by kernel_rfl
theorem expandCounts_k16 : ((Rows.expandCountsRow.loops == (Tryz.f4.params.toList ++ Rows.expandCountsSpec.plain.varTypes Tryz.pinned.checked.prog).any (Tryz.pinned.checked.prog.loopsFrom ·))) = true := by kernel_rfl
theorem expandCounts_k17 : ((Rows.expandCountsRow.wideKeys == (Tryz.f4.params.toList ++ Rows.expandCountsSpec.plain.varTypes Tryz.pinned.checked.prog ++ Tryz.f4.resultTypes.toList).any (Tryz.pinned.checked.prog.wideKeysFrom ·))) = true := by kernel_rfl
theorem expandCounts_k18 : (Rows.expandCountsSpec.vars.all (Tryz.pinned.checked.prog.varReadable ·)) = true := by kernel_rfl
theorem expandCounts_k19 : (Tryz.f4.resultTypes.all (fun t => Tryz.pinned.checked.prog.readableRec t && decide (t < Tryz.pinned.checked.prog.types.size))) = true := by kernel_rfl
theorem expandCounts_k20 : ((Rows.expandCountsRow.ifacesOut == Tryz.f4.resultTypes.toList.any (Tryz.pinned.checked.prog.ifacesRec ·))) = true := by kernel_rfl
theorem expandCounts_k21 : ((Rows.expandCountsRow.loopsOut == Tryz.f4.resultTypes.toList.any (Tryz.pinned.checked.prog.loopsFrom ·))) = true := by kernel_rfl
theorem expandCounts_k22 : ((Rows.expandCountsRow.plainKeys == Tryz.pinned.checked.prog.plainKeys)) = true := by kernel_rfl
theorem expandCounts_k23 : (Rows.expandCountsRow.shortTexts.isNone) = true := by kernel_rfl
theorem expandCounts_k26 : ((Rows.expandCountsRow.lifted == Tryz.pinned.checked.prog.liftsFinal)) = true := by kernel_rfl
theorem expandCounts_k27 : ((Tryz.pinned.checked.prog.make == some Rows.expandCountsRow.make)) = true := by kernel_rfl
theorem expandCounts_k28 : ((Rows.expandCountsRow.kinds == (if Rows.expandCountsRow.domain.isEmpty then [] else Tryz.f4.params.toList.map fun t => match Tryz.pinned.checked.prog.underlying t with | some (.int k) => some k | _ => none))) = true := by kernel_rfl
theorem expandCounts_k29 : ((Rows.expandCountsRow.pinned == Rows.expandCountsRow.pinnedBy)) = true := by kernel_rfl
theorem expandCounts_k30 : ((Rows.expandCountsRow.veiled == (Tryz.f4.params.toList ++ Rows.expandCountsSpec.plain.varTypes Tryz.pinned.checked.prog ++ Tryz.f4.resultTypes.toList).any (Tryz.pinned.checked.prog.veiledRec ·))) = true := by kernel_rfl
theorem expandCounts_k31 : (Rows.expandCountsRow.veiledFits Tryz.pinned.checked.prog Tryz.f4.params.toList (Tryz.f4.params.toList ++ Rows.expandCountsSpec.plain.varTypes Tryz.pinned.checked.prog ++ Tryz.f4.resultTypes.toList)) = true := by kernel_rfl
theorem expandCounts_closed : joinedFacts Tryz.pinned.checked.prog 4 Tryz.f4 Rows.expandCountsSpec Rows.expandCountsRow = true := band (band (band (band (band (band (band (band (band (band (band (band (band (band (band (band (band (band (band (band (band (band (band (band (band (band (band (band (band (band (band (expandCounts_k0) laidOut_ok) mapsRowed_ok) expandCounts_k3) expandCounts_k4) expandCounts_k5) expandCounts_k6) expandCounts_k7) expandCounts_k8) expandCounts_k9) expandCounts_k10) expandCounts_k11) expandCounts_k12) expandCounts_k13) expandCounts_k14) expandCounts_k15) expandCounts_k16) expandCounts_k17) expandCounts_k18) expandCounts_k19) expandCounts_k20) expandCounts_k21) expandCounts_k22) expandCounts_k23) stopsHeard_ok) mayEnter_ok) expandCounts_k26) expandCounts_k27) expandCounts_k28) expandCounts_k29) expandCounts_k30) expandCounts_k31
abbrev expandCounts_lst : List (String × DataW Unit) := Rows.expandCountsRow.laid
theorem expandCounts_plain : (expandCounts_lst.all fun x => x.2.handleName?.isNone) = true := by kernel_rfl
theorem expandCounts_noInit : Tryz.prog.inits.idxOf? 4 = none := by kernel_rfl
theorem expandCounts_fn : Tryz.prog.funcs[4]? = some Tryz.f4 := by kernel_rfl
theorem expandCounts_zip1 (os : Os) : ((World.laidAll Tryz.prog os expandCounts_lst).forCall (fun _ _ => 0) ⟨#[], #[.string ByteArray.empty, .slice none 0 0, .int .i64 (-1)], []⟩).variablesZipB Tryz.prog = true := by kernel_rfl
theorem expandCounts_zip2 (os : Os) : ((((World.laidAll Tryz.prog os expandCounts_lst).forCall (fun _ _ => 0) ⟨#[], #[.string ByteArray.empty, .slice none 0 0, .int .i64 (-1)], []⟩).heap.toList.drop Tryz.prog.globals.size).take ((begin Tryz.prog (fun _ _ => 0) default).world.heap.size - Tryz.prog.globals.size) =
      (begin Tryz.prog (fun _ _ => 0) default).world.heap.toList.drop Tryz.prog.globals.size) := by kernel_rfl
theorem expandCounts_fits (os : Os) : (World.holding Tryz.prog os ⟨#[], #[], []⟩).layFits Tryz.prog expandCounts_lst [] = true := by kernel_rfl
theorem expandCounts_ifaces (os : Os) : (World.holding Tryz.prog os ⟨#[], #[], []⟩).layIfaces Tryz.prog expandCounts_lst (World.laidAll Tryz.prog os expandCounts_lst) = true := by kernel_rfl
theorem expandCounts_okB (os : Os) : Input.okWideB Tryz.prog ((World.laidAll Tryz.prog os expandCounts_lst).forCall (fun _ _ => 0) ⟨#[], #[.string ByteArray.empty, .slice none 0 0, .int .i64 (-1)], []⟩) 4 ⟨#[], #[.string ByteArray.empty, .slice none 0 0, .int .i64 (-1)], []⟩ = true := by kernel_rfl
theorem expandCounts_preB (os : Os) (H : Type) (enc : TypeId × Value → H) : Rows.expandCountsSpec.preB enc Tryz.prog Tryz.f4 [] false ((World.laidAll Tryz.prog os expandCounts_lst).forCall (fun _ _ => 0) ⟨#[], #[.string ByteArray.empty, .slice none 0 0, .int .i64 (-1)], []⟩).memory #[.string ByteArray.empty, .slice none 0 0, .int .i64 (-1)] 8 = true := by kernel_rfl
theorem expandCounts_szB (os : Os) (H : Type) (enc : TypeId × Value → H) : Rows.expandCountsSpec.sizedB enc Tryz.prog Tryz.f4 false ((World.laidAll Tryz.prog os expandCounts_lst).forCall (fun _ _ => 0) ⟨#[], #[.string ByteArray.empty, .slice none 0 0, .int .i64 (-1)], []⟩).memory #[.string ByteArray.empty, .slice none 0 0, .int .i64 (-1)] 8 = true := by kernel_rfl
theorem expandCounts_uInt : Tryz.prog.underlying 3 = some (.int .i64) := by kernel_rfl
theorem expandCounts_uBool : Tryz.prog.underlying 4 = some .bool := by kernel_rfl
theorem expandCounts_params : Tryz.f4.params = #[9, 23, 3] := by kernel_rfl
theorem expandCounts_results : Tryz.f4.resultTypes = #[4] := by kernel_rfl
theorem expandCounts_body : ∃ c, Tryz.f4.body = some c := ⟨_, rfl⟩
theorem expandCounts_powIn : ("internal/strconv.uint64pow10", DataW.agg (powL.map fun x => (DataW.lit (.int .u64 x) : DataW Unit))) ∈ expandCounts_lst := List.mem_iff_getElem?.2 ⟨2, by kernel_rfl⟩
theorem expandCounts_uStr : Tryz.prog.underlying 9 = some .string := by kernel_rfl
theorem expandCounts_stU : Tryz.prog.underlying 23 = some (.slice 9) := by kernel_rfl
theorem expandCounts_stE : Tryz.prog.underlying 9 = some .string := by kernel_rfl
theorem expandCounts_stC : Tryz.prog.cellsOf 9 = 1 := by kernel_rfl
theorem expandCounts_stR : Tryz.pinned.checked.prog.readableRec 23 = true := by kernel_rfl
theorem expandCounts_stT : 23 < Tryz.pinned.checked.prog.types.size := of_decide_eq_true (by kernel_rfl)
theorem expandCounts_calls {H : Type} {encH : TypeId × Value → H} {W : World} {v1 : Value} {d1 : DataW H} {p1 : List MemPlace} (hL : laidMetH Tryz.prog expandCounts_lst W) (v : ByteArray) (hv0 : v.size ≤ maxLen) (hval : Value.okWide Tryz.prog W .any 0 23 v1) (h1 : DataW.Trod encH Tryz.prog W 0 (fun _ => true) true 23 v1 d1 p1) (s : Int) (hs0 : (Lit.int .i64 s).wf = true) :
    Calls Tryz.prog 4 #[.string v, v1, .int .i64 s] W fun e W' => e = .returned (.bool true) ∧ Stays W W' := by
  obtain ⟨cd, hb⟩ := expandCounts_body
  have hv : v.size ≤ 9223372036854775807 := hv0
  have hvl : v.data.toList.length = v.size := rfl
  obtain ⟨hs1, hs2⟩ : -9223372036854775808 ≤ s ∧ s ≤ 9223372036854775807 := by
    simp only [Lit.wf, Bool.and_eq_true, decide_eq_true_eq] at hs0
    exact hs0
  obtain ⟨arr0, ty0, w1, w2⟩ := powAt expandCounts_plain expandCounts_powIn hL
  have tab : ∃ arr ty, W.heap[1]? = some (.cells arr ty (0, 0)) ∧ arr.toList = Lib.pow10Tab.map fun n => Value.int .u64 n := ⟨arr0, ty0, w1, by rw [w2, pow_eq]; rfl⟩
  have un : ∀ {ρ : Ren} {x : Value}, VR ρ .nil x := fun {ρ x} => by simp only [VR]
  have atN : ∀ vals : List Nat, atomsR 9 vals 8 = none := fun vals => by unfold atomsR; rw [if_pos (by omega)]
  have go0 : ∀ (vals : List Nat) (x g z : V), VR (atomsR 9 vals) x (.string v) → VR (atomsR 9 vals) g v1 → VR (atomsR 9 vals) z (.int .i64 s) → (∀ τ, ecRun τ x g z .nil 0 (9 + vals.length) = true) → Calls Tryz.prog 4 #[.string v, v1, .int .i64 s] W fun e W' => e = .returned (.bool true) ∧ Stays W W' := fun vals x g z hx hg hz hrun =>
    top_run_g (n := 100000) follows nameOK hkCok expandCounts_fn hb (args := .cons x (.cons g (.cons z .nil))) (ob := [(8, .c .nil 0 false)]) (nx := 9 + vals.length) tblIn (by omega) (ρa := atomsR 9 vals) (fun i L h => by
      unfold atomsR at h
      split at h
      · cases h
      · cases e : vals[i - 9]? with
        | none => rw [e] at h; cases h
        | some x => have := (List.getElem?_eq_some_iff.1 e).1; omega) (none_ob2 (by omega) (atN vals)) ⟨_, _, rfl, hx, _, _, rfl, hg, _, _, rfl, hz, rfl⟩ hrun (tabs W)
  have goP : ∀ (vals : List Nat) (x g z : V), VR (atomsR 9 vals) x (.string v) → VR (atomsR 9 vals) g v1 → VR (atomsR 9 vals) z (.int .i64 s) → (∀ τ C, ecRunP τ C x g z .nil 0 (9 + vals.length) = C (.v powV (τ 1))) → Calls Tryz.prog 4 #[.string v, v1, .int .i64 s] W fun e W' => e = .returned (.bool true) ∧ Stays W W' := fun vals x g z hx hg hz hrun =>
    top_run_p (n := 100000) follows nameOK hkCok expandCounts_fn hb (args := .cons x (.cons g (.cons z .nil))) (ob := [(8, .c .nil 0 false)]) (nx := 9 + vals.length) (t := 1) (by omega) (by omega) (ρa := atomsR 9 vals) (fun i L h => by
      unfold atomsR at h
      split at h
      · cases h
      · cases e : vals[i - 9]? with
        | none => rw [e] at h; cases h
        | some x => have := (List.getElem?_eq_some_iff.1 e).1; omega) (none_ob' (by omega) (atN vals)) ⟨_, _, rfl, hx, _, _, rfl, hg, _, _, rfl, hz, rfl⟩ hrun tab
  by_cases hv1 : v.size ≤ 300
  rotate_left
  · exact go0 [enc v.data.toList] _ _ _ (VR_el ⟨by omega, hv⟩ (atomsR_at (j := 0) rfl)) un un ec_a
  rcases open_strslice expandCounts_stU expandCounts_stE expandCounts_stC (okWide_slice expandCounts_stU hval) h1 with rfl | ⟨A, c, rfl⟩ | ⟨b, off, cap, arr, ty, fz, l, rfl, h0, hle, hblk, hsz, hcs, hmx⟩
  · rcases zero_split v.data.toList with hz | ⟨p, q, c0, hpq, hc0, hz⟩
    · cases he : v.data.toList with
      | nil => exact goP [zz s] _ _ _ (VR_sE he) (by simp [VR]) (VR_any (atomsR_at (j := 0) rfl) hs1 hs2) ec_es
      | cons c r =>
        have hr : r.length + 1 = v.size := by rw [← hvl, he]; rfl
        exact goP [c.toNat, enc r, zz s] _ _ _ (VR_nz (hi := 299) he (atomsR_at (j := 0) rfl) (atomsR_at (j := 1) rfl) hz (by omega)) (by simp [VR]) (VR_any (atomsR_at (j := 2) rfl) hs1 hs2) ec_ns
    · have hlen : p.length + (q.length + 1) = v.size := by rw [← hvl, hpq]; simp
      exact go0 [enc p, enc q] _ _ _ (VR_zz (m := Nat.sub 299 p.length) hpq hc0 (atomsR_at (j := 0) rfl) (atomsR_at (j := 1) rfl) hz (by show q.length ≤ 299 - p.length; omega)) (by simp [VR]) un fun τ => allN_spec (ec_zs 0 τ) p.length (by omega)
  · rcases zero_split v.data.toList with hz | ⟨p, q, c0, hpq, hc0, hz⟩
    · cases he : v.data.toList with
      | nil => exact goP [zz s] _ _ _ (VR_sE he) (by simp [VR]) (VR_any (atomsR_at (j := 0) rfl) hs1 hs2) ec_ee
      | cons c r =>
        have hr : r.length + 1 = v.size := by rw [← hvl, he]; rfl
        exact goP [c.toNat, enc r, zz s] _ _ _ (VR_nz (hi := 299) he (atomsR_at (j := 0) rfl) (atomsR_at (j := 1) rfl) hz (by omega)) (by simp [VR]) (VR_any (atomsR_at (j := 2) rfl) hs1 hs2) ec_ne
    · have hlen : p.length + (q.length + 1) = v.size := by rw [← hvl, hpq]; simp
      exact go0 [enc p, enc q] _ _ _ (VR_zz (m := Nat.sub 299 p.length) hpq hc0 (atomsR_at (j := 0) rfl) (atomsR_at (j := 1) rfl) hz (by show q.length ≤ 299 - p.length; omega)) (by simp [VR]) un fun τ => allN_spec (ec_ze 0 τ) p.length (by omega)
  have hbt : b ≠ 1 := strs_apart h0 hblk hcs w1 w2
  have hoff : off ≤ arr.size := by omega
  have hcs2 : arr.toList.drop off = l.map Value.string ++ (arr.toList.drop off).drop l.length := by rw [← hcs, List.take_append_drop]
  have go : ∀ (vals : List Nat) (x g z lx : V) (vs rest : List Value), l.map Value.string = vs ++ rest → VRs (strsR 8 b off arr.size vals) lx vs → VR (strsR 8 b off arr.size vals) x (.string v) → VR (strsR 8 b off arr.size vals) g (.slice (some ⟨b, off, none⟩) l.length cap) → VR (strsR 8 b off arr.size vals) z (.int .i64 s) → (∀ τ, ecRun τ x g z lx ty (9 + vals.length) = true) → Calls Tryz.prog 4 #[.string v, .slice (some ⟨b, off, none⟩) l.length cap, .int .i64 s] W fun e W' => e = .returned (.bool true) ∧ Stays W W' := fun vals x g z lx vs rest hr hl hx hg hz hrun =>
    top_run_g (n := 100000) follows nameOK hkCok expandCounts_fn hb (args := .cons x (.cons g (.cons z .nil))) (nx := 9 + vals.length) tblIn (by omega) strsR_in (strs_ob (by omega) hblk hoff (by rw [hcs2, hr, List.append_assoc]) hl) ⟨_, _, rfl, hx, _, _, rfl, hg, _, _, rfl, hz, rfl⟩ hrun (tabs W)
  have goQ : ∀ (vals : List Nat) (x g z lx : V) (vs rest : List Value), l.map Value.string = vs ++ rest → VRs (strsR 8 b off arr.size vals) lx vs → VR (strsR 8 b off arr.size vals) x (.string v) → VR (strsR 8 b off arr.size vals) g (.slice (some ⟨b, off, none⟩) l.length cap) → VR (strsR 8 b off arr.size vals) z (.int .i64 s) → (∀ τ C, ecRunP τ C x g z lx ty (9 + vals.length) = C (.v powV (τ 1))) → Calls Tryz.prog 4 #[.string v, .slice (some ⟨b, off, none⟩) l.length cap, .int .i64 s] W fun e W' => e = .returned (.bool true) ∧ Stays W W' := fun vals x g z lx vs rest hr hl hx hg hz hrun =>
    top_run_p (n := 100000) follows nameOK hkCok expandCounts_fn hb (args := .cons x (.cons g (.cons z .nil))) (nx := 9 + vals.length) (t := 1) (by omega) (by omega) strsR_in (strs_ob' hbt (by omega) hblk hoff (by rw [hcs2, hr, List.append_assoc]) hl) ⟨_, _, rfl, hx, _, _, rfl, hg, _, _, rfl, hz, rfl⟩ hrun tab
  by_cases hn : l.length ≤ 30
  · rcases zero_split v.data.toList with hz | ⟨p, q, c0, hpq, hc0, hz⟩
    · have els : ∀ ex : List Nat, VRs (strsR 8 b off arr.size (l.map (fun s => enc s.data.toList) ++ ex)) (elsV 0 9223372036854775807 l.length 9 .nil) (l.map Value.string ++ []) := fun ex => VRs_els (by simp [VRs]) l 9 (fun s hs => ⟨Nat.zero_le _, hmx s hs⟩) fun j s hj => strsR_at (by
        have hjl := (List.getElem?_eq_some_iff.1 hj).1
        rw [List.getElem?_append_left (by simpa using hjl), List.getElem?_map, hj]
        rfl)
      have at0 : ∀ (ex : List Nat) (j n : Nat), ex[j]? = some n → ∃ L, strsR 8 b off arr.size (l.map (fun s => enc s.data.toList) ++ ex) (9 + (l.length + j)) = some L ∧ L.base = n := fun ex j n hj => strsR_at (by rw [List.getElem?_append_right (by simp), List.length_map, Nat.add_sub_cancel_left]; exact hj)
      cases he : v.data.toList with
      | nil =>
        refine goQ (l.map (fun s => enc s.data.toList) ++ [zz s]) (.s []) (.sl 8 0 l.length 1) _ _ _ [] (by simp) (els _) (VR_sE he) (strs_V hle hsz) (VR_any (at0 _ 0 _ rfl) hs1 hs2) fun τ C => ?_
        rw [List.length_append, List.length_map]
        exact ec_e l.length h0 hn ty τ C
      | cons c r =>
        have hr : r.length + 1 = v.size := by rw [← hvl, he]; rfl
        refine goQ (l.map (fun s => enc s.data.toList) ++ [c.toNat, enc r, zz s]) _ (.sl 8 0 l.length 1) _ _ _ [] (by simp) (els _) (VR_nz (hi := 299) he (at0 _ 0 _ rfl) (at0 _ 1 _ rfl) hz (by omega)) (strs_V hle hsz) (VR_any (at0 _ 2 _ rfl) hs1 hs2) fun τ C => ?_
        rw [List.length_append, List.length_map]
        exact ec_n l.length h0 hn ty τ C
    · have hlen : p.length + (q.length + 1) = v.size := by rw [← hvl, hpq]; simp
      exact go [l.length, enc p, enc q] _ (lenV 8 9 1 30) _ .nil [] (l.map Value.string) rfl (by simp [VRs]) (VR_zz (m := Nat.sub 299 p.length) hpq hc0 (strsR_at (j := 1) rfl) (strsR_at (j := 2) rfl) hz (by show q.length ≤ 299 - p.length; omega)) (VR_len hle hsz (strsR_at (j := 0) rfl) ⟨h0, hn⟩) un fun τ => allN_spec (ec_zl ty τ) p.length (by omega)
  · obtain ⟨m, hm⟩ : ∃ m, l.length = m + 31 := ⟨l.length - 31, by omega⟩
    refine go [enc v.data.toList] (elV 9 0 300) (.sl 8 0 l.length 1) _ .nil [] (l.map Value.string) rfl (by simp [VRs]) (VR_el ⟨Nat.zero_le _, hv1⟩ (strsR_at (j := 0) rfl)) (strs_V hle hsz) un fun τ => ?_
    rw [hm]
    exact ec_b m ty τ
theorem expandCounts_lifted (os : Os) (started : os.Started) (H : Type) (enc : TypeId × Value → H) :
    ReturnsInHanded {} Tryz.checked os 4 .any (fun w args => (Rows.expandCountsSpec.pre enc Tryz.prog Tryz.f4 Rows.expandCountsRow.domain false w args ∧ laidMetH Tryz.prog expandCounts_lst w) ∧ sizedMet enc Tryz.prog Tryz.f4 (OpenSpec.ofChange Rows.expandCountsSpec) false w args)
      (Rows.expandCountsSpec.post enc Tryz.prog Tryz.f4 false true false false) := by
  refine returnsInHanded_of_change_and (C := Tryz.checked) (X := fun w _ => laidMetH Tryz.prog expandCounts_lst w) (fun _ _ _ hh h => h.of_heap hh) own started expandCounts_noInit expandCounts_fn
    (ChangeSpec.witness_shaped (enc := enc) (C := Tryz.checked) (os := os) (X := fun w _ => laidMetH Tryz.prog expandCounts_lst w) false (World.laidAll Tryz.prog os expandCounts_lst) #[.string ByteArray.empty, .slice none 0 0, .int .i64 (-1)] 8 (World.laidAll_os _ _ _)
      (World.shaped_of_ZipB (expandCounts_zip1 os) (expandCounts_zip2 os)) (expandCounts_okB os) (expandCounts_preB os H enc) (expandCounts_szB os H enc)
      (by rw [MakeChecks.laidMetH_plain _ _ _ expandCounts_plain]; exact laidMet_laidAll _ (expandCounts_fits os) (expandCounts_ifaces os))) ?_
  intro W base args ds gs before hval0 hW _ _ hL _
  have hval : ∀ (j : Nat) t v, Tryz.f4.params[j]? = some t → args[j]? = some v → Value.okWide Tryz.prog W .any base t v := hval0
  have hW' := hW
  obtain ⟨p, q, hA0, hV, rfl, _, _⟩ := hW
  have hA : DataW.TrodAll enc Tryz.prog W 0 (fun _ => true) true Tryz.f4.params.toList args.toList ds p := hA0
  rw [expandCounts_params] at hA hval
  obtain ⟨v0, v1, v2, d0, d1, d2, p0, p1, p2, rfl, rfl, rfl, h0, h1, h2⟩ := trodAll_three hA
  obtain ⟨rfl, rfl⟩ := trodVars_none hV
  obtain ⟨n0, rfl, rfl, rfl, hw0⟩ := Go.ChangeMaps.open_string expandCounts_uStr (hval 0 9 v0 rfl rfl) h0
  obtain ⟨n2, rfl, rfl, rfl, hw2⟩ := open_int expandCounts_uInt (hval 2 3 v2 rfl rfl) h2
  refine (expandCounts_calls hL n0 hw0 (hval 1 23 v1 rfl rfl) h1 n2 hw2).mono fun e W' ⟨he, hs⟩ => ?_
  refine ⟨_, he, _, _, _, [], [] ++ (p1 ++ ([])), [], hW', ?_, ?_, ?_, hs.keptBut _, fun h => by cases h⟩
  · rw [expandCounts_results]
    exact trodAll_mk1 (shut_bool expandCounts_uBool true)
  · rw [expandCounts_params]
    exact trodAll_mk3 (Go.ChangeMaps.shut_string expandCounts_uStr hw0) (Below.trod laidOut_ok expandCounts_stR expandCounts_stT h1 hs.below (fun y hy => hW'.lt y (by simp [hy]))) (shut_int expandCounts_uInt hw2)
  · rfl
theorem expandCounts_named1 : Tryz.pinned.checked.prog.funcNamed Rows.expandCountsRow.func = some 4 := by kernel_rfl
theorem expandCounts_wrapper : Tryz.f4.isWrapper Tryz.pinned.checked.prog Rows.expandCountsRow.wrapper Rows.expandCountsRow.mainSum := by unfold Func.isWrapper; first | (rw [if_pos (by decide +kernel)]; kernel_rfl) | (rw [if_neg (by decide +kernel)]; exact ⟨rfl, rfl⟩)
theorem expandCounts_inst : Tryz.f4.isInstance Tryz.pinned.checked.prog Rows.expandCountsRow.origin Rows.expandCountsRow.targs := of_decide_eq_true (by kernel_rfl)
theorem expandCounts_holds : Rows.ExpandCountsSaid :=
  OpenClaim.holds_of_wide 4 Tryz.f4 rfl rfl rfl rfl rfl rfl rfl ⟨rfl, rfl, rfl, rfl, rfl⟩ rfl rfl rfl rfl rfl expandCounts_named1 expandCounts_fn expandCounts_closed expandCounts_inst expandCounts_wrapper
    (fun os started H enc _ => expandCounts_lifted os started H enc)
end
end Go.Proofs.YtfmcnkepidedpaaGreatDoor
