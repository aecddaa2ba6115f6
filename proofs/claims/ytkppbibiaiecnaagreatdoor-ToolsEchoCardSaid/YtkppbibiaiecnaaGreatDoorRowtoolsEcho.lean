/-
  The row of toolsEcho: for every input the law returns true.
-/
import Derived.Test.YtkppbibiaiecnaaGreatDoorRuntoolsEcho
import Derived.Test.YtkppbibiaiecnaaGreatDoorXRowK5
import Derived.OpenShut
import Derived.Carry
import Derived.Lay
open Go Go.Mx Go.ChangeShapes Go.WideShapes Go.RowKit
namespace Go.Proofs.YtkppbibiaiecnaaGreatDoor
set_option maxRecDepth 1000000
noncomputable section
def toolsEcho_L : List Nat := [3, 5, 7, 6, 13, 21, 22, 23, 39, 70, 101, 126, 102, 127, 71, 72, 38, 24, 40, 73, 103, 120, 147, 148, 173, 181, 182, 149, 150, 183, 184, 208, 209, 41, 42, 74, 104, 128, 129, 158, 159, 130, 112, 140, 178, 86, 115, 189, 211, 212, 213, 222, 215, 214, 176, 201, 200, 202, 204, 218, 203, 206, 220, 224, 187, 210, 219, 223, 225, 154, 153, 205, 82, 111, 216, 190, 160, 161, 191, 192, 45, 25, 44, 10, 20, 15, 35, 65, 98, 124, 155, 185, 66, 99, 125, 156, 186, 157, 188, 67, 100, 68, 69, 36, 16, 14, 43, 75, 26, 46, 47, 76, 11, 8, 17, 19, 37, 18, 27, 48, 77, 105, 131, 78, 106, 132, 162, 107, 134, 172, 133, 163, 169, 198, 164, 193, 165, 194, 195, 166, 196, 197, 217, 167, 168, 170, 171, 28, 49, 50, 54, 80, 55, 29, 9, 51, 79, 52, 30, 53, 31, 56, 57, 32, 58, 81, 108, 109, 135, 136, 110, 137, 174, 138, 175, 199, 177, 207, 221, 113, 141, 142, 114, 143, 179, 144, 145, 180, 146, 139, 59, 60, 33, 34, 61, 83, 84, 85, 90, 87, 91, 116, 88, 89, 62, 92, 63, 64, 93, 117, 94, 118, 119, 95, 96, 121, 97, 122, 151, 152, 123, 12]
theorem toolsEcho_clos : Tryz.prog.closure 3 = toolsEcho_L := closure_by_table Tryz.prog tabT_all (by kernel_rfl)
theorem toolsEcho_inPlace : Tryz.prog.inPlace 3 = Rows.toolsEchoRow.inPlace := inPlace_by_table Tryz.prog toolsEcho_clos tabN_all (by kernel_rfl)
theorem toolsEcho_named : Tryz.prog.varsNamed 3 = Rows.toolsEchoRow.named := varsNamed_by_table Tryz.prog toolsEcho_clos tabG_all tabE_all (by kernel_rfl)
theorem toolsEcho_unf : Tryz.prog.unfollowed 3 = true := by
  obtain ⟨c, hc⟩ : ∃ c, Tryz.f6.body = some c := ⟨_, rfl⟩
  exact unfollowed_by_table Tryz.prog toolsEcho_clos (g := 6) (by kernel_rfl) (fn := Tryz.f6) (by kernel_rfl) hc (by cases hc; kernel_rfl)
theorem toolsEcho_k0 : (Rows.toolsEchoRow.wf (OpenSpec.ofChange Rows.toolsEchoSpec)) = true := by kernel_rfl
theorem toolsEcho_k3 : (Tryz.f3.params.all (Tryz.pinned.checked.prog.readableRec ·)) = true := by kernel_rfl
theorem toolsEcho_k4 : (namedTie Tryz.pinned.checked.prog Rows.toolsEchoRow.named Rows.toolsEchoSpec.vars) = true := by kernel_rfl
theorem toolsEcho_k5 : ((Rows.toolsEchoRow.stops == [])) = true := by kernel_rfl
theorem toolsEcho_k6 : ((Tryz.pinned.checked.prog.stops == [])) = true := by kernel_rfl
theorem toolsEcho_k7 : ((Rows.toolsEchoRow.knobs == [])) = true := by kernel_rfl
theorem toolsEcho_k8 : ((Tryz.pinned.checked.prog.stopKnobs == [])) = true := by kernel_rfl
theorem toolsEcho_k9 : ((Rows.toolsEchoRow.inPlace == Tryz.pinned.checked.prog.inPlace 3)) = true := beq_iff_eq.2 toolsEcho_inPlace.symm
theorem toolsEcho_k10 : ((Rows.toolsEchoRow.unfollowed == Tryz.pinned.checked.prog.unfollowed 3)) = true := beq_iff_eq.2 toolsEcho_unf.symm
theorem toolsEcho_k11 : ((Rows.toolsEchoRow.recurses == Tryz.pinned.checked.prog.recurses 3)) = true := beq_iff_eq.2 (show true = Tryz.prog.recurses 3 by unfold Program.recurses; rw [toolsEcho_unf]; rfl)
theorem toolsEcho_k12 : ((Rows.toolsEchoRow.named == Tryz.pinned.checked.prog.varsNamed 3)) = true := beq_iff_eq.2 toolsEcho_named.symm
theorem toolsEcho_k13 : ((Rows.toolsEchoRow.maps == (Tryz.f3.params.toList ++ Rows.toolsEchoSpec.plain.varTypes Tryz.pinned.checked.prog).any (Tryz.pinned.checked.prog.mapsRec ·))) = true := by kernel_rfl
theorem toolsEcho_k14 : ((Rows.toolsEchoRow.ifaces == (Tryz.f3.params.toList ++ Rows.toolsEchoSpec.plain.varTypes Tryz.pinned.checked.prog).any (Tryz.pinned.checked.prog.ifacesRec ·))) = true := by kernel_rfl
theorem toolsEcho_k15 : ((Rows.toolsEchoRow.mapsOut == Tryz.pinned.checked.prog.mapsAmong Tryz.f3.resultTypes.toList)) = true := by kernel_rfl
theorem toolsEcho_k16 : ((Rows.toolsEchoRow.loops == (Tryz.f3.params.toList ++ Rows.toolsEchoSpec.plain.varTypes Tryz.pinned.checked.prog).any (Tryz.pinned.checked.prog.loopsFrom ·))) = true := by kernel_rfl
theorem toolsEcho_k17 : ((Rows.toolsEchoRow.wideKeys == (Tryz.f3.params.toList ++ Rows.toolsEchoSpec.plain.varTypes Tryz.pinned.checked.prog ++ Tryz.f3.resultTypes.toList).any (Tryz.pinned.checked.prog.wideKeysFrom ·))) = true := by kernel_rfl
theorem toolsEcho_k18 : (Rows.toolsEchoSpec.vars.all (Tryz.pinned.checked.prog.varReadable ·)) = true := by kernel_rfl
theorem toolsEcho_k19 : (Tryz.f3.resultTypes.all (fun t => Tryz.pinned.checked.prog.readableRec t && decide (t < Tryz.pinned.checked.prog.types.size))) = true := by kernel_rfl
theorem toolsEcho_k20 : ((Rows.toolsEchoRow.ifacesOut == Tryz.f3.resultTypes.toList.any (Tryz.pinned.checked.prog.ifacesRec ·))) = true := by kernel_rfl
theorem toolsEcho_k21 : ((Rows.toolsEchoRow.loopsOut == Tryz.f3.resultTypes.toList.any (Tryz.pinned.checked.prog.loopsFrom ·))) = true := by kernel_rfl
theorem toolsEcho_k22 : ((Rows.toolsEchoRow.plainKeys == Tryz.pinned.checked.prog.plainKeys)) = true := by kernel_rfl
theorem toolsEcho_k23 : (Rows.toolsEchoRow.shortTexts.isNone) = true := by kernel_rfl
theorem toolsEcho_k26 : ((Rows.toolsEchoRow.lifted == Tryz.pinned.checked.prog.liftsFinal)) = true := by kernel_rfl
theorem toolsEcho_k27 : ((Tryz.pinned.checked.prog.make == some Rows.toolsEchoRow.make)) = true := by kernel_rfl
theorem toolsEcho_k28 : ((Rows.toolsEchoRow.kinds == (if Rows.toolsEchoRow.domain.isEmpty then [] else Tryz.f3.params.toList.map fun t => match Tryz.pinned.checked.prog.underlying t with | some (.int k) => some k | _ => none))) = true := by kernel_rfl
theorem toolsEcho_k29 : ((Rows.toolsEchoRow.pinned == Rows.toolsEchoRow.pinnedBy)) = true := by kernel_rfl
theorem toolsEcho_k30 : ((Rows.toolsEchoRow.veiled == (Tryz.f3.params.toList ++ Rows.toolsEchoSpec.plain.varTypes Tryz.pinned.checked.prog ++ Tryz.f3.resultTypes.toList).any (Tryz.pinned.checked.prog.veiledRec ·))) = true := by kernel_rfl
theorem toolsEcho_k31 : (Rows.toolsEchoRow.veiledFits Tryz.pinned.checked.prog Tryz.f3.params.toList (Tryz.f3.params.toList ++ Rows.toolsEchoSpec.plain.varTypes Tryz.pinned.checked.prog ++ Tryz.f3.resultTypes.toList)) = true := by kernel_rfl
theorem toolsEcho_closed : joinedFacts Tryz.pinned.checked.prog 3 Tryz.f3 Rows.toolsEchoSpec Rows.toolsEchoRow = true := band (band (band (band (band (band (band (band (band (band (band (band (band (band (band (band (band (band (band (band (band (band (band (band (band (band (band (band (band (band (band (toolsEcho_k0) laidOut_ok) mapsRowed_ok) toolsEcho_k3) toolsEcho_k4) toolsEcho_k5) toolsEcho_k6) toolsEcho_k7) toolsEcho_k8) toolsEcho_k9) toolsEcho_k10) toolsEcho_k11) toolsEcho_k12) toolsEcho_k13) toolsEcho_k14) toolsEcho_k15) toolsEcho_k16) toolsEcho_k17) toolsEcho_k18) toolsEcho_k19) toolsEcho_k20) toolsEcho_k21) toolsEcho_k22) toolsEcho_k23) stopsHeard_ok) mayEnter_ok) toolsEcho_k26) toolsEcho_k27) toolsEcho_k28) toolsEcho_k29) toolsEcho_k30) toolsEcho_k31
abbrev toolsEcho_lst : List (String × DataW Unit) := Rows.toolsEchoRow.laid
theorem toolsEcho_plain : (toolsEcho_lst.all fun x => x.2.handleName?.isNone) = true := by kernel_rfl
theorem toolsEcho_noInit : Tryz.prog.inits.idxOf? 3 = none := by kernel_rfl
theorem toolsEcho_fn : Tryz.prog.funcs[3]? = some Tryz.f3 := by kernel_rfl
theorem toolsEcho_zip1 (os : Os) : ((World.laidAll Tryz.prog os toolsEcho_lst).forCall (fun _ _ => 0) ⟨#[], #[.slice none 0 0, .bool false], []⟩).variablesZipB Tryz.prog = true := by kernel_rfl
theorem toolsEcho_zip2 (os : Os) : ((((World.laidAll Tryz.prog os toolsEcho_lst).forCall (fun _ _ => 0) ⟨#[], #[.slice none 0 0, .bool false], []⟩).heap.toList.drop Tryz.prog.globals.size).take ((begin Tryz.prog (fun _ _ => 0) default).world.heap.size - Tryz.prog.globals.size) =
      (begin Tryz.prog (fun _ _ => 0) default).world.heap.toList.drop Tryz.prog.globals.size) := by kernel_rfl
theorem toolsEcho_fits (os : Os) : (World.holding Tryz.prog os ⟨#[], #[], []⟩).layFits Tryz.prog toolsEcho_lst [] = true := by kernel_rfl
theorem toolsEcho_ifaces (os : Os) : (World.holding Tryz.prog os ⟨#[], #[], []⟩).layIfaces Tryz.prog toolsEcho_lst (World.laidAll Tryz.prog os toolsEcho_lst) = true := by kernel_rfl
theorem toolsEcho_okB (os : Os) : Input.okWideB Tryz.prog ((World.laidAll Tryz.prog os toolsEcho_lst).forCall (fun _ _ => 0) ⟨#[], #[.slice none 0 0, .bool false], []⟩) 3 ⟨#[], #[.slice none 0 0, .bool false], []⟩ = true := by kernel_rfl
theorem toolsEcho_preB (os : Os) (H : Type) (enc : TypeId × Value → H) : Rows.toolsEchoSpec.preB enc Tryz.prog Tryz.f3 [] false ((World.laidAll Tryz.prog os toolsEcho_lst).forCall (fun _ _ => 0) ⟨#[], #[.slice none 0 0, .bool false], []⟩).memory #[.slice none 0 0, .bool false] 8 = true := by kernel_rfl
theorem toolsEcho_szB (os : Os) (H : Type) (enc : TypeId × Value → H) : Rows.toolsEchoSpec.sizedB enc Tryz.prog Tryz.f3 false ((World.laidAll Tryz.prog os toolsEcho_lst).forCall (fun _ _ => 0) ⟨#[], #[.slice none 0 0, .bool false], []⟩).memory #[.slice none 0 0, .bool false] 8 = true := by kernel_rfl
theorem toolsEcho_uInt : Tryz.prog.underlying 3 = some (.int .i64) := by kernel_rfl
theorem toolsEcho_uBool : Tryz.prog.underlying 4 = some .bool := by kernel_rfl
theorem toolsEcho_params : Tryz.f3.params = #[22, 4] := by kernel_rfl
theorem toolsEcho_results : Tryz.f3.resultTypes = #[4] := by kernel_rfl
theorem toolsEcho_body : ∃ c, Tryz.f3.body = some c := ⟨_, rfl⟩
theorem toolsEcho_stU : Tryz.prog.underlying 22 = some (.slice 9) := by kernel_rfl
theorem toolsEcho_stE : Tryz.prog.underlying 9 = some .string := by kernel_rfl
theorem toolsEcho_stC : Tryz.prog.cellsOf 9 = 1 := by kernel_rfl
theorem toolsEcho_stR : Tryz.pinned.checked.prog.readableRec 22 = true := by kernel_rfl
theorem toolsEcho_stT : 22 < Tryz.pinned.checked.prog.types.size := of_decide_eq_true (by kernel_rfl)
theorem toolsEcho_calls {H : Type} {encH : TypeId × Value → H} {W : World} {v0 : Value} {d0 : DataW H} {p0 : List MemPlace} (_hL : laidMetH Tryz.prog toolsEcho_lst W) (hval : Value.okWide Tryz.prog W .any 0 22 v0) (h0 : DataW.Trod encH Tryz.prog W 0 (fun _ => true) true 22 v0 d0 p0) (g : Bool) :
    Calls Tryz.prog 3 #[v0, .bool g] W fun e W' => e = .returned (.bool true) ∧ Stays W W' := by
  obtain ⟨cd, hb⟩ := toolsEcho_body
  rcases open_strslice toolsEcho_stU toolsEcho_stE toolsEcho_stC (okWide_slice toolsEcho_stU hval) h0 with rfl | ⟨A, c, rfl⟩ | ⟨b, off, cap, arr, ty, fz, l, rfl, h1, hle, hblk, hsz, hcs, hmx⟩
  · refine top_run_g (n := 100000) follows nameOK hkBok toolsEcho_fn hb (args := .cons .sn (.cons (.b g) .nil)) tblIn (nx := 10) (ρa := fun _ => none) (ob := [(9, .c .nil 0 false)]) (by omega) (fun _ _ h => by cases h) ?_ ⟨_, _, rfl, by simp [VR], _, _, rfl, VRb _ _, rfl⟩ ?_ (tabs W)
    · intro i hi
      exact none_ob (by omega) i hi
    · cases g
      · exact te_sf 0
      · exact te_st 0
  · refine top_run_g (n := 100000) follows nameOK hkBok toolsEcho_fn hb (args := .cons .se (.cons (.b g) .nil)) tblIn (nx := 10) (ρa := fun _ => none) (ob := [(9, .c .nil 0 false)]) (by omega) (fun _ _ h => by cases h) ?_ ⟨_, _, rfl, by simp [VR], _, _, rfl, VRb _ _, rfl⟩ ?_ (tabs W)
    · intro i hi
      exact none_ob (by omega) i hi
    · cases g
      · exact te_ef 0
      · exact te_et 0
  have hoff : off ≤ arr.size := by omega
  have hcs2 : arr.toList.drop off = l.map Value.string ++ (arr.toList.drop off).drop l.length := by rw [← hcs, List.take_append_drop]
  have go : ∀ (vals : List Nat) (x : V) (vs : List Value), (∃ rest, l.map Value.string = vs ++ rest) → VRs (strsR 9 b off arr.size vals) x vs → (∀ τ, teRun τ (.sl 9 0 l.length 1) (.b g) x ty (10 + vals.length) = true) → Calls Tryz.prog 3 #[.slice (some ⟨b, off, none⟩) l.length cap, .bool g] W fun e W' => e = .returned (.bool true) ∧ Stays W W' := fun vals x vs hvs hx hrun => by
    obtain ⟨rest, hr⟩ := hvs
    exact top_run_g follows nameOK hkBok toolsEcho_fn hb (args := .cons (.sl 9 0 l.length 1) (.cons (.b g) .nil)) tblIn (nx := 10 + vals.length) (by omega) strsR_in (strs_ob (by omega) hblk hoff (by rw [hcs2, hr, List.append_assoc]) hx) ⟨_, _, rfl, strs_V hle hsz, _, _, rfl, VRb _ _, rfl⟩ hrun (tabs W)
  by_cases hn : l.length ≤ 40
  · by_cases hall : ∀ s ∈ l, s.size ≤ 200
    · have hpiece : ∀ (r : List ByteArray) (ex : List Nat), (∀ s ∈ r, s ∈ l) → ∀ (rs : List Value) (z : V), VRs (strsR 9 b off arr.size (r.map (fun s => enc s.data.toList) ++ ex)) z rs → VRs (strsR 9 b off arr.size (r.map (fun s => enc s.data.toList) ++ ex)) (elsV 0 200 r.length 10 z) (r.map Value.string ++ rs) := fun r ex hr rs z hz =>
        VRs_els hz r 10 (fun s hs => ⟨Nat.zero_le _, hall s (hr s hs)⟩) fun j s hj => strsR_at (by
          have hjl := (List.getElem?_eq_some_iff.1 hj).1
          rw [List.getElem?_append_left (by simpa using hjl), List.getElem?_map, hj]
          rfl)
      cases g with
      | false =>
        by_cases h2 : 1 < l.length
        · have hz : VRs (strsR 9 b off arr.size (l.map (fun s => enc s.data.toList) ++ [])) .nil [] := by simp [VRs]
          refine go (l.map (fun s => enc s.data.toList) ++ []) _ _ ⟨[], by simp⟩ (hpiece l [] (fun _ h => h) [] .nil hz) fun τ => ?_
          rw [List.length_append, List.length_map]
          exact te_g l.length h2 hn ty τ
        · match l, h1, h2, hall, go with
          | [], h1, _, _, _ => exact absurd h1 (by simp)
          | _ :: _ :: _, _, h2, _, _ => exact absurd h2 (by simp)
          | [s], _, _, hall, go =>
            by_cases h0 : s.data.toList = []
            · exact go [] (.cons (.s []) .nil) [.string s] ⟨[], rfl⟩ (by simp only [VRs]; exact ⟨_, _, rfl, VR_sE h0, rfl⟩) (te_gz ty)
            · have h3 : 1 ≤ s.size := by
                rcases Nat.eq_zero_or_pos s.size with h | h
                · exact absurd (List.eq_nil_of_length_eq_zero h) h0
                · exact h
              exact go [enc s.data.toList] (.cons (elV 10 1 200) .nil) [.string s] ⟨[], rfl⟩ (by simp only [VRs]; exact ⟨_, _, rfl, VR_el ⟨h3, hall s (List.mem_cons_self ..)⟩ (strsR_at (j := 0) rfl), rfl⟩) (te_gp ty)
      | true =>
        match l, h1, hn, hall, go, hpiece with
        | [], h1, _, _, _, _ => exact absurd h1 (by simp)
        | s :: r, _, hn, hall, go, hpiece =>
          have hr : r.length < 40 := by simp only [List.length_cons] at hn; omega
          have key : ∀ (ex : List Nat) (z : V), VR (strsR 9 b off arr.size (r.map (fun s => enc s.data.toList) ++ ex)) z (.string s) → (∀ τ, teRun τ (.sl 9 0 (r.length + 1) 1) (.b true) (.cons z (elsV 0 200 r.length 10 .nil)) ty (10 + (r.length + ex.length)) = true) → Calls Tryz.prog 3 #[.slice (some ⟨b, off, none⟩) (s :: r).length cap, .bool true] W fun e W' => e = .returned (.bool true) ∧ Stays W W' := fun ex z hz hrun => by
            have hp := hpiece r ex (fun q hq => List.mem_cons_of_mem _ hq) [] .nil (by simp [VRs])
            refine go (r.map (fun s => enc s.data.toList) ++ ex) (.cons z (elsV 0 200 r.length 10 .nil)) (.string s :: (r.map Value.string ++ [])) ⟨[], by simp⟩ ?_ fun τ => ?_
            · simp only [VRs]
              exact ⟨_, _, rfl, hz, hp⟩
            · rw [List.length_append, List.length_map]
              exact hrun τ
          have hs := hall s (List.mem_cons_self ..)
          have at0 : ∀ ex j n, ex[j]? = some n → ∃ L, strsR 9 b off arr.size (r.map (fun s => enc s.data.toList) ++ ex) (10 + (r.length + j)) = some L ∧ L.base = n := fun ex j n hj => strsR_at (by rw [List.getElem?_append_right (by simp), List.length_map, Nat.add_sub_cancel_left]; exact hj)
          rcases first_shape s with h | h | ⟨c, d, he, h⟩ | h
          · exact key [] (.s []) (VR_sE h) (fun τ => te_z r.length hr ty τ)
          · exact key [enc s.data.toList] (elV (10 + r.length) 1 1) (VR_el (by omega) (at0 [enc s.data.toList] 0 _ rfl)) (fun τ => te_o r.length hr ty τ)
          · have hc := at0 [c.toNat, d.toNat] 0 _ rfl
            have hd := at0 [c.toNat, d.toNat] 1 _ rfl
            have b1 := UInt8.toNat_lt c
            have b2 := UInt8.toNat_lt d
            rcases h with h | h | ⟨h, h2⟩ | ⟨h, h2⟩ | ⟨h, h2⟩
            · exact key [c.toNat, d.toNat] _ (VR_w2 he (VR_x8 hc ⟨Nat.zero_le _, by omega⟩) (VR_x8 hd ⟨Nat.zero_le _, by omega⟩)) (fun τ => te_a r.length hr ty τ)
            · exact key [c.toNat, d.toNat] _ (VR_w2 he (VR_x8 hc ⟨by omega, by omega⟩) (VR_x8 hd ⟨Nat.zero_le _, by omega⟩)) (fun τ => te_b r.length hr ty τ)
            · exact key [c.toNat, d.toNat] _ (VR_w2 he (VR_i8 (by omega)) (VR_x8 hd ⟨Nat.zero_le _, by omega⟩)) (fun τ => te_c r.length hr ty τ)
            · exact key [c.toNat, d.toNat] _ (VR_w2 he (VR_i8 (by omega)) (VR_x8 hd ⟨by omega, by omega⟩)) (fun τ => te_d r.length hr ty τ)
            · exact key [] (.s [45, 110]) (VR_s2 he h h2) (fun τ => te_n r.length hr ty τ)
          · exact key [enc s.data.toList] (elV (10 + r.length) 3 200) (VR_el ⟨h, hs⟩ (at0 [enc s.data.toList] 0 _ rfl)) (fun τ => te_l r.length hr ty τ)
    · obtain ⟨k, s, hk, hs, hbef⟩ := first_long (B := 200) hall
      have hkl := (List.getElem?_eq_some_iff.1 hk).1
      have hlen : (l.take k).length = k := by rw [List.length_take]; omega
      have hsM := hmx s (List.mem_of_getElem? hk)
      have hz : VRs (strsR 9 b off arr.size ((l.take k).map (fun s => enc s.data.toList) ++ [enc s.data.toList])) (.cons (elV (10 + k) 201 9223372036854775807) .nil) [.string s] := by
        simp only [VRs]
        refine ⟨_, _, rfl, VR_el ⟨by omega, hsM⟩ (strsR_at (j := k) ?_), rfl⟩
        rw [List.getElem?_append_right (by rw [List.length_map, hlen]; exact Nat.le_refl _), List.length_map, hlen, Nat.sub_self]
        rfl
      have hx := VRs_els (lo := 0) (hi := 200) hz (l.take k) 10 (fun q hq => ⟨Nat.zero_le _, hbef q hq⟩) fun j q hj => strsR_at (by
        have hjl := (List.getElem?_eq_some_iff.1 hj).1
        rw [List.getElem?_append_left (by simpa using hjl), List.getElem?_map, hj]
        rfl)
      rw [hlen] at hx
      refine go _ _ _ ⟨(l.drop (k + 1)).map Value.string, ?_⟩ hx fun τ => ?_
      · rw [show l.map Value.string = (l.take k ++ s :: l.drop (k + 1)).map Value.string from congrArg _ (split_at hk)]
        simp
      · rw [List.length_append, List.length_map, hlen]
        exact allN_spec (te_x l.length h1 hn g ty τ) k hkl
  · obtain ⟨m, hm⟩ : ∃ m, l.length = m + 41 := ⟨l.length - 41, by omega⟩
    refine go [] .nil [] ⟨l.map Value.string, rfl⟩ (by simp [VRs]) fun τ => ?_
    rw [hm]
    exact te_many m g ty τ
theorem toolsEcho_lifted (os : Os) (started : os.Started) (H : Type) (enc : TypeId × Value → H) :
    ReturnsInHanded {} Tryz.checked os 3 .any (fun w args => (Rows.toolsEchoSpec.pre enc Tryz.prog Tryz.f3 Rows.toolsEchoRow.domain false w args ∧ laidMetH Tryz.prog toolsEcho_lst w) ∧ sizedMet enc Tryz.prog Tryz.f3 (OpenSpec.ofChange Rows.toolsEchoSpec) false w args)
      (Rows.toolsEchoSpec.post enc Tryz.prog Tryz.f3 false true false false) := by
  refine returnsInHanded_of_change_and (C := Tryz.checked) (X := fun w _ => laidMetH Tryz.prog toolsEcho_lst w) (fun _ _ _ hh h => h.of_heap hh) own started toolsEcho_noInit toolsEcho_fn
    (ChangeSpec.witness_shaped (enc := enc) (C := Tryz.checked) (os := os) (X := fun w _ => laidMetH Tryz.prog toolsEcho_lst w) false (World.laidAll Tryz.prog os toolsEcho_lst) #[.slice none 0 0, .bool false] 8 (World.laidAll_os _ _ _)
      (World.shaped_of_ZipB (toolsEcho_zip1 os) (toolsEcho_zip2 os)) (toolsEcho_okB os) (toolsEcho_preB os H enc) (toolsEcho_szB os H enc)
      (by rw [MakeChecks.laidMetH_plain _ _ _ toolsEcho_plain]; exact laidMet_laidAll _ (toolsEcho_fits os) (toolsEcho_ifaces os))) ?_
  intro W base args ds gs before hval0 hW _ _ hL _
  have hval : ∀ (j : Nat) t v, Tryz.f3.params[j]? = some t → args[j]? = some v → Value.okWide Tryz.prog W .any base t v := hval0
  have hW' := hW
  obtain ⟨p, q, hA0, hV, rfl, _, _⟩ := hW
  have hA : DataW.TrodAll enc Tryz.prog W 0 (fun _ => true) true Tryz.f3.params.toList args.toList ds p := hA0
  rw [toolsEcho_params] at hA hval
  obtain ⟨v0, v1, d0, d1, p0, p1, rfl, rfl, rfl, h0, h1⟩ := trodAll_two hA
  obtain ⟨rfl, rfl⟩ := trodVars_none hV
  obtain ⟨n1, rfl, rfl, rfl⟩ := open_bool toolsEcho_uBool (hval 1 4 v1 rfl rfl) h1
  refine (toolsEcho_calls hL (hval 0 22 v0 rfl rfl) h0 n1).mono fun e W' ⟨he, hs⟩ => ?_
  refine ⟨_, he, _, _, _, [], p0 ++ ([]), [], hW', ?_, ?_, ?_, hs.keptBut _, fun h => by cases h⟩
  · rw [toolsEcho_results]
    exact trodAll_mk1 (shut_bool toolsEcho_uBool true)
  · rw [toolsEcho_params]
    exact trodAll_mk2 (Below.trod laidOut_ok toolsEcho_stR toolsEcho_stT h0 hs.below (fun y hy => hW'.lt y (by simp [hy]))) (shut_bool toolsEcho_uBool n1)
  · rfl
theorem toolsEcho_named1 : Tryz.pinned.checked.prog.funcNamed Rows.toolsEchoRow.func = some 3 := by kernel_rfl
theorem toolsEcho_wrapper : Tryz.f3.isWrapper Tryz.pinned.checked.prog Rows.toolsEchoRow.wrapper Rows.toolsEchoRow.mainSum := by unfold Func.isWrapper; first | (rw [if_pos (by decide +kernel)]; kernel_rfl) | (rw [if_neg (by decide +kernel)]; exact ⟨rfl, rfl⟩)
theorem toolsEcho_inst : Tryz.f3.isInstance Tryz.pinned.checked.prog Rows.toolsEchoRow.origin Rows.toolsEchoRow.targs := of_decide_eq_true (by kernel_rfl)
theorem toolsEcho_holds : Rows.ToolsEchoSaid :=
  OpenClaim.holds_of_wide 3 Tryz.f3 rfl rfl rfl rfl rfl rfl rfl ⟨rfl, rfl, rfl, rfl, rfl⟩ rfl rfl rfl rfl rfl toolsEcho_named1 toolsEcho_fn toolsEcho_closed toolsEcho_inst toolsEcho_wrapper
    (fun os started H enc _ => toolsEcho_lifted os started H enc)
end
end Go.Proofs.YtkppbibiaiecnaaGreatDoor
