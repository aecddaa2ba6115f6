/-
  Numbers in texts: told, trimmed, cut, read and sorted by contracts. No condition.
-/
import Derived.Test.YtoflpofblogmcaaGreatDoorHk
import Derived.Test.YtoflpofblogmcaaGreatDoorXMxAY
import Derived.Test.YtoflpofblogmcaaGreatDoorXMxX
import Derived.Test.YtoflpofblogmcaaGreatDoorXMxAP
import Derived.Test.YtoflpofblogmcaaGreatDoorDgW
import Derived.Test.YtoflpofblogmcaaGreatDoorShW
import Derived.Test.YtoflpofblogmcaaGreatDoorSoW
import Derived.Shelf.Strings.SlTrimAscii
open Go Go.Mx Go.RowKit Go.Lib
namespace Go.Proofs.YtoflpofblogmcaaGreatDoor
set_option maxRecDepth 1000000
noncomputable section
def powL : List Int := [1, 10, 100, 1000, 10000, 100000, 1000000, 10000000, 100000000, 1000000000, 10000000000, 100000000000, 1000000000000, 10000000000000, 100000000000000, 1000000000000000, 10000000000000000, 100000000000000000, 1000000000000000000, 10000000000000000000]
theorem gPow : Tryz.prog.globalNamed "internal/strconv.uint64pow10" = some 1 := by kernel_rfl
theorem gPowT : (Tryz.prog.globals[1]?).map (·.type) = some 173 := by kernel_rfl
theorem uPow : Tryz.prog.underlying 173 = some (.array 20 114) := by kernel_rfl
theorem uU64 : Tryz.prog.underlying 114 = some (.int .u64) := by kernel_rfl
theorem cU64 : Tryz.prog.cellsOf 114 = 1 := by kernel_rfl
theorem cPow : Tryz.prog.cellsOf 173 = 20 := by kernel_rfl
theorem powAt {lst : List (String × DataW Unit)} (plain : (lst.all fun x => x.2.handleName?.isNone) = true) (powIn : ("internal/strconv.uint64pow10", DataW.agg (powL.map fun x => (DataW.lit (.int .u64 x) : DataW Unit))) ∈ lst) {W : World} (h : laidMetH Tryz.prog lst W) :
    ∃ arr ty, W.heap[1]? = some (.cells arr ty (0, 0)) ∧ arr.toList = powL.map fun x => Value.int .u64 x := by
  rw [MakeChecks.laidMetH_plain _ _ _ plain] at h
  obtain ⟨ps, h1, _, h3⟩ := h
  exact table_of_laidVars gPow gPowT uPow uU64 cU64 cPow (by decide) h1 powIn (fun b off hp => (h3 b off hp).1)
def R0 : CK := run Tryz.prog 8 (hkL hkB) 100000
theorem r0 : CKok Tryz.prog 8 R0 := run_sound follows nameOK hkBok 100000
theorem inBody : ∃ c, Tryz.f6.body = some c := ⟨_, rfl⟩
theorem itBody : ∃ c, Tryz.f61.body = some c := ⟨_, rfl⟩
theorem ixBody : ∃ c, Tryz.f20.body = some c := ⟨_, rfl⟩
theorem trBody : ∃ c, Tryz.f98.body = some c := ⟨_, rfl⟩
theorem cpBody : ∃ c, Tryz.f174.body = some c := ⟨_, rfl⟩
theorem adBody : ∃ c, Tryz.f160.body = some c := ⟨_, rfl⟩
theorem kyBody : ∃ c, Tryz.f73.body = some c := ⟨_, rfl⟩
theorem soBody : ∃ c, Tryz.f72.body = some c := ⟨_, rfl⟩
theorem stays_sameQ (w : World) : Stays w w := ⟨Nat.le_refl _, rfl, rfl, rfl, fun _ _ => rfl⟩
theorem stays_belowQ {w w' : World} (h : Below w.heap.size w w') : Stays w w' := ⟨h.size, h.os, h.tape, h.output, h.block⟩
theorem inOk : HookOk Tryz.prog 8 6 (hkDec (Int.negSucc 9223372036854775807)) := by
  obtain ⟨c, hb⟩ := inBody
  exact hkDec_ok nameOK (by decide) (fn := Tryz.f6) (by kernel_rfl) hb fun n w h1 h2 => (int_any n h1 h2 w).mono fun e w' h => ⟨h.1, by rw [h.2]; exact stays_sameQ w⟩
theorem itOk : HookOk Tryz.prog 8 61 (hkDecT 1 (Int.negSucc 9223372036854775807)) := by
  obtain ⟨c, hb⟩ := itBody
  exact hkDecT_ok nameOK (by decide) (fn := Tryz.f61) (by kernel_rfl) hb (by decide) gPow fun n w h1 h2 ht => (Tryz.strconv_Itoa n h1 h2 w ht).mono fun e w' h => ⟨h.1, by obtain ⟨k, os, h⟩ := h.2; rw [h]; exact stays_grow w k os⟩
theorem ixOk : HookOk Tryz.prog 8 20 (hkIx (hkRun R0 20)) := by
  obtain ⟨c, hb⟩ := ixBody
  exact hkIx_ok nameOK (fn := Tryz.f20) (by kernel_rfl) hb (hkRun_ok r0) fun s c w _ => (Tryz.strings_Index_one s c w).mono fun e w' h => ⟨h.1, by rw [h.2]; exact stays_sameQ w⟩
theorem trimS_none {l cs : List UInt8} (h : ∀ b ∈ l, cs.contains b = false) : Lib.trimS l cs = l := by
  have dw : ∀ m : List UInt8, (∀ b ∈ m, cs.contains b = false) → m.dropWhile (cs.contains ·) = m := fun m hm => by
    cases m with
    | nil => rfl
    | cons c r => rw [List.dropWhile_cons, hm c (List.mem_cons_self ..)]; rfl
  unfold Lib.trimS Lib.trimRightS Lib.trimLeftS
  rw [dw l.reverse (fun b hb => h b (List.mem_reverse.1 hb)), List.reverse_reverse, dw l h]
theorem noBlank {b : UInt8} (h : b.toNat = 45 ∨ (48 ≤ b.toNat ∧ b.toNat ≤ 57)) : ([32, 9, 10] : List UInt8).contains b = false := by
  have key : ∀ k : Fin 256, (k.val = 45 ∨ (48 ≤ k.val ∧ k.val ≤ 57)) → ([32, 9, 10] : List UInt8).contains (UInt8.ofNat k.val) = false := by decide
  have := key ⟨b.toNat, UInt8.toNat_lt b⟩ h
  rwa [show UInt8.ofNat b.toNat = b by simp] at this
theorem blAscii : ∀ (j : Nat) b, ({ data := #[32, 9, 10] } : ByteArray).data.toList[j]? = some b → b.toNat < 128 := ascii_of_all (by decide)
theorem h116q : (Tryz.prog.info? (Tryz.lays160_ren.t 116)).map (fun i => (i.zero, i.size)) = some (some (.agg (Array.replicate 256 (.bool false))), 256) := by kernel_rfl
theorem itoa_size (n : Int) : (⟨(Lib.itoa n).toArray⟩ : ByteArray).size = (Lib.itoa n).length := by simp [ByteArray.size]
theorem trOk : HookOk Tryz.prog 8 98 (hkTrimN [32, 9, 10] (hkRun R0 98)) := by
  obtain ⟨c, hb⟩ := trBody
  refine hkTrimN_ok nameOK (fn := Tryz.f98) (by kernel_rfl) hb (hkRun_ok r0) (ct := ⟨#[32, 9, 10]⟩) (fun ρ v hv => by simp only [VR] at hv; rw [hv.1]; rfl) fun n w h1 h2 => ?_
  have hl := Lib.itoa_length_le n h1 h2
  refine (Any.strings_Trim_laid Tryz.lays160 h116q ⟨(Lib.itoa n).toArray⟩ ⟨#[32, 9, 10]⟩ w (by rw [itoa_size]; omega) (by decide) blAscii).mono fun e w' h => ⟨h.1.trans ?_, stays_belowQ h.2⟩
  have e1 : Lib.trimS (Lib.itoa n) [32, 9, 10] = Lib.itoa n := trimS_none fun b hb => noBlank (itoa_mem n b hb)
  show Ending.returned (Value.string ⟨(Lib.trimS (Lib.itoa n).toArray.toList [32, 9, 10]).toArray⟩) = _
  rw [List.toList_toArray, e1]
theorem cpOk : HookOk Tryz.prog 8 174 (hkCutN (hkRun R0 174)) := by
  obtain ⟨c, hb⟩ := cpBody
  refine hkCutN_ok nameOK (fn := Tryz.f174) (by kernel_rfl) hb (hkRun_ok r0) fun n w _ _ => (Tryz.strings_CutPrefix ⟨(Lib.itoa n).toArray⟩ ⟨#[45]⟩ w).mono fun e w' h => ⟨h.1.trans ?_, by rw [h.2]; exact stays_sameQ w⟩
  have e1 : Lib.trimPrefix (Lib.itoa n) [45] = Lib.itoa (n.natAbs : Int) := by rw [trim_itoa, itoa_pos]
  have e2 : Lib.hasPrefix (Lib.itoa n) [45] = decide (n < 0) := by
    rcases itoa_cases n with ⟨u, h1, h2⟩ | ⟨u, h0, h1, h2⟩
    · rw [h2, decide_eq_false (by omega)]
      cases e3 : Lib.decDigits u with
      | nil => exact absurd e3 (dec_ne u)
      | cons c r =>
        have := dec_mem u c (by rw [e3]; exact List.mem_cons_self ..)
        have hc : ((45 : UInt8) == c) = false := beq_eq_false_iff_ne.2 fun h => by subst h; exact absurd this.1 (by decide)
        show ((45 : UInt8) == c && List.isPrefixOf [] r) = false
        rw [hc]
        rfl
    · rw [h2, decide_eq_true (by omega)]
      simp [Lib.hasPrefix]
  show Ending.returned (Value.tuple #[.string ⟨(Lib.trimPrefix (Lib.itoa n).toArray.toList [45]).toArray⟩, .bool (Lib.hasPrefix (Lib.itoa n).toArray.toList [45])]) = _
  rw [List.toList_toArray, e1, e2]
theorem keys_nd : ([[120], [121]].map fun l => Value.string (bs l)).Nodup := by
  have h : bs [120] ≠ bs [121] := fun h => absurd (congrArg (fun b : ByteArray => b.data.toList) h) (by decide)
  refine List.nodup_cons.2 ⟨fun hm => ?_, List.nodup_cons.2 ⟨List.not_mem_nil, List.nodup_nil⟩⟩
  exact h (Value.string.inj (List.mem_singleton.1 hm))
theorem kyOk : HookOk Tryz.prog 8 73 (hkKeys 95 24 (hkRun R0 73)) := by
  obtain ⟨c, hb⟩ := kyBody
  exact hkKeys_ok nameOK (fn := Tryz.f73) (by kernel_rfl) hb (hkRun_ok r0) keys_said
theorem soOk : HookOk Tryz.prog 8 72 (hkSorted 95 9 [[120], [121]] [[120], [121]] (hkRun R0 72)) := by
  obtain ⟨c, hb⟩ := soBody
  exact hkSorted_ok nameOK (fn := Tryz.f72) (by kernel_rfl) hb (hkRun_ok r0) keys_nd (by decide) sort_said
theorem dgr1 : numR R0 160 8 1 false .nil (.b true) = true := by kernel_rfl
theorem dgr2 : numR R0 160 8 2 false .nil (.b true) = true := by kernel_rfl
theorem dgr3 : numR R0 160 8 3 false .nil (.b true) = true := by kernel_rfl
theorem dgr4 : numR R0 160 8 4 false .nil (.b true) = true := by kernel_rfl
theorem dgr5 : numR R0 160 8 5 false .nil (.b true) = true := by kernel_rfl
theorem dgr6 : numR R0 160 8 6 false .nil (.b true) = true := by kernel_rfl
theorem dgr7 : numR R0 160 8 7 false .nil (.b true) = true := by kernel_rfl
theorem dgr8 : numR R0 160 8 8 false .nil (.b true) = true := by kernel_rfl
theorem dgr9 : numR R0 160 8 9 false .nil (.b true) = true := by kernel_rfl
theorem dgr10 : numR R0 160 8 10 false .nil (.b true) = true := by kernel_rfl
theorem dgr11 : numR R0 160 8 11 false .nil (.b true) = true := by kernel_rfl
theorem dgr12 : numR R0 160 8 12 false .nil (.b true) = true := by kernel_rfl
theorem dgr13 : numR R0 160 8 13 false .nil (.b true) = true := by kernel_rfl
theorem dgr14 : numR R0 160 8 14 false .nil (.b true) = true := by kernel_rfl
theorem dgr15 : numR R0 160 8 15 false .nil (.b true) = true := by kernel_rfl
theorem dgr16 : numR R0 160 8 16 false .nil (.b true) = true := by kernel_rfl
theorem dgr17 : numR R0 160 8 17 false .nil (.b true) = true := by kernel_rfl
theorem dgr18 : numR R0 160 8 18 false .nil (.b true) = true := by kernel_rfl
theorem dgr19 : numR R0 160 8 19 false .nil (.b true) = true := by kernel_rfl
theorem dgr : ∀ d neg, neg = false → 1 ≤ d → d ≤ 19 → numR R0 160 8 d neg .nil (.b true) = true
  | 0, _, _, h, _ => absurd h (by omega)
  | 1, _, rfl, _, _ => dgr1
  | 2, _, rfl, _, _ => dgr2
  | 3, _, rfl, _, _ => dgr3
  | 4, _, rfl, _, _ => dgr4
  | 5, _, rfl, _, _ => dgr5
  | 6, _, rfl, _, _ => dgr6
  | 7, _, rfl, _, _ => dgr7
  | 8, _, rfl, _, _ => dgr8
  | 9, _, rfl, _, _ => dgr9
  | 10, _, rfl, _, _ => dgr10
  | 11, _, rfl, _, _ => dgr11
  | 12, _, rfl, _, _ => dgr12
  | 13, _, rfl, _, _ => dgr13
  | 14, _, rfl, _, _ => dgr14
  | 15, _, rfl, _, _ => dgr15
  | 16, _, rfl, _, _ => dgr16
  | 17, _, rfl, _, _ => dgr17
  | 18, _, rfl, _, _ => dgr18
  | 19, _, rfl, _, _ => dgr19
  | n + 20, _, _, _, h => absurd h (by omega)
theorem adOk : HookOk Tryz.prog 8 160 (hkNumZ (Int.ofNat 0) .nil (.b true) (hkRun R0 160)) := by
  obtain ⟨c, hb⟩ := adBody
  exact hkNumZ_ok nameOK (fn := Tryz.f160) (by kernel_rfl) hb (hkRun_ok r0) (exv := []) (zv := .bool true) (fun ρ vs h => by simpa only [VRs] using h) (fun ρ => by simp only [VR]) fun n w h1 h2 => by
    have h1 : (0 : Int) ≤ n := h1
    exact num_family nameOK r0 (fn := Tryz.f160) (by kernel_rfl) hb (exv := []) (zv := .bool true) (fun ρ => by simp only [VRs]) (fun ρ v h => by simpa only [VR] using h) (q := fun x => x = false) dgr n (decide_eq_false (by omega)) (by omega) h2 w
theorem una1 (τ : Nat → Nat) : unR R0 106 8 1 0 false (some 32) 101 [] τ = true := by kernel_rfl
theorem una2 (τ : Nat → Nat) : unR R0 106 8 2 0 false (some 32) 101 [] τ = true := by kernel_rfl
theorem una3 (τ : Nat → Nat) : unR R0 106 8 3 0 false (some 32) 101 [] τ = true := by kernel_rfl
theorem una4 (τ : Nat → Nat) : unR R0 106 8 4 0 false (some 32) 101 [] τ = true := by kernel_rfl
theorem una5 (τ : Nat → Nat) : unR R0 106 8 5 0 false (some 32) 101 [] τ = true := by kernel_rfl
theorem una6 (τ : Nat → Nat) : unR R0 106 8 6 0 false (some 32) 101 [] τ = true := by kernel_rfl
theorem una7 (τ : Nat → Nat) : unR R0 106 8 7 0 false (some 32) 101 [] τ = true := by kernel_rfl
theorem una8 (τ : Nat → Nat) : unR R0 106 8 8 0 false (some 32) 101 [] τ = true := by kernel_rfl
theorem una9 (τ : Nat → Nat) : unR R0 106 8 9 0 false (some 32) 101 [] τ = true := by kernel_rfl
theorem una10 (τ : Nat → Nat) : unR R0 106 8 10 0 false (some 32) 101 [] τ = true := by kernel_rfl
theorem una11 (τ : Nat → Nat) : unR R0 106 8 11 0 false (some 32) 101 [] τ = true := by kernel_rfl
theorem una12 (τ : Nat → Nat) : unR R0 106 8 12 0 false (some 32) 101 [] τ = true := by kernel_rfl
theorem una13 (τ : Nat → Nat) : unR R0 106 8 13 0 false (some 32) 101 [] τ = true := by kernel_rfl
theorem una14 (τ : Nat → Nat) : unR R0 106 8 14 0 false (some 32) 101 [] τ = true := by kernel_rfl
theorem una15 (τ : Nat → Nat) : unR R0 106 8 15 0 false (some 32) 101 [] τ = true := by kernel_rfl
theorem una16 (τ : Nat → Nat) : unR R0 106 8 16 0 false (some 32) 101 [] τ = true := by kernel_rfl
theorem una17 (τ : Nat → Nat) : unR R0 106 8 17 0 false (some 32) 101 [] τ = true := by kernel_rfl
theorem una18 (τ : Nat → Nat) : unR R0 106 8 18 0 false (some 32) 101 [] τ = true := by kernel_rfl
theorem una19 (τ : Nat → Nat) : unR R0 106 8 19 0 false (some 32) 101 [] τ = true := by kernel_rfl
theorem una : ∀ n, 1 ≤ n → n ≤ 19 → ∀ τ : Nat → Nat, unR R0 106 8 n 0 false (some 32) 101 [] τ = true
  | 0, h, _ => absurd h (by omega)
  | 1, _, _ => una1
  | 2, _, _ => una2
  | 3, _, _ => una3
  | 4, _, _ => una4
  | 5, _, _ => una5
  | 6, _, _ => una6
  | 7, _, _ => una7
  | 8, _, _ => una8
  | 9, _, _ => una9
  | 10, _, _ => una10
  | 11, _, _ => una11
  | 12, _, _ => una12
  | 13, _, _ => una13
  | 14, _, _ => una14
  | 15, _, _ => una15
  | 16, _, _ => una16
  | 17, _, _ => una17
  | 18, _, _ => una18
  | 19, _, _ => una19
  | n + 20, _, h => absurd h (by omega)
theorem unb1 (τ : Nat → Nat) : unR R0 106 8 1 0 true (some 32) 101 [] τ = true := by kernel_rfl
theorem unb2 (τ : Nat → Nat) : unR R0 106 8 2 0 true (some 32) 101 [] τ = true := by kernel_rfl
theorem unb3 (τ : Nat → Nat) : unR R0 106 8 3 0 true (some 32) 101 [] τ = true := by kernel_rfl
theorem unb4 (τ : Nat → Nat) : unR R0 106 8 4 0 true (some 32) 101 [] τ = true := by kernel_rfl
theorem unb5 (τ : Nat → Nat) : unR R0 106 8 5 0 true (some 32) 101 [] τ = true := by kernel_rfl
theorem unb6 (τ : Nat → Nat) : unR R0 106 8 6 0 true (some 32) 101 [] τ = true := by kernel_rfl
theorem unb7 (τ : Nat → Nat) : unR R0 106 8 7 0 true (some 32) 101 [] τ = true := by kernel_rfl
theorem unb8 (τ : Nat → Nat) : unR R0 106 8 8 0 true (some 32) 101 [] τ = true := by kernel_rfl
theorem unb9 (τ : Nat → Nat) : unR R0 106 8 9 0 true (some 32) 101 [] τ = true := by kernel_rfl
theorem unb10 (τ : Nat → Nat) : unR R0 106 8 10 0 true (some 32) 101 [] τ = true := by kernel_rfl
theorem unb11 (τ : Nat → Nat) : unR R0 106 8 11 0 true (some 32) 101 [] τ = true := by kernel_rfl
theorem unb12 (τ : Nat → Nat) : unR R0 106 8 12 0 true (some 32) 101 [] τ = true := by kernel_rfl
theorem unb13 (τ : Nat → Nat) : unR R0 106 8 13 0 true (some 32) 101 [] τ = true := by kernel_rfl
theorem unb14 (τ : Nat → Nat) : unR R0 106 8 14 0 true (some 32) 101 [] τ = true := by kernel_rfl
theorem unb15 (τ : Nat → Nat) : unR R0 106 8 15 0 true (some 32) 101 [] τ = true := by kernel_rfl
theorem unb16 (τ : Nat → Nat) : unR R0 106 8 16 0 true (some 32) 101 [] τ = true := by kernel_rfl
theorem unb17 (τ : Nat → Nat) : unR R0 106 8 17 0 true (some 32) 101 [] τ = true := by kernel_rfl
theorem unb18 (τ : Nat → Nat) : unR R0 106 8 18 0 true (some 32) 101 [] τ = true := by kernel_rfl
theorem unb19 (τ : Nat → Nat) : unR R0 106 8 19 0 true (some 32) 101 [] τ = true := by kernel_rfl
theorem unb : ∀ n, 1 ≤ n → n ≤ 19 → ∀ τ : Nat → Nat, unR R0 106 8 n 0 true (some 32) 101 [] τ = true
  | 0, h, _ => absurd h (by omega)
  | 1, _, _ => unb1
  | 2, _, _ => unb2
  | 3, _, _ => unb3
  | 4, _, _ => unb4
  | 5, _, _ => unb5
  | 6, _, _ => unb6
  | 7, _, _ => unb7
  | 8, _, _ => unb8
  | 9, _, _ => unb9
  | 10, _, _ => unb10
  | 11, _, _ => unb11
  | 12, _, _ => unb12
  | 13, _, _ => unb13
  | 14, _, _ => unb14
  | 15, _, _ => unb15
  | 16, _, _ => unb16
  | 17, _, _ => unb17
  | 18, _, _ => unb18
  | 19, _, _ => unb19
  | n + 20, _, h => absurd h (by omega)
theorem unc1 (τ : Nat → Nat) : unR R0 106 8 1 1 false (some 41) 101 [] τ = true := by kernel_rfl
theorem unc2 (τ : Nat → Nat) : unR R0 106 8 2 1 false (some 41) 101 [] τ = true := by kernel_rfl
theorem unc3 (τ : Nat → Nat) : unR R0 106 8 3 1 false (some 41) 101 [] τ = true := by kernel_rfl
theorem unc4 (τ : Nat → Nat) : unR R0 106 8 4 1 false (some 41) 101 [] τ = true := by kernel_rfl
theorem unc5 (τ : Nat → Nat) : unR R0 106 8 5 1 false (some 41) 101 [] τ = true := by kernel_rfl
theorem unc6 (τ : Nat → Nat) : unR R0 106 8 6 1 false (some 41) 101 [] τ = true := by kernel_rfl
theorem unc7 (τ : Nat → Nat) : unR R0 106 8 7 1 false (some 41) 101 [] τ = true := by kernel_rfl
theorem unc8 (τ : Nat → Nat) : unR R0 106 8 8 1 false (some 41) 101 [] τ = true := by kernel_rfl
theorem unc9 (τ : Nat → Nat) : unR R0 106 8 9 1 false (some 41) 101 [] τ = true := by kernel_rfl
theorem unc10 (τ : Nat → Nat) : unR R0 106 8 10 1 false (some 41) 101 [] τ = true := by kernel_rfl
theorem unc11 (τ : Nat → Nat) : unR R0 106 8 11 1 false (some 41) 101 [] τ = true := by kernel_rfl
theorem unc12 (τ : Nat → Nat) : unR R0 106 8 12 1 false (some 41) 101 [] τ = true := by kernel_rfl
theorem unc13 (τ : Nat → Nat) : unR R0 106 8 13 1 false (some 41) 101 [] τ = true := by kernel_rfl
theorem unc14 (τ : Nat → Nat) : unR R0 106 8 14 1 false (some 41) 101 [] τ = true := by kernel_rfl
theorem unc15 (τ : Nat → Nat) : unR R0 106 8 15 1 false (some 41) 101 [] τ = true := by kernel_rfl
theorem unc16 (τ : Nat → Nat) : unR R0 106 8 16 1 false (some 41) 101 [] τ = true := by kernel_rfl
theorem unc17 (τ : Nat → Nat) : unR R0 106 8 17 1 false (some 41) 101 [] τ = true := by kernel_rfl
theorem unc18 (τ : Nat → Nat) : unR R0 106 8 18 1 false (some 41) 101 [] τ = true := by kernel_rfl
theorem unc19 (τ : Nat → Nat) : unR R0 106 8 19 1 false (some 41) 101 [] τ = true := by kernel_rfl
theorem unc : ∀ n, 1 ≤ n → n ≤ 19 → ∀ τ : Nat → Nat, unR R0 106 8 n 1 false (some 41) 101 [] τ = true
  | 0, h, _ => absurd h (by omega)
  | 1, _, _ => unc1
  | 2, _, _ => unc2
  | 3, _, _ => unc3
  | 4, _, _ => unc4
  | 5, _, _ => unc5
  | 6, _, _ => unc6
  | 7, _, _ => unc7
  | 8, _, _ => unc8
  | 9, _, _ => unc9
  | 10, _, _ => unc10
  | 11, _, _ => unc11
  | 12, _, _ => unc12
  | 13, _, _ => unc13
  | 14, _, _ => unc14
  | 15, _, _ => unc15
  | 16, _, _ => unc16
  | 17, _, _ => unc17
  | 18, _, _ => unc18
  | 19, _, _ => unc19
  | n + 20, _, h => absurd h (by omega)
theorem und1 (τ : Nat → Nat) : unR R0 106 8 1 1 true (some 41) 101 [] τ = true := by kernel_rfl
theorem und2 (τ : Nat → Nat) : unR R0 106 8 2 1 true (some 41) 101 [] τ = true := by kernel_rfl
theorem und3 (τ : Nat → Nat) : unR R0 106 8 3 1 true (some 41) 101 [] τ = true := by kernel_rfl
theorem und4 (τ : Nat → Nat) : unR R0 106 8 4 1 true (some 41) 101 [] τ = true := by kernel_rfl
theorem und5 (τ : Nat → Nat) : unR R0 106 8 5 1 true (some 41) 101 [] τ = true := by kernel_rfl
theorem und6 (τ : Nat → Nat) : unR R0 106 8 6 1 true (some 41) 101 [] τ = true := by kernel_rfl
theorem und7 (τ : Nat → Nat) : unR R0 106 8 7 1 true (some 41) 101 [] τ = true := by kernel_rfl
theorem und8 (τ : Nat → Nat) : unR R0 106 8 8 1 true (some 41) 101 [] τ = true := by kernel_rfl
theorem und9 (τ : Nat → Nat) : unR R0 106 8 9 1 true (some 41) 101 [] τ = true := by kernel_rfl
theorem und10 (τ : Nat → Nat) : unR R0 106 8 10 1 true (some 41) 101 [] τ = true := by kernel_rfl
theorem und11 (τ : Nat → Nat) : unR R0 106 8 11 1 true (some 41) 101 [] τ = true := by kernel_rfl
theorem und12 (τ : Nat → Nat) : unR R0 106 8 12 1 true (some 41) 101 [] τ = true := by kernel_rfl
theorem und13 (τ : Nat → Nat) : unR R0 106 8 13 1 true (some 41) 101 [] τ = true := by kernel_rfl
theorem und14 (τ : Nat → Nat) : unR R0 106 8 14 1 true (some 41) 101 [] τ = true := by kernel_rfl
theorem und15 (τ : Nat → Nat) : unR R0 106 8 15 1 true (some 41) 101 [] τ = true := by kernel_rfl
theorem und16 (τ : Nat → Nat) : unR R0 106 8 16 1 true (some 41) 101 [] τ = true := by kernel_rfl
theorem und17 (τ : Nat → Nat) : unR R0 106 8 17 1 true (some 41) 101 [] τ = true := by kernel_rfl
theorem und18 (τ : Nat → Nat) : unR R0 106 8 18 1 true (some 41) 101 [] τ = true := by kernel_rfl
theorem und19 (τ : Nat → Nat) : unR R0 106 8 19 1 true (some 41) 101 [] τ = true := by kernel_rfl
theorem und : ∀ n, 1 ≤ n → n ≤ 19 → ∀ τ : Nat → Nat, unR R0 106 8 n 1 true (some 41) 101 [] τ = true
  | 0, h, _ => absurd h (by omega)
  | 1, _, _ => und1
  | 2, _, _ => und2
  | 3, _, _ => und3
  | 4, _, _ => und4
  | 5, _, _ => und5
  | 6, _, _ => und6
  | 7, _, _ => und7
  | 8, _, _ => und8
  | 9, _, _ => und9
  | 10, _, _ => und10
  | 11, _, _ => und11
  | 12, _, _ => und12
  | 13, _, _ => und13
  | 14, _, _ => und14
  | 15, _, _ => und15
  | 16, _, _ => und16
  | 17, _, _ => und17
  | 18, _, _ => und18
  | 19, _, _ => und19
  | n + 20, _, h => absurd h (by omega)
def hkU (R : CK) : HookF := hkUn [] 8 0 101 false (some 32) (hkUn [] 8 0 101 true (some 32) (hkUn [] 8 1 101 false (some 41) (hkUn [] 8 1 101 true (some 41) (hkRun R 106))))
theorem hkUok {R : CK} (h : CKok Tryz.prog 8 R) : HookOk Tryz.prog 8 106 (hkU R) := hkUn_ok r0 (hkUn_ok r0 (hkUn_ok r0 (hkUn_ok r0 (hkRun_ok h) rfl und) rfl unc) rfl unb) rfl una
def hkA : List (Nat × HookF) := (6, hkDec (Int.negSucc 9223372036854775807)) :: (61, hkDecT 1 (Int.negSucc 9223372036854775807)) :: (20, hkIx (hkRun R0 20)) :: (98, hkTrimN [32, 9, 10] (hkRun R0 98)) :: (174, hkCutN (hkRun R0 174)) :: (160, hkNumZ (Int.ofNat 0) .nil (.b true) (hkRun R0 160)) :: (73, hkKeys 95 24 (hkRun R0 73)) :: (72, hkSorted 95 9 [[120], [121]] [[120], [121]] (hkRun R0 72)) :: hkB
theorem hkAok : HKok Tryz.prog 8 (hkL hkA) := hkL_cons inOk (hkL_cons itOk (hkL_cons ixOk (hkL_cons trOk (hkL_cons cpOk (hkL_cons adOk (hkL_cons kyOk (hkL_cons soOk hkBok)))))))
def RC : CK := run Tryz.prog 8 (hkL hkA) 100000
theorem rc : CKok Tryz.prog 8 RC := run_sound follows nameOK hkAok 100000
def RC1 : CK := callX Tryz.prog (hkL hkA) (exec Tryz.prog 8 (hkL ((106, hkU RC) :: hkA)) 100000)
theorem rc1 : CKok Tryz.prog 8 RC1 := call_step nameOK hkAok (exec_sound follows nameOK (hkL_cons (hkUok rc) hkAok) 100000)
def hkC : List (Nat × HookF) := (106, hkU RC1) :: hkA
theorem hkCok : HKok Tryz.prog 8 (hkL hkC) := hkL_cons (hkUok rc1) hkAok
end
end Go.Proofs.YtoflpofblogmcaaGreatDoor
