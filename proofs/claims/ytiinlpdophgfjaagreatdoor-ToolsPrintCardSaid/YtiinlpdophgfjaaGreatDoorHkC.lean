/-
  Numbers in texts by contracts, and what printf tells. No condition.
-/
import Derived.Test.YtiinlpdophgfjaaGreatDoorHk
import Derived.Test.YtiinlpdophgfjaaGreatDoorXMxBA
import Derived.Test.YtiinlpdophgfjaaGreatDoorXMxAW
import Derived.Test.YtiinlpdophgfjaaGreatDoorXMxX
import Derived.Test.YtiinlpdophgfjaaGreatDoorXMxAP
import Derived.Test.YtiinlpdophgfjaaGreatDoorDgW
import Derived.Test.YtiinlpdophgfjaaGreatDoorShW
import Derived.Test.YtiinlpdophgfjaaGreatDoorPrW
open Go Go.Mx Go.RowKit Go.Lib
namespace Go.Proofs.YtiinlpdophgfjaaGreatDoor
set_option maxRecDepth 1000000
noncomputable section
def powL : List Int := [1, 10, 100, 1000, 10000, 100000, 1000000, 10000000, 100000000, 1000000000, 10000000000, 100000000000, 1000000000000, 10000000000000, 100000000000000, 1000000000000000, 10000000000000000, 100000000000000000, 1000000000000000000, 10000000000000000000]
theorem gPow : Tryz.prog.globalNamed "internal/strconv.uint64pow10" = some 4 := by kernel_rfl
theorem gPowT : (Tryz.prog.globals[4]?).map (·.type) = some 183 := by kernel_rfl
theorem uPow : Tryz.prog.underlying 183 = some (.array 20 68) := by kernel_rfl
theorem uU64 : Tryz.prog.underlying 68 = some (.int .u64) := by kernel_rfl
theorem cU64 : Tryz.prog.cellsOf 68 = 1 := by kernel_rfl
theorem cPow : Tryz.prog.cellsOf 183 = 20 := by kernel_rfl
theorem powAt {lst : List (String × DataW Unit)} (plain : (lst.all fun x => x.2.handleName?.isNone) = true) (powIn : ("internal/strconv.uint64pow10", DataW.agg (powL.map fun x => (DataW.lit (.int .u64 x) : DataW Unit))) ∈ lst) {W : World} (h : laidMetH Tryz.prog lst W) :
    ∃ arr ty, W.heap[4]? = some (.cells arr ty (0, 0)) ∧ arr.toList = powL.map fun x => Value.int .u64 x := by
  rw [MakeChecks.laidMetH_plain _ _ _ plain] at h
  obtain ⟨ps, h1, _, h3⟩ := h
  exact table_of_laidVars gPow gPowT uPow uU64 cU64 cPow (by decide) h1 powIn (fun b off hp => (h3 b off hp).1)
def R0 : CK := run Tryz.prog 9 (hkL hkB) 100000
theorem r0 : CKok Tryz.prog 9 R0 := run_sound follows nameOK hkBok 100000
theorem inBody : ∃ c, Tryz.f5.body = some c := ⟨_, rfl⟩
theorem evBody : ∃ c, Tryz.f60.body = some c := ⟨_, rfl⟩
theorem pfBody : ∃ c, Tryz.f15.body = some c := ⟨_, rfl⟩
theorem stays_sameP (w : World) : Stays w w := ⟨Nat.le_refl _, rfl, rfl, rfl, fun _ _ => rfl⟩
theorem below_staysP {w w' : World} (h : Stays w w') : Below w.heap.size w w' := ⟨h.os, h.tape, h.output, h.size, h.heap⟩
theorem evp1 : numR R0 60 9 1 false (.cons .sn .nil) (.i .i64 (Int.ofNat 0)) = true := by kernel_rfl
theorem evp2 : numR R0 60 9 2 false (.cons .sn .nil) (.i .i64 (Int.ofNat 0)) = true := by kernel_rfl
theorem evp3 : numR R0 60 9 3 false (.cons .sn .nil) (.i .i64 (Int.ofNat 0)) = true := by kernel_rfl
theorem evp4 : numR R0 60 9 4 false (.cons .sn .nil) (.i .i64 (Int.ofNat 0)) = true := by kernel_rfl
theorem evp5 : numR R0 60 9 5 false (.cons .sn .nil) (.i .i64 (Int.ofNat 0)) = true := by kernel_rfl
theorem evp6 : numR R0 60 9 6 false (.cons .sn .nil) (.i .i64 (Int.ofNat 0)) = true := by kernel_rfl
theorem evp7 : numR R0 60 9 7 false (.cons .sn .nil) (.i .i64 (Int.ofNat 0)) = true := by kernel_rfl
theorem evp8 : numR R0 60 9 8 false (.cons .sn .nil) (.i .i64 (Int.ofNat 0)) = true := by kernel_rfl
theorem evp9 : numR R0 60 9 9 false (.cons .sn .nil) (.i .i64 (Int.ofNat 0)) = true := by kernel_rfl
theorem evp10 : numR R0 60 9 10 false (.cons .sn .nil) (.i .i64 (Int.ofNat 0)) = true := by kernel_rfl
theorem evp11 : numR R0 60 9 11 false (.cons .sn .nil) (.i .i64 (Int.ofNat 0)) = true := by kernel_rfl
theorem evp12 : numR R0 60 9 12 false (.cons .sn .nil) (.i .i64 (Int.ofNat 0)) = true := by kernel_rfl
theorem evp13 : numR R0 60 9 13 false (.cons .sn .nil) (.i .i64 (Int.ofNat 0)) = true := by kernel_rfl
theorem evp14 : numR R0 60 9 14 false (.cons .sn .nil) (.i .i64 (Int.ofNat 0)) = true := by kernel_rfl
theorem evp15 : numR R0 60 9 15 false (.cons .sn .nil) (.i .i64 (Int.ofNat 0)) = true := by kernel_rfl
theorem evp16 : numR R0 60 9 16 false (.cons .sn .nil) (.i .i64 (Int.ofNat 0)) = true := by kernel_rfl
theorem evp17 : numR R0 60 9 17 false (.cons .sn .nil) (.i .i64 (Int.ofNat 0)) = true := by kernel_rfl
theorem evp18 : numR R0 60 9 18 false (.cons .sn .nil) (.i .i64 (Int.ofNat 0)) = true := by kernel_rfl
theorem evp19 : numR R0 60 9 19 false (.cons .sn .nil) (.i .i64 (Int.ofNat 0)) = true := by kernel_rfl
theorem evm1 : numR R0 60 9 1 true (.cons .sn .nil) (.i .i64 (Int.ofNat 0)) = true := by kernel_rfl
theorem evm2 : numR R0 60 9 2 true (.cons .sn .nil) (.i .i64 (Int.ofNat 0)) = true := by kernel_rfl
theorem evm3 : numR R0 60 9 3 true (.cons .sn .nil) (.i .i64 (Int.ofNat 0)) = true := by kernel_rfl
theorem evm4 : numR R0 60 9 4 true (.cons .sn .nil) (.i .i64 (Int.ofNat 0)) = true := by kernel_rfl
theorem evm5 : numR R0 60 9 5 true (.cons .sn .nil) (.i .i64 (Int.ofNat 0)) = true := by kernel_rfl
theorem evm6 : numR R0 60 9 6 true (.cons .sn .nil) (.i .i64 (Int.ofNat 0)) = true := by kernel_rfl
theorem evm7 : numR R0 60 9 7 true (.cons .sn .nil) (.i .i64 (Int.ofNat 0)) = true := by kernel_rfl
theorem evm8 : numR R0 60 9 8 true (.cons .sn .nil) (.i .i64 (Int.ofNat 0)) = true := by kernel_rfl
theorem evm9 : numR R0 60 9 9 true (.cons .sn .nil) (.i .i64 (Int.ofNat 0)) = true := by kernel_rfl
theorem evm10 : numR R0 60 9 10 true (.cons .sn .nil) (.i .i64 (Int.ofNat 0)) = true := by kernel_rfl
theorem evm11 : numR R0 60 9 11 true (.cons .sn .nil) (.i .i64 (Int.ofNat 0)) = true := by kernel_rfl
theorem evm12 : numR R0 60 9 12 true (.cons .sn .nil) (.i .i64 (Int.ofNat 0)) = true := by kernel_rfl
theorem evm13 : numR R0 60 9 13 true (.cons .sn .nil) (.i .i64 (Int.ofNat 0)) = true := by kernel_rfl
theorem evm14 : numR R0 60 9 14 true (.cons .sn .nil) (.i .i64 (Int.ofNat 0)) = true := by kernel_rfl
theorem evm15 : numR R0 60 9 15 true (.cons .sn .nil) (.i .i64 (Int.ofNat 0)) = true := by kernel_rfl
theorem evm16 : numR R0 60 9 16 true (.cons .sn .nil) (.i .i64 (Int.ofNat 0)) = true := by kernel_rfl
theorem evm17 : numR R0 60 9 17 true (.cons .sn .nil) (.i .i64 (Int.ofNat 0)) = true := by kernel_rfl
theorem evm18 : numR R0 60 9 18 true (.cons .sn .nil) (.i .i64 (Int.ofNat 0)) = true := by kernel_rfl
theorem evm19 : numR R0 60 9 19 true (.cons .sn .nil) (.i .i64 (Int.ofNat 0)) = true := by kernel_rfl
theorem evr : ∀ d neg, (fun _ : Bool => True) neg → 1 ≤ d → d ≤ 19 → numR R0 60 9 d neg (.cons .sn .nil) (.i .i64 (Int.ofNat 0)) = true
  | 0, _, _, h, _ => absurd h (by omega)
  | 1, false, _, _, _ => evp1
  | 1, true, _, _, _ => evm1
  | 2, false, _, _, _ => evp2
  | 2, true, _, _, _ => evm2
  | 3, false, _, _, _ => evp3
  | 3, true, _, _, _ => evm3
  | 4, false, _, _, _ => evp4
  | 4, true, _, _, _ => evm4
  | 5, false, _, _, _ => evp5
  | 5, true, _, _, _ => evm5
  | 6, false, _, _, _ => evp6
  | 6, true, _, _, _ => evm6
  | 7, false, _, _, _ => evp7
  | 7, true, _, _, _ => evm7
  | 8, false, _, _, _ => evp8
  | 8, true, _, _, _ => evm8
  | 9, false, _, _, _ => evp9
  | 9, true, _, _, _ => evm9
  | 10, false, _, _, _ => evp10
  | 10, true, _, _, _ => evm10
  | 11, false, _, _, _ => evp11
  | 11, true, _, _, _ => evm11
  | 12, false, _, _, _ => evp12
  | 12, true, _, _, _ => evm12
  | 13, false, _, _, _ => evp13
  | 13, true, _, _, _ => evm13
  | 14, false, _, _, _ => evp14
  | 14, true, _, _, _ => evm14
  | 15, false, _, _, _ => evp15
  | 15, true, _, _, _ => evm15
  | 16, false, _, _, _ => evp16
  | 16, true, _, _, _ => evm16
  | 17, false, _, _, _ => evp17
  | 17, true, _, _, _ => evm17
  | 18, false, _, _, _ => evp18
  | 18, true, _, _, _ => evm18
  | 19, false, _, _, _ => evp19
  | 19, true, _, _, _ => evm19
  | n + 20, _, _, _, h => absurd h (by omega)
theorem evSaid (k : Int) (h1 : -9223372036854775808 ≤ k) (h2 : k ≤ 9223372036854775807) (w : World) : Calls Tryz.prog 60 #[.string ⟨(Lib.itoa k).toArray⟩, .slice none 0 0] w fun e w' => e = .returned (.tuple #[.int .i64 k, .int .i64 0]) ∧ Below w.heap.size w w' := by
  obtain ⟨c, hb⟩ := evBody
  exact (num_family nameOK r0 (fn := Tryz.f60) (by kernel_rfl) hb (exv := [.slice none 0 0]) (zv := .int .i64 0) (fun ρ => by simp only [VRs]; exact ⟨_, _, rfl, by simp only [VR], rfl⟩) (fun ρ v h => by simp only [VR] at h; exact h) (q := fun _ => True) evr k trivial h1 h2 w).mono fun e w' h => ⟨h.1, below_staysP h.2⟩
theorem inOk : HookOk Tryz.prog 9 5 (hkDec (Int.negSucc 9223372036854775807)) := by
  obtain ⟨c, hb⟩ := inBody
  exact hkDec_ok nameOK (by decide) (fn := Tryz.f5) (by kernel_rfl) hb fun n w h1 h2 => (int_any n h1 h2 w).mono fun e w' h => ⟨h.1, by rw [h.2]; exact stays_sameP w⟩
theorem prOk : HookOk Tryz.prog 9 15 (hkPr 4 5) := by
  obtain ⟨c, hb⟩ := pfBody
  exact hkPr_ok nameOK (fn := Tryz.f15) (by kernel_rfl) hb (by omega) gPow (pr_said gPow evSaid fun k h1 h2 w ht => (Tryz.strconv_Itoa k h1 h2 w ht).mono fun e w' h => ⟨h.1, by obtain ⟨j, os, h⟩ := h.2; rw [h]; exact below_staysP (stays_grow w j os)⟩)
def hkC : List (Nat × HookF) := (5, hkDec (Int.negSucc 9223372036854775807)) :: (15, hkPr 4 5) :: hkB
theorem hkCok : HKok Tryz.prog 9 (hkL hkC) := hkL_cons inOk (hkL_cons prOk hkBok)
end
end Go.Proofs.YtiinlpdophgfjaaGreatDoor
