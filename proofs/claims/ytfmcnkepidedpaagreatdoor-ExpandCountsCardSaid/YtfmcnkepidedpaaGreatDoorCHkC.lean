/-
  Digits, Int and Itoa are met by their contracts; the table of powers of ten. No condition.
-/
import Derived.Test.YtfmcnkepidedpaaGreatDoorHk
import Derived.Test.YtfmcnkepidedpaaGreatDoorXMxU
import Derived.Test.YtfmcnkepidedpaaGreatDoorCDgW
import Derived.Test.YtfmcnkepidedpaaGreatDoorCItW
open Go Go.Mx Go.Lib
namespace Go.Proofs.YtfmcnkepidedpaaGreatDoor
set_option maxRecDepth 1000000
noncomputable section
def powL : List Int := [1, 10, 100, 1000, 10000, 100000, 1000000, 10000000, 100000000, 1000000000, 10000000000, 100000000000, 1000000000000, 10000000000000, 100000000000000, 1000000000000000, 10000000000000000, 100000000000000000, 1000000000000000000, 10000000000000000000]
theorem gPow : Tryz.prog.globalNamed "internal/strconv.uint64pow10" = some 1 := by kernel_rfl
theorem gPowT : (Tryz.prog.globals[1]?).map (·.type) = some 174 := by kernel_rfl
theorem uPow : Tryz.prog.underlying 174 = some (.array 20 115) := by kernel_rfl
theorem uU64 : Tryz.prog.underlying 115 = some (.int .u64) := by kernel_rfl
theorem cU64 : Tryz.prog.cellsOf 115 = 1 := by kernel_rfl
theorem cPow : Tryz.prog.cellsOf 174 = 20 := by kernel_rfl
theorem powAt {lst : List (String × DataW Unit)} (plain : (lst.all fun x => x.2.handleName?.isNone) = true) (powIn : ("internal/strconv.uint64pow10", DataW.agg (powL.map fun x => (DataW.lit (.int .u64 x) : DataW Unit))) ∈ lst) {W : World} (h : laidMetH Tryz.prog lst W) :
    ∃ arr ty, W.heap[1]? = some (.cells arr ty (0, 0)) ∧ arr.toList = powL.map fun x => Value.int .u64 x := by
  rw [MakeChecks.laidMetH_plain _ _ _ plain] at h
  obtain ⟨ps, h1, _, h3⟩ := h
  exact table_of_laidVars gPow gPowT uPow uU64 cU64 cPow (by decide) h1 powIn (fun b off hp => (h3 b off hp).1)
theorem dgBody : ∃ c, Tryz.f14.body = some c := ⟨_, rfl⟩
theorem inBody : ∃ c, Tryz.f15.body = some c := ⟨_, rfl⟩
theorem itBody : ∃ c, Tryz.f64.body = some c := ⟨_, rfl⟩
theorem c14 : HookOk Tryz.prog 8 14 (hkDec 0) := by
  obtain ⟨c, hb⟩ := dgBody
  refine hkDec_ok nameOK (by decide) (fn := Tryz.f14) (by kernel_rfl) hb fun n w h1 h2 => ?_
  obtain ⟨m, rfl⟩ := Int.eq_ofNat_of_zero_le h1
  exact (digits_any m h2 w).mono fun e w' h => ⟨h.1.trans (congrArg (fun x => Ending.returned (.string x)) (itoaS_pos m).symm), by rw [h.2]; exact stays_same w⟩
theorem c15 : HookOk Tryz.prog 8 15 (hkDec (Int.negSucc 9223372036854775807)) := by
  obtain ⟨c, hb⟩ := inBody
  exact hkDec_ok nameOK (by decide) (fn := Tryz.f15) (by kernel_rfl) hb fun n w h1 h2 => (int_any n h1 h2 w).mono fun e w' h => ⟨h.1, by rw [h.2]; exact stays_same w⟩
theorem c64 : HookOk Tryz.prog 8 64 (hkDecT 1 (Int.negSucc 9223372036854775807)) := by
  obtain ⟨c, hb⟩ := itBody
  exact hkDecT_ok nameOK (by decide) (fn := Tryz.f64) (by kernel_rfl) hb (by decide) gPow fun n w h1 h2 ht => (Tryz.strconv_Itoa n h1 h2 w ht).mono fun e w' h => ⟨h.1, by obtain ⟨k, os, h⟩ := h.2; rw [h]; exact stays_grow w k os⟩
def hkC : List (Nat × HookF) := (14, hkDec 0) :: (15, hkDec (Int.negSucc 9223372036854775807)) :: (64, hkDecT 1 (Int.negSucc 9223372036854775807)) :: hkB
theorem hkCok : HKok Tryz.prog 8 (hkL hkC) := hkL_cons c14 (hkL_cons c15 (hkL_cons c64 hkBok))
end
end Go.Proofs.YtfmcnkepidedpaaGreatDoor
