/-
  Five functions are met by their answers; the one table that the runs read. No condition.
-/
import Derived.Test.YtepcbpcbmkikeaaGreatDoorTab
import Derived.Test.YtepcbpcbmkikeaaGreatDoorXRowK3
open Go Go.Mx
namespace Go.Proofs.YtepcbpcbmkikeaaGreatDoor
set_option maxRecDepth 1000000
noncomputable section
def asciiL : List Int := [0, 0, 0, 0, 0, 0, 0, 0, 0, 1, 1, 1, 1, 1, 0, 0, 0, 0, 0, 0, 0, 0, 0, 0, 0, 0, 0, 0, 0, 0, 0, 0, 1, 0, 0, 0, 0, 0, 0, 0, 0, 0, 0, 0, 0, 0, 0, 0, 0, 0, 0, 0, 0, 0, 0, 0, 0, 0, 0, 0, 0, 0, 0, 0, 0, 0, 0, 0, 0, 0, 0, 0, 0, 0, 0, 0, 0, 0, 0, 0, 0, 0, 0, 0, 0, 0, 0, 0, 0, 0, 0, 0, 0, 0, 0, 0, 0, 0, 0, 0, 0, 0, 0, 0, 0, 0, 0, 0, 0, 0, 0, 0, 0, 0, 0, 0, 0, 0, 0, 0, 0, 0, 0, 0, 0, 0, 0, 0, 0, 0, 0, 0, 0, 0, 0, 0, 0, 0, 0, 0, 0, 0, 0, 0, 0, 0, 0, 0, 0, 0, 0, 0, 0, 0, 0, 0, 0, 0, 0, 0, 0, 0, 0, 0, 0, 0, 0, 0, 0, 0, 0, 0, 0, 0, 0, 0, 0, 0, 0, 0, 0, 0, 0, 0, 0, 0, 0, 0, 0, 0, 0, 0, 0, 0, 0, 0, 0, 0, 0, 0, 0, 0, 0, 0, 0, 0, 0, 0, 0, 0, 0, 0, 0, 0, 0, 0, 0, 0, 0, 0, 0, 0, 0, 0, 0, 0, 0, 0, 0, 0, 0, 0, 0, 0, 0, 0, 0, 0, 0, 0, 0, 0, 0, 0, 0, 0, 0, 0, 0, 0, 0, 0, 0, 0, 0, 0]
def tbl : List (Nat × V) := [(6, (.cons (.i .u8 0) (.cons (.i .u8 0) (.cons (.i .u8 0) (.cons (.i .u8 0) (.cons (.i .u8 0) (.cons (.i .u8 0) (.cons (.i .u8 0) (.cons (.i .u8 0) (.cons (.i .u8 0) (.cons (.i .u8 1) (.cons (.i .u8 1) (.cons (.i .u8 1) (.cons (.i .u8 1) (.cons (.i .u8 1) (.cons (.i .u8 0) (.cons (.i .u8 0) (.cons (.i .u8 0) (.cons (.i .u8 0) (.cons (.i .u8 0) (.cons (.i .u8 0) (.cons (.i .u8 0) (.cons (.i .u8 0) (.cons (.i .u8 0) (.cons (.i .u8 0) (.cons (.i .u8 0) (.cons (.i .u8 0) (.cons (.i .u8 0) (.cons (.i .u8 0) (.cons (.i .u8 0) (.cons (.i .u8 0) (.cons (.i .u8 0) (.cons (.i .u8 0) (.cons (.i .u8 1) (.cons (.i .u8 0) (.cons (.i .u8 0) (.cons (.i .u8 0) (.cons (.i .u8 0) (.cons (.i .u8 0) (.cons (.i .u8 0) (.cons (.i .u8 0) (.cons (.i .u8 0) (.cons (.i .u8 0) (.cons (.i .u8 0) (.cons (.i .u8 0) (.cons (.i .u8 0) (.cons (.i .u8 0) (.cons (.i .u8 0) (.cons (.i .u8 0) (.cons (.i .u8 0) (.cons (.i .u8 0) (.cons (.i .u8 0) (.cons (.i .u8 0) (.cons (.i .u8 0) (.cons (.i .u8 0) (.cons (.i .u8 0) (.cons (.i .u8 0) (.cons (.i .u8 0) (.cons (.i .u8 0) (.cons (.i .u8 0) (.cons (.i .u8 0) (.cons (.i .u8 0) (.cons (.i .u8 0) (.cons (.i .u8 0) (.cons (.i .u8 0) (.cons (.i .u8 0) (.cons (.i .u8 0) (.cons (.i .u8 0) (.cons (.i .u8 0) (.cons (.i .u8 0) (.cons (.i .u8 0) (.cons (.i .u8 0) (.cons (.i .u8 0) (.cons (.i .u8 0) (.cons (.i .u8 0) (.cons (.i .u8 0) (.cons (.i .u8 0) (.cons (.i .u8 0) (.cons (.i .u8 0) (.cons (.i .u8 0) (.cons (.i .u8 0) (.cons (.i .u8 0) (.cons (.i .u8 0) (.cons (.i .u8 0) (.cons (.i .u8 0) (.cons (.i .u8 0) (.cons (.i .u8 0) (.cons (.i .u8 0) (.cons (.i .u8 0) (.cons (.i .u8 0) (.cons (.i .u8 0) (.cons (.i .u8 0) (.cons (.i .u8 0) (.cons (.i .u8 0) (.cons (.i .u8 0) (.cons (.i .u8 0) (.cons (.i .u8 0) (.cons (.i .u8 0) (.cons (.i .u8 0) (.cons (.i .u8 0) (.cons (.i .u8 0) (.cons (.i .u8 0) (.cons (.i .u8 0) (.cons (.i .u8 0) (.cons (.i .u8 0) (.cons (.i .u8 0) (.cons (.i .u8 0) (.cons (.i .u8 0) (.cons (.i .u8 0) (.cons (.i .u8 0) (.cons (.i .u8 0) (.cons (.i .u8 0) (.cons (.i .u8 0) (.cons (.i .u8 0) (.cons (.i .u8 0) (.cons (.i .u8 0) (.cons (.i .u8 0) (.cons (.i .u8 0) (.cons (.i .u8 0) (.cons (.i .u8 0) (.cons (.i .u8 0) (.cons (.i .u8 0) (.cons (.i .u8 0) (.cons (.i .u8 0) (.cons (.i .u8 0) (.cons (.i .u8 0) (.cons (.i .u8 0) (.cons (.i .u8 0) (.cons (.i .u8 0) (.cons (.i .u8 0) (.cons (.i .u8 0) (.cons (.i .u8 0) (.cons (.i .u8 0) (.cons (.i .u8 0) (.cons (.i .u8 0) (.cons (.i .u8 0) (.cons (.i .u8 0) (.cons (.i .u8 0) (.cons (.i .u8 0) (.cons (.i .u8 0) (.cons (.i .u8 0) (.cons (.i .u8 0) (.cons (.i .u8 0) (.cons (.i .u8 0) (.cons (.i .u8 0) (.cons (.i .u8 0) (.cons (.i .u8 0) (.cons (.i .u8 0) (.cons (.i .u8 0) (.cons (.i .u8 0) (.cons (.i .u8 0) (.cons (.i .u8 0) (.cons (.i .u8 0) (.cons (.i .u8 0) (.cons (.i .u8 0) (.cons (.i .u8 0) (.cons (.i .u8 0) (.cons (.i .u8 0) (.cons (.i .u8 0) (.cons (.i .u8 0) (.cons (.i .u8 0) (.cons (.i .u8 0) (.cons (.i .u8 0) (.cons (.i .u8 0) (.cons (.i .u8 0) (.cons (.i .u8 0) (.cons (.i .u8 0) (.cons (.i .u8 0) (.cons (.i .u8 0) (.cons (.i .u8 0) (.cons (.i .u8 0) (.cons (.i .u8 0) (.cons (.i .u8 0) (.cons (.i .u8 0) (.cons (.i .u8 0) (.cons (.i .u8 0) (.cons (.i .u8 0) (.cons (.i .u8 0) (.cons (.i .u8 0) (.cons (.i .u8 0) (.cons (.i .u8 0) (.cons (.i .u8 0) (.cons (.i .u8 0) (.cons (.i .u8 0) (.cons (.i .u8 0) (.cons (.i .u8 0) (.cons (.i .u8 0) (.cons (.i .u8 0) (.cons (.i .u8 0) (.cons (.i .u8 0) (.cons (.i .u8 0) (.cons (.i .u8 0) (.cons (.i .u8 0) (.cons (.i .u8 0) (.cons (.i .u8 0) (.cons (.i .u8 0) (.cons (.i .u8 0) (.cons (.i .u8 0) (.cons (.i .u8 0) (.cons (.i .u8 0) (.cons (.i .u8 0) (.cons (.i .u8 0) (.cons (.i .u8 0) (.cons (.i .u8 0) (.cons (.i .u8 0) (.cons (.i .u8 0) (.cons (.i .u8 0) (.cons (.i .u8 0) (.cons (.i .u8 0) (.cons (.i .u8 0) (.cons (.i .u8 0) (.cons (.i .u8 0) (.cons (.i .u8 0) (.cons (.i .u8 0) (.cons (.i .u8 0) (.cons (.i .u8 0) (.cons (.i .u8 0) (.cons (.i .u8 0) (.cons (.i .u8 0) (.cons (.i .u8 0) (.cons (.i .u8 0) (.cons (.i .u8 0) (.cons (.i .u8 0) (.cons (.i .u8 0) (.cons (.i .u8 0) (.cons (.i .u8 0) (.cons (.i .u8 0) (.cons (.i .u8 0) (.cons (.i .u8 0) (.cons (.i .u8 0) (.cons (.i .u8 0) (.cons (.i .u8 0) (.cons (.i .u8 0) (.cons (.i .u8 0) (.cons (.i .u8 0) (.cons (.i .u8 0) (.cons (.i .u8 0) (.cons (.i .u8 0) (.cons (.i .u8 0) (.cons (.i .u8 0) (.cons (.i .u8 0) (.cons (.i .u8 0) (.cons (.i .u8 0) (.cons (.i .u8 0) (.cons (.i .u8 0) (.cons (.i .u8 0) (.cons (.i .u8 0) (.cons (.i .u8 0) (.cons (.i .u8 0) (.cons (.i .u8 0) (.cons (.i .u8 0) (.cons (.i .u8 0) (.cons (.i .u8 0) (.cons (.i .u8 0) (.cons (.i .u8 0) (.cons (.i .u8 0) (.cons (.i .u8 0) .nil)))))))))))))))))))))))))))))))))))))))))))))))))))))))))))))))))))))))))))))))))))))))))))))))))))))))))))))))))))))))))))))))))))))))))))))))))))))))))))))))))))))))))))))))))))))))))))))))))))))))))))))))))))))))))))))))))))))))))))))))))))))))))))))))))]
theorem tblIn : inT 12 tbl = true := by kernel_rfl
theorem tblEq : tbl = [(6, tabV .u8 asciiL)] := by kernel_rfl
def hk0 : List (Nat × HookF) := [(149, hkIndexByte), (214, hkCount), (215, hkNoEscape), (216, hkMakeNoZero 5)]
theorem h149 : HookOk Tryz.prog 12 149 hkIndexByte := hkIndexByte_ok (fn := Tryz.f149) (by kernel_rfl) (by kernel_rfl) (by kernel_rfl) (by kernel_rfl) (by kernel_rfl)
theorem h214 : HookOk Tryz.prog 12 214 hkCount := hkCount_ok (fn := Tryz.f214) (by kernel_rfl) (by kernel_rfl) (by kernel_rfl) (by kernel_rfl) (by kernel_rfl)
theorem h215 : HookOk Tryz.prog 12 215 hkNoEscape := hkNoEscape_ok (fn := Tryz.f215) (by kernel_rfl) (by kernel_rfl) (by kernel_rfl) (by kernel_rfl) (by kernel_rfl)
theorem h216 : HookOk Tryz.prog 12 216 (hkMakeNoZero 5) := hkMakeNoZero_ok (fn := Tryz.f216) (ps := Tryz.f216.params) (t := Tryz.f216.resultTypes[0]!) (by kernel_rfl) (by kernel_rfl) (by kernel_rfl) (by kernel_rfl) (by kernel_rfl) (by kernel_rfl)
theorem hk0ok : HKok Tryz.prog 12 (hkL hk0) := hkL_ok (by
  intro p hp
  simp only [hk0, List.mem_cons, List.not_mem_nil, or_false] at hp
  rcases hp with rfl | rfl | rfl | rfl
  · exact h149
  · exact h214
  · exact h215
  · exact h216
)
theorem alive8 (τ : Nat → Nat) : mkTK τ tbl .leaf (fun h0 => run Tryz.prog 12 (hkL hk0) 100000 8 .nil h0 12 (fun v _ _ => isB true v) (fun _ _ _ => false)) = true := by kernel_rfl
theorem alive15 (τ : Nat → Nat) : mkTK τ tbl .leaf (fun h0 => run Tryz.prog 12 (hkL hk0) 100000 15 .nil h0 12 (fun v _ _ => isB true v) (fun _ _ _ => false)) = true := by kernel_rfl
def hkB : List (Nat × HookF) := [(149, hkIndexByte), (214, hkCount), (215, hkNoEscape), (216, hkMakeNoZero 5), (8, memo tbl true), (15, memo tbl true)]
theorem hkBok : HKok Tryz.prog 12 (hkL hkB) := hkL_ok (by
  intro p hp
  simp only [hkB, List.mem_cons, List.not_mem_nil, or_false] at hp
  rcases hp with rfl | rfl | rfl | rfl | rfl | rfl
  · exact h149
  · exact h214
  · exact h215
  · exact h216
  · exact memo_ok follows nameOK hk0ok tblIn alive8
  · exact memo_ok follows nameOK hk0ok tblIn alive15
)
theorem gAscii : Tryz.prog.globalNamed "strings.asciiSpace" = some 6 := by kernel_rfl
theorem gAsciiT : (Tryz.prog.globals[6]?).map (·.type) = some 266 := by kernel_rfl
theorem uAscii : Tryz.prog.underlying 266 = some (.array 256 5) := by kernel_rfl
theorem uByte : Tryz.prog.underlying 5 = some (.int .u8) := by kernel_rfl
theorem cByte : Tryz.prog.cellsOf 5 = 1 := by kernel_rfl
theorem cAscii : Tryz.prog.cellsOf 266 = 256 := by kernel_rfl
theorem tables {lst : List (String × DataW Unit)} (plain : (lst.all fun x => x.2.handleName?.isNone) = true) (asciiIn : ("strings.asciiSpace", DataW.agg (asciiL.map fun x => (DataW.lit (.int .u8 x) : DataW Unit))) ∈ lst) {W : World} (h : laidMetH Tryz.prog lst W) : HasTables tbl W := by
  rw [tblEq]
  exact hasTable_of_laid h plain asciiIn gAscii gAsciiT uAscii uByte cByte cAscii (by decide)
theorem tableCells {lst : List (String × DataW Unit)} (plain : (lst.all fun x => x.2.handleName?.isNone) = true) (asciiIn : ("strings.asciiSpace", DataW.agg (asciiL.map fun x => (DataW.lit (.int .u8 x) : DataW Unit))) ∈ lst) {W : World} (h : laidMetH Tryz.prog lst W) : ∃ arr ty, W.heap[6]? = some (.cells arr ty (0, 0)) ∧ arr.toList = asciiL.map fun x => Value.int .u8 x :=
  cells_of_laid h plain asciiIn gAscii gAsciiT uAscii uByte cByte cAscii (by decide)
end
end Go.Proofs.YtepcbpcbmkikeaaGreatDoor
