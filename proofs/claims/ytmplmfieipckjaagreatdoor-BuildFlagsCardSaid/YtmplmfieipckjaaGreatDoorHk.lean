/-
  Five functions are met by their answers; the one table that the runs read. No condition.
-/
import Derived.Test.YtmplmfieipckjaaGreatDoorTab
import Derived.Test.YtmplmfieipckjaaGreatDoorXRowK
open Go Go.Mx
namespace Go.Proofs.YtmplmfieipckjaaGreatDoor
set_option maxRecDepth 1000000
noncomputable section
def asciiL : List Int := [0, 0, 0, 0, 0, 0, 0, 0, 0, 1, 1, 1, 1, 1, 0, 0, 0, 0, 0, 0, 0, 0, 0, 0, 0, 0, 0, 0, 0, 0, 0, 0, 1, 0, 0, 0, 0, 0, 0, 0, 0, 0, 0, 0, 0, 0, 0, 0, 0, 0, 0, 0, 0, 0, 0, 0, 0, 0, 0, 0, 0, 0, 0, 0, 0, 0, 0, 0, 0, 0, 0, 0, 0, 0, 0, 0, 0, 0, 0, 0, 0, 0, 0, 0, 0, 0, 0, 0, 0, 0, 0, 0, 0, 0, 0, 0, 0, 0, 0, 0, 0, 0, 0, 0, 0, 0, 0, 0, 0, 0, 0, 0, 0, 0, 0, 0, 0, 0, 0, 0, 0, 0, 0, 0, 0, 0, 0, 0, 0, 0, 0, 0, 0, 0, 0, 0, 0, 0, 0, 0, 0, 0, 0, 0, 0, 0, 0, 0, 0, 0, 0, 0, 0, 0, 0, 0, 0, 0, 0, 0, 0, 0, 0, 0, 0, 0, 0, 0, 0, 0, 0, 0, 0, 0, 0, 0, 0, 0, 0, 0, 0, 0, 0, 0, 0, 0, 0, 0, 0, 0, 0, 0, 0, 0, 0, 0, 0, 0, 0, 0, 0, 0, 0, 0, 0, 0, 0, 0, 0, 0, 0, 0, 0, 0, 0, 0, 0, 0, 0, 0, 0, 0, 0, 0, 0, 0, 0, 0, 0, 0, 0, 0, 0, 0, 0, 0, 0, 0, 0, 0, 0, 0, 0, 0, 0, 0, 0, 0, 0, 0, 0, 0, 0, 0, 0, 0]
def tbl : List (Nat × V) := [(6, (.cons (.i .u8 0) (.cons (.i .u8 0) (.cons (.i .u8 0) (.cons (.i .u8 0) (.cons (.i .u8 0) (.cons (.i .u8 0) (.cons (.i .u8 0) (.cons (.i .u8 0) (.cons (.i .u8 0) (.cons (.i .u8 1) (.cons (.i .u8 1) (.cons (.i .u8 1) (.cons (.i .u8 1) (.cons (.i .u8 1) (.cons (.i .u8 0) (.cons (.i .u8 0) (.cons (.i .u8 0) (.cons (.i .u8 0) (.cons (.i .u8 0) (.cons (.i .u8 0) (.cons (.i .u8 0) (.cons (.i .u8 0) (.cons (.i .u8 0) (.cons (.i .u8 0) (.cons (.i .u8 0) (.cons (.i .u8 0) (.cons (.i .u8 0) (.cons (.i .u8 0) (.cons (.i .u8 0) (.cons (.i .u8 0) (.cons (.i .u8 0) (.cons (.i .u8 0) (.cons (.i .u8 1) (.cons (.i .u8 0) (.cons (.i .u8 0) (.cons (.i .u8 0) (.cons (.i .u8 0) (.cons (.i .u8 0) (.cons (.i .u8 0) (.cons (.i .u8 0) (.cons (.i .u8 0) (.cons (.i .u8 0) (.cons (.i .u8 0) (.cons (.i .u8 0) (.cons (.i .u8 0) (.cons (.i .u8 0) (.cons (.i .u8 0) (.cons (.i .u8 0) (.cons (.i .u8 0) (.cons (.i .u8 0) (.cons (.i .u8 0) (.cons (.i .u8 0) (.cons (.i .u8 0) (.cons (.i .u8 0) (.cons (.i .u8 0) (.cons (.i .u8 0) (.cons (.i .u8 0) (.cons (.i .u8 0) (.cons (.i .u8 0) (.cons (.i .u8 0) (.cons (.i .u8 0) (.cons (.i .u8 0) (.cons (.i .u8 0) (.cons (.i .u8 0) (.cons (.i .u8 0) (.cons (.i .u8 0) (.cons (.i .u8 0) (.cons (.i .u8 0) (.cons (.i .u8 0) (.cons (.i .u8 0) (.cons (.i .u8 0) (.cons (.i .u8 0) (.cons (.i .u8 0) (.cons (.i .u8 0) (.cons (.i .u8 0) (.cons (.i .u8 0) (.cons (.i .u8 0) (.cons (.i .u8 0) (.cons (.i .u8 0) (.cons (.i .u8 0) (.cons (.i .u8 0) (.cons (.i .u8 0) (.cons (.i .u8 0) (.cons (.i .u8 0) (.cons (.i .u8 0) (.cons (.i .u8 0) (.cons (.i .u8 0) (.cons (.i .u8 0) (.cons (.i .u8 0) (.cons (.i .u8 0) (.cons (.i .u8 0) (.cons (.i .u8 0) (.cons (.i .u8 0) (.cons (.i .u8 0) (.cons (.i .u8 0) (.cons (.i .u8 0) (.cons (.i .u8 0) (.cons (.i .u8 0) (.cons (.i .u8 0) (.cons (.i .u8 0) (.cons (.i .u8 0) (.cons (.i .u8 0) (.cons (.i .u8 0) (.cons (.i .u8 0) (.cons (.i .u8 0) (.cons (.i .u8 0) (.cons (.i .u8 0) (.cons (.i .u8 0) (.cons (.i .u8 0) (.cons (.i .u8 0) (.cons (.i .u8 0) (.cons (.i .u8 0) (.cons (.i .u8 0) (.cons (.i .u8 0) (.cons (.i .u8 0) (.cons (.i .u8 0) (.cons (.i .u8 0) (.cons (.i .u8 0) (.cons (.i .u8 0) (.cons (.i .u8 0) (.cons (.i .u8 0) (.cons (.i .u8 0) (.cons (.i .u8 0) (.cons (.i .u8 0) (.cons (.i .u8 0) (.cons (.i .u8 0) (.cons (.i .u8 0) (.cons (.i .u8 0) (.cons (.i .u8 0) (.cons (.i .u8 0) (.cons (.i .u8 0) (.cons (.i .u8 0) (.cons (.i .u8 0) (.cons (.i .u8 0) (.cons (.i .u8 0) (.cons (.i .u8 0) (.cons (.i .u8 0) (.cons (.i .u8 0) (.cons (.i .u8 0) (.cons (.i .u8 0) (.cons (.i .u8 0) (.cons (.i .u8 0) (.cons (.i .u8 0) (.cons (.i .u8 0) (.cons (.i .u8 0) (.cons (.i .u8 0) (.cons (.i .u8 0) (.cons (.i .u8 0) (.cons (.i .u8 0) (.cons (.i .u8 0) (.cons (.i .u8 0) (.cons (.i .u8 0) (.cons (.i .u8 0) (.cons (.i .u8 0) (.cons (.i .u8 0) (.cons (.i .u8 0) (.cons (.i .u8 0) (.cons (.i .u8 0) (.cons (.i .u8 0) (.cons (.i .u8 0) (.cons (.i .u8 0) (.cons (.i .u8 0) (.cons (.i .u8 0) (.cons (.i .u8 0) (.cons (.i .u8 0) (.cons (.i .u8 0) (.cons (.i .u8 0) (.cons (.i .u8 0) (.cons (.i .u8 0) (.cons (.i .u8 0) (.cons (.i .u8 0) (.cons (.i .u8 0) (.cons (.i .u8 0) (.cons (.i .u8 0) (.cons (.i .u8 0) (.cons (.i .u8 0) (.cons (.i .u8 0) (.cons (.i .u8 0) (.cons (.i .u8 0) (.cons (.i .u8 0) (.cons (.i .u8 0) (.cons (.i .u8 0) (.cons (.i .u8 0) (.cons (.i .u8 0) (.cons (.i .u8 0) (.cons (.i .u8 0) (.cons (.i .u8 0) (.cons (.i .u8 0) (.cons (.i .u8 0) (.cons (.i .u8 0) (.cons (.i .u8 0) (.cons (.i .u8 0) (.cons (.i .u8 0) (.cons (.i .u8 0) (.cons (.i .u8 0) (.cons (.i .u8 0) (.cons (.i .u8 0) (.cons (.i .u8 0) (.cons (.i .u8 0) (.cons (.i .u8 0) (.cons (.i .u8 0) (.cons (.i .u8 0) (.cons (.i .u8 0) (.cons (.i .u8 0) (.cons (.i .u8 0) (.cons (.i .u8 0) (.cons (.i .u8 0) (.cons (.i .u8 0) (.cons (.i .u8 0) (.cons (.i .u8 0) (.cons (.i .u8 0) (.cons (.i .u8 0) (.cons (.i .u8 0) (.cons (.i .u8 0) (.cons (.i .u8 0) (.cons (.i .u8 0) (.cons (.i .u8 0) (.cons (.i .u8 0) (.cons (.i .u8 0) (.cons (.i .u8 0) (.cons (.i .u8 0) (.cons (.i .u8 0) (.cons (.i .u8 0) (.cons (.i .u8 0) (.cons (.i .u8 0) (.cons (.i .u8 0) (.cons (.i .u8 0) (.cons (.i .u8 0) (.cons (.i .u8 0) (.cons (.i .u8 0) (.cons (.i .u8 0) (.cons (.i .u8 0) (.cons (.i .u8 0) (.cons (.i .u8 0) (.cons (.i .u8 0) (.cons (.i .u8 0) (.cons (.i .u8 0) (.cons (.i .u8 0) (.cons (.i .u8 0) (.cons (.i .u8 0) (.cons (.i .u8 0) (.cons (.i .u8 0) (.cons (.i .u8 0) (.cons (.i .u8 0) (.cons (.i .u8 0) (.cons (.i .u8 0) (.cons (.i .u8 0) (.cons (.i .u8 0) (.cons (.i .u8 0) (.cons (.i .u8 0) (.cons (.i .u8 0) (.cons (.i .u8 0) (.cons (.i .u8 0) (.cons (.i .u8 0) (.cons (.i .u8 0) (.cons (.i .u8 0) .nil)))))))))))))))))))))))))))))))))))))))))))))))))))))))))))))))))))))))))))))))))))))))))))))))))))))))))))))))))))))))))))))))))))))))))))))))))))))))))))))))))))))))))))))))))))))))))))))))))))))))))))))))))))))))))))))))))))))))))))))))))))))))))))))))))]
theorem tblIn : inT 12 tbl = true := by kernel_rfl
theorem tblEq : tbl = [(6, tabV .u8 asciiL)] := by kernel_rfl
def hk0 : List (Nat × HookF) := [(98, hkIndexByte), (102, hkCount), (103, hkNoEscape), (104, hkMakeNoZero 5)]
theorem h98 : HookOk Tryz.prog 12 98 hkIndexByte := hkIndexByte_ok (fn := Tryz.f98) (by kernel_rfl) (by kernel_rfl) (by kernel_rfl) (by kernel_rfl) (by kernel_rfl)
theorem h102 : HookOk Tryz.prog 12 102 hkCount := hkCount_ok (fn := Tryz.f102) (by kernel_rfl) (by kernel_rfl) (by kernel_rfl) (by kernel_rfl) (by kernel_rfl)
theorem h103 : HookOk Tryz.prog 12 103 hkNoEscape := hkNoEscape_ok (fn := Tryz.f103) (by kernel_rfl) (by kernel_rfl) (by kernel_rfl) (by kernel_rfl) (by kernel_rfl)
theorem h104 : HookOk Tryz.prog 12 104 (hkMakeNoZero 5) := hkMakeNoZero_ok (fn := Tryz.f104) (ps := Tryz.f104.params) (t := Tryz.f104.resultTypes[0]!) (by kernel_rfl) (by kernel_rfl) (by kernel_rfl) (by kernel_rfl) (by kernel_rfl) (by kernel_rfl)
theorem hk0ok : HKok Tryz.prog 12 (hkL hk0) := hkL_ok (by
  intro p hp
  simp only [hk0, List.mem_cons, List.not_mem_nil, or_false] at hp
  rcases hp with rfl | rfl | rfl | rfl
  · exact h98
  · exact h102
  · exact h103
  · exact h104
)
theorem alive4 (τ : Nat → Nat) : mkTK τ tbl .leaf (fun h0 => run Tryz.prog 12 (hkL hk0) 100000 4 .nil h0 12 (fun v _ _ => isB true v) (fun _ _ _ => false)) = true := by kernel_rfl
def hkB : List (Nat × HookF) := [(98, hkIndexByte), (102, hkCount), (103, hkNoEscape), (104, hkMakeNoZero 5), (4, memo tbl true)]
theorem hkBok : HKok Tryz.prog 12 (hkL hkB) := hkL_ok (by
  intro p hp
  simp only [hkB, List.mem_cons, List.not_mem_nil, or_false] at hp
  rcases hp with rfl | rfl | rfl | rfl | rfl
  · exact h98
  · exact h102
  · exact h103
  · exact h104
  · exact memo_ok follows nameOK hk0ok tblIn alive4
)
theorem gAscii : Tryz.prog.globalNamed "strings.asciiSpace" = some 6 := by kernel_rfl
theorem gAsciiT : (Tryz.prog.globals[6]?).map (·.type) = some 212 := by kernel_rfl
theorem uAscii : Tryz.prog.underlying 212 = some (.array 256 5) := by kernel_rfl
theorem uByte : Tryz.prog.underlying 5 = some (.int .u8) := by kernel_rfl
theorem cByte : Tryz.prog.cellsOf 5 = 1 := by kernel_rfl
theorem cAscii : Tryz.prog.cellsOf 212 = 256 := by kernel_rfl
theorem tables {lst : List (String × DataW Unit)} (plain : (lst.all fun x => x.2.handleName?.isNone) = true) (asciiIn : ("strings.asciiSpace", DataW.agg (asciiL.map fun x => (DataW.lit (.int .u8 x) : DataW Unit))) ∈ lst) {W : World} (h : laidMetH Tryz.prog lst W) : HasTables tbl W := by
  rw [tblEq]
  exact hasTable_of_laid h plain asciiIn gAscii gAsciiT uAscii uByte cByte cAscii (by decide)
end
end Go.Proofs.YtmplmfieipckjaaGreatDoor
