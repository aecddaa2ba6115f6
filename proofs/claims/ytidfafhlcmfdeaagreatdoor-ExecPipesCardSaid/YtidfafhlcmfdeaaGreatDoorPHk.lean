/-
  Some functions are met by their answers or by their contracts; the tables that the runs read. No condition.
-/
import Derived.Test.YtidfafhlcmfdeaaGreatDoorPTab
import Derived.Test.YtidfafhlcmfdeaaGreatDoorPXMxP
import Derived.Test.YtidfafhlcmfdeaaGreatDoorPXRowK4
import Derived.Shelf.Strings.IndexAny
import Derived.Shelf.Strings.AsciiSet
import Derived.Shelf.Strings.IndexAnyAll
open Go Go.Mx Go.Shelf
namespace Go.Proofs.YtidfafhlcmfdeaaGreatDoor
set_option maxRecDepth 1000000
noncomputable section
def Tryz.lays153_ren : Go.Shelf.Ren := ⟨fun | 153 => 151 | 152 => 196 | 226 => 197 | 227 => 198 | 228 => 199 | 137 => 62 | 119 => 240 | 224 => 102 | 225 => 101 | 217 => 90 | 266 => 132 | n => n, fun | 9 => 9 | 3 => 3 | 4 => 4 | 5 => 5 | 21 => 21 | 117 => 237 | 116 => 236 | 0 => 0 | 46 => 157 | 124 => 279 | n => n, fun | n => n⟩
theorem Tryz.lays153 : Go.Proofs.Lays.n153 Tryz.prog Tryz.lays153_ren := {
  mixed := by kernel_rfl
  f119 := Tryz.func240.trans (congrArg some (by kernel_rfl))
  f137 := Tryz.func62.trans (congrArg some (by kernel_rfl))
  f152 := Tryz.func196.trans (congrArg some (by kernel_rfl))
  f153 := Tryz.func151.trans (congrArg some (by kernel_rfl))
  f217 := Tryz.func90.trans (congrArg some (by kernel_rfl))
  f224 := Tryz.func102.trans (congrArg some (by kernel_rfl))
  f225 := Tryz.func101.trans (congrArg some (by kernel_rfl))
  f226 := Tryz.func197.trans (congrArg some (by kernel_rfl))
  f227 := Tryz.func198.trans (congrArg some (by kernel_rfl))
  f228 := Tryz.func199.trans (congrArg some (by kernel_rfl))
  f266 := Tryz.func132.trans (congrArg some (by kernel_rfl))
  t0 := Tryz.underlying0
  a0 := Tryz.isAgg0
  z0 := Tryz.sizeOf0
  v0 := Tryz.zeroValue0
  t3 := Tryz.underlying3
  a3 := Tryz.isAgg3
  z3 := Tryz.sizeOf3
  v3 := Tryz.zeroValue3
  t4 := Tryz.underlying4
  a4 := Tryz.isAgg4
  z4 := Tryz.sizeOf4
  v4 := Tryz.zeroValue4
  t5 := Tryz.underlying5
  a5 := Tryz.isAgg5
  z5 := Tryz.sizeOf5
  v5 := Tryz.zeroValue5
  t9 := Tryz.underlying9
  a9 := Tryz.isAgg9
  z9 := Tryz.sizeOf9
  v9 := Tryz.zeroValue9
  t21 := Tryz.underlying21
  a21 := Tryz.isAgg21
  z21 := Tryz.sizeOf21
  v21 := Tryz.zeroValue21
  t46 := Tryz.underlying157
  a46 := Tryz.isAgg157
  z46 := Tryz.sizeOf157
  v46 := Tryz.zeroValue157
  t116 := Tryz.underlying236
  a116 := Tryz.isAgg236
  z116 := Tryz.sizeOf236
  t117 := Tryz.underlying237
  a117 := Tryz.isAgg237
  z117 := Tryz.sizeOf237
  v117 := Tryz.zeroValue237
  t124 := Tryz.underlying279
  a124 := Tryz.isAgg279
  z124 := Tryz.sizeOf279
  v124 := Tryz.zeroValue279 }
open Go.RowKit Go.Lib in
theorem Tryz.strings_IndexAny_laid (s chars : ByteArray) (w : World) (hs : s.size < 4294967281) (hcs : chars.size < 4294967281) (has : ∀ (j : Nat) b, s.data.toList[j]? = some b → b.toNat < 128) (hac : ∀ (j : Nat) b, chars.data.toList[j]? = some b → b.toNat < 128) :
    Calls Tryz.prog 151 #[.string s, .string chars] w fun e w' => e = .returned (.int .i64 (Lib.indexAny s.data.toList chars.data.toList)) ∧ Below w.heap.size w w' := Any.strings_IndexAny_laid Tryz.lays153 (by kernel_rfl) s chars w hs hcs has hac
def asciiL : List Int := [0, 0, 0, 0, 0, 0, 0, 0, 0, 1, 1, 1, 1, 1, 0, 0, 0, 0, 0, 0, 0, 0, 0, 0, 0, 0, 0, 0, 0, 0, 0, 0, 1, 0, 0, 0, 0, 0, 0, 0, 0, 0, 0, 0, 0, 0, 0, 0, 0, 0, 0, 0, 0, 0, 0, 0, 0, 0, 0, 0, 0, 0, 0, 0, 0, 0, 0, 0, 0, 0, 0, 0, 0, 0, 0, 0, 0, 0, 0, 0, 0, 0, 0, 0, 0, 0, 0, 0, 0, 0, 0, 0, 0, 0, 0, 0, 0, 0, 0, 0, 0, 0, 0, 0, 0, 0, 0, 0, 0, 0, 0, 0, 0, 0, 0, 0, 0, 0, 0, 0, 0, 0, 0, 0, 0, 0, 0, 0, 0, 0, 0, 0, 0, 0, 0, 0, 0, 0, 0, 0, 0, 0, 0, 0, 0, 0, 0, 0, 0, 0, 0, 0, 0, 0, 0, 0, 0, 0, 0, 0, 0, 0, 0, 0, 0, 0, 0, 0, 0, 0, 0, 0, 0, 0, 0, 0, 0, 0, 0, 0, 0, 0, 0, 0, 0, 0, 0, 0, 0, 0, 0, 0, 0, 0, 0, 0, 0, 0, 0, 0, 0, 0, 0, 0, 0, 0, 0, 0, 0, 0, 0, 0, 0, 0, 0, 0, 0, 0, 0, 0, 0, 0, 0, 0, 0, 0, 0, 0, 0, 0, 0, 0, 0, 0, 0, 0, 0, 0, 0, 0, 0, 0, 0, 0, 0, 0, 0, 0, 0, 0, 0, 0, 0, 0, 0, 0]
def powL : List Int := [1, 10, 100, 1000, 10000, 100000, 1000000, 10000000, 100000000, 1000000000, 10000000000, 100000000000, 1000000000000, 10000000000000, 100000000000000, 1000000000000000, 10000000000000000, 100000000000000000, 1000000000000000000, 10000000000000000000]
def tbl : List (Nat × V) := [(1, (.cons (.i .u8 0) (.cons (.i .u8 0) (.cons (.i .u8 0) (.cons (.i .u8 0) (.cons (.i .u8 0) (.cons (.i .u8 0) (.cons (.i .u8 0) (.cons (.i .u8 0) (.cons (.i .u8 0) (.cons (.i .u8 1) (.cons (.i .u8 1) (.cons (.i .u8 1) (.cons (.i .u8 1) (.cons (.i .u8 1) (.cons (.i .u8 0) (.cons (.i .u8 0) (.cons (.i .u8 0) (.cons (.i .u8 0) (.cons (.i .u8 0) (.cons (.i .u8 0) (.cons (.i .u8 0) (.cons (.i .u8 0) (.cons (.i .u8 0) (.cons (.i .u8 0) (.cons (.i .u8 0) (.cons (.i .u8 0) (.cons (.i .u8 0) (.cons (.i .u8 0) (.cons (.i .u8 0) (.cons (.i .u8 0) (.cons (.i .u8 0) (.cons (.i .u8 0) (.cons (.i .u8 1) (.cons (.i .u8 0) (.cons (.i .u8 0) (.cons (.i .u8 0) (.cons (.i .u8 0) (.cons (.i .u8 0) (.cons (.i .u8 0) (.cons (.i .u8 0) (.cons (.i .u8 0) (.cons (.i .u8 0) (.cons (.i .u8 0) (.cons (.i .u8 0) (.cons (.i .u8 0) (.cons (.i .u8 0) (.cons (.i .u8 0) (.cons (.i .u8 0) (.cons (.i .u8 0) (.cons (.i .u8 0) (.cons (.i .u8 0) (.cons (.i .u8 0) (.cons (.i .u8 0) (.cons (.i .u8 0) (.cons (.i .u8 0) (.cons (.i .u8 0) (.cons (.i .u8 0) (.cons (.i .u8 0) (.cons (.i .u8 0) (.cons (.i .u8 0) (.cons (.i .u8 0) (.cons (.i .u8 0) (.cons (.i .u8 0) (.cons (.i .u8 0) (.cons (.i .u8 0) (.cons (.i .u8 0) (.cons (.i .u8 0) (.cons (.i .u8 0) (.cons (.i .u8 0) (.cons (.i .u8 0) (.cons (.i .u8 0) (.cons (.i .u8 0) (.cons (.i .u8 0) (.cons (.i .u8 0) (.cons (.i .u8 0) (.cons (.i .u8 0) (.cons (.i .u8 0) (.cons (.i .u8 0) (.cons (.i .u8 0) (.cons (.i .u8 0) (.cons (.i .u8 0) (.cons (.i .u8 0) (.cons (.i .u8 0) (.cons (.i .u8 0) (.cons (.i .u8 0) (.cons (.i .u8 0) (.cons (.i .u8 0) (.cons (.i .u8 0) (.cons (.i .u8 0) (.cons (.i .u8 0) (.cons (.i .u8 0) (.cons (.i .u8 0) (.cons (.i .u8 0) (.cons (.i .u8 0) (.cons (.i .u8 0) (.cons (.i .u8 0) (.cons (.i .u8 0) (.cons (.i .u8 0) (.cons (.i .u8 0) (.cons (.i .u8 0) (.cons (.i .u8 0) (.cons (.i .u8 0) (.cons (.i .u8 0) (.cons (.i .u8 0) (.cons (.i .u8 0) (.cons (.i .u8 0) (.cons (.i .u8 0) (.cons (.i .u8 0) (.cons (.i .u8 0) (.cons (.i .u8 0) (.cons (.i .u8 0) (.cons (.i .u8 0) (.cons (.i .u8 0) (.cons (.i .u8 0) (.cons (.i .u8 0) (.cons (.i .u8 0) (.cons (.i .u8 0) (.cons (.i .u8 0) (.cons (.i .u8 0) (.cons (.i .u8 0) (.cons (.i .u8 0) (.cons (.i .u8 0) (.cons (.i .u8 0) (.cons (.i .u8 0) (.cons (.i .u8 0) (.cons (.i .u8 0) (.cons (.i .u8 0) (.cons (.i .u8 0) (.cons (.i .u8 0) (.cons (.i .u8 0) (.cons (.i .u8 0) (.cons (.i .u8 0) (.cons (.i .u8 0) (.cons (.i .u8 0) (.cons (.i .u8 0) (.cons (.i .u8 0) (.cons (.i .u8 0) (.cons (.i .u8 0) (.cons (.i .u8 0) (.cons (.i .u8 0) (.cons (.i .u8 0) (.cons (.i .u8 0) (.cons (.i .u8 0) (.cons (.i .u8 0) (.cons (.i .u8 0) (.cons (.i .u8 0) (.cons (.i .u8 0) (.cons (.i .u8 0) (.cons (.i .u8 0) (.cons (.i .u8 0) (.cons (.i .u8 0) (.cons (.i .u8 0) (.cons (.i .u8 0) (.cons (.i .u8 0) (.cons (.i .u8 0) (.cons (.i .u8 0) (.cons (.i .u8 0) (.cons (.i .u8 0) (.cons (.i .u8 0) (.cons (.i .u8 0) (.cons (.i .u8 0) (.cons (.i .u8 0) (.cons (.i .u8 0) (.cons (.i .u8 0) (.cons (.i .u8 0) (.cons (.i .u8 0) (.cons (.i .u8 0) (.cons (.i .u8 0) (.cons (.i .u8 0) (.cons (.i .u8 0) (.cons (.i .u8 0) (.cons (.i .u8 0) (.cons (.i .u8 0) (.cons (.i .u8 0) (.cons (.i .u8 0) (.cons (.i .u8 0) (.cons (.i .u8 0) (.cons (.i .u8 0) (.cons (.i .u8 0) (.cons (.i .u8 0) (.cons (.i .u8 0) (.cons (.i .u8 0) (.cons (.i .u8 0) (.cons (.i .u8 0) (.cons (.i .u8 0) (.cons (.i .u8 0) (.cons (.i .u8 0) (.cons (.i .u8 0) (.cons (.i .u8 0) (.cons (.i .u8 0) (.cons (.i .u8 0) (.cons (.i .u8 0) (.cons (.i .u8 0) (.cons (.i .u8 0) (.cons (.i .u8 0) (.cons (.i .u8 0) (.cons (.i .u8 0) (.cons (.i .u8 0) (.cons (.i .u8 0) (.cons (.i .u8 0) (.cons (.i .u8 0) (.cons (.i .u8 0) (.cons (.i .u8 0) (.cons (.i .u8 0) (.cons (.i .u8 0) (.cons (.i .u8 0) (.cons (.i .u8 0) (.cons (.i .u8 0) (.cons (.i .u8 0) (.cons (.i .u8 0) (.cons (.i .u8 0) (.cons (.i .u8 0) (.cons (.i .u8 0) (.cons (.i .u8 0) (.cons (.i .u8 0) (.cons (.i .u8 0) (.cons (.i .u8 0) (.cons (.i .u8 0) (.cons (.i .u8 0) (.cons (.i .u8 0) (.cons (.i .u8 0) (.cons (.i .u8 0) (.cons (.i .u8 0) (.cons (.i .u8 0) (.cons (.i .u8 0) (.cons (.i .u8 0) (.cons (.i .u8 0) (.cons (.i .u8 0) (.cons (.i .u8 0) (.cons (.i .u8 0) (.cons (.i .u8 0) (.cons (.i .u8 0) (.cons (.i .u8 0) (.cons (.i .u8 0) (.cons (.i .u8 0) (.cons (.i .u8 0) (.cons (.i .u8 0) (.cons (.i .u8 0) (.cons (.i .u8 0) (.cons (.i .u8 0) (.cons (.i .u8 0) (.cons (.i .u8 0) (.cons (.i .u8 0) (.cons (.i .u8 0) (.cons (.i .u8 0) (.cons (.i .u8 0) (.cons (.i .u8 0) (.cons (.i .u8 0) (.cons (.i .u8 0) (.cons (.i .u8 0) (.cons (.i .u8 0) (.cons (.i .u8 0) (.cons (.i .u8 0) (.cons (.i .u8 0) (.cons (.i .u8 0) (.cons (.i .u8 0) .nil))))))))))))))))))))))))))))))))))))))))))))))))))))))))))))))))))))))))))))))))))))))))))))))))))))))))))))))))))))))))))))))))))))))))))))))))))))))))))))))))))))))))))))))))))))))))))))))))))))))))))))))))))))))))))))))))))))))))))))))))))))))))))))))))), (5, (.cons (.i .u64 1) (.cons (.i .u64 10) (.cons (.i .u64 100) (.cons (.i .u64 1000) (.cons (.i .u64 10000) (.cons (.i .u64 100000) (.cons (.i .u64 1000000) (.cons (.i .u64 10000000) (.cons (.i .u64 100000000) (.cons (.i .u64 1000000000) (.cons (.i .u64 10000000000) (.cons (.i .u64 100000000000) (.cons (.i .u64 1000000000000) (.cons (.i .u64 10000000000000) (.cons (.i .u64 100000000000000) (.cons (.i .u64 1000000000000000) (.cons (.i .u64 10000000000000000) (.cons (.i .u64 100000000000000000) (.cons (.i .u64 1000000000000000000) (.cons (.i .u64 10000000000000000000) .nil)))))))))))))))))))))]
theorem tblIn : inT 12 tbl = true := by kernel_rfl
theorem tblEq : tbl = [(1, tabV .u8 asciiL), (5, tabV .u64 powL)] := by kernel_rfl
def hk0 : List (Nat × HookF) := [(132, hkO (hkOr hkIndexByte hkIndexByteW) hkIndexByteO), (147, hkOr hkCount hkCountW), (148, hkNoEscape), (149, hkO (hkMakeNoZero 5) (hkMakeNoZeroO 5)), (56, hkMapClone)]
theorem h132a : HookOk Tryz.prog 12 132 hkIndexByte := hkIndexByte_ok (fn := Tryz.f132) (by kernel_rfl) (by kernel_rfl) (by kernel_rfl) (by kernel_rfl) (by kernel_rfl)
theorem h132b : HookOk Tryz.prog 12 132 hkIndexByteW := hkIndexByteW_ok (fn := Tryz.f132) (by kernel_rfl) (by kernel_rfl) (by kernel_rfl) (by kernel_rfl) (by kernel_rfl)
theorem h132o : HookOk Tryz.prog 12 132 hkIndexByteO := hkIndexByteO_ok (fn := Tryz.f132) (by kernel_rfl) (by kernel_rfl) (by kernel_rfl) (by kernel_rfl) (by kernel_rfl)
theorem h132ab : HookOk Tryz.prog 12 132 (hkOr hkIndexByte hkIndexByteW) := hkOr_ok h132a h132b
theorem h132 : HookOk Tryz.prog 12 132 (hkO (hkOr hkIndexByte hkIndexByteW) hkIndexByteO) := hkO_ok h132ab h132o
theorem h147a : HookOk Tryz.prog 12 147 hkCount := hkCount_ok (fn := Tryz.f147) (by kernel_rfl) (by kernel_rfl) (by kernel_rfl) (by kernel_rfl) (by kernel_rfl)
theorem h147b : HookOk Tryz.prog 12 147 hkCountW := hkCountW_ok (fn := Tryz.f147) (by kernel_rfl) (by kernel_rfl) (by kernel_rfl) (by kernel_rfl) (by kernel_rfl)
theorem h147 : HookOk Tryz.prog 12 147 (hkOr hkCount hkCountW) := hkOr_ok h147a h147b
theorem h148 : HookOk Tryz.prog 12 148 hkNoEscape := hkNoEscape_ok (fn := Tryz.f148) (by kernel_rfl) (by kernel_rfl) (by kernel_rfl) (by kernel_rfl) (by kernel_rfl)
theorem h149a : HookOk Tryz.prog 12 149 (hkMakeNoZero 5) := hkMakeNoZero_ok (fn := Tryz.f149) (ps := Tryz.f149.params) (t := Tryz.f149.resultTypes[0]!) (by kernel_rfl) (by kernel_rfl) (by kernel_rfl) (by kernel_rfl) (by kernel_rfl) (by kernel_rfl)
theorem h149b : HookOk Tryz.prog 12 149 (hkMakeNoZeroO 5) := hkMakeNoZeroO_ok (fn := Tryz.f149) (ps := Tryz.f149.params) (t := Tryz.f149.resultTypes[0]!) (by kernel_rfl) (by kernel_rfl) (by kernel_rfl) (by kernel_rfl) (by kernel_rfl) (by kernel_rfl)
theorem h149 : HookOk Tryz.prog 12 149 (hkO (hkMakeNoZero 5) (hkMakeNoZeroO 5)) := hkO_ok h149a h149b
theorem h56 : HookOk Tryz.prog 12 56 hkMapClone := hkMapClone_ok (fn := Tryz.f56) (by kernel_rfl) (by kernel_rfl) (by kernel_rfl) (by kernel_rfl) (by kernel_rfl)
theorem hk0ok : HKok Tryz.prog 12 (hkL hk0) := hkL_ok (by
  intro p hp
  simp only [hk0, List.mem_cons, List.not_mem_nil, or_false] at hp
  rcases hp with rfl | rfl | rfl | rfl | rfl
  · exact h132
  · exact h147
  · exact h148
  · exact h149
  · exact h56)
theorem single_run : allN 256 (fun n => run Tryz.prog 12 (hkL hk0) 100000 246 (.cons (.i .u8 (Int.ofNat n)) .nil) .leaf 12 (fun v _ _ => isSingle4 n v) (fun _ _ _ => false)) = true := by kernel_rfl
theorem h246 : HookOk Tryz.prog 12 246 hkSingle2 := hkSingle2_ok follows nameOK hk0ok single_run
theorem iaBody : ∃ c, Tryz.f151.body = some c := ⟨_, rfl⟩
theorem h151 : HookOk Tryz.prog 12 151 hkIndexAny7 := by
  obtain ⟨c, hb⟩ := iaBody
  exact hkIndexAny7_ok nameOK (fn := Tryz.f151) (by kernel_rfl) hb fun s chars w h1 h2 h3 h4 => Tryz.strings_IndexAny_laid s chars w h1 h2 h3 h4
def hk1 : List (Nat × HookF) := [(132, hkO (hkOr hkIndexByte hkIndexByteW) hkIndexByteO), (147, hkOr hkCount hkCountW), (148, hkNoEscape), (149, hkO (hkMakeNoZero 5) (hkMakeNoZeroO 5)), (56, hkMapClone), (246, hkSingle2), (151, hkIndexAny7)]
theorem hk1ok : HKok Tryz.prog 12 (hkL hk1) := hkL_ok (by
  intro p hp
  simp only [hk1, List.mem_cons, List.not_mem_nil, or_false] at hp
  rcases hp with rfl | rfl | rfl | rfl | rfl | rfl | rfl
  · exact h132
  · exact h147
  · exact h148
  · exact h149
  · exact h56
  · exact h246
  · exact h151)
theorem alive7 (τ : Nat → Nat) : mkTK τ tbl .leaf (fun h0 => run Tryz.prog 12 (hkL hk1) 100000 7 .nil h0 12 (fun v _ _ => isB true v) (fun _ _ _ => false)) = true := by kernel_rfl
def hkB : List (Nat × HookF) := [(132, hkO (hkOr hkIndexByte hkIndexByteW) hkIndexByteO), (147, hkOr hkCount hkCountW), (148, hkNoEscape), (149, hkO (hkMakeNoZero 5) (hkMakeNoZeroO 5)), (56, hkMapClone), (246, hkSingle2), (151, hkIndexAny7), (7, memo tbl true)]
theorem hkBok : HKok Tryz.prog 12 (hkL hkB) := hkL_ok (by
  intro p hp
  simp only [hkB, List.mem_cons, List.not_mem_nil, or_false] at hp
  rcases hp with rfl | rfl | rfl | rfl | rfl | rfl | rfl | rfl
  · exact h132
  · exact h147
  · exact h148
  · exact h149
  · exact h56
  · exact h246
  · exact h151
  · exact memo_ok follows nameOK hk1ok tblIn alive7)
theorem gAscii : Tryz.prog.globalNamed "strings.asciiSpace" = some 1 := by kernel_rfl
theorem gAsciiT : (Tryz.prog.globals[1]?).map (·.type) = some 230 := by kernel_rfl
theorem uAscii : Tryz.prog.underlying 230 = some (.array 256 5) := by kernel_rfl
theorem uByte : Tryz.prog.underlying 5 = some (.int .u8) := by kernel_rfl
theorem cByte : Tryz.prog.cellsOf 5 = 1 := by kernel_rfl
theorem cAscii : Tryz.prog.cellsOf 230 = 256 := by kernel_rfl
theorem gPow : Tryz.prog.globalNamed "internal/strconv.uint64pow10" = some 5 := by kernel_rfl
theorem gPowT : (Tryz.prog.globals[5]?).map (·.type) = some 410 := by kernel_rfl
theorem uPow : Tryz.prog.underlying 410 = some (.array 20 246) := by kernel_rfl
theorem uU64 : Tryz.prog.underlying 246 = some (.int .u64) := by kernel_rfl
theorem cU64 : Tryz.prog.cellsOf 246 = 1 := by kernel_rfl
theorem cPow : Tryz.prog.cellsOf 410 = 20 := by kernel_rfl
theorem tables {lst : List (String × DataW Unit)} (plain : (lst.all fun x => x.2.handleName?.isNone) = true) (asciiIn : ("strings.asciiSpace", DataW.agg (asciiL.map fun x => (DataW.lit (.int .u8 x) : DataW Unit))) ∈ lst)
    (powIn : ("internal/strconv.uint64pow10", DataW.agg (powL.map fun x => (DataW.lit (.int .u64 x) : DataW Unit))) ∈ lst) {W : World} (h : laidMetH Tryz.prog lst W) : HasTables tbl W := by
  rw [tblEq]
  intro p hp
  rcases List.mem_cons.1 hp with rfl | hp
  · exact hasTable_of_laid h plain asciiIn gAscii gAsciiT uAscii uByte cByte cAscii (by decide) _ (List.mem_singleton_self _)
  · exact hasTable_of_laid h plain powIn gPow gPowT uPow uU64 cU64 cPow (by decide) _ hp
end
end Go.Proofs.YtidfafhlcmfdeaaGreatDoor
