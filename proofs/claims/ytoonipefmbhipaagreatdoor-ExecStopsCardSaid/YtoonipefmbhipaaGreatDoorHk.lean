/-
  Some functions are met by their answers or by their contracts; the tables that the runs read. No condition.
-/
import Derived.Test.YtoonipefmbhipaaGreatDoorTab
import Derived.Test.YtoonipefmbhipaaGreatDoorXMxQ
import Derived.Test.YtoonipefmbhipaaGreatDoorXRowK6
import Derived.Shelf.Strings.IndexAny
import Derived.Shelf.Strings.AsciiSet
import Derived.Shelf.Strings.IndexAnyAll
import Derived.Shelf.Strings.SlTrimAscii
open Go Go.Mx Go.Shelf
namespace Go.Proofs.YtoonipefmbhipaaGreatDoor
set_option maxRecDepth 1000000
noncomputable section
def Tryz.lays160_ren : Go.Shelf.Ren := ⟨fun | 160 => 300 | 232 => 350 | 231 => 349 | 227 => 195 | 234 => 352 | 233 => 351 | 236 => 354 | 235 => 353 | 228 => 196 | 271 => 404 | 151 => 403 | 197 => 143 | 120 => 375 | 152 => 193 | 260 => 192 | 137 => 59 | 119 => 237 | 224 => 99 | 225 => 98 | 217 => 87 | 266 => 129 | n => n, fun | 9 => 9 | 4 => 4 | 3 => 3 | 5 => 5 | 117 => 235 | 116 => 234 | 0 => 0 | 124 => 277 | 21 => 21 | 105 => 185 | 46 => 155 | 119 => 228 | 139 => 276 | 138 => 275 | n => n, fun | 3 => 3 | 4 => 4 | n => n⟩
theorem Tryz.lays160 : Go.Proofs.Lays.n160 Tryz.prog Tryz.lays160_ren := {
  mixed := by kernel_rfl
  f119 := Tryz.func237.trans (congrArg some (by kernel_rfl))
  f120 := Tryz.func375.trans (congrArg some (by kernel_rfl))
  f137 := Tryz.func59.trans (congrArg some (by kernel_rfl))
  f151 := Tryz.func403.trans (congrArg some (by kernel_rfl))
  f152 := Tryz.func193.trans (congrArg some (by kernel_rfl))
  f160 := Tryz.func300.trans (congrArg some (by kernel_rfl))
  f197 := Tryz.func143.trans (congrArg some (by kernel_rfl))
  f217 := Tryz.func87.trans (congrArg some (by kernel_rfl))
  f224 := Tryz.func99.trans (congrArg some (by kernel_rfl))
  f225 := Tryz.func98.trans (congrArg some (by kernel_rfl))
  f227 := Tryz.func195.trans (congrArg some (by kernel_rfl))
  f228 := Tryz.func196.trans (congrArg some (by kernel_rfl))
  f231 := Tryz.func349.trans (congrArg some (by kernel_rfl))
  f232 := Tryz.func350.trans (congrArg some (by kernel_rfl))
  f233 := Tryz.func351.trans (congrArg some (by kernel_rfl))
  f234 := Tryz.func352.trans (congrArg some (by kernel_rfl))
  f235 := Tryz.func353.trans (congrArg some (by kernel_rfl))
  f236 := Tryz.func354.trans (congrArg some (by kernel_rfl))
  f260 := Tryz.func192.trans (congrArg some (by kernel_rfl))
  f266 := Tryz.func129.trans (congrArg some (by kernel_rfl))
  f271 := Tryz.func404.trans (congrArg some (by kernel_rfl))
  t0 := Tryz.underlying0
  a0 := Tryz.isAgg0
  z0 := Tryz.sizeOf0
  v0 := Tryz.zeroValue0
  t3 := Tryz.underlying3
  a3 := Tryz.isAgg3
  z3 := Tryz.sizeOf3
  v3 := Tryz.zeroValue3
  t4 := Tryz.underlying4
  a4 := Tryz.isAgg4
  z4 := Tryz.sizeOf4
  v4 := Tryz.zeroValue4
  t5 := Tryz.underlying5
  a5 := Tryz.isAgg5
  z5 := Tryz.sizeOf5
  v5 := Tryz.zeroValue5
  t9 := Tryz.underlying9
  a9 := Tryz.isAgg9
  z9 := Tryz.sizeOf9
  v9 := Tryz.zeroValue9
  t21 := Tryz.underlying21
  a21 := Tryz.isAgg21
  z21 := Tryz.sizeOf21
  v21 := Tryz.zeroValue21
  t46 := Tryz.underlying155
  a46 := Tryz.isAgg155
  z46 := Tryz.sizeOf155
  v46 := Tryz.zeroValue155
  t105 := Tryz.underlying185
  a105 := Tryz.isAgg185
  z105 := Tryz.sizeOf185
  v105 := Tryz.zeroValue185
  t116 := Tryz.underlying234
  a116 := Tryz.isAgg234
  z116 := Tryz.sizeOf234
  t117 := Tryz.underlying235
  a117 := Tryz.isAgg235
  z117 := Tryz.sizeOf235
  v117 := Tryz.zeroValue235
  t119 := Tryz.underlying228
  a119 := Tryz.isAgg228
  z119 := Tryz.sizeOf228
  t124 := Tryz.underlying277
  a124 := Tryz.isAgg277
  z124 := Tryz.sizeOf277
  v124 := Tryz.zeroValue277
  t138 := Tryz.underlying275
  a138 := Tryz.isAgg275
  z138 := Tryz.sizeOf275
  v138 := Tryz.zeroValue275
  t139 := Tryz.underlying276
  a139 := Tryz.isAgg276
  z139 := Tryz.sizeOf276
  v139 := Tryz.zeroValue276
  g3 := by kernel_rfl
  g4 := by kernel_rfl }
open Go.RowKit in
theorem Tryz.strings_Trim_one (s : ByteArray) (c : UInt8) (hc : c.toNat < 128) (w : World) (hs : s.size ≤ 9223372036854775807) :
    Calls Tryz.prog 300 #[.string s, .string ⟨#[c]⟩] w fun e w' => e = .returned (.string ⟨(Lib.trimB s.data.toList c).toArray⟩) ∧ (w' = w ∨ w' = w.drew) := Any.strings_Trim_one Tryz.lays160 s c hc w hs
def Tryz.lays153_ren : Go.Shelf.Ren := ⟨fun | 153 => 148 | 152 => 193 | 226 => 194 | 227 => 195 | 228 => 196 | 137 => 59 | 119 => 237 | 224 => 99 | 225 => 98 | 217 => 87 | 266 => 129 | n => n, fun | 9 => 9 | 3 => 3 | 4 => 4 | 5 => 5 | 21 => 21 | 117 => 235 | 116 => 234 | 0 => 0 | 46 => 155 | 124 => 277 | n => n, fun | n => n⟩
theorem Tryz.lays153 : Go.Proofs.Lays.n153 Tryz.prog Tryz.lays153_ren := {
  mixed := by kernel_rfl
  f119 := Tryz.func237.trans (congrArg some (by kernel_rfl))
  f137 := Tryz.func59.trans (congrArg some (by kernel_rfl))
  f152 := Tryz.func193.trans (congrArg some (by kernel_rfl))
  f153 := Tryz.func148.trans (congrArg some (by kernel_rfl))
  f217 := Tryz.func87.trans (congrArg some (by kernel_rfl))
  f224 := Tryz.func99.trans (congrArg some (by kernel_rfl))
  f225 := Tryz.func98.trans (congrArg some (by kernel_rfl))
  f226 := Tryz.func194.trans (congrArg some (by kernel_rfl))
  f227 := Tryz.func195.trans (congrArg some (by kernel_rfl))
  f228 := Tryz.func196.trans (congrArg some (by kernel_rfl))
  f266 := Tryz.func129.trans (congrArg some (by kernel_rfl))
  t0 := Tryz.underlying0
  a0 := Tryz.isAgg0
  z0 := Tryz.sizeOf0
  v0 := Tryz.zeroValue0
  t3 := Tryz.underlying3
  a3 := Tryz.isAgg3
  z3 := Tryz.sizeOf3
  v3 := Tryz.zeroValue3
  t4 := Tryz.underlying4
  a4 := Tryz.isAgg4
  z4 := Tryz.sizeOf4
  v4 := Tryz.zeroValue4
  t5 := Tryz.underlying5
  a5 := Tryz.isAgg5
  z5 := Tryz.sizeOf5
  v5 := Tryz.zeroValue5
  t9 := Tryz.underlying9
  a9 := Tryz.isAgg9
  z9 := Tryz.sizeOf9
  v9 := Tryz.zeroValue9
  t21 := Tryz.underlying21
  a21 := Tryz.isAgg21
  z21 := Tryz.sizeOf21
  v21 := Tryz.zeroValue21
  t46 := Tryz.underlying155
  a46 := Tryz.isAgg155
  z46 := Tryz.sizeOf155
  v46 := Tryz.zeroValue155
  t116 := Tryz.underlying234
  a116 := Tryz.isAgg234
  z116 := Tryz.sizeOf234
  t117 := Tryz.underlying235
  a117 := Tryz.isAgg235
  z117 := Tryz.sizeOf235
  v117 := Tryz.zeroValue235
  t124 := Tryz.underlying277
  a124 := Tryz.isAgg277
  z124 := Tryz.sizeOf277
  v124 := Tryz.zeroValue277 }
open Go.RowKit Go.Lib in
theorem Tryz.strings_IndexAny_laid (s chars : ByteArray) (w : World) (hs : s.size < 4294967281) (hcs : chars.size < 4294967281) (has : ∀ (j : Nat) b, s.data.toList[j]? = some b → b.toNat < 128) (hac : ∀ (j : Nat) b, chars.data.toList[j]? = some b → b.toNat < 128) :
    Calls Tryz.prog 148 #[.string s, .string chars] w fun e w' => e = .returned (.int .i64 (Lib.indexAny s.data.toList chars.data.toList)) ∧ Below w.heap.size w w' := Any.strings_IndexAny_laid Tryz.lays153 (by kernel_rfl) s chars w hs hcs has hac
def asciiL : List Int := [0, 0, 0, 0, 0, 0, 0, 0, 0, 1, 1, 1, 1, 1, 0, 0, 0, 0, 0, 0, 0, 0, 0, 0, 0, 0, 0, 0, 0, 0, 0, 0, 1, 0, 0, 0, 0, 0, 0, 0, 0, 0, 0, 0, 0, 0, 0, 0, 0, 0, 0, 0, 0, 0, 0, 0, 0, 0, 0, 0, 0, 0, 0, 0, 0, 0, 0, 0, 0, 0, 0, 0, 0, 0, 0, 0, 0, 0, 0, 0, 0, 0, 0, 0, 0, 0, 0, 0, 0, 0, 0, 0, 0, 0, 0, 0, 0, 0, 0, 0, 0, 0, 0, 0, 0, 0, 0, 0, 0, 0, 0, 0, 0, 0, 0, 0, 0, 0, 0, 0, 0, 0, 0, 0, 0, 0, 0, 0, 0, 0, 0, 0, 0, 0, 0, 0, 0, 0, 0, 0, 0, 0, 0, 0, 0, 0, 0, 0, 0, 0, 0, 0, 0, 0, 0, 0, 0, 0, 0, 0, 0, 0, 0, 0, 0, 0, 0, 0, 0, 0, 0, 0, 0, 0, 0, 0, 0, 0, 0, 0, 0, 0, 0, 0, 0, 0, 0, 0, 0, 0, 0, 0, 0, 0, 0, 0, 0, 0, 0, 0, 0, 0, 0, 0, 0, 0, 0, 0, 0, 0, 0, 0, 0, 0, 0, 0, 0, 0, 0, 0, 0, 0, 0, 0, 0, 0, 0, 0, 0, 0, 0, 0, 0, 0, 0, 0, 0, 0, 0, 0, 0, 0, 0, 0, 0, 0, 0, 0, 0, 0, 0, 0, 0, 0, 0, 0]
def powL : List Int := [1, 10, 100, 1000, 10000, 100000, 1000000, 10000000, 100000000, 1000000000, 10000000000, 100000000000, 1000000000000, 10000000000000, 100000000000000, 1000000000000000, 10000000000000000, 100000000000000000, 1000000000000000000, 10000000000000000000]
def tbl : List (Nat × V) := [(1, (.cons (.i .u8 0) (.cons (.i .u8 0) (.cons (.i .u8 0) (.cons (.i .u8 0) (.cons (.i .u8 0) (.cons (.i .u8 0) (.cons (.i .u8 0) (.cons (.i .u8 0) (.cons (.i .u8 0) (.cons (.i .u8 1) (.cons (.i .u8 1) (.cons (.i .u8 1) (.cons (.i .u8 1) (.cons (.i .u8 1) (.cons (.i .u8 0) (.cons (.i .u8 0) (.cons (.i .u8 0) (.cons (.i .u8 0) (.cons (.i .u8 0) (.cons (.i .u8 0) (.cons (.i .u8 0) (.cons (.i .u8 0) (.cons (.i .u8 0) (.cons (.i .u8 0) (.cons (.i .u8 0) (.cons (.i .u8 0) (.cons (.i .u8 0) (.cons (.i .u8 0) (.cons (.i .u8 0) (.cons (.i .u8 0) (.cons (.i .u8 0) (.cons (.i .u8 0) (.cons (.i .u8 1) (.cons (.i .u8 0) (.cons (.i .u8 0) (.cons (.i .u8 0) (.cons (.i .u8 0) (.cons (.i .u8 0) (.cons (.i .u8 0) (.cons (.i .u8 0) (.cons (.i .u8 0) (.cons (.i .u8 0) (.cons (.i .u8 0) (.cons (.i .u8 0) (.cons (.i .u8 0) (.cons (.i .u8 0) (.cons (.i .u8 0) (.cons (.i .u8 0) (.cons (.i .u8 0) (.cons (.i .u8 0) (.cons (.i .u8 0) (.cons (.i .u8 0) (.cons (.i .u8 0) (.cons (.i .u8 0) (.cons (.i .u8 0) (.cons (.i .u8 0) (.cons (.i .u8 0) (.cons (.i .u8 0) (.cons (.i .u8 0) (.cons (.i .u8 0) (.cons (.i .u8 0) (.cons (.i .u8 0) (.cons (.i .u8 0) (.cons (.i .u8 0) (.cons (.i .u8 0) (.cons (.i .u8 0) (.cons (.i .u8 0) (.cons (.i .u8 0) (.cons (.i .u8 0) (.cons (.i .u8 0) (.cons (.i .u8 0) (.cons (.i .u8 0) (.cons (.i .u8 0) (.cons (.i .u8 0) (.cons (.i .u8 0) (.cons (.i .u8 0) (.cons (.i .u8 0) (.cons (.i .u8 0) (.cons (.i .u8 0) (.cons (.i .u8 0) (.cons (.i .u8 0) (.cons (.i .u8 0) (.cons (.i .u8 0) (.cons (.i .u8 0) (.cons (.i .u8 0) (.cons (.i .u8 0) (.cons (.i .u8 0) (.cons (.i .u8 0) (.cons (.i .u8 0) (.cons (.i .u8 0) (.cons (.i .u8 0) (.cons (.i .u8 0) (.cons (.i .u8 0) (.cons (.i .u8 0) (.cons (.i .u8 0) (.cons (.i .u8 0) (.cons (.i .u8 0) (.cons (.i .u8 0) (.cons (.i .u8 0) (.cons (.i .u8 0) (.cons (.i .u8 0) (.cons (.i .u8 0) (.cons (.i .u8 0) (.cons (.i .u8 0) (.cons (.i .u8 0) (.cons (.i .u8 0) (.cons (.i .u8 0) (.cons (.i .u8 0) (.cons (.i .u8 0) (.cons (.i .u8 0) (.cons (.i .u8 0) (.cons (.i .u8 0) (.cons (.i .u8 0) (.cons (.i .u8 0) (.cons (.i .u8 0) (.cons (.i .u8 0) (.cons (.i .u8 0) (.cons (.i .u8 0) (.cons (.i .u8 0) (.cons (.i .u8 0) (.cons (.i .u8 0) (.cons (.i .u8 0) (.cons (.i .u8 0) (.cons (.i .u8 0) (.cons (.i .u8 0) (.cons (.i .u8 0) (.cons (.i .u8 0) (.cons (.i .u8 0) (.cons (.i .u8 0) (.cons (.i .u8 0) (.cons (.i .u8 0) (.cons (.i .u8 0) (.cons (.i .u8 0) (.cons (.i .u8 0) (.cons (.i .u8 0) (.cons (.i .u8 0) (.cons (.i .u8 0) (.cons (.i .u8 0) (.cons (.i .u8 0) (.cons (.i .u8 0) (.cons (.i .u8 0) (.cons (.i .u8 0) (.cons (.i .u8 0) (.cons (.i .u8 0) (.cons (.i .u8 0) (.cons (.i .u8 0) (.cons (.i .u8 0) (.cons (.i .u8 0) (.cons (.i .u8 0) (.cons (.i .u8 0) (.cons (.i .u8 0) (.cons (.i .u8 0) (.cons (.i .u8 0) (.cons (.i .u8 0) (.cons (.i .u8 0) (.cons (.i .u8 0) (.cons (.i .u8 0) (.cons (.i .u8 0) (.cons (.i .u8 0) (.cons (.i .u8 0) (.cons (.i .u8 0) (.cons (.i .u8 0) (.cons (.i .u8 0) (.cons (.i .u8 0) (.cons (.i .u8 0) (.cons (.i .u8 0) (.cons (.i .u8 0) (.cons (.i .u8 0) (.cons (.i .u8 0) (.cons (.i .u8 0) (.cons (.i .u8 0) (.cons (.i .u8 0) (.cons (.i .u8 0) (.cons (.i .u8 0) (.cons (.i .u8 0) (.cons (.i .u8 0) (.cons (.i .u8 0) (.cons (.i .u8 0) (.cons (.i .u8 0) (.cons (.i .u8 0) (.cons (.i .u8 0) (.cons (.i .u8 0) (.cons (.i .u8 0) (.cons (.i .u8 0) (.cons (.i .u8 0) (.cons (.i .u8 0) (.cons (.i .u8 0) (.cons (.i .u8 0) (.cons (.i .u8 0) (.cons (.i .u8 0) (.cons (.i .u8 0) (.cons (.i .u8 0) (.cons (.i .u8 0) (.cons (.i .u8 0) (.cons (.i .u8 0) (.cons (.i .u8 0) (.cons (.i .u8 0) (.cons (.i .u8 0) (.cons (.i .u8 0) (.cons (.i .u8 0) (.cons (.i .u8 0) (.cons (.i .u8 0) (.cons (.i .u8 0) (.cons (.i .u8 0) (.cons (.i .u8 0) (.cons (.i .u8 0) (.cons (.i .u8 0) (.cons (.i .u8 0) (.cons (.i .u8 0) (.cons (.i .u8 0) (.cons (.i .u8 0) (.cons (.i .u8 0) (.cons (.i .u8 0) (.cons (.i .u8 0) (.cons (.i .u8 0) (.cons (.i .u8 0) (.cons (.i .u8 0) (.cons (.i .u8 0) (.cons (.i .u8 0) (.cons (.i .u8 0) (.cons (.i .u8 0) (.cons (.i .u8 0) (.cons (.i .u8 0) (.cons (.i .u8 0) (.cons (.i .u8 0) (.cons (.i .u8 0) (.cons (.i .u8 0) (.cons (.i .u8 0) (.cons (.i .u8 0) (.cons (.i .u8 0) (.cons (.i .u8 0) (.cons (.i .u8 0) (.cons (.i .u8 0) (.cons (.i .u8 0) (.cons (.i .u8 0) (.cons (.i .u8 0) (.cons (.i .u8 0) (.cons (.i .u8 0) (.cons (.i .u8 0) (.cons (.i .u8 0) (.cons (.i .u8 0) (.cons (.i .u8 0) (.cons (.i .u8 0) (.cons (.i .u8 0) (.cons (.i .u8 0) (.cons (.i .u8 0) (.cons (.i .u8 0) (.cons (.i .u8 0) (.cons (.i .u8 0) (.cons (.i .u8 0) (.cons (.i .u8 0) (.cons (.i .u8 0) (.cons (.i .u8 0) (.cons (.i .u8 0) (.cons (.i .u8 0) (.cons (.i .u8 0) .nil))))))))))))))))))))))))))))))))))))))))))))))))))))))))))))))))))))))))))))))))))))))))))))))))))))))))))))))))))))))))))))))))))))))))))))))))))))))))))))))))))))))))))))))))))))))))))))))))))))))))))))))))))))))))))))))))))))))))))))))))))))))))))))))))), (5, (.cons (.i .u64 1) (.cons (.i .u64 10) (.cons (.i .u64 100) (.cons (.i .u64 1000) (.cons (.i .u64 10000) (.cons (.i .u64 100000) (.cons (.i .u64 1000000) (.cons (.i .u64 10000000) (.cons (.i .u64 100000000) (.cons (.i .u64 1000000000) (.cons (.i .u64 10000000000) (.cons (.i .u64 100000000000) (.cons (.i .u64 1000000000000) (.cons (.i .u64 10000000000000) (.cons (.i .u64 100000000000000) (.cons (.i .u64 1000000000000000) (.cons (.i .u64 10000000000000000) (.cons (.i .u64 100000000000000000) (.cons (.i .u64 1000000000000000000) (.cons (.i .u64 10000000000000000000) .nil)))))))))))))))))))))]
theorem tblIn : inT 12 tbl = true := by kernel_rfl
theorem tblEq : tbl = [(1, tabV .u8 asciiL), (5, tabV .u64 powL)] := by kernel_rfl
def hk0 : List (Nat × HookF) := [(129, hkO (hkOr hkIndexByte hkIndexByteW) hkIndexByteO), (144, hkOr hkCount hkCountW), (145, hkNoEscape), (146, hkO (hkMakeNoZero 5) (hkMakeNoZeroO 5)), (53, hkMapClone)]
theorem h129a : HookOk Tryz.prog 12 129 hkIndexByte := hkIndexByte_ok (fn := Tryz.f129) (by kernel_rfl) (by kernel_rfl) (by kernel_rfl) (by kernel_rfl) (by kernel_rfl)
theorem h129b : HookOk Tryz.prog 12 129 hkIndexByteW := hkIndexByteW_ok (fn := Tryz.f129) (by kernel_rfl) (by kernel_rfl) (by kernel_rfl) (by kernel_rfl) (by kernel_rfl)
theorem h129o : HookOk Tryz.prog 12 129 hkIndexByteO := hkIndexByteO_ok (fn := Tryz.f129) (by kernel_rfl) (by kernel_rfl) (by kernel_rfl) (by kernel_rfl) (by kernel_rfl)
theorem h129ab : HookOk Tryz.prog 12 129 (hkOr hkIndexByte hkIndexByteW) := hkOr_ok h129a h129b
theorem h129 : HookOk Tryz.prog 12 129 (hkO (hkOr hkIndexByte hkIndexByteW) hkIndexByteO) := hkO_ok h129ab h129o
theorem h144a : HookOk Tryz.prog 12 144 hkCount := hkCount_ok (fn := Tryz.f144) (by kernel_rfl) (by kernel_rfl) (by kernel_rfl) (by kernel_rfl) (by kernel_rfl)
theorem h144b : HookOk Tryz.prog 12 144 hkCountW := hkCountW_ok (fn := Tryz.f144) (by kernel_rfl) (by kernel_rfl) (by kernel_rfl) (by kernel_rfl) (by kernel_rfl)
theorem h144 : HookOk Tryz.prog 12 144 (hkOr hkCount hkCountW) := hkOr_ok h144a h144b
theorem h145 : HookOk Tryz.prog 12 145 hkNoEscape := hkNoEscape_ok (fn := Tryz.f145) (by kernel_rfl) (by kernel_rfl) (by kernel_rfl) (by kernel_rfl) (by kernel_rfl)
theorem h146a : HookOk Tryz.prog 12 146 (hkMakeNoZero 5) := hkMakeNoZero_ok (fn := Tryz.f146) (ps := Tryz.f146.params) (t := Tryz.f146.resultTypes[0]!) (by kernel_rfl) (by kernel_rfl) (by kernel_rfl) (by kernel_rfl) (by kernel_rfl) (by kernel_rfl)
theorem h146b : HookOk Tryz.prog 12 146 (hkMakeNoZeroO 5) := hkMakeNoZeroO_ok (fn := Tryz.f146) (ps := Tryz.f146.params) (t := Tryz.f146.resultTypes[0]!) (by kernel_rfl) (by kernel_rfl) (by kernel_rfl) (by kernel_rfl) (by kernel_rfl) (by kernel_rfl)
theorem h146 : HookOk Tryz.prog 12 146 (hkO (hkMakeNoZero 5) (hkMakeNoZeroO 5)) := hkO_ok h146a h146b
theorem h53 : HookOk Tryz.prog 12 53 hkMapClone := hkMapClone_ok (fn := Tryz.f53) (by kernel_rfl) (by kernel_rfl) (by kernel_rfl) (by kernel_rfl) (by kernel_rfl)
theorem hk0ok : HKok Tryz.prog 12 (hkL hk0) := hkL_ok (by
  intro p hp
  simp only [hk0, List.mem_cons, List.not_mem_nil, or_false] at hp
  rcases hp with rfl | rfl | rfl | rfl | rfl
  · exact h129
  · exact h144
  · exact h145
  · exact h146
  · exact h53)
theorem single_run : allN 256 (fun n => run Tryz.prog 12 (hkL hk0) 100000 243 (.cons (.i .u8 (Int.ofNat n)) .nil) .leaf 12 (fun v _ _ => isSingle4 n v) (fun _ _ _ => false)) = true := by kernel_rfl
theorem h243 : HookOk Tryz.prog 12 243 hkSingle2 := hkSingle2_ok follows nameOK hk0ok single_run
theorem iaBody : ∃ c, Tryz.f148.body = some c := ⟨_, rfl⟩
theorem h148 : HookOk Tryz.prog 12 148 hkIndexAny7 := by
  obtain ⟨c, hb⟩ := iaBody
  exact hkIndexAny7_ok nameOK (fn := Tryz.f148) (by kernel_rfl) hb fun s chars w h1 h2 h3 h4 => Tryz.strings_IndexAny_laid s chars w h1 h2 h3 h4
def hk1 : List (Nat × HookF) := [(129, hkO (hkOr hkIndexByte hkIndexByteW) hkIndexByteO), (144, hkOr hkCount hkCountW), (145, hkNoEscape), (146, hkO (hkMakeNoZero 5) (hkMakeNoZeroO 5)), (53, hkMapClone), (243, hkSingle2), (148, hkIndexAny7)]
theorem hk1ok : HKok Tryz.prog 12 (hkL hk1) := hkL_ok (by
  intro p hp
  simp only [hk1, List.mem_cons, List.not_mem_nil, or_false] at hp
  rcases hp with rfl | rfl | rfl | rfl | rfl | rfl | rfl
  · exact h129
  · exact h144
  · exact h145
  · exact h146
  · exact h53
  · exact h243
  · exact h148)
theorem alive4 (τ : Nat → Nat) : mkTK τ tbl .leaf (fun h0 => run Tryz.prog 12 (hkL hk1) 100000 4 .nil h0 12 (fun v _ _ => isB true v) (fun _ _ _ => false)) = true := by kernel_rfl
def hkB : List (Nat × HookF) := [(129, hkO (hkOr hkIndexByte hkIndexByteW) hkIndexByteO), (144, hkOr hkCount hkCountW), (145, hkNoEscape), (146, hkO (hkMakeNoZero 5) (hkMakeNoZeroO 5)), (53, hkMapClone), (243, hkSingle2), (148, hkIndexAny7), (4, memo tbl true)]
theorem hkBok : HKok Tryz.prog 12 (hkL hkB) := hkL_ok (by
  intro p hp
  simp only [hkB, List.mem_cons, List.not_mem_nil, or_false] at hp
  rcases hp with rfl | rfl | rfl | rfl | rfl | rfl | rfl | rfl
  · exact h129
  · exact h144
  · exact h145
  · exact h146
  · exact h53
  · exact h243
  · exact h148
  · exact memo_ok follows nameOK hk1ok tblIn alive4)
theorem gAscii : Tryz.prog.globalNamed "strings.asciiSpace" = some 1 := by kernel_rfl
theorem gAsciiT : (Tryz.prog.globals[1]?).map (·.type) = some 228 := by kernel_rfl
theorem uAscii : Tryz.prog.underlying 228 = some (.array 256 5) := by kernel_rfl
theorem uByte : Tryz.prog.underlying 5 = some (.int .u8) := by kernel_rfl
theorem cByte : Tryz.prog.cellsOf 5 = 1 := by kernel_rfl
theorem cAscii : Tryz.prog.cellsOf 228 = 256 := by kernel_rfl
theorem gPow : Tryz.prog.globalNamed "internal/strconv.uint64pow10" = some 5 := by kernel_rfl
theorem gPowT : (Tryz.prog.globals[5]?).map (·.type) = some 408 := by kernel_rfl
theorem uPow : Tryz.prog.underlying 408 = some (.array 20 244) := by kernel_rfl
theorem uU64 : Tryz.prog.underlying 244 = some (.int .u64) := by kernel_rfl
theorem cU64 : Tryz.prog.cellsOf 244 = 1 := by kernel_rfl
theorem cPow : Tryz.prog.cellsOf 408 = 20 := by kernel_rfl
theorem tables {lst : List (String × DataW Unit)} (plain : (lst.all fun x => x.2.handleName?.isNone) = true) (asciiIn : ("strings.asciiSpace", DataW.agg (asciiL.map fun x => (DataW.lit (.int .u8 x) : DataW Unit))) ∈ lst)
    (powIn : ("internal/strconv.uint64pow10", DataW.agg (powL.map fun x => (DataW.lit (.int .u64 x) : DataW Unit))) ∈ lst) {W : World} (h : laidMetH Tryz.prog lst W) : HasTables tbl W := by
  rw [tblEq]
  intro p hp
  rcases List.mem_cons.1 hp with rfl | hp
  · exact hasTable_of_laid h plain asciiIn gAscii gAsciiT uAscii uByte cByte cAscii (by decide) _ (List.mem_singleton_self _)
  · exact hasTable_of_laid h plain powIn gPow gPowT uPow uU64 cU64 cPow (by decide) _ hp
end
end Go.Proofs.YtoonipefmbhipaaGreatDoor
