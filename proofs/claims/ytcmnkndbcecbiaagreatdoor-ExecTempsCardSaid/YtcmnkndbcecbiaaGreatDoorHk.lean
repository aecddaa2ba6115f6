/-
  Some functions are met by their answers or by their contracts; the tables that the runs read. No condition.
-/
import Derived.Test.YtcmnkndbcecbiaaGreatDoorTab
import Derived.Test.YtcmnkndbcecbiaaGreatDoorXMxAK
import Derived.Test.YtcmnkndbcecbiaaGreatDoorXRowK6
import Derived.Shelf.Strings.IndexAny
import Derived.Shelf.Strings.AsciiSet
import Derived.Shelf.Strings.IndexAnyAll
import Derived.Shelf.Strings.Prefix
import Derived.Shelf.Strings.SlTrimAscii
open Go Go.Mx Go.Shelf
namespace Go.Proofs.YtcmnkndbcecbiaaGreatDoor
set_option maxRecDepth 1000000
noncomputable section
def Tryz.lays160_ren : Go.Shelf.Ren := ⟨fun | 160 => 303 | 232 => 353 | 231 => 352 | 227 => 201 | 234 => 355 | 233 => 354 | 236 => 357 | 235 => 356 | 228 => 202 | 271 => 407 | 151 => 406 | 197 => 151 | 120 => 378 | 152 => 199 | 260 => 198 | 137 => 67 | 119 => 241 | 224 => 107 | 225 => 106 | 217 => 95 | 266 => 137 | n => n, fun | 9 => 9 | 4 => 4 | 3 => 3 | 5 => 5 | 117 => 240 | 116 => 239 | 0 => 0 | 124 => 281 | 21 => 21 | 105 => 193 | 46 => 163 | 119 => 233 | 139 => 280 | 138 => 279 | n => n, fun | 3 => 3 | 4 => 4 | n => n⟩
theorem Tryz.lays160 : Go.Proofs.Lays.n160 Tryz.prog Tryz.lays160_ren := {
  mixed := by kernel_rfl
  f119 := Tryz.func241.trans (congrArg some (by kernel_rfl))
  f120 := Tryz.func378.trans (congrArg some (by kernel_rfl))
  f137 := Tryz.func67.trans (congrArg some (by kernel_rfl))
  f151 := Tryz.func406.trans (congrArg some (by kernel_rfl))
  f152 := Tryz.func199.trans (congrArg some (by kernel_rfl))
  f160 := Tryz.func303.trans (congrArg some (by kernel_rfl))
  f197 := Tryz.func151.trans (congrArg some (by kernel_rfl))
  f217 := Tryz.func95.trans (congrArg some (by kernel_rfl))
  f224 := Tryz.func107.trans (congrArg some (by kernel_rfl))
  f225 := Tryz.func106.trans (congrArg some (by kernel_rfl))
  f227 := Tryz.func201.trans (congrArg some (by kernel_rfl))
  f228 := Tryz.func202.trans (congrArg some (by kernel_rfl))
  f231 := Tryz.func352.trans (congrArg some (by kernel_rfl))
  f232 := Tryz.func353.trans (congrArg some (by kernel_rfl))
  f233 := Tryz.func354.trans (congrArg some (by kernel_rfl))
  f234 := Tryz.func355.trans (congrArg some (by kernel_rfl))
  f235 := Tryz.func356.trans (congrArg some (by kernel_rfl))
  f236 := Tryz.func357.trans (congrArg some (by kernel_rfl))
  f260 := Tryz.func198.trans (congrArg some (by kernel_rfl))
  f266 := Tryz.func137.trans (congrArg some (by kernel_rfl))
  f271 := Tryz.func407.trans (congrArg some (by kernel_rfl))
  t0 := Tryz.underlying0
  a0 := Tryz.isAgg0
  z0 := Tryz.sizeOf0
  v0 := Tryz.zeroValue0
  t3 := Tryz.underlying3
  a3 := Tryz.isAgg3
  z3 := Tryz.sizeOf3
  v3 := Tryz.zeroValue3
  t4 := Tryz.underlying4
  a4 := Tryz.isAgg4
  z4 := Tryz.sizeOf4
  v4 := Tryz.zeroValue4
  t5 := Tryz.underlying5
  a5 := Tryz.isAgg5
  z5 := Tryz.sizeOf5
  v5 := Tryz.zeroValue5
  t9 := Tryz.underlying9
  a9 := Tryz.isAgg9
  z9 := Tryz.sizeOf9
  v9 := Tryz.zeroValue9
  t21 := Tryz.underlying21
  a21 := Tryz.isAgg21
  z21 := Tryz.sizeOf21
  v21 := Tryz.zeroValue21
  t46 := Tryz.underlying163
  a46 := Tryz.isAgg163
  z46 := Tryz.sizeOf163
  v46 := Tryz.zeroValue163
  t105 := Tryz.underlying193
  a105 := Tryz.isAgg193
  z105 := Tryz.sizeOf193
  v105 := Tryz.zeroValue193
  t116 := Tryz.underlying239
  a116 := Tryz.isAgg239
  z116 := Tryz.sizeOf239
  t117 := Tryz.underlying240
  a117 := Tryz.isAgg240
  z117 := Tryz.sizeOf240
  v117 := Tryz.zeroValue240
  t119 := Tryz.underlying233
  a119 := Tryz.isAgg233
  z119 := Tryz.sizeOf233
  t124 := Tryz.underlying281
  a124 := Tryz.isAgg281
  z124 := Tryz.sizeOf281
  v124 := Tryz.zeroValue281
  t138 := Tryz.underlying279
  a138 := Tryz.isAgg279
  z138 := Tryz.sizeOf279
  v138 := Tryz.zeroValue279
  t139 := Tryz.underlying280
  a139 := Tryz.isAgg280
  z139 := Tryz.sizeOf280
  v139 := Tryz.zeroValue280
  g3 := by kernel_rfl
  g4 := by kernel_rfl }
open Go.RowKit in
theorem Tryz.strings_Trim_one (s : ByteArray) (c : UInt8) (hc : c.toNat < 128) (w : World) (hs : s.size ≤ 9223372036854775807) :
    Calls Tryz.prog 303 #[.string s, .string ⟨#[c]⟩] w fun e w' => e = .returned (.string ⟨(Lib.trimB s.data.toList c).toArray⟩) ∧ (w' = w ∨ w' = w.drew) := Any.strings_Trim_one Tryz.lays160 s c hc w hs
def Tryz.lays99_ren : Go.Shelf.Ren := ⟨fun | 99 => 58 | 206 => 82 | n => n, fun | 9 => 9 | 4 => 4 | 3 => 3 | n => n, fun | n => n⟩
theorem Tryz.lays99 : Go.Proofs.Lays.n99 Tryz.prog Tryz.lays99_ren := {
  mixed := by kernel_rfl
  f99 := Tryz.func58.trans (congrArg some (by kernel_rfl))
  f206 := Tryz.func82.trans (congrArg some (by kernel_rfl))
  t3 := Tryz.underlying3
  a3 := Tryz.isAgg3
  z3 := Tryz.sizeOf3
  v3 := Tryz.zeroValue3
  t4 := Tryz.underlying4
  a4 := Tryz.isAgg4
  z4 := Tryz.sizeOf4
  v4 := Tryz.zeroValue4
  t9 := Tryz.underlying9
  a9 := Tryz.isAgg9
  z9 := Tryz.sizeOf9
  v9 := Tryz.zeroValue9 }
open Go.RowKit Go.Lib in
theorem Tryz.strings_HasPrefix (s p : ByteArray) (w : World) :
    Calls Tryz.prog 58 #[.string s, .string p] w fun e w' => e = .returned (.bool (Lib.hasPrefix s.data.toList p.data.toList)) ∧ w' = w := Any.strings_HasPrefix Tryz.lays99 s p w
def Tryz.lays153_ren : Go.Shelf.Ren := ⟨fun | 153 => 156 | 152 => 199 | 226 => 200 | 227 => 201 | 228 => 202 | 137 => 67 | 119 => 241 | 224 => 107 | 225 => 106 | 217 => 95 | 266 => 137 | n => n, fun | 9 => 9 | 3 => 3 | 4 => 4 | 5 => 5 | 21 => 21 | 117 => 240 | 116 => 239 | 0 => 0 | 46 => 163 | 124 => 281 | n => n, fun | n => n⟩
theorem Tryz.lays153 : Go.Proofs.Lays.n153 Tryz.prog Tryz.lays153_ren := {
  mixed := by kernel_rfl
  f119 := Tryz.func241.trans (congrArg some (by kernel_rfl))
  f137 := Tryz.func67.trans (congrArg some (by kernel_rfl))
  f152 := Tryz.func199.trans (congrArg some (by kernel_rfl))
  f153 := Tryz.func156.trans (congrArg some (by kernel_rfl))
  f217 := Tryz.func95.trans (congrArg some (by kernel_rfl))
  f224 := Tryz.func107.trans (congrArg some (by kernel_rfl))
  f225 := Tryz.func106.trans (congrArg some (by kernel_rfl))
  f226 := Tryz.func200.trans (congrArg some (by kernel_rfl))
  f227 := Tryz.func201.trans (congrArg some (by kernel_rfl))
  f228 := Tryz.func202.trans (congrArg some (by kernel_rfl))
  f266 := Tryz.func137.trans (congrArg some (by kernel_rfl))
  t0 := Tryz.underlying0
  a0 := Tryz.isAgg0
  z0 := Tryz.sizeOf0
  v0 := Tryz.zeroValue0
  t3 := Tryz.underlying3
  a3 := Tryz.isAgg3
  z3 := Tryz.sizeOf3
  v3 := Tryz.zeroValue3
  t4 := Tryz.underlying4
  a4 := Tryz.isAgg4
  z4 := Tryz.sizeOf4
  v4 := Tryz.zeroValue4
  t5 := Tryz.underlying5
  a5 := Tryz.isAgg5
  z5 := Tryz.sizeOf5
  v5 := Tryz.zeroValue5
  t9 := Tryz.underlying9
  a9 := Tryz.isAgg9
  z9 := Tryz.sizeOf9
  v9 := Tryz.zeroValue9
  t21 := Tryz.underlying21
  a21 := Tryz.isAgg21
  z21 := Tryz.sizeOf21
  v21 := Tryz.zeroValue21
  t46 := Tryz.underlying163
  a46 := Tryz.isAgg163
  z46 := Tryz.sizeOf163
  v46 := Tryz.zeroValue163
  t116 := Tryz.underlying239
  a116 := Tryz.isAgg239
  z116 := Tryz.sizeOf239
  t117 := Tryz.underlying240
  a117 := Tryz.isAgg240
  z117 := Tryz.sizeOf240
  v117 := Tryz.zeroValue240
  t124 := Tryz.underlying281
  a124 := Tryz.isAgg281
  z124 := Tryz.sizeOf281
  v124 := Tryz.zeroValue281 }
open Go.RowKit Go.Lib in
theorem Tryz.strings_IndexAny_laid (s chars : ByteArray) (w : World) (hs : s.size < 4294967281) (hcs : chars.size < 4294967281) (has : ∀ (j : Nat) b, s.data.toList[j]? = some b → b.toNat < 128) (hac : ∀ (j : Nat) b, chars.data.toList[j]? = some b → b.toNat < 128) :
    Calls Tryz.prog 156 #[.string s, .string chars] w fun e w' => e = .returned (.int .i64 (Lib.indexAny s.data.toList chars.data.toList)) ∧ Below w.heap.size w w' := Any.strings_IndexAny_laid Tryz.lays153 (by kernel_rfl) s chars w hs hcs has hac
def asciiL : List Int := [0, 0, 0, 0, 0, 0, 0, 0, 0, 1, 1, 1, 1, 1, 0, 0, 0, 0, 0, 0, 0, 0, 0, 0, 0, 0, 0, 0, 0, 0, 0, 0, 1, 0, 0, 0, 0, 0, 0, 0, 0, 0, 0, 0, 0, 0, 0, 0, 0, 0, 0, 0, 0, 0, 0, 0, 0, 0, 0, 0, 0, 0, 0, 0, 0, 0, 0, 0, 0, 0, 0, 0, 0, 0, 0, 0, 0, 0, 0, 0, 0, 0, 0, 0, 0, 0, 0, 0, 0, 0, 0, 0, 0, 0, 0, 0, 0, 0, 0, 0, 0, 0, 0, 0, 0, 0, 0, 0, 0, 0, 0, 0, 0, 0, 0, 0, 0, 0, 0, 0, 0, 0, 0, 0, 0, 0, 0, 0, 0, 0, 0, 0, 0, 0, 0, 0, 0, 0, 0, 0, 0, 0, 0, 0, 0, 0, 0, 0, 0, 0, 0, 0, 0, 0, 0, 0, 0, 0, 0, 0, 0, 0, 0, 0, 0, 0, 0, 0, 0, 0, 0, 0, 0, 0, 0, 0, 0, 0, 0, 0, 0, 0, 0, 0, 0, 0, 0, 0, 0, 0, 0, 0, 0, 0, 0, 0, 0, 0, 0, 0, 0, 0, 0, 0, 0, 0, 0, 0, 0, 0, 0, 0, 0, 0, 0, 0, 0, 0, 0, 0, 0, 0, 0, 0, 0, 0, 0, 0, 0, 0, 0, 0, 0, 0, 0, 0, 0, 0, 0, 0, 0, 0, 0, 0, 0, 0, 0, 0, 0, 0, 0, 0, 0, 0, 0, 0]
def powL : List Int := [1, 10, 100, 1000, 10000, 100000, 1000000, 10000000, 100000000, 1000000000, 10000000000, 100000000000, 1000000000000, 10000000000000, 100000000000000, 1000000000000000, 10000000000000000, 100000000000000000, 1000000000000000000, 10000000000000000000]
def tbl : List (Nat × V) := [(1, (.cons (.i .u8 0) (.cons (.i .u8 0) (.cons (.i .u8 0) (.cons (.i .u8 0) (.cons (.i .u8 0) (.cons (.i .u8 0) (.cons (.i .u8 0) (.cons (.i .u8 0) (.cons (.i .u8 0) (.cons (.i .u8 1) (.cons (.i .u8 1) (.cons (.i .u8 1) (.cons (.i .u8 1) (.cons (.i .u8 1) (.cons (.i .u8 0) (.cons (.i .u8 0) (.cons (.i .u8 0) (.cons (.i .u8 0) (.cons (.i .u8 0) (.cons (.i .u8 0) (.cons (.i .u8 0) (.cons (.i .u8 0) (.cons (.i .u8 0) (.cons (.i .u8 0) (.cons (.i .u8 0) (.cons (.i .u8 0) (.cons (.i .u8 0) (.cons (.i .u8 0) (.cons (.i .u8 0) (.cons (.i .u8 0) (.cons (.i .u8 0) (.cons (.i .u8 0) (.cons (.i .u8 1) (.cons (.i .u8 0) (.cons (.i .u8 0) (.cons (.i .u8 0) (.cons (.i .u8 0) (.cons (.i .u8 0) (.cons (.i .u8 0) (.cons (.i .u8 0) (.cons (.i .u8 0) (.cons (.i .u8 0) (.cons (.i .u8 0) (.cons (.i .u8 0) (.cons (.i .u8 0) (.cons (.i .u8 0) (.cons (.i .u8 0) (.cons (.i .u8 0) (.cons (.i .u8 0) (.cons (.i .u8 0) (.cons (.i .u8 0) (.cons (.i .u8 0) (.cons (.i .u8 0) (.cons (.i .u8 0) (.cons (.i .u8 0) (.cons (.i .u8 0) (.cons (.i .u8 0) (.cons (.i .u8 0) (.cons (.i .u8 0) (.cons (.i .u8 0) (.cons (.i .u8 0) (.cons (.i .u8 0) (.cons (.i .u8 0) (.cons (.i .u8 0) (.cons (.i .u8 0) (.cons (.i .u8 0) (.cons (.i .u8 0) (.cons (.i .u8 0) (.cons (.i .u8 0) (.cons (.i .u8 0) (.cons (.i .u8 0) (.cons (.i .u8 0) (.cons (.i .u8 0) (.cons (.i .u8 0) (.cons (.i .u8 0) (.cons (.i .u8 0) (.cons (.i .u8 0) (.cons (.i .u8 0) (.cons (.i .u8 0) (.cons (.i .u8 0) (.cons (.i .u8 0) (.cons (.i .u8 0) (.cons (.i .u8 0) (.cons (.i .u8 0) (.cons (.i .u8 0) (.cons (.i .u8 0) (.cons (.i .u8 0) (.cons (.i .u8 0) (.cons (.i .u8 0) (.cons (.i .u8 0) (.cons (.i .u8 0) (.cons (.i .u8 0) (.cons (.i .u8 0) (.cons (.i .u8 0) (.cons (.i .u8 0) (.cons (.i .u8 0) (.cons (.i .u8 0) (.cons (.i .u8 0) (.cons (.i .u8 0) (.cons (.i .u8 0) (.cons (.i .u8 0) (.cons (.i .u8 0) (.cons (.i .u8 0) (.cons (.i .u8 0) (.cons (.i .u8 0) (.cons (.i .u8 0) (.cons (.i .u8 0) (.cons (.i .u8 0) (.cons (.i .u8 0) (.cons (.i .u8 0) (.cons (.i .u8 0) (.cons (.i .u8 0) (.cons (.i .u8 0) (.cons (.i .u8 0) (.cons (.i .u8 0) (.cons (.i .u8 0) (.cons (.i .u8 0) (.cons (.i .u8 0) (.cons (.i .u8 0) (.cons (.i .u8 0) (.cons (.i .u8 0) (.cons (.i .u8 0) (.cons (.i .u8 0) (.cons (.i .u8 0) (.cons (.i .u8 0) (.cons (.i .u8 0) (.cons (.i .u8 0) (.cons (.i .u8 0) (.cons (.i .u8 0) (.cons (.i .u8 0) (.cons (.i .u8 0) (.cons (.i .u8 0) (.cons (.i .u8 0) (.cons (.i .u8 0) (.cons (.i .u8 0) (.cons (.i .u8 0) (.cons (.i .u8 0) (.cons (.i .u8 0) (.cons (.i .u8 0) (.cons (.i .u8 0) (.cons (.i .u8 0) (.cons (.i .u8 0) (.cons (.i .u8 0) (.cons (.i .u8 0) (.cons (.i .u8 0) (.cons (.i .u8 0) (.cons (.i .u8 0) (.cons (.i .u8 0) (.cons (.i .u8 0) (.cons (.i .u8 0) (.cons (.i .u8 0) (.cons (.i .u8 0) (.cons (.i .u8 0) (.cons (.i .u8 0) (.cons (.i .u8 0) (.cons (.i .u8 0) (.cons (.i .u8 0) (.cons (.i .u8 0) (.cons (.i .u8 0) (.cons (.i .u8 0) (.cons (.i .u8 0) (.cons (.i .u8 0) (.cons (.i .u8 0) (.cons (.i .u8 0) (.cons (.i .u8 0) (.cons (.i .u8 0) (.cons (.i .u8 0) (.cons (.i .u8 0) (.cons (.i .u8 0) (.cons (.i .u8 0) (.cons (.i .u8 0) (.cons (.i .u8 0) (.cons (.i .u8 0) (.cons (.i .u8 0) (.cons (.i .u8 0) (.cons (.i .u8 0) (.cons (.i .u8 0) (.cons (.i .u8 0) (.cons (.i .u8 0) (.cons (.i .u8 0) (.cons (.i .u8 0) (.cons (.i .u8 0) (.cons (.i .u8 0) (.cons (.i .u8 0) (.cons (.i .u8 0) (.cons (.i .u8 0) (.cons (.i .u8 0) (.cons (.i .u8 0) (.cons (.i .u8 0) (.cons (.i .u8 0) (.cons (.i .u8 0) (.cons (.i .u8 0) (.cons (.i .u8 0) (.cons (.i .u8 0) (.cons (.i .u8 0) (.cons (.i .u8 0) (.cons (.i .u8 0) (.cons (.i .u8 0) (.cons (.i .u8 0) (.cons (.i .u8 0) (.cons (.i .u8 0) (.cons (.i .u8 0) (.cons (.i .u8 0) (.cons (.i .u8 0) (.cons (.i .u8 0) (.cons (.i .u8 0) (.cons (.i .u8 0) (.cons (.i .u8 0) (.cons (.i .u8 0) (.cons (.i .u8 0) (.cons (.i .u8 0) (.cons (.i .u8 0) (.cons (.i .u8 0) (.cons (.i .u8 0) (.cons (.i .u8 0) (.cons (.i .u8 0) (.cons (.i .u8 0) (.cons (.i .u8 0) (.cons (.i .u8 0) (.cons (.i .u8 0) (.cons (.i .u8 0) (.cons (.i .u8 0) (.cons (.i .u8 0) (.cons (.i .u8 0) (.cons (.i .u8 0) (.cons (.i .u8 0) (.cons (.i .u8 0) (.cons (.i .u8 0) (.cons (.i .u8 0) (.cons (.i .u8 0) (.cons (.i .u8 0) (.cons (.i .u8 0) (.cons (.i .u8 0) (.cons (.i .u8 0) (.cons (.i .u8 0) (.cons (.i .u8 0) (.cons (.i .u8 0) (.cons (.i .u8 0) (.cons (.i .u8 0) (.cons (.i .u8 0) (.cons (.i .u8 0) (.cons (.i .u8 0) (.cons (.i .u8 0) (.cons (.i .u8 0) (.cons (.i .u8 0) (.cons (.i .u8 0) (.cons (.i .u8 0) (.cons (.i .u8 0) (.cons (.i .u8 0) (.cons (.i .u8 0) (.cons (.i .u8 0) (.cons (.i .u8 0) (.cons (.i .u8 0) (.cons (.i .u8 0) (.cons (.i .u8 0) (.cons (.i .u8 0) .nil))))))))))))))))))))))))))))))))))))))))))))))))))))))))))))))))))))))))))))))))))))))))))))))))))))))))))))))))))))))))))))))))))))))))))))))))))))))))))))))))))))))))))))))))))))))))))))))))))))))))))))))))))))))))))))))))))))))))))))))))))))))))))))))))), (5, (.cons (.i .u64 1) (.cons (.i .u64 10) (.cons (.i .u64 100) (.cons (.i .u64 1000) (.cons (.i .u64 10000) (.cons (.i .u64 100000) (.cons (.i .u64 1000000) (.cons (.i .u64 10000000) (.cons (.i .u64 100000000) (.cons (.i .u64 1000000000) (.cons (.i .u64 10000000000) (.cons (.i .u64 100000000000) (.cons (.i .u64 1000000000000) (.cons (.i .u64 10000000000000) (.cons (.i .u64 100000000000000) (.cons (.i .u64 1000000000000000) (.cons (.i .u64 10000000000000000) (.cons (.i .u64 100000000000000000) (.cons (.i .u64 1000000000000000000) (.cons (.i .u64 10000000000000000000) .nil)))))))))))))))))))))]
theorem tblIn : inT 12 tbl = true := by kernel_rfl
theorem tblEq : tbl = [(1, tabV .u8 asciiL), (5, tabV .u64 powL)] := by kernel_rfl
def hk0 : List (Nat × HookF) := [(137, hkO (hkOr hkIndexByte hkIndexByteW) hkIndexByteP), (152, hkOr hkCount hkCountW), (153, hkNoEscape), (154, hkO (hkMakeNoZero 5) (hkMakeNoZeroO 5)), (61, hkMapClone)]
theorem h137a : HookOk Tryz.prog 12 137 hkIndexByte := hkIndexByte_ok (fn := Tryz.f137) (by kernel_rfl) (by kernel_rfl) (by kernel_rfl) (by kernel_rfl) (by kernel_rfl)
theorem h137b : HookOk Tryz.prog 12 137 hkIndexByteW := hkIndexByteW_ok (fn := Tryz.f137) (by kernel_rfl) (by kernel_rfl) (by kernel_rfl) (by kernel_rfl) (by kernel_rfl)
theorem h137o : HookOk Tryz.prog 12 137 hkIndexByteP := hkIndexByteP_ok (fn := Tryz.f137) (by kernel_rfl) (by kernel_rfl) (by kernel_rfl) (by kernel_rfl) (by kernel_rfl)
theorem h137ab : HookOk Tryz.prog 12 137 (hkOr hkIndexByte hkIndexByteW) := hkOr_ok h137a h137b
theorem h137 : HookOk Tryz.prog 12 137 (hkO (hkOr hkIndexByte hkIndexByteW) hkIndexByteP) := hkO_ok h137ab h137o
theorem h152a : HookOk Tryz.prog 12 152 hkCount := hkCount_ok (fn := Tryz.f152) (by kernel_rfl) (by kernel_rfl) (by kernel_rfl) (by kernel_rfl) (by kernel_rfl)
theorem h152b : HookOk Tryz.prog 12 152 hkCountW := hkCountW_ok (fn := Tryz.f152) (by kernel_rfl) (by kernel_rfl) (by kernel_rfl) (by kernel_rfl) (by kernel_rfl)
theorem h152 : HookOk Tryz.prog 12 152 (hkOr hkCount hkCountW) := hkOr_ok h152a h152b
theorem h153 : HookOk Tryz.prog 12 153 hkNoEscape := hkNoEscape_ok (fn := Tryz.f153) (by kernel_rfl) (by kernel_rfl) (by kernel_rfl) (by kernel_rfl) (by kernel_rfl)
theorem h154a : HookOk Tryz.prog 12 154 (hkMakeNoZero 5) := hkMakeNoZero_ok (fn := Tryz.f154) (ps := Tryz.f154.params) (t := Tryz.f154.resultTypes[0]!) (by kernel_rfl) (by kernel_rfl) (by kernel_rfl) (by kernel_rfl) (by kernel_rfl) (by kernel_rfl)
theorem h154b : HookOk Tryz.prog 12 154 (hkMakeNoZeroO 5) := hkMakeNoZeroO_ok (fn := Tryz.f154) (ps := Tryz.f154.params) (t := Tryz.f154.resultTypes[0]!) (by kernel_rfl) (by kernel_rfl) (by kernel_rfl) (by kernel_rfl) (by kernel_rfl) (by kernel_rfl)
theorem h154 : HookOk Tryz.prog 12 154 (hkO (hkMakeNoZero 5) (hkMakeNoZeroO 5)) := hkO_ok h154a h154b
theorem h61 : HookOk Tryz.prog 12 61 hkMapClone := hkMapClone_ok (fn := Tryz.f61) (by kernel_rfl) (by kernel_rfl) (by kernel_rfl) (by kernel_rfl) (by kernel_rfl)
theorem hk0ok : HKok Tryz.prog 12 (hkL hk0) := hkL_ok (by
  intro p hp
  simp only [hk0, List.mem_cons, List.not_mem_nil, or_false] at hp
  rcases hp with rfl | rfl | rfl | rfl | rfl
  · exact h137
  · exact h152
  · exact h153
  · exact h154
  · exact h61)
theorem single_run : allN 256 (fun n => run Tryz.prog 12 (hkL hk0) 100000 247 (.cons (.i .u8 (Int.ofNat n)) .nil) .leaf 12 (fun v _ _ => isSingle4 n v) (fun _ _ _ => false)) = true := by kernel_rfl
theorem h247 : HookOk Tryz.prog 12 247 hkSingle2 := hkSingle2_ok follows nameOK hk0ok single_run
theorem iaBody : ∃ c, Tryz.f156.body = some c := ⟨_, rfl⟩
theorem h156a : HookOk Tryz.prog 12 156 hkIndexAny7 := by
  obtain ⟨c, hb⟩ := iaBody
  exact hkIndexAny7_ok nameOK (fn := Tryz.f156) (by kernel_rfl) hb fun s chars w h1 h2 h3 h4 => Tryz.strings_IndexAny_laid s chars w h1 h2 h3 h4
theorem h156b : HookOk Tryz.prog 12 156 hkIndexAnyP := by
  obtain ⟨c, hb⟩ := iaBody
  exact hkIndexAnyP_ok nameOK (fn := Tryz.f156) (by kernel_rfl) hb fun s chars w h1 h2 h3 h4 => Tryz.strings_IndexAny_laid s chars w h1 h2 h3 h4
theorem h156 : HookOk Tryz.prog 12 156 (hkO hkIndexAny7 hkIndexAnyP) := hkO_ok h156a h156b
def hk1 : List (Nat × HookF) := [(137, hkO (hkOr hkIndexByte hkIndexByteW) hkIndexByteP), (152, hkOr hkCount hkCountW), (153, hkNoEscape), (154, hkO (hkMakeNoZero 5) (hkMakeNoZeroO 5)), (61, hkMapClone), (247, hkSingle2), (156, hkO hkIndexAny7 hkIndexAnyP)]
theorem hk1ok : HKok Tryz.prog 12 (hkL hk1) := hkL_ok (by
  intro p hp
  simp only [hk1, List.mem_cons, List.not_mem_nil, or_false] at hp
  rcases hp with rfl | rfl | rfl | rfl | rfl | rfl | rfl
  · exact h137
  · exact h152
  · exact h153
  · exact h154
  · exact h61
  · exact h247
  · exact h156)
theorem alive7 (τ : Nat → Nat) : mkTK τ tbl .leaf (fun h0 => run Tryz.prog 12 (hkL hk1) 100000 7 .nil h0 12 (fun v _ _ => isB true v) (fun _ _ _ => false)) = true := by kernel_rfl
def hkB : List (Nat × HookF) := [(137, hkO (hkOr hkIndexByte hkIndexByteW) hkIndexByteP), (152, hkOr hkCount hkCountW), (153, hkNoEscape), (154, hkO (hkMakeNoZero 5) (hkMakeNoZeroO 5)), (61, hkMapClone), (247, hkSingle2), (156, hkO hkIndexAny7 hkIndexAnyP), (7, memo tbl true)]
theorem hkBok : HKok Tryz.prog 12 (hkL hkB) := hkL_ok (by
  intro p hp
  simp only [hkB, List.mem_cons, List.not_mem_nil, or_false] at hp
  rcases hp with rfl | rfl | rfl | rfl | rfl | rfl | rfl | rfl
  · exact h137
  · exact h152
  · exact h153
  · exact h154
  · exact h61
  · exact h247
  · exact h156
  · exact memo_ok follows nameOK hk1ok tblIn alive7)
theorem gAscii : Tryz.prog.globalNamed "strings.asciiSpace" = some 1 := by kernel_rfl
theorem gAsciiT : (Tryz.prog.globals[1]?).map (·.type) = some 233 := by kernel_rfl
theorem uAscii : Tryz.prog.underlying 233 = some (.array 256 5) := by kernel_rfl
theorem uByte : Tryz.prog.underlying 5 = some (.int .u8) := by kernel_rfl
theorem cByte : Tryz.prog.cellsOf 5 = 1 := by kernel_rfl
theorem cAscii : Tryz.prog.cellsOf 233 = 256 := by kernel_rfl
theorem gPow : Tryz.prog.globalNamed "internal/strconv.uint64pow10" = some 5 := by kernel_rfl
theorem gPowT : (Tryz.prog.globals[5]?).map (·.type) = some 411 := by kernel_rfl
theorem uPow : Tryz.prog.underlying 411 = some (.array 20 249) := by kernel_rfl
theorem uU64 : Tryz.prog.underlying 249 = some (.int .u64) := by kernel_rfl
theorem cU64 : Tryz.prog.cellsOf 249 = 1 := by kernel_rfl
theorem cPow : Tryz.prog.cellsOf 411 = 20 := by kernel_rfl
theorem tables {lst : List (String × DataW Unit)} (plain : (lst.all fun x => x.2.handleName?.isNone) = true) (asciiIn : ("strings.asciiSpace", DataW.agg (asciiL.map fun x => (DataW.lit (.int .u8 x) : DataW Unit))) ∈ lst)
    (powIn : ("internal/strconv.uint64pow10", DataW.agg (powL.map fun x => (DataW.lit (.int .u64 x) : DataW Unit))) ∈ lst) {W : World} (h : laidMetH Tryz.prog lst W) : HasTables tbl W := by
  rw [tblEq]
  intro p hp
  rcases List.mem_cons.1 hp with rfl | hp
  · exact hasTable_of_laid h plain asciiIn gAscii gAsciiT uAscii uByte cByte cAscii (by decide) _ (List.mem_singleton_self _)
  · exact hasTable_of_laid h plain powIn gPow gPowT uPow uU64 cU64 cPow (by decide) _ hp
end
end Go.Proofs.YtcmnkndbcecbiaaGreatDoor
