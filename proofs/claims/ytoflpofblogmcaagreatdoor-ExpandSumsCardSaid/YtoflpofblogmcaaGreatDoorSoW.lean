/-
  The keys of a map of two known keys, sorted, by the shelf.
-/
import Derived.Shelf.SlIter.Nil
import Derived.Shelf.SortM.Plain
import Derived.Shelf.SortM.SortNone
import Derived.Ground.GgzProg
import Derived.Ground.SlgmProg
import Derived.Test.YtoflpofblogmcaaGreatDoorProg
import Derived.Test.YtoflpofblogmcaaGreatDoorXMxAY
import Derived.StringKeys
namespace Go.Proofs.YtoflpofblogmcaaGreatDoor
open Go.Shelf
def Tryz.keys73_ren : Go.Shelf.Ren := ⟨fun | 7 => 73 | 10 => 95 | n => n, fun | 23 => 24 | 26 => 9 | 3 => 9 | 28 => 105 | 0 => 0 | 27 => 104 | 33 => 40 | 4 => 4 | n => n, fun | n => n⟩
theorem Tryz.keys73 : Go.Proofs.SlLaysZ.n7 Tryz.prog Tryz.keys73_ren := {
  mixed := by kernel_rfl
  f7 := ⟨Tryz.f73.name, by decide, Tryz.func73.trans (congrArg some (by kernel_rfl))⟩
  f10 := ⟨Tryz.f95.name, by decide, Tryz.func95.trans (congrArg some (by kernel_rfl))⟩
  t0 := Tryz.underlying0
  a0 := Tryz.isAgg0
  z0 := Tryz.sizeOf0
  v0 := Tryz.zeroValue0
  t4 := Tryz.underlying4
  a4 := Tryz.isAgg4
  z4 := Tryz.sizeOf4
  v4 := Tryz.zeroValue4
  t23 := Tryz.underlying24
  a23 := Tryz.isAgg24
  z23 := Tryz.sizeOf24
  v23 := Tryz.zeroValue24
  t26 := Tryz.underlying9
  a26 := Tryz.isAgg9
  z26 := Tryz.sizeOf9
  v26 := Tryz.zeroValue9
  t27 := Tryz.underlying104
  a27 := Tryz.isAgg104
  z27 := Tryz.sizeOf104
  v27 := Tryz.zeroValue104
  t28 := Tryz.underlying105
  a28 := Tryz.isAgg105
  z28 := Tryz.sizeOf105
  v28 := Tryz.zeroValue105
  t33 := Tryz.underlying40
  a33 := Tryz.isAgg40
  z33 := Tryz.sizeOf40
  v33 := Tryz.zeroValue40 }
def Tryz.sorted72_ren : Go.Shelf.Ren := ⟨fun | 6 => 72 | 8 => 93 | 9 => 94 | 11 => 109 | 13 => 111 | 12 => 110 | 23 => 143 | 24 => 144 | 14 => 134 | 15 => 135 | 16 => 136 | 17 => 137 | 18 => 138 | 19 => 139 | 20 => 140 | 21 => 141 | 22 => 142 | 25 => 161 | 26 => 162 | 27 => 163 | 28 => 164 | 29 => 165 | 30 => 166 | 31 => 175 | n => n, fun | 26 => 9 | 28 => 105 | 24 => 47 | 0 => 0 | 3 => 3 | 37 => 80 | 48 => 85 | 50 => 114 | 4 => 4 | 40 => 166 | 39 => 165 | 45 => 170 | 5 => 5 | 9 => 9 | 51 => 187 | 55 => 191 | 57 => 199 | 58 => 200 | 33 => 40 | n => n, fun | n => n⟩
theorem Tryz.sorted72 : Go.Proofs.SlLaysZ.n6 Tryz.prog Tryz.sorted72_ren := {
  mixed := by kernel_rfl
  f6 := ⟨Tryz.f72.name, by decide, Tryz.func72.trans (congrArg some (by kernel_rfl))⟩
  f8 := ⟨Tryz.f93.name, by decide, Tryz.func93.trans (congrArg some (by kernel_rfl))⟩
  f11 := ⟨Tryz.f109.name, by decide, Tryz.func109.trans (congrArg some (by kernel_rfl))⟩
  t0 := Tryz.underlying0
  a0 := Tryz.isAgg0
  z0 := Tryz.sizeOf0
  v0 := Tryz.zeroValue0
  t24 := Tryz.underlying47
  a24 := Tryz.isAgg47
  z24 := Tryz.sizeOf47
  v24 := Tryz.zeroValue47
  t26 := Tryz.underlying9
  a26 := Tryz.isAgg9
  z26 := Tryz.sizeOf9
  v26 := Tryz.zeroValue9
  t28 := Tryz.underlying105
  a28 := Tryz.isAgg105
  z28 := Tryz.sizeOf105
  v28 := Tryz.zeroValue105
  i26 := by kernel_rfl }
def Tryz.sort94_ren : Go.Shelf.Ren := ⟨fun | 6 => 94 | 8 => 111 | 9 => 110 | 19 => 143 | 20 => 144 | 21 => 134 | 22 => 135 | 23 => 136 | 24 => 137 | 25 => 138 | 26 => 139 | 27 => 140 | 28 => 141 | 29 => 142 | 36 => 161 | 31 => 162 | 32 => 163 | 37 => 164 | 38 => 165 | 39 => 166 | 41 => 175 | n => n, fun | 27 => 47 | 29 => 9 | 3 => 3 | 32 => 80 | 26 => 47 | 0 => 0 | 44 => 85 | 46 => 114 | 4 => 4 | 36 => 166 | 35 => 165 | 41 => 170 | 5 => 5 | 9 => 9 | 53 => 187 | 57 => 191 | 63 => 199 | 64 => 200 | n => n, fun | n => n⟩
theorem Tryz.sort94 : Go.Proofs.SlLaysM.n6 Tryz.prog Tryz.sort94_ren := {
  mixed := by kernel_rfl
  f6 := ⟨Tryz.f94.name, by decide, Tryz.func94.trans (congrArg some (by kernel_rfl))⟩
  f8 := Tryz.func111.trans (congrArg some (by kernel_rfl))
  f9 := ⟨Tryz.f110.name, by decide, Tryz.func110.trans (congrArg some (by kernel_rfl))⟩
  f19 := Tryz.func143.trans (congrArg some (by kernel_rfl))
  f20 := Tryz.func144.trans (congrArg some (by kernel_rfl))
  f21 := ⟨Tryz.f134.name, by decide, Tryz.func134.trans (congrArg some (by kernel_rfl))⟩
  f22 := ⟨Tryz.f135.name, by decide, Tryz.func135.trans (congrArg some (by kernel_rfl))⟩
  f23 := ⟨Tryz.f136.name, by decide, Tryz.func136.trans (congrArg some (by kernel_rfl))⟩
  f24 := ⟨Tryz.f137.name, by decide, Tryz.func137.trans (congrArg some (by kernel_rfl))⟩
  f25 := ⟨Tryz.f138.name, by decide, Tryz.func138.trans (congrArg some (by kernel_rfl))⟩
  f26 := ⟨Tryz.f139.name, by decide, Tryz.func139.trans (congrArg some (by kernel_rfl))⟩
  f27 := ⟨Tryz.f140.name, by decide, Tryz.func140.trans (congrArg some (by kernel_rfl))⟩
  f28 := ⟨Tryz.f141.name, by decide, Tryz.func141.trans (congrArg some (by kernel_rfl))⟩
  f29 := ⟨Tryz.f142.name, by decide, Tryz.func142.trans (congrArg some (by kernel_rfl))⟩
  f31 := Tryz.func162.trans (congrArg some (by kernel_rfl))
  f32 := Tryz.func163.trans (congrArg some (by kernel_rfl))
  f36 := ⟨Tryz.f161.name, by decide, Tryz.func161.trans (congrArg some (by kernel_rfl))⟩
  f37 := ⟨Tryz.f164.name, by decide, Tryz.func164.trans (congrArg some (by kernel_rfl))⟩
  f38 := ⟨Tryz.f165.name, by decide, Tryz.func165.trans (congrArg some (by kernel_rfl))⟩
  f39 := ⟨Tryz.f166.name, by decide, Tryz.func166.trans (congrArg some (by kernel_rfl))⟩
  f41 := ⟨Tryz.f175.name, by decide, Tryz.func175.trans (congrArg some (by kernel_rfl))⟩
  t0 := Tryz.underlying0
  a0 := Tryz.isAgg0
  z0 := Tryz.sizeOf0
  v0 := Tryz.zeroValue0
  t3 := Tryz.underlying3
  a3 := Tryz.isAgg3
  z3 := Tryz.sizeOf3
  v3 := Tryz.zeroValue3
  t4 := Tryz.underlying4
  a4 := Tryz.isAgg4
  z4 := Tryz.sizeOf4
  v4 := Tryz.zeroValue4
  t5 := Tryz.underlying5
  a5 := Tryz.isAgg5
  z5 := Tryz.sizeOf5
  v5 := Tryz.zeroValue5
  t9 := Tryz.underlying9
  a9 := Tryz.isAgg9
  z9 := Tryz.sizeOf9
  v9 := Tryz.zeroValue9
  t26 := Tryz.underlying47
  a26 := Tryz.isAgg47
  z26 := Tryz.sizeOf47
  v26 := Tryz.zeroValue47
  t27 := Tryz.underlying47
  a27 := Tryz.isAgg47
  z27 := Tryz.sizeOf47
  v27 := Tryz.zeroValue47
  t29 := Tryz.underlying9
  a29 := Tryz.isAgg9
  z29 := Tryz.sizeOf9
  v29 := Tryz.zeroValue9
  t32 := Tryz.underlying80
  a32 := Tryz.isAgg80
  z32 := Tryz.sizeOf80
  v32 := Tryz.zeroValue80
  t35 := Tryz.underlying165
  a35 := Tryz.isAgg165
  z35 := Tryz.sizeOf165
  v35 := Tryz.zeroValue165
  t36 := Tryz.underlying166
  a36 := Tryz.isAgg166
  z36 := Tryz.sizeOf166
  v36 := Tryz.zeroValue166
  t41 := Tryz.underlying170
  a41 := Tryz.isAgg170
  z41 := Tryz.sizeOf170
  v41 := Tryz.zeroValue170
  t44 := Tryz.underlying85
  a44 := Tryz.isAgg85
  z44 := Tryz.sizeOf85
  v44 := Tryz.zeroValue85
  t46 := Tryz.underlying114
  a46 := Tryz.isAgg114
  z46 := Tryz.sizeOf114
  v46 := Tryz.zeroValue114
  t53 := Tryz.underlying187
  a53 := Tryz.isAgg187
  z53 := Tryz.sizeOf187
  v53 := Tryz.zeroValue187
  t57 := Tryz.underlying191
  a57 := Tryz.isAgg191
  z57 := Tryz.sizeOf191
  v57 := Tryz.zeroValue191
  t63 := Tryz.underlying199
  a63 := Tryz.isAgg199
  z63 := Tryz.sizeOf199
  v63 := Tryz.zeroValue199
  t64 := Tryz.underlying200
  a64 := Tryz.isAgg200
  z64 := Tryz.sizeOf200
  v64 := Tryz.zeroValue200 }
open Go.RowKit Go.Maps Go.Sort Go.Shelf Go.WideMaps
theorem srt_t9 : Tryz.prog.underlying 9 = some .string := by kernel_rfl
theorem srt_sorts (m : Nat) : AnyZ.SortsIn Tryz.prog Tryz.sorted72_ren Fence.wide m :=
  ⟨fun blk off cap ss W hH hblk hsz => callsIn_wide.2 (AnyM.slices_Sort_string Tryz.sort94 blk off cap ss W hH hblk hsz),
   fun p cap W => callsIn_wide.2 (AnyM.slices_Sort_string_none Tryz.sort94 p cap W)⟩
theorem keys_said : Mx.KeysSaid Tryz.prog 73 95 24 := fun mb w => (callsIn_wide (n := 5)).1 (AnyZ.keys_in Tryz.keys73 Fence.wide 5 trivial rfl (some mb) w)
def srtR : Value → Option (DataW Unit × List MemPlace) := fun _ => some (.lit (.bool true), [])
def srtD : DataW Unit := .map [(.string [120], .lit (.bool true)), (.string [121], .lit (.bool true))]
theorem srt_two {α : Type} {l : List α} (h : l.length = 2) : ∃ x y, l = [x, y] := by
  match l, h with
  | [x, y], _ => exact ⟨x, y, rfl⟩
theorem srt_rd {x : MapEntry} {b : UInt8} (h : x.key = .string ⟨#[b]⟩) : WideElems.rd Tryz.prog 9 srtR x = some (.string [b], .lit (.bool true)) := by
  have kx : keyOf Tryz.prog 9 x.key = some (.string [b]) := by
    rw [h]
    exact keyOf_string_mk srt_t9 (by show 1 ≤ maxLen; unfold maxLen; omega)
  exact WideElems.rd_mk (key := x.key) (val := x.val) (born := x.born) (yv := (.lit (.bool true), [])) kx rfl
theorem sort_said : Mx.SortSaid Tryz.prog 72 95 9 [[120], [121]] [[120], [121]] := by
  intro w cb mb es clock hc hh hst hk
  have hcb : cb < w.heap.size := by
    rcases Nat.lt_or_ge cb w.heap.size with h' | h'
    · exact h'
    · simp [World.cell?, Array.getElem?_eq_none h'] at hc
  have hl : es.toList.length = 2 := by simpa using congrArg List.length hk
  obtain ⟨x, y, hxy⟩ := srt_two hl
  rw [hxy] at hk
  simp only [List.map_cons, List.map_nil, List.cons.injEq, and_true] at hk
  have rx := srt_rd (x := x) (b := 120) hk.1
  have ry := srt_rd (x := y) (b := 121) hk.2
  have hown : w.ownsMap Tryz.prog 9 srtR mb 2 srtD := by
    refine ⟨es, clock, hh, ⟨?_, hst, fun z hz => ?_⟩, ?_, ?_⟩
    · have : es.size = 2 := hl
      rw [this]; unfold maxLen; omega
    · rw [hxy] at hz
      rcases List.mem_cons.1 hz with rfl | hz
      · exact ⟨_, rx⟩
      · rw [List.mem_singleton] at hz
        subst hz
        exact ⟨_, ry⟩
    · exact Nat.le_of_eq hl
    · rw [hxy]
      simp only [List.map_cons, List.map_nil, List.foldr_cons, List.foldr_nil, WideElems.rg_of rx, WideElems.rg_of ry]
      rfl
  have hseq := AnyZ.keys_gives (ρ := Tryz.keys73_ren) { Tryz.keys73 with } Fence.wide 2 trivial rfl (by omega) cb mb 2 srtD w hcb hc hown
  have cS := AnyZ.sorted_in Tryz.sorted72 Fence.wide 5 trivial trivial trivial trivial rfl (by omega) (srt_sorts _) (enters_of Tryz.func94 (by kernel_rfl) rfl) 95 #[.pointer (some ⟨cb, 0, none⟩)] trivial (enters_of Tryz.func95 (by kernel_rfl) rfl) _ _ (by show 2 ≤ maxLen; unfold maxLen; omega) (by show 2 * 16 ≤ _; omega) _ hseq
  refine ((callsIn_wide (n := 5)).1 cS).mono ?_
  rintro e w' ⟨v, ss, rfl, hS, hrow, hnil, hb⟩
  have hlen : ss.length = 2 := hS.length_eq
  have hss : ss.mergeSort (fun x y => decide (x ≤ y)) = [[120], [121]] := by
    have h1 : ss.mergeSort leB = (strKeys srtD).mergeSort leB := mergeSort_of_perm hS
    have h3 : strKeys srtD = [[120], [121]] := by decide +kernel
    rw [h3] at h1
    exact h1.trans (List.mergeSort_of_pairwise (by simp only [List.pairwise_cons, List.not_mem_nil, List.mem_singleton, forall_eq, false_implies, implies_true, List.Pairwise.nil, and_true]; decide))
  rw [hss, hlen] at hrow
  rcases hrow.2 with ⟨_, h0⟩ | ⟨g, cap, cur, rfl, hbase, hg, r1, r2, r3, r4⟩
  · cases h0
  · refine ⟨g, cap, cur, rfl, hbase, hg, r1, by omega, fun j l hj => ?_, hb.size, hb.os, hb.tape, hb.output, hb.block⟩
    have h2 : (cur.toList.take (2 * 1))[j]? = (([[120], [121]] : List (List UInt8)).map encStr)[j]? := by rw [r4]
    match j, hj with
    | 0, hj => simp at hj; subst hj; rw [show Value.string (Mx.bs [120]) = encStr [120] from rfl]; simpa [List.getElem?_take] using h2
    | 1, hj => simp at hj; subst hj; rw [show Value.string (Mx.bs [121]) = encStr [121] from rfl]; simpa [List.getElem?_take] using h2
    | j + 2, hj => simp at hj
end Go.Proofs.YtoflpofblogmcaaGreatDoor
