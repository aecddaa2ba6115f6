/-
  What each function of the program leads to and names, by tables, and closed facts of the whole program. No condition.
-/
import Derived.Test.YtaikgomojnfimaaGreatDoorXJoinK
import Derived.Test.YtaikgomojnfimaaGreatDoorXMxG
import Derived.Test.YtaikgomojnfimaaGreatDoorRows
open Go Go.Mx
namespace Go.Proofs.YtaikgomojnfimaaGreatDoor
set_option maxRecDepth 1000000
noncomputable section
theorem band {a b : Bool} (h : a = true) (k : b = true) : (a && b) = true := by rw [h, k]; rfl
def tabT : List (List Nat) := [[], [], [1], [4, 5, 6, 7, 8, 9, 7, 8], [10, 7, 11, 12], [], [13, 14], [15], [16, 17, 16, 17, 18, 19, 20, 21], [22, 23, 24, 25, 25, 26], [27, 27, 28], [29, 30],
  [], [31, 32], [33, 34, 26, 35], [], [36], [], [37, 38, 38, 38, 39], [40], [41, 42], [], [23, 23], [23],
  [43], [], [], [34], [44, 45, 46, 47, 46, 48, 44, 45, 44, 49, 50, 50, 44, 45, 48, 44, 49, 44, 50, 45, 50, 49, 51, 50, 46], [52], [38, 39], [53], [54], [55], [], [],
  [56], [57, 58], [57], [], [60, 59, 61, 63, 62, 65, 64], [66], [67, 68, 69, 70], [], [], [], [], [],
  [45, 49, 51, 45, 45, 45, 45, 45, 50], [], [], [45, 55, 43, 71, 45, 72, 73, 50], [74, 30], [75, 76], [77], [78, 43], [79, 80, 81, 82], [83], [84], [],
  [], [], [85], [85], [86, 87], [88, 87], [89], [90], [90], [90, 16, 91], [90, 16, 91], [45, 92, 45, 93, 44, 49, 92, 49, 28, 45, 49],
  [44, 45, 45, 49, 49], [44, 45, 94, 49], [95, 96, 97], [], [], [98, 99, 98, 100, 99, 101], [], [], [103, 102, 104], [], [105, 106], [],
  [], [], [107], [108], [109, 86], [110, 110, 110, 110, 110, 110, 111], [], [], [44, 112], [45, 55, 45, 43, 45, 43], [45, 44, 45, 44, 45, 45], [],
  [113, 115, 114, 16, 95], [8, 95, 16, 95, 116, 52, 117, 118, 119, 95], [120], [], [], [121], [], [], [], [], [122, 123], [],
  [124, 125, 124, 100, 99], [], [], [110, 110, 110, 110, 110, 110], [], [126, 38, 39, 127, 128, 129, 8, 38], [130], [132, 131], [133, 95, 52, 30, 13, 133], [134, 135, 136, 138, 137], [134, 138, 137], [38, 139, 38, 39],
  [], [], [], [], [98], [], [140], [141], [53, 76, 124], [57], [142, 143, 144], [145, 146],
  [147], [30, 95], [148, 149, 150], [], [], [], [151], [], [77], [], [], [152, 153, 143, 154, 143, 155],
  [124], [156], [158, 157], [], [], [159, 159, 148], [148], [], [], [144, 124, 127, 144, 160, 161], [144, 152, 127], [161, 161, 161, 161, 161, 161, 161, 161, 162, 163],
  [], [164, 165, 166, 167, 168, 169, 170, 171, 172, 157, 157], [173, 103], [], [144, 174, 175, 53, 176, 76, 177, 174], [], [], [], [170], [178, 178], [179, 180], [181, 181, 181, 182],
  [], [170, 170, 170], [183, 183], [170, 170], [170, 170, 170, 170], [], [], [174, 143, 144, 127, 174], [174, 40, 184, 177, 174], [76], [170, 170], [158],
  [], [182], [185, 185, 185], [], [186], [170], [141], [], [], [], [], [],
  [], [], [], [], [], [], [], [], [], [], [], [],
  [], [], [], [], [], [], [], [], [], [], [], [],
  [], [], [], [91, 91]]
theorem tabT_0 : ((dropP 80 Tryz.prog.funcs.toList 0).take 80).map Tryz.prog.leadsTo = (dropP 80 tabT 0).take 80 := by kernel_rfl
theorem tabT_1 : ((dropP 80 Tryz.prog.funcs.toList 1).take 80).map Tryz.prog.leadsTo = (dropP 80 tabT 1).take 80 := by kernel_rfl
theorem tabT_2 : (dropP 80 Tryz.prog.funcs.toList 2).map Tryz.prog.leadsTo = dropP 80 tabT 2 := by kernel_rfl
theorem tabT_all : Tryz.prog.funcs.toList.map Tryz.prog.leadsTo = tabT := map_parts 80 tabT_0 (map_parts 80 tabT_1 (tabT_2))
def tabG : List (List Nat) := [[], [], [], [], [], [], [], [], [], [], [], [],
  [], [], [], [], [], [], [], [], [], [], [], [],
  [], [], [], [], [], [], [], [], [], [], [], [],
  [], [], [], [], [], [], [], [], [], [], [], [],
  [], [], [], [], [], [], [], [], [], [], [], [],
  [], [], [], [], [], [], [], [0], [1], [], [], [],
  [], [], [], [], [], [2, 2, 2], [], [], [3], [], [], [],
  [], [], [], [], [], [], [], [], [], [], [], [],
  [], [], [], [], [], [], [], [], [], [], [], [4, 5],
  [], [], [], [], [], [], [], [], [], [], [], [],
  [], [], [6], [7], [], [], [], [], [], [], [], [],
  [], [], [], [], [], [], [], [], [], [], [], [],
  [], [], [], [], [], [], [], [], [], [], [], [],
  [], [], [], [], [], [], [], [], [], [], [], [],
  [], [], [], [], [], [], [], [], [], [], [], [],
  [], [], [], [], [], [], [], [], [], [], [], [],
  [], [], [], [], [], [], [], [], [], [], [], [],
  [], [], [], [], [], [], [], [], [], [], [], [],
  [], [], [], [6, 7, 3, 5, 1, 0]]
theorem tabG_0 : ((dropP 80 Tryz.prog.funcs.toList 0).take 80).map globsAt = (dropP 80 tabG 0).take 80 := by kernel_rfl
theorem tabG_1 : ((dropP 80 Tryz.prog.funcs.toList 1).take 80).map globsAt = (dropP 80 tabG 1).take 80 := by kernel_rfl
theorem tabG_2 : (dropP 80 Tryz.prog.funcs.toList 2).map globsAt = dropP 80 tabG 2 := by kernel_rfl
theorem tabG_all : Tryz.prog.funcs.toList.map globsAt = tabG := map_parts 80 tabG_0 (map_parts 80 tabG_1 (tabG_2))
def tabN : List Bool := [true, true, false, false, false, false, false, false, false, false, false, false,
  false, false, false, false, false, false, false, false, false, false, false, false,
  false, false, false, false, false, false, false, false, false, false, false, false,
  false, false, false, false, false, false, false, false, false, false, false, false,
  false, false, false, false, false, false, false, false, false, false, false, false,
  false, false, false, false, false, false, false, false, false, false, false, false,
  false, false, false, false, false, false, false, false, false, false, false, true,
  true, false, false, false, false, false, false, false, false, false, false, false,
  false, false, false, true, false, false, false, false, false, false, false, false,
  false, false, false, false, false, false, false, false, false, false, false, false,
  true, false, false, false, false, false, false, false, false, false, false, false,
  false, false, false, false, false, false, false, false, false, false, false, false,
  false, false, false, false, false, false, false, false, false, false, false, false,
  false, false, false, false, false, false, false, false, false, false, false, false,
  false, false, false, false, false, false, false, false, false, false, false, false,
  false, false, false, false, false, false, false, true, true, true, true, true,
  true, true, true, true, true, true, true, true, true, true, true, true,
  true, true, true, true, true, true, true, true, true, true, true, true,
  true, true, true, false]
theorem tabN_0 : ((dropP 80 Tryz.prog.funcs.toList 0).take 80).map flagAt = (dropP 80 tabN 0).take 80 := by kernel_rfl
theorem tabN_1 : ((dropP 80 Tryz.prog.funcs.toList 1).take 80).map flagAt = (dropP 80 tabN 1).take 80 := by kernel_rfl
theorem tabN_2 : (dropP 80 Tryz.prog.funcs.toList 2).map flagAt = dropP 80 tabN 2 := by kernel_rfl
theorem tabN_all : Tryz.prog.funcs.toList.map flagAt = tabN := map_parts 80 tabN_0 (map_parts 80 tabN_1 (tabN_2))
def tabE : List Bool := [true, true, false, false, false, false, false, false, false, false, false, false,
  false, false, false, false, false, false, false, false, false, false, false, false,
  false, false, false, false, false, false, false, false, false, false, false, false,
  false, false, false, false, false, false, false, false, false, false, false, false,
  false, false, false, false, false, false, false, false, false, false, false, false,
  false, false, false, false, false, false, false, false, false, false, false, false,
  false, false, false, false, false, false, false, false, false, false, false, true,
  true, false, false, false, false, false, false, false, false, false, false, false,
  false, false, false, true, false, false, false, false, false, false, false, false,
  false, false, false, false, false, false, false, false, false, false, false, false,
  true, false, false, false, false, false, false, false, false, false, false, false,
  false, false, false, false, false, false, false, false, false, false, false, false,
  false, false, false, false, false, false, false, false, false, false, false, false,
  false, false, false, false, false, false, false, false, false, false, false, false,
  false, false, false, false, false, false, false, false, false, false, false, false,
  false, false, false, false, false, false, false, true, true, true, true, true,
  true, true, true, true, true, true, true, true, true, true, true, true,
  true, true, true, true, true, true, true, true, true, true, true, true,
  true, true, true, false]
theorem tabE_0 : ((dropP 80 Tryz.prog.funcs.toList 0).take 80).map bareAt = (dropP 80 tabE 0).take 80 := by kernel_rfl
theorem tabE_1 : ((dropP 80 Tryz.prog.funcs.toList 1).take 80).map bareAt = (dropP 80 tabE 1).take 80 := by kernel_rfl
theorem tabE_2 : (dropP 80 Tryz.prog.funcs.toList 2).map bareAt = dropP 80 tabE 2 := by kernel_rfl
theorem tabE_all : Tryz.prog.funcs.toList.map bareAt = tabE := map_parts 80 tabE_0 (map_parts 80 tabE_1 (tabE_2))
theorem laidOut_ok : (laidOutB Tryz.pinned.checked.prog) = true := by kernel_rfl
theorem mapsRowed_ok : (mapsRowed Tryz.pinned.checked.prog) = true := by kernel_rfl
theorem stopsHeard_ok : (Tryz.pinned.checked.prog.stopsHeard) = true := by kernel_rfl
theorem mayEnter_ok : (Tryz.pinned.checked.prog.mayEnter) = true := by kernel_rfl
theorem own : ownKnob Tryz.prog.godebug = none := by kernel_rfl
theorem follows : Tryz.prog.follows .mixedOrders = true := by kernel_rfl
theorem names : Tryz.prog.funcs.toList.all (fun fn => !(fn.name == "runtime.NumGoroutine")) = true := by kernel_rfl
theorem nameOK : NameOK Tryz.prog := by
  intro f fn c hf _
  have h := List.all_eq_true.1 names fn (by
    rw [Array.mem_toList_iff]
    exact Array.mem_of_getElem? hf)
  simpa using h
end
end Go.Proofs.YtaikgomojnfimaaGreatDoor
