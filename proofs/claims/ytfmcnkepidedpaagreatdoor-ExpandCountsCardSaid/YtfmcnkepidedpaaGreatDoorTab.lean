/-
  What each function of the program leads to and names, by tables, and closed facts of the whole program. No condition.
-/
import Derived.Test.YtfmcnkepidedpaaGreatDoorXJoinK
import Derived.Test.YtfmcnkepidedpaaGreatDoorXMxG
import Derived.Test.YtfmcnkepidedpaaGreatDoorRows
open Go Go.Mx
namespace Go.Proofs.YtfmcnkepidedpaaGreatDoor
set_option maxRecDepth 1000000
noncomputable section
theorem band {a b : Bool} (h : a = true) (k : b = true) : (a && b) = true := by rw [h, k]; rfl
def tabT : List (List Nat) := [[], [], [1], [5, 6, 7, 7, 8, 9, 10, 11, 12, 12, 12, 13, 12, 13, 12], [5, 6, 7, 8, 9, 10, 12, 14, 14, 15], [8, 9, 10, 12], [], [16, 17], [18, 18, 19], [20], [21, 22], [],
  [], [], [14], [14, 14], [23], [24], [6], [25, 26, 27, 28, 27, 29, 25, 26, 25, 30, 31, 31, 25, 26, 29, 25, 30, 25, 31, 26, 31, 30, 32, 31, 27], [], [33], [34, 35], [36, 37],
  [38], [], [], [], [], [26, 30, 32, 26, 26, 26, 26, 26, 31], [], [], [26, 39, 40, 41, 26, 42, 43, 31], [44, 22], [45], [],
  [], [], [46, 47, 46, 48, 47, 49], [50, 40], [], [26, 51, 26, 52, 25, 30, 51, 30, 19, 26, 30], [25, 26, 26, 30, 30], [25, 26, 53, 30], [54, 55, 56], [57], [58], [],
  [], [59], [], [25, 60], [26, 39, 26, 40, 26, 40], [26, 25, 26, 25, 26, 26], [], [61, 63, 62, 64, 54], [65, 54, 64, 54, 66, 33, 67, 68, 69, 54], [], [], [],
  [], [70, 34, 35, 71, 72, 73, 65, 34], [74], [76, 75], [77], [64, 78, 64, 78, 79, 80, 81, 11], [82, 54, 33, 22, 7, 82], [83, 84, 85, 87, 86], [83, 87, 86], [34, 88, 34, 35], [89], [90],
  [23, 37, 91], [45], [92, 93, 94], [95, 96], [97], [98], [], [99, 34, 34, 34, 35], [100], [101, 102], [22, 54], [103, 104, 105],
  [], [], [], [106], [], [38], [], [46], [], [107, 108, 93, 109, 93, 110], [91], [111],
  [113, 112], [], [114, 115, 116, 117], [45, 118], [120, 119, 121, 123, 122, 125, 124], [126], [127, 128, 129, 130], [], [131, 131, 103], [103], [], [],
  [94, 91, 71, 94, 132, 133], [94, 107, 71], [133, 133, 133, 133, 133, 133, 133, 133, 134, 135], [], [136, 137, 138, 139, 140, 141, 142, 143, 144, 112, 112], [145, 146], [], [146, 147, 148], [], [149, 150], [151], [],
  [], [], [152], [152], [153, 154], [155, 154], [156], [157], [157], [157, 64, 158], [157, 64, 158], [],
  [94, 159, 160, 23, 161, 37, 162, 159], [], [], [], [142], [163, 163], [164, 165], [166, 166, 166, 167], [], [142, 142, 142], [168, 168], [142, 142],
  [142, 142, 142, 142], [], [], [], [], [], [169, 170], [], [], [171], [172], [173, 153],
  [174, 174, 174, 174, 174, 174, 175], [], [], [], [159, 93, 94, 71, 159], [159, 100, 176, 162, 159], [37], [142, 142], [113], [], [167], [177, 177, 177],
  [], [], [], [], [91, 178, 91, 48, 47], [], [], [174, 174, 174, 174, 174, 174], [179], [142], [], [90],
  [], [], [], [], [], [], [], [], [], [], [], [],
  [], [], [], [], [], [], [], [], [], [], [], [],
  [], [], [], [], [], [], [158, 158]]
theorem tabT_0 : ((dropP 80 Tryz.prog.funcs.toList 0).take 80).map Tryz.prog.leadsTo = (dropP 80 tabT 0).take 80 := by kernel_rfl
theorem tabT_1 : ((dropP 80 Tryz.prog.funcs.toList 1).take 80).map Tryz.prog.leadsTo = (dropP 80 tabT 1).take 80 := by kernel_rfl
theorem tabT_2 : (dropP 80 Tryz.prog.funcs.toList 2).map Tryz.prog.leadsTo = dropP 80 tabT 2 := by kernel_rfl
theorem tabT_all : Tryz.prog.funcs.toList.map Tryz.prog.leadsTo = tabT := map_parts 80 tabT_0 (map_parts 80 tabT_1 (tabT_2))
def tabG : List (List Nat) := [[], [], [], [], [], [], [], [], [], [], [], [],
  [], [], [], [], [], [], [], [], [], [], [], [],
  [], [], [], [], [], [], [], [], [], [], [], [],
  [], [], [0, 0, 0], [], [], [], [], [], [], [], [], [],
  [], [], [], [], [], [], [], [], [], [], [], [],
  [], [], [], [], [], [], [], [], [], [], [], [],
  [], [], [], [], [], [], [], [], [], [], [], [],
  [], [], [], [], [], [], [], [], [], [], [], [],
  [], [], [], [], [], [], [], [], [], [], [], [],
  [], [], [], [], [], [], [], [1], [], [], [], [],
  [], [], [], [], [], [], [], [2], [3], [], [], [],
  [], [], [], [], [], [], [], [], [], [], [], [],
  [], [], [], [], [], [], [], [], [], [], [], [],
  [], [], [], [], [], [], [], [], [], [], [], [],
  [], [4], [5], [6, 7], [], [], [], [], [], [], [], [],
  [], [], [], [], [], [], [], [], [], [], [], [],
  [], [], [], [], [], [], [], [], [], [], [], [],
  [], [], [], [], [], [], [4, 5, 1, 7, 3, 2]]
theorem tabG_0 : ((dropP 80 Tryz.prog.funcs.toList 0).take 80).map globsAt = (dropP 80 tabG 0).take 80 := by kernel_rfl
theorem tabG_1 : ((dropP 80 Tryz.prog.funcs.toList 1).take 80).map globsAt = (dropP 80 tabG 1).take 80 := by kernel_rfl
theorem tabG_2 : (dropP 80 Tryz.prog.funcs.toList 2).map globsAt = dropP 80 tabG 2 := by kernel_rfl
theorem tabG_all : Tryz.prog.funcs.toList.map globsAt = tabG := map_parts 80 tabG_0 (map_parts 80 tabG_1 (tabG_2))
def tabN : List Bool := [true, true, false, false, false, false, false, false, false, false, false, false,
  false, false, false, false, false, false, false, false, false, false, false, false,
  false, false, false, false, false, false, false, false, false, false, false, false,
  false, false, false, false, false, false, false, false, false, false, false, true,
  false, false, false, false, false, false, false, false, false, true, true, false,
  false, false, false, false, false, false, false, false, false, false, false, false,
  false, false, false, false, false, false, false, false, false, false, false, false,
  false, false, false, false, false, false, false, false, false, false, false, false,
  false, false, false, false, false, false, false, false, false, false, false, false,
  false, false, false, false, false, false, false, false, false, false, false, false,
  false, false, false, false, false, false, false, false, false, false, false, false,
  false, false, false, false, false, false, false, false, false, false, false, false,
  false, false, false, false, false, false, false, true, false, false, false, false,
  false, false, false, false, false, false, false, false, false, false, false, false,
  false, false, false, false, false, false, false, false, false, false, false, false,
  true, true, true, true, true, true, true, true, true, true, true, true,
  true, true, true, true, true, true, true, true, true, true, true, true,
  true, true, true, true, true, true, false]
theorem tabN_0 : ((dropP 80 Tryz.prog.funcs.toList 0).take 80).map flagAt = (dropP 80 tabN 0).take 80 := by kernel_rfl
theorem tabN_1 : ((dropP 80 Tryz.prog.funcs.toList 1).take 80).map flagAt = (dropP 80 tabN 1).take 80 := by kernel_rfl
theorem tabN_2 : (dropP 80 Tryz.prog.funcs.toList 2).map flagAt = dropP 80 tabN 2 := by kernel_rfl
theorem tabN_all : Tryz.prog.funcs.toList.map flagAt = tabN := map_parts 80 tabN_0 (map_parts 80 tabN_1 (tabN_2))
def tabE : List Bool := [true, true, false, false, false, false, false, false, false, false, false, false,
  false, false, false, false, false, false, false, false, false, false, false, false,
  false, false, false, false, false, false, false, false, false, false, false, false,
  false, false, false, false, false, false, false, false, false, false, false, true,
  false, false, false, false, false, false, false, false, false, true, true, false,
  false, false, false, false, false, false, false, false, false, false, false, false,
  false, false, false, false, false, false, false, false, false, false, false, false,
  false, false, false, false, false, false, false, false, false, false, false, false,
  false, false, false, false, false, false, false, false, false, false, false, false,
  false, false, false, false, false, false, false, false, false, false, false, false,
  false, false, false, false, false, false, false, false, false, false, false, false,
  false, false, false, false, false, false, false, false, false, false, false, false,
  false, false, false, false, false, false, false, true, false, false, false, false,
  false, false, false, false, false, false, false, false, false, false, false, false,
  false, false, false, false, false, false, false, false, false, false, false, false,
  true, true, true, true, true, true, true, true, true, true, true, true,
  true, true, true, true, true, true, true, true, true, true, true, true,
  true, true, true, true, true, true, false]
theorem tabE_0 : ((dropP 80 Tryz.prog.funcs.toList 0).take 80).map bareAt = (dropP 80 tabE 0).take 80 := by kernel_rfl
theorem tabE_1 : ((dropP 80 Tryz.prog.funcs.toList 1).take 80).map bareAt = (dropP 80 tabE 1).take 80 := by kernel_rfl
theorem tabE_2 : (dropP 80 Tryz.prog.funcs.toList 2).map bareAt = dropP 80 tabE 2 := by kernel_rfl
theorem tabE_all : Tryz.prog.funcs.toList.map bareAt = tabE := map_parts 80 tabE_0 (map_parts 80 tabE_1 (tabE_2))
theorem laidOut_ok : (laidOutB Tryz.pinned.checked.prog) = true := by kernel_rfl
theorem mapsRowed_ok : (mapsRowed Tryz.pinned.checked.prog) = true := by kernel_rfl
theorem stopsHeard_ok : (Tryz.pinned.checked.prog.stopsHeard) = true := by kernel_rfl
theorem mayEnter_ok : (Tryz.pinned.checked.prog.mayEnter) = true := by kernel_rfl
theorem own : ownKnob Tryz.prog.godebug = none := by kernel_rfl
theorem follows : Tryz.prog.follows .mixedOrders = true := by kernel_rfl
theorem names : Tryz.prog.funcs.toList.all (fun fn => !(fn.name == "runtime.NumGoroutine")) = true := by kernel_rfl
theorem nameOK : NameOK Tryz.prog := by
  intro f fn c hf _
  have h := List.all_eq_true.1 names fn (by
    rw [Array.mem_toList_iff]
    exact Array.mem_of_getElem? hf)
  simpa using h
end
end Go.Proofs.YtfmcnkepidedpaaGreatDoor
