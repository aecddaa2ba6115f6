/-
  What each function of the program leads to and names, by tables, and closed facts of the whole program. No condition.
-/
import Derived.Test.YtdgcioinbegmgaaGreatDoorXJoinK
import Derived.Test.YtdgcioinbegmgaaGreatDoorXMxG
import Derived.Test.YtdgcioinbegmgaaGreatDoorRows
open Go Go.Mx
namespace Go.Proofs.YtdgcioinbegmgaaGreatDoor
set_option maxRecDepth 1000000
noncomputable section
theorem band {a b : Bool} (h : a = true) (k : b = true) : (a && b) = true := by rw [h, k]; rfl
def tabT : List (List Nat) := [[], [], [1], [5, 6, 7, 8, 9, 10, 11, 11], [5, 6, 9, 10, 12, 11], [8, 9, 13, 11], [], [14, 15], [16, 16, 17], [18], [19], [],
  [], [10, 20], [21], [22], [6], [23, 24, 25, 26, 25, 27, 23, 24, 23, 28, 29, 29, 23, 24, 27, 23, 28, 23, 29, 24, 29, 28, 30, 29, 25], [], [31, 20], [32, 33], [34, 35], [36], [],
  [], [], [], [24, 28, 30, 24, 24, 24, 24, 24, 29], [], [], [24, 37, 38, 39, 24, 40, 41, 29], [42, 43, 44], [45], [], [], [],
  [46, 47, 46, 48, 47, 49], [50, 38], [], [24, 51, 24, 52, 23, 28, 51, 28, 17, 24, 28], [23, 24, 24, 28, 28], [23, 24, 53, 28], [], [54, 56, 55, 57, 42], [58, 42, 57, 42, 59, 19, 60, 61, 62, 42], [63], [64], [],
  [], [65], [], [23, 66], [24, 37, 24, 38, 24, 38], [24, 23, 24, 23, 24, 24], [67, 32, 33, 68, 69, 70, 58, 32], [71], [73, 72], [74], [57, 75, 57, 75, 76, 77, 78, 12], [79, 42, 19, 20, 7, 79],
  [80, 81, 82, 84, 83], [80, 84, 83], [32, 85, 32, 33], [], [], [], [], [86], [87], [21, 35, 88], [45], [89, 90, 91],
  [92, 93], [94], [95], [], [96, 32, 32, 32, 33], [97], [98, 99], [20, 42], [100, 101, 102], [], [], [],
  [103], [], [36], [], [46], [], [104, 105, 90, 106, 90, 107], [88], [108], [110, 109], [], [111, 112, 113, 114],
  [45, 115], [117, 116, 118, 120, 119, 122, 121], [123], [124, 125, 126, 127], [], [128, 128, 100], [100], [], [], [91, 88, 68, 91, 129, 130], [91, 104, 68], [130, 130, 130, 130, 130, 130, 130, 130, 131, 132],
  [], [133, 134, 135, 136, 137, 138, 139, 140, 141, 109, 109], [142, 143], [], [143, 144, 145], [], [146, 147], [148], [], [], [], [149],
  [149], [150, 151], [152, 151], [153], [154], [154], [154, 57, 155], [154, 57, 155], [], [91, 156, 157, 21, 158, 35, 159, 156], [], [],
  [], [139], [160, 160], [161, 162], [163, 163, 163, 164], [], [139, 139, 139], [165, 165], [139, 139], [139, 139, 139, 139], [], [],
  [], [], [], [166, 167], [], [], [168], [169], [170, 150], [171, 171, 171, 171, 171, 171, 172], [], [],
  [], [156, 90, 91, 68, 156], [156, 97, 173, 159, 156], [35], [139, 139], [110], [], [164], [174, 174, 174], [], [], [],
  [], [88, 175, 88, 48, 47], [], [], [171, 171, 171, 171, 171, 171], [176], [139], [], [87], [], [], [],
  [], [], [], [], [], [], [], [], [], [], [], [],
  [], [], [], [], [], [], [], [], [], [], [], [],
  [], [], [], [], [155, 155]]
theorem tabT_0 : ((dropP 80 Tryz.prog.funcs.toList 0).take 80).map Tryz.prog.leadsTo = (dropP 80 tabT 0).take 80 := by kernel_rfl
theorem tabT_1 : ((dropP 80 Tryz.prog.funcs.toList 1).take 80).map Tryz.prog.leadsTo = (dropP 80 tabT 1).take 80 := by kernel_rfl
theorem tabT_2 : (dropP 80 Tryz.prog.funcs.toList 2).map Tryz.prog.leadsTo = dropP 80 tabT 2 := by kernel_rfl
theorem tabT_all : Tryz.prog.funcs.toList.map Tryz.prog.leadsTo = tabT := map_parts 80 tabT_0 (map_parts 80 tabT_1 (tabT_2))
def tabG : List (List Nat) := [[], [], [], [], [], [], [], [], [], [], [], [],
  [], [], [], [], [], [], [], [], [], [], [], [],
  [], [], [], [], [], [], [], [], [], [], [], [],
  [0, 0, 0], [], [], [], [], [], [], [], [], [], [], [],
  [], [], [], [], [], [], [], [], [], [], [], [],
  [], [], [], [], [], [], [], [], [], [], [], [],
  [], [], [], [], [], [], [], [], [], [], [], [],
  [], [], [], [], [], [], [], [], [], [], [], [],
  [], [], [], [], [], [], [], [], [], [], [], [],
  [], [], [], [], [1], [], [], [], [], [], [], [],
  [], [], [], [], [2], [3], [], [], [], [], [], [],
  [], [], [], [], [], [], [], [], [], [], [], [],
  [], [], [], [], [], [], [], [], [], [], [], [],
  [], [], [], [], [], [], [], [], [], [], [4], [5],
  [6, 7], [], [], [], [], [], [], [], [], [], [], [],
  [], [], [], [], [], [], [], [], [], [], [], [],
  [], [], [], [], [], [], [], [], [], [], [], [],
  [], [], [], [], [4, 5, 1, 7, 3, 2]]
theorem tabG_0 : ((dropP 80 Tryz.prog.funcs.toList 0).take 80).map globsAt = (dropP 80 tabG 0).take 80 := by kernel_rfl
theorem tabG_1 : ((dropP 80 Tryz.prog.funcs.toList 1).take 80).map globsAt = (dropP 80 tabG 1).take 80 := by kernel_rfl
theorem tabG_2 : (dropP 80 Tryz.prog.funcs.toList 2).map globsAt = dropP 80 tabG 2 := by kernel_rfl
theorem tabG_all : Tryz.prog.funcs.toList.map globsAt = tabG := map_parts 80 tabG_0 (map_parts 80 tabG_1 (tabG_2))
def tabN : List Bool := [true, true, false, false, false, false, false, false, false, false, false, false,
  false, false, false, false, false, false, false, false, false, false, false, false,
  false, false, false, false, false, false, false, false, false, false, false, false,
  false, false, false, false, false, false, false, false, false, false, false, true,
  false, false, false, false, false, false, false, false, false, false, false, false,
  false, false, false, true, true, false, false, false, false, false, false, false,
  false, false, false, false, false, false, false, false, false, false, false, false,
  false, false, false, false, false, false, false, false, false, false, false, false,
  false, false, false, false, false, false, false, false, false, false, false, false,
  false, false, false, false, false, false, false, false, false, false, false, false,
  false, false, false, false, false, false, false, false, false, false, false, false,
  false, false, false, false, false, false, false, false, false, false, false, false,
  false, false, false, false, true, false, false, false, false, false, false, false,
  false, false, false, false, false, false, false, false, false, false, false, false,
  false, false, false, false, false, false, false, false, false, true, true, true,
  true, true, true, true, true, true, true, true, true, true, true, true,
  true, true, true, true, true, true, true, true, true, true, true, true,
  true, true, true, true, false]
theorem tabN_0 : ((dropP 80 Tryz.prog.funcs.toList 0).take 80).map flagAt = (dropP 80 tabN 0).take 80 := by kernel_rfl
theorem tabN_1 : ((dropP 80 Tryz.prog.funcs.toList 1).take 80).map flagAt = (dropP 80 tabN 1).take 80 := by kernel_rfl
theorem tabN_2 : (dropP 80 Tryz.prog.funcs.toList 2).map flagAt = dropP 80 tabN 2 := by kernel_rfl
theorem tabN_all : Tryz.prog.funcs.toList.map flagAt = tabN := map_parts 80 tabN_0 (map_parts 80 tabN_1 (tabN_2))
def tabE : List Bool := [true, true, false, false, false, false, false, false, false, false, false, false,
  false, false, false, false, false, false, false, false, false, false, false, false,
  false, false, false, false, false, false, false, false, false, false, false, false,
  false, false, false, false, false, false, false, false, false, false, false, true,
  false, false, false, false, false, false, false, false, false, false, false, false,
  false, false, false, true, true, false, false, false, false, false, false, false,
  false, false, false, false, false, false, false, false, false, false, false, false,
  false, false, false, false, false, false, false, false, false, false, false, false,
  false, false, false, false, false, false, false, false, false, false, false, false,
  false, false, false, false, false, false, false, false, false, false, false, false,
  false, false, false, false, false, false, false, false, false, false, false, false,
  false, false, false, false, false, false, false, false, false, false, false, false,
  false, false, false, false, true, false, false, false, false, false, false, false,
  false, false, false, false, false, false, false, false, false, false, false, false,
  false, false, false, false, false, false, false, false, false, true, true, true,
  true, true, true, true, true, true, true, true, true, true, true, true,
  true, true, true, true, true, true, true, true, true, true, true, true,
  true, true, true, true, false]
theorem tabE_0 : ((dropP 80 Tryz.prog.funcs.toList 0).take 80).map bareAt = (dropP 80 tabE 0).take 80 := by kernel_rfl
theorem tabE_1 : ((dropP 80 Tryz.prog.funcs.toList 1).take 80).map bareAt = (dropP 80 tabE 1).take 80 := by kernel_rfl
theorem tabE_2 : (dropP 80 Tryz.prog.funcs.toList 2).map bareAt = dropP 80 tabE 2 := by kernel_rfl
theorem tabE_all : Tryz.prog.funcs.toList.map bareAt = tabE := map_parts 80 tabE_0 (map_parts 80 tabE_1 (tabE_2))
theorem laidOut_ok : (laidOutB Tryz.pinned.checked.prog) = true := by kernel_rfl
theorem mapsRowed_ok : (mapsRowed Tryz.pinned.checked.prog) = true := by kernel_rfl
theorem stopsHeard_ok : (Tryz.pinned.checked.prog.stopsHeard) = true := by kernel_rfl
theorem mayEnter_ok : (Tryz.pinned.checked.prog.mayEnter) = true := by kernel_rfl
theorem own : ownKnob Tryz.prog.godebug = none := by kernel_rfl
theorem follows : Tryz.prog.follows .mixedOrders = true := by kernel_rfl
theorem names : Tryz.prog.funcs.toList.all (fun fn => !(fn.name == "runtime.NumGoroutine")) = true := by kernel_rfl
theorem nameOK : NameOK Tryz.prog := by
  intro f fn c hf _
  have h := List.all_eq_true.1 names fn (by
    rw [Array.mem_toList_iff]
    exact Array.mem_of_getElem? hf)
  simpa using h
end
end Go.Proofs.YtdgcioinbegmgaaGreatDoor
