/-
  What each function of the program leads to and names, by tables, and closed facts of the whole program. No condition.
-/
import Derived.Test.YtiinlpdophgfjaaGreatDoorXJoinK
import Derived.Test.YtiinlpdophgfjaaGreatDoorXMxG
import Derived.Test.YtiinlpdophgfjaaGreatDoorRows
open Go Go.Mx
namespace Go.Proofs.YtiinlpdophgfjaaGreatDoor
set_option maxRecDepth 1000000
noncomputable section
theorem band {a b : Bool} (h : a = true) (k : b = true) : (a && b) = true := by rw [h, k]; rfl
def tabT : List (List Nat) := [[], [], [1], [4, 5, 7, 6, 5], [7, 6, 8, 8], [9, 9], [10, 11], [], [10], [9], [12, 13, 14, 15, 16, 17, 18, 19, 20, 21, 22, 23, 24, 25], [],
  [], [], [27, 26, 27, 26], [28, 29, 30, 26, 26], [32, 31], [35, 33, 34, 36, 37, 34], [35, 36, 38, 34], [39, 31], [41, 42, 43, 31], [44, 31], [47, 31], [49, 50, 51],
  [51, 23], [28, 52, 52, 53, 54, 51, 51, 55, 26, 50, 51], [], [56, 57, 57, 57, 58], [59], [], [29, 29, 60, 34, 59], [61], [33, 34], [62, 63, 11], [28], [28, 61],
  [64, 65, 66, 64, 34], [67, 63, 68, 70, 69], [64, 64, 62, 67, 71, 72, 69], [40, 34], [66, 45, 64, 40, 46], [67, 63, 68, 69], [73, 66, 41], [34], [45, 34, 46, 34], [62, 63, 74], [62, 72], [48, 34],
  [67, 63, 37, 69], [75], [], [28], [76, 77, 78, 79, 80, 80, 80, 82, 81, 77, 78, 83, 81], [84, 84, 85, 85, 81, 81, 81, 81, 86, 81, 81], [84, 84, 81, 81], [84, 85, 87, 87, 86, 88, 89, 90, 91], [92, 93], [92], [], [94],
  [95], [64, 34], [67, 63], [], [96, 96, 97, 98, 99, 100], [97], [67, 63], [64, 101], [], [], [102], [63, 103, 63, 63, 63, 72, 72, 64],
  [104, 80, 105], [], [104, 72, 96], [106, 107, 108, 106, 106], [109], [110], [111, 112], [84, 81], [113], [85, 114], [84], [114, 114, 84],
  [], [], [114], [115], [116, 117], [118], [119], [120, 80, 80, 80, 80, 80, 56, 57, 121, 121, 121, 58, 57, 58], [122], [123], [118], [124, 125, 126],
  [127], [128, 80, 128], [129], [], [27], [63], [], [97, 97, 130], [131], [133, 132], [75], [134, 134, 134, 134, 135, 33],
  [136, 136, 137, 137, 138], [113], [139], [140, 140, 140, 140, 140, 140, 141], [142, 143, 144, 145], [], [], [114, 84], [], [115, 83, 114, 84], [146, 147, 148, 149], [146, 147, 148, 149],
  [150, 151], [], [], [], [], [152, 153, 125, 154, 125, 155], [110], [156], [157], [], [], [158],
  [159, 160, 161, 162, 163, 164, 165, 166, 167, 132, 132], [168, 169], [135, 66], [64], [135, 170], [171, 172, 173], [], [174], [], [140, 140, 140, 140, 140, 140], [175], [175],
  [175, 59, 176], [175, 59, 176], [], [169, 177, 178], [], [179, 180], [], [], [], [126, 110, 80, 126, 181, 182], [126, 152, 80], [182, 182, 182, 182, 182, 182, 182, 182, 183, 184],
  [139, 185, 139, 186, 185, 187], [188, 189, 127], [], [165], [190, 190], [191, 192], [193, 193, 193, 194], [], [165, 165, 165], [195, 195], [165, 165], [165, 165, 165, 165],
  [], [], [67], [196], [198, 197, 199, 201, 200, 203, 202], [204, 112], [], [], [], [], [], [],
  [205, 206], [126, 207, 208, 209, 210, 211, 212, 207], [], [], [], [], [], [213], [214, 215], [214, 216, 127], [165, 165], [133],
  [], [194], [217, 217, 217], [], [113], [], [], [], [218], [218], [215, 219], [220, 219],
  [221], [], [], [], [207, 125, 126, 80, 207], [222, 211], [207, 172, 76, 212, 207], [], [211], [], [], [223],
  [], [165], [], [224], [225, 215], [111], [], [], [110, 226, 110, 186, 185], [], [], [],
  [], [], [], [], [], [], [], [], [], [], [], [],
  [], [], [], [], [], [], [], [], [], [], [], [],
  [], [], [], [], [], [176, 176]]
theorem tabT_0 : ((dropP 80 Tryz.prog.funcs.toList 0).take 80).map Tryz.prog.leadsTo = (dropP 80 tabT 0).take 80 := by kernel_rfl
theorem tabT_1 : ((dropP 80 Tryz.prog.funcs.toList 1).take 80).map Tryz.prog.leadsTo = (dropP 80 tabT 1).take 80 := by kernel_rfl
theorem tabT_2 : ((dropP 80 Tryz.prog.funcs.toList 2).take 80).map Tryz.prog.leadsTo = (dropP 80 tabT 2).take 80 := by kernel_rfl
theorem tabT_3 : (dropP 80 Tryz.prog.funcs.toList 3).map Tryz.prog.leadsTo = dropP 80 tabT 3 := by kernel_rfl
theorem tabT_all : Tryz.prog.funcs.toList.map Tryz.prog.leadsTo = tabT := map_parts 80 tabT_0 (map_parts 80 tabT_1 (map_parts 80 tabT_2 (tabT_3)))
def tabG : List (List Nat) := [[], [], [], [], [], [], [], [], [], [], [], [],
  [], [], [], [], [], [], [], [], [], [], [], [],
  [], [], [], [], [], [], [], [], [], [], [], [],
  [], [], [], [], [], [], [], [], [], [], [], [],
  [], [], [], [], [], [], [], [], [], [], [], [],
  [], [], [], [], [], [], [], [], [], [], [], [],
  [], [], [], [], [], [], [], [], [], [], [], [],
  [], [], [], [], [], [], [], [], [], [], [], [],
  [], [], [], [], [], [], [], [], [], [], [], [],
  [], [], [], [], [], [], [], [], [], [], [], [],
  [], [], [], [], [], [], [], [], [], [], [], [],
  [], [], [], [], [], [], [], [], [], [], [2], [3],
  [], [], [], [4], [], [], [], [], [], [], [], [],
  [1, 1, 1], [], [], [], [], [], [], [], [], [], [], [],
  [], [], [], [], [], [], [], [], [], [], [], [],
  [], [], [], [], [], [], [], [], [], [], [], [],
  [], [], [], [], [], [], [], [], [], [], [], [],
  [], [5], [6], [], [], [], [], [], [], [], [], [],
  [], [], [], [], [], [], [], [7, 8], [], [], [], [],
  [], [], [], [], [], [], [], [], [], [], [], [],
  [], [], [], [], [], [], [], [], [], [], [], [],
  [], [], [], [], [], [5, 6, 4, 8, 3, 2]]
theorem tabG_0 : ((dropP 80 Tryz.prog.funcs.toList 0).take 80).map globsAt = (dropP 80 tabG 0).take 80 := by kernel_rfl
theorem tabG_1 : ((dropP 80 Tryz.prog.funcs.toList 1).take 80).map globsAt = (dropP 80 tabG 1).take 80 := by kernel_rfl
theorem tabG_2 : ((dropP 80 Tryz.prog.funcs.toList 2).take 80).map globsAt = (dropP 80 tabG 2).take 80 := by kernel_rfl
theorem tabG_3 : (dropP 80 Tryz.prog.funcs.toList 3).map globsAt = dropP 80 tabG 3 := by kernel_rfl
theorem tabG_all : Tryz.prog.funcs.toList.map globsAt = tabG := map_parts 80 tabG_0 (map_parts 80 tabG_1 (map_parts 80 tabG_2 (tabG_3)))
def tabN : List Bool := [true, true, false, false, false, false, false, false, false, false, false, false,
  false, false, false, false, false, false, false, false, false, false, false, false,
  false, false, false, false, false, false, false, false, false, false, false, false,
  false, false, false, false, false, false, false, false, false, false, false, false,
  false, false, false, false, false, false, false, false, false, false, false, false,
  false, false, false, false, false, false, false, false, false, false, false, false,
  false, false, false, false, false, false, false, false, false, false, false, false,
  true, false, false, false, false, false, false, false, false, false, false, false,
  false, false, false, false, false, false, false, false, false, false, false, false,
  false, false, false, false, false, false, true, false, true, false, false, false,
  false, false, true, true, false, false, false, false, false, false, false, false,
  false, false, false, false, false, false, false, false, false, false, false, false,
  false, false, false, false, false, false, false, false, false, false, false, false,
  false, false, false, false, false, false, false, false, false, false, false, false,
  false, false, false, false, false, false, true, false, false, false, false, false,
  false, false, false, false, false, true, false, false, false, false, false, false,
  false, false, false, false, false, false, false, false, false, false, false, false,
  false, false, false, false, false, false, false, false, false, false, false, false,
  true, false, false, false, false, false, false, false, false, false, false, true,
  true, true, true, true, true, true, true, true, true, true, true, true,
  true, true, true, true, true, true, true, true, true, true, true, true,
  true, true, true, true, true, false]
theorem tabN_0 : ((dropP 80 Tryz.prog.funcs.toList 0).take 80).map flagAt = (dropP 80 tabN 0).take 80 := by kernel_rfl
theorem tabN_1 : ((dropP 80 Tryz.prog.funcs.toList 1).take 80).map flagAt = (dropP 80 tabN 1).take 80 := by kernel_rfl
theorem tabN_2 : ((dropP 80 Tryz.prog.funcs.toList 2).take 80).map flagAt = (dropP 80 tabN 2).take 80 := by kernel_rfl
theorem tabN_3 : (dropP 80 Tryz.prog.funcs.toList 3).map flagAt = dropP 80 tabN 3 := by kernel_rfl
theorem tabN_all : Tryz.prog.funcs.toList.map flagAt = tabN := map_parts 80 tabN_0 (map_parts 80 tabN_1 (map_parts 80 tabN_2 (tabN_3)))
def tabE : List Bool := [true, true, false, false, false, false, false, false, false, false, false, false,
  false, false, false, false, false, false, false, false, false, false, false, false,
  false, false, false, false, false, false, false, false, false, false, false, false,
  false, false, false, false, false, false, false, false, false, false, false, false,
  false, false, false, false, false, false, false, false, false, false, false, false,
  false, false, false, false, false, false, false, false, false, false, false, false,
  false, false, false, false, false, false, false, false, false, false, false, false,
  true, false, false, false, false, false, false, false, false, false, false, false,
  false, false, false, false, false, false, false, false, false, false, false, false,
  false, false, false, false, false, false, true, false, true, false, false, false,
  false, false, true, true, false, false, false, false, false, false, false, false,
  false, false, false, false, false, false, false, false, false, false, false, false,
  false, false, false, false, false, false, false, false, false, false, false, false,
  false, false, false, false, false, false, false, false, false, false, false, false,
  false, false, false, false, false, false, true, false, false, false, false, false,
  false, false, false, false, false, true, false, false, false, false, false, false,
  false, false, false, false, false, false, false, false, false, false, false, false,
  false, false, false, false, false, false, false, false, false, false, false, false,
  true, false, false, false, false, false, false, false, false, false, false, true,
  true, true, true, true, true, true, true, true, true, true, true, true,
  true, true, true, true, true, true, true, true, true, true, true, true,
  true, true, true, true, true, false]
theorem tabE_0 : ((dropP 80 Tryz.prog.funcs.toList 0).take 80).map bareAt = (dropP 80 tabE 0).take 80 := by kernel_rfl
theorem tabE_1 : ((dropP 80 Tryz.prog.funcs.toList 1).take 80).map bareAt = (dropP 80 tabE 1).take 80 := by kernel_rfl
theorem tabE_2 : ((dropP 80 Tryz.prog.funcs.toList 2).take 80).map bareAt = (dropP 80 tabE 2).take 80 := by kernel_rfl
theorem tabE_3 : (dropP 80 Tryz.prog.funcs.toList 3).map bareAt = dropP 80 tabE 3 := by kernel_rfl
theorem tabE_all : Tryz.prog.funcs.toList.map bareAt = tabE := map_parts 80 tabE_0 (map_parts 80 tabE_1 (map_parts 80 tabE_2 (tabE_3)))
theorem laidOut_ok : (laidOutB Tryz.pinned.checked.prog) = true := by kernel_rfl
theorem mapsRowed_ok : (mapsRowed Tryz.pinned.checked.prog) = true := by kernel_rfl
theorem stopsHeard_ok : (Tryz.pinned.checked.prog.stopsHeard) = true := by kernel_rfl
theorem mayEnter_ok : (Tryz.pinned.checked.prog.mayEnter) = true := by kernel_rfl
theorem own : ownKnob Tryz.prog.godebug = none := by kernel_rfl
theorem follows : Tryz.prog.follows .mixedOrders = true := by kernel_rfl
theorem names : Tryz.prog.funcs.toList.all (fun fn => !(fn.name == "runtime.NumGoroutine")) = true := by kernel_rfl
theorem nameOK : NameOK Tryz.prog := by
  intro f fn c hf _
  have h := List.all_eq_true.1 names fn (by
    rw [Array.mem_toList_iff]
    exact Array.mem_of_getElem? hf)
  simpa using h
end
end Go.Proofs.YtiinlpdophgfjaaGreatDoor
