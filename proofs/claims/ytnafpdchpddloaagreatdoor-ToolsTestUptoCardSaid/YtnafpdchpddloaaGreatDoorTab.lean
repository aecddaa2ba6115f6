/-
  What each function of the program leads to and names, by tables, and closed facts of the whole program. No condition.
-/
import Derived.Test.YtnafpdchpddloaaGreatDoorXJoinK
import Derived.Test.YtnafpdchpddloaaGreatDoorXMxG
import Derived.Test.YtnafpdchpddloaaGreatDoorRows
open Go Go.Mx
namespace Go.Proofs.YtnafpdchpddloaaGreatDoor
set_option maxRecDepth 1000000
noncomputable section
theorem band {a b : Bool} (h : a = true) (k : b = true) : (a && b) = true := by rw [h, k]; rfl
def tabT : List (List Nat) := [[], [], [1], [4, 5, 6, 7, 7, 7], [5, 7, 8, 8], [], [9, 10, 11, 13, 12], [14, 15], [14], [16, 17], [], [],
  [], [18], [19, 20, 21, 22, 23, 24, 25, 26, 27, 28, 29, 30, 31, 32], [], [33, 33, 34, 35, 36, 37], [10], [], [], [], [39, 38, 39, 38], [40, 41, 42, 38, 38], [44, 43],
  [47, 45, 46, 48, 6, 46], [47, 48, 49, 46], [50, 43], [52, 53, 54, 43], [55, 43], [58, 43], [60, 61, 62], [62, 30], [40, 63, 63, 64, 65, 62, 62, 66, 38, 61, 62], [67], [68, 69, 68], [70],
  [], [39], [], [71, 72, 72, 72, 73], [74], [], [41, 41, 75, 46, 74], [76], [45, 46], [77, 10, 15], [40], [40, 76],
  [16, 78, 79, 16, 46], [16, 16, 77, 9, 80, 81, 12], [51, 46], [79, 56, 16, 51, 57], [9, 10, 11, 12], [82, 79, 52], [46], [56, 46, 57, 46], [77, 10, 83], [77, 81], [59, 46], [9, 10, 6, 12],
  [84], [], [40], [85, 86, 87, 88, 69, 69, 69, 90, 89, 86, 87, 91, 89], [92, 92, 93, 93, 89, 89, 89, 89, 94, 89, 89], [92, 92, 89, 89], [92, 93, 95, 95, 94, 96, 97, 98, 99], [100], [101], [102], [], [103, 104],
  [103], [], [105], [106], [16, 46], [9, 10], [34], [9, 10], [10, 107, 10, 10, 10, 81, 81, 16], [108, 69, 109], [], [108, 81, 33],
  [110, 111, 112, 110, 110], [113], [114], [115, 116], [92, 89], [93, 117], [92], [117, 117, 92], [], [], [117], [118],
  [119, 120], [121], [122], [123, 69, 69, 69, 69, 69, 71, 72, 124, 124, 124, 73, 72, 73], [125, 126, 125, 127, 126, 128], [129, 130, 67], [], [131], [132], [121], [133, 134, 135], [34, 34, 136],
  [137], [139, 138], [84], [140, 140, 140, 140, 141, 45], [142, 142, 143, 143, 144], [102], [125], [145, 145, 145, 145, 145, 145, 146], [147, 148, 149, 150], [], [117, 92], [],
  [118, 91, 117, 92], [151, 152, 153, 154], [151, 152, 153, 154], [155, 156], [], [157], [], [], [158], [159, 160], [159, 161, 67], [],
  [], [], [162, 163, 134, 164, 134, 165], [114], [], [166], [167, 168, 169, 170, 171, 172, 173, 174, 175, 138, 138], [176, 177], [141, 79], [16], [141, 178], [179, 180, 181],
  [], [], [145, 145, 145, 145, 145, 145], [182], [182], [182, 74, 183], [182, 74, 183], [], [177, 184, 185], [], [186, 187], [],
  [], [], [], [], [188], [], [], [135, 114, 69, 135, 189, 190], [135, 162, 69], [190, 190, 190, 190, 190, 190, 190, 190, 191, 192], [], [173],
  [193, 193], [194, 195], [196, 196, 196, 197], [], [173, 173, 173], [198, 198], [173, 173], [173, 173, 173, 173], [], [], [9], [199],
  [201, 200, 202, 204, 203, 206, 205], [207, 116], [], [], [], [], [], [208, 209], [], [135, 210, 211, 212, 213, 214, 215, 210], [], [],
  [], [173, 173], [139], [], [197], [216, 216, 216], [], [102], [], [], [], [217],
  [217], [160, 218], [219, 218], [220], [], [], [], [210, 134, 135, 69, 210], [221, 214], [210, 180, 85, 215, 210], [], [214],
  [173], [], [222], [223, 160], [115], [], [114, 224, 114, 127, 126], [], [], [], [], [],
  [], [], [], [], [], [], [], [], [], [], [], [],
  [], [], [], [], [], [], [], [], [], [], [], [],
  [], [], [], [183, 183]]
theorem tabT_0 : ((dropP 80 Tryz.prog.funcs.toList 0).take 80).map Tryz.prog.leadsTo = (dropP 80 tabT 0).take 80 := by kernel_rfl
theorem tabT_1 : ((dropP 80 Tryz.prog.funcs.toList 1).take 80).map Tryz.prog.leadsTo = (dropP 80 tabT 1).take 80 := by kernel_rfl
theorem tabT_2 : ((dropP 80 Tryz.prog.funcs.toList 2).take 80).map Tryz.prog.leadsTo = (dropP 80 tabT 2).take 80 := by kernel_rfl
theorem tabT_3 : (dropP 80 Tryz.prog.funcs.toList 3).map Tryz.prog.leadsTo = dropP 80 tabT 3 := by kernel_rfl
theorem tabT_all : Tryz.prog.funcs.toList.map Tryz.prog.leadsTo = tabT := map_parts 80 tabT_0 (map_parts 80 tabT_1 (map_parts 80 tabT_2 (tabT_3)))
def tabG : List (List Nat) := [[], [], [], [], [], [], [], [], [], [], [], [],
  [], [], [], [], [], [], [], [], [], [], [], [],
  [], [], [], [], [], [], [], [], [], [], [], [],
  [], [], [], [], [], [], [], [], [], [], [], [],
  [], [], [], [], [], [], [], [], [], [], [], [],
  [], [], [], [], [], [], [], [], [], [], [], [],
  [], [], [], [], [], [], [], [], [], [], [], [],
  [], [], [], [], [], [], [], [], [], [], [], [],
  [], [], [], [], [1, 1, 1], [], [], [], [], [], [], [],
  [], [], [], [], [], [], [], [], [], [], [], [],
  [], [], [], [], [], [], [], [], [], [], [], [],
  [], [], [], [], [], [], [], [], [], [], [], [],
  [], [], [], [2], [3], [], [], [], [4], [], [], [],
  [], [], [], [], [], [], [], [], [], [], [], [],
  [], [], [], [], [], [], [], [], [], [], [], [],
  [], [], [], [], [], [], [], [], [5, 6], [], [], [],
  [], [], [], [], [], [], [], [], [], [], [], [],
  [], [], [], [], [7], [8], [], [], [], [], [], [],
  [], [], [], [], [], [], [], [], [], [], [], [],
  [], [], [], [], [], [], [], [], [], [], [], [],
  [], [], [], [], [], [], [], [], [], [], [], [],
  [], [], [], [7, 8, 4, 6, 3, 2]]
theorem tabG_0 : ((dropP 80 Tryz.prog.funcs.toList 0).take 80).map globsAt = (dropP 80 tabG 0).take 80 := by kernel_rfl
theorem tabG_1 : ((dropP 80 Tryz.prog.funcs.toList 1).take 80).map globsAt = (dropP 80 tabG 1).take 80 := by kernel_rfl
theorem tabG_2 : ((dropP 80 Tryz.prog.funcs.toList 2).take 80).map globsAt = (dropP 80 tabG 2).take 80 := by kernel_rfl
theorem tabG_3 : (dropP 80 Tryz.prog.funcs.toList 3).map globsAt = dropP 80 tabG 3 := by kernel_rfl
theorem tabG_all : Tryz.prog.funcs.toList.map globsAt = tabG := map_parts 80 tabG_0 (map_parts 80 tabG_1 (map_parts 80 tabG_2 (tabG_3)))
def tabN : List Bool := [true, true, false, false, false, false, false, false, false, false, false, false,
  false, false, false, false, false, false, false, false, false, false, false, false,
  false, false, false, false, false, false, false, false, false, false, false, false,
  false, false, false, false, false, false, false, false, false, false, false, false,
  false, false, false, false, false, false, false, false, false, false, false, false,
  false, false, false, false, false, false, false, false, false, false, false, false,
  false, false, false, false, false, false, false, false, false, false, false, false,
  false, false, false, false, false, false, false, false, true, false, false, false,
  false, false, false, false, false, false, false, false, false, false, false, false,
  false, false, false, false, false, false, false, false, false, true, false, true,
  false, false, false, false, false, false, true, false, false, false, false, true,
  true, false, false, false, false, false, false, false, false, false, false, false,
  false, false, false, false, false, false, false, false, false, false, false, false,
  false, true, false, false, false, true, false, false, false, false, false, false,
  false, false, false, false, false, false, false, false, false, false, false, false,
  false, false, false, false, false, false, false, false, false, false, false, false,
  false, false, false, false, false, false, false, false, false, false, false, false,
  false, false, false, false, false, false, false, false, false, false, false, false,
  false, false, false, false, false, false, false, false, false, true, true, true,
  true, true, true, true, true, true, true, true, true, true, true, true,
  true, true, true, true, true, true, true, true, true, true, true, true,
  true, true, true, false]
theorem tabN_0 : ((dropP 80 Tryz.prog.funcs.toList 0).take 80).map flagAt = (dropP 80 tabN 0).take 80 := by kernel_rfl
theorem tabN_1 : ((dropP 80 Tryz.prog.funcs.toList 1).take 80).map flagAt = (dropP 80 tabN 1).take 80 := by kernel_rfl
theorem tabN_2 : ((dropP 80 Tryz.prog.funcs.toList 2).take 80).map flagAt = (dropP 80 tabN 2).take 80 := by kernel_rfl
theorem tabN_3 : (dropP 80 Tryz.prog.funcs.toList 3).map flagAt = dropP 80 tabN 3 := by kernel_rfl
theorem tabN_all : Tryz.prog.funcs.toList.map flagAt = tabN := map_parts 80 tabN_0 (map_parts 80 tabN_1 (map_parts 80 tabN_2 (tabN_3)))
def tabE : List Bool := [true, true, false, false, false, false, false, false, false, false, false, false,
  false, false, false, false, false, false, false, false, false, false, false, false,
  false, false, false, false, false, false, false, false, false, false, false, false,
  false, false, false, false, false, false, false, false, false, false, false, false,
  false, false, false, false, false, false, false, false, false, false, false, false,
  false, false, false, false, false, false, false, false, false, false, false, false,
  false, false, false, false, false, false, false, false, false, false, false, false,
  false, false, false, false, false, false, false, false, true, false, false, false,
  false, false, false, false, false, false, false, false, false, false, false, false,
  false, false, false, false, false, false, false, false, false, true, false, true,
  false, false, false, false, false, false, true, false, false, false, false, true,
  true, false, false, false, false, false, false, false, false, false, false, false,
  false, false, false, false, false, false, false, false, false, false, false, false,
  false, true, false, false, false, true, false, false, false, false, false, false,
  false, false, false, false, false, false, false, false, false, false, false, false,
  false, false, false, false, false, false, false, false, false, false, false, false,
  false, false, false, false, false, false, false, false, false, false, false, false,
  false, false, false, false, false, false, false, false, false, false, false, false,
  false, false, false, false, false, false, false, false, false, true, true, true,
  true, true, true, true, true, true, true, true, true, true, true, true,
  true, true, true, true, true, true, true, true, true, true, true, true,
  true, true, true, false]
theorem tabE_0 : ((dropP 80 Tryz.prog.funcs.toList 0).take 80).map bareAt = (dropP 80 tabE 0).take 80 := by kernel_rfl
theorem tabE_1 : ((dropP 80 Tryz.prog.funcs.toList 1).take 80).map bareAt = (dropP 80 tabE 1).take 80 := by kernel_rfl
theorem tabE_2 : ((dropP 80 Tryz.prog.funcs.toList 2).take 80).map bareAt = (dropP 80 tabE 2).take 80 := by kernel_rfl
theorem tabE_3 : (dropP 80 Tryz.prog.funcs.toList 3).map bareAt = dropP 80 tabE 3 := by kernel_rfl
theorem tabE_all : Tryz.prog.funcs.toList.map bareAt = tabE := map_parts 80 tabE_0 (map_parts 80 tabE_1 (map_parts 80 tabE_2 (tabE_3)))
theorem laidOut_ok : (laidOutB Tryz.pinned.checked.prog) = true := by kernel_rfl
theorem mapsRowed_ok : (mapsRowed Tryz.pinned.checked.prog) = true := by kernel_rfl
theorem stopsHeard_ok : (Tryz.pinned.checked.prog.stopsHeard) = true := by kernel_rfl
theorem mayEnter_ok : (Tryz.pinned.checked.prog.mayEnter) = true := by kernel_rfl
theorem own : ownKnob Tryz.prog.godebug = none := by kernel_rfl
theorem follows : Tryz.prog.follows .mixedOrders = true := by kernel_rfl
theorem names : Tryz.prog.funcs.toList.all (fun fn => !(fn.name == "runtime.NumGoroutine")) = true := by kernel_rfl
theorem nameOK : NameOK Tryz.prog := by
  intro f fn c hf _
  have h := List.all_eq_true.1 names fn (by
    rw [Array.mem_toList_iff]
    exact Array.mem_of_getElem? hf)
  simpa using h
end
end Go.Proofs.YtnafpdchpddloaaGreatDoor
