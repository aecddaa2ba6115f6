/-
  What each function of the program leads to and names, by tables, and closed facts of the whole program. No condition.
-/
import Derived.Test.YthocoonhoilmdaaGreatDoorXGoesK
import Derived.Test.YthocoonhoilmdaaGreatDoorXMxG
import Derived.Test.YthocoonhoilmdaaGreatDoorRows
open Go Go.Mx
namespace Go.Proofs.YthocoonhoilmdaaGreatDoor
set_option maxRecDepth 1000000
noncomputable section
theorem band {a b : Bool} (h : a = true) (k : b = true) : (a && b) = true := by rw [h, k]; rfl
def tabT : List (List Nat) := [[], [], [1], [5, 6, 7, 8, 9], [5, 10, 10, 6, 9, 9, 9, 11, 8, 9, 9, 11, 9, 9], [6, 9, 12, 12], [], [7], [13, 14, 15, 17, 16], [18, 19], [], [20, 19],
  [18], [21, 22], [], [], [], [23], [24, 25, 26, 27, 28, 29, 30, 31, 32, 33, 34, 35, 36, 37], [], [38, 39, 40], [41, 41, 42, 43, 44, 45], [14], [],
  [], [], [47, 46, 47, 46], [48, 49, 50, 46, 46], [52, 51], [55, 53, 54, 56, 8, 54], [55, 56, 57, 54], [58, 51], [60, 61, 62, 51], [63, 51], [66, 51], [68, 69, 70],
  [70, 35], [48, 71, 71, 72, 73, 70, 70, 74, 46, 69, 70], [75], [76], [78, 77], [79], [80, 39, 80], [81], [], [47], [], [82, 83, 83, 83, 84],
  [85], [], [49, 49, 86, 54, 85], [87], [53, 54], [88, 14, 19], [48], [48, 87], [21, 89, 90, 21, 54], [21, 21, 88, 13, 91, 20, 16], [59, 54], [90, 64, 21, 59, 65],
  [13, 14, 15, 16], [92, 90, 60], [54], [64, 54, 65, 54], [88, 14, 93], [88, 20], [67, 54], [13, 14, 8, 16], [94], [], [48], [95, 96, 97, 98, 39, 39, 39, 100, 99, 96, 97, 101, 99],
  [102, 102, 103, 103, 99, 99, 99, 99, 104, 99, 99], [102, 102, 99, 99], [102, 103, 105, 105, 104, 106, 107, 108, 109], [110], [], [111, 112, 113, 114, 115, 116, 117, 118, 119, 77, 77], [120, 121], [122], [123], [], [124, 125], [124],
  [], [126], [127], [21, 54], [13, 14], [42], [13, 14], [14, 128, 14, 14, 14, 20, 20, 21], [], [38, 20, 41], [129, 130, 131, 129, 129], [132],
  [133], [134, 135], [102, 99], [103, 136], [102], [136, 136, 102], [], [], [136], [137], [138, 139], [140],
  [141], [142, 39, 39, 39, 39, 39, 82, 83, 143, 143, 143, 84, 83, 84], [], [117], [144, 144], [145, 146], [147, 147, 147, 148], [], [117, 117, 117], [149, 149], [117, 117], [117, 117, 117, 117],
  [], [], [150, 151, 150, 152, 151, 153], [154, 155, 79], [156], [157], [140], [158, 159, 160], [42, 42, 161], [94], [162, 162, 162, 162, 163, 53], [164, 164, 165, 165, 166],
  [76], [150], [167, 167, 167, 167, 167, 167, 168], [169, 170, 171, 172], [], [136, 102], [], [137, 101, 136, 102], [173, 174, 175, 176], [173, 174, 175, 176], [177, 178], [],
  [117, 117], [78], [], [148], [179, 179, 179], [], [180], [], [], [181], [182, 183], [182, 184, 79],
  [], [], [], [185, 186, 159, 187, 159, 188], [133], [], [163, 90], [21], [163, 189], [190, 191, 192], [], [],
  [167, 167, 167, 167, 167, 167], [193], [193], [193, 85, 194], [193, 85, 194], [], [121, 195, 196], [], [197, 198], [], [], [117],
  [], [], [], [199], [], [], [160, 133, 39, 160, 200, 201], [160, 185, 39], [201, 201, 201, 201, 201, 201, 201, 201, 202, 203], [13], [204], [206, 205, 207, 209, 208, 211, 210],
  [212, 135], [], [], [], [], [], [213, 214], [], [160, 215, 216, 217, 218, 219, 220, 215], [], [], [],
  [76], [], [], [], [221], [221], [183, 222], [223, 222], [224], [], [], [],
  [215, 159, 160, 39, 215], [225, 219], [215, 191, 95, 220, 215], [], [219], [], [226], [227, 183], [134], [], [133, 228, 133, 152, 151], [],
  [], [], [], [], [], [], [], [], [], [], [], [],
  [], [], [], [], [], [], [], [], [], [], [], [],
  [], [], [], [], [], [], [], [194, 194]]
theorem tabT_0 : ((dropP 80 Tryz.prog.funcs.toList 0).take 80).map Tryz.prog.leadsTo = (dropP 80 tabT 0).take 80 := by kernel_rfl
theorem tabT_1 : ((dropP 80 Tryz.prog.funcs.toList 1).take 80).map Tryz.prog.leadsTo = (dropP 80 tabT 1).take 80 := by kernel_rfl
theorem tabT_2 : ((dropP 80 Tryz.prog.funcs.toList 2).take 80).map Tryz.prog.leadsTo = (dropP 80 tabT 2).take 80 := by kernel_rfl
theorem tabT_3 : (dropP 80 Tryz.prog.funcs.toList 3).map Tryz.prog.leadsTo = dropP 80 tabT 3 := by kernel_rfl
theorem tabT_all : Tryz.prog.funcs.toList.map Tryz.prog.leadsTo = tabT := map_parts 80 tabT_0 (map_parts 80 tabT_1 (map_parts 80 tabT_2 (tabT_3)))
def tabG : List (List Nat) := [[], [], [], [], [], [], [], [], [], [], [], [],
  [], [], [], [], [], [], [], [], [], [], [], [],
  [], [], [], [], [], [], [], [], [], [], [], [],
  [], [], [], [], [], [], [], [], [], [], [], [],
  [], [], [], [], [], [], [], [], [], [], [], [],
  [], [], [], [], [], [], [], [], [], [], [], [],
  [], [], [], [], [], [], [], [], [], [], [], [],
  [], [], [], [], [], [], [], [], [], [], [], [],
  [], [], [], [], [], [], [], [], [], [], [], [],
  [], [], [], [], [], [], [], [], [], [], [], [],
  [], [], [1, 1, 1], [], [], [], [], [], [], [], [], [],
  [], [], [], [], [], [], [], [], [], [], [], [],
  [], [], [], [], [], [], [], [], [], [], [], [],
  [], [], [], [], [], [], [], [], [], [], [], [],
  [], [2], [3], [], [], [], [4], [], [], [], [], [],
  [], [], [], [], [], [], [], [], [], [], [], [],
  [], [], [], [], [], [], [], [5, 6], [], [], [], [],
  [], [], [], [], [], [], [], [], [], [7], [8], [],
  [], [], [], [], [], [], [], [], [], [], [], [],
  [], [], [], [], [], [], [], [], [], [], [], [],
  [], [], [], [], [], [], [], [], [], [], [], [],
  [], [], [], [], [], [], [], [7, 8, 4, 6, 3, 2]]
theorem tabG_0 : ((dropP 80 Tryz.prog.funcs.toList 0).take 80).map globsAt = (dropP 80 tabG 0).take 80 := by kernel_rfl
theorem tabG_1 : ((dropP 80 Tryz.prog.funcs.toList 1).take 80).map globsAt = (dropP 80 tabG 1).take 80 := by kernel_rfl
theorem tabG_2 : ((dropP 80 Tryz.prog.funcs.toList 2).take 80).map globsAt = (dropP 80 tabG 2).take 80 := by kernel_rfl
theorem tabG_3 : (dropP 80 Tryz.prog.funcs.toList 3).map globsAt = dropP 80 tabG 3 := by kernel_rfl
theorem tabG_all : Tryz.prog.funcs.toList.map globsAt = tabG := map_parts 80 tabG_0 (map_parts 80 tabG_1 (map_parts 80 tabG_2 (tabG_3)))
def tabN : List Bool := [true, true, false, false, false, false, false, false, false, false, false, false,
  false, false, false, false, false, false, false, false, false, false, false, false,
  false, false, false, false, false, false, false, false, false, false, false, false,
  false, false, false, false, false, false, false, false, false, false, false, false,
  false, false, false, false, false, false, false, false, false, false, false, false,
  false, false, false, false, false, false, false, false, false, false, false, false,
  false, false, false, false, false, false, false, false, false, false, false, false,
  false, false, false, false, false, false, false, false, false, false, false, false,
  false, false, false, false, false, false, true, false, false, false, false, false,
  false, false, false, false, false, false, false, false, false, false, false, false,
  false, false, false, false, false, false, false, false, false, false, false, false,
  false, false, false, false, true, false, true, false, false, false, false, false,
  false, false, false, false, false, false, false, true, false, false, false, false,
  true, true, false, false, false, false, false, false, false, false, false, false,
  false, false, false, false, false, false, false, false, false, false, false, false,
  true, false, false, false, true, false, false, false, false, false, false, false,
  false, false, false, false, false, false, false, false, false, false, false, false,
  false, false, false, false, false, false, false, false, false, false, false, false,
  false, false, false, false, false, false, false, false, false, false, false, false,
  false, true, true, true, true, true, true, true, true, true, true, true,
  true, true, true, true, true, true, true, true, true, true, true, true,
  true, true, true, true, true, true, true, false]
theorem tabN_0 : ((dropP 80 Tryz.prog.funcs.toList 0).take 80).map flagAt = (dropP 80 tabN 0).take 80 := by kernel_rfl
theorem tabN_1 : ((dropP 80 Tryz.prog.funcs.toList 1).take 80).map flagAt = (dropP 80 tabN 1).take 80 := by kernel_rfl
theorem tabN_2 : ((dropP 80 Tryz.prog.funcs.toList 2).take 80).map flagAt = (dropP 80 tabN 2).take 80 := by kernel_rfl
theorem tabN_3 : (dropP 80 Tryz.prog.funcs.toList 3).map flagAt = dropP 80 tabN 3 := by kernel_rfl
theorem tabN_all : Tryz.prog.funcs.toList.map flagAt = tabN := map_parts 80 tabN_0 (map_parts 80 tabN_1 (map_parts 80 tabN_2 (tabN_3)))
def tabE : List Bool := [true, true, false, false, false, false, false, false, false, false, false, false,
  false, false, false, false, false, false, false, false, false, false, false, false,
  false, false, false, false, false, false, false, false, false, false, false, false,
  false, false, false, false, false, false, false, false, false, false, false, false,
  false, false, false, false, false, false, false, false, false, false, false, false,
  false, false, false, false, false, false, false, false, false, false, false, false,
  false, false, false, false, false, false, false, false, false, false, false, false,
  false, false, false, false, false, false, false, false, false, false, false, false,
  false, false, false, false, false, false, true, false, false, false, false, false,
  false, false, false, false, false, false, false, false, false, false, false, false,
  false, false, false, false, false, false, false, false, false, false, false, false,
  false, false, false, false, true, false, true, false, false, false, false, false,
  false, false, false, false, false, false, false, true, false, false, false, false,
  true, true, false, false, false, false, false, false, false, false, false, false,
  false, false, false, false, false, false, false, false, false, false, false, false,
  true, false, false, false, true, false, false, false, false, false, false, false,
  false, false, false, false, false, false, false, false, false, false, false, false,
  false, false, false, false, false, false, false, false, false, false, false, false,
  false, false, false, false, false, false, false, false, false, false, false, false,
  false, true, true, true, true, true, true, true, true, true, true, true,
  true, true, true, true, true, true, true, true, true, true, true, true,
  true, true, true, true, true, true, true, false]
theorem tabE_0 : ((dropP 80 Tryz.prog.funcs.toList 0).take 80).map bareAt = (dropP 80 tabE 0).take 80 := by kernel_rfl
theorem tabE_1 : ((dropP 80 Tryz.prog.funcs.toList 1).take 80).map bareAt = (dropP 80 tabE 1).take 80 := by kernel_rfl
theorem tabE_2 : ((dropP 80 Tryz.prog.funcs.toList 2).take 80).map bareAt = (dropP 80 tabE 2).take 80 := by kernel_rfl
theorem tabE_3 : (dropP 80 Tryz.prog.funcs.toList 3).map bareAt = dropP 80 tabE 3 := by kernel_rfl
theorem tabE_all : Tryz.prog.funcs.toList.map bareAt = tabE := map_parts 80 tabE_0 (map_parts 80 tabE_1 (map_parts 80 tabE_2 (tabE_3)))
theorem laidOut_ok : (laidOutB Tryz.pinned.checked.prog) = true := by kernel_rfl
theorem mapsRowed_ok : (mapsRowed Tryz.pinned.checked.prog) = true := by kernel_rfl
theorem stopsHeard_ok : (Tryz.pinned.checked.prog.stopsHeard) = true := by kernel_rfl
theorem mayEnter_ok : (Tryz.pinned.checked.prog.mayEnter) = true := by kernel_rfl
theorem own : ownKnob Tryz.prog.godebug = none := by kernel_rfl
theorem follows : Tryz.prog.follows .mixedOrders = true := by kernel_rfl
theorem names : Tryz.prog.funcs.toList.all (fun fn => !(fn.name == "runtime.NumGoroutine")) = true := by kernel_rfl
theorem nameOK : NameOK Tryz.prog := by
  intro f fn c hf _
  have h := List.all_eq_true.1 names fn (by
    rw [Array.mem_toList_iff]
    exact Array.mem_of_getElem? hf)
  simpa using h
end
end Go.Proofs.YthocoonhoilmdaaGreatDoor
