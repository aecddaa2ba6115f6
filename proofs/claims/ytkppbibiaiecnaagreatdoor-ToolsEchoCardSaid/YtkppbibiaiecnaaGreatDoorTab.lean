/-
  What each function of the program leads to and names, by tables, and closed facts of the whole program. No condition.
-/
import Derived.Test.YtkppbibiaiecnaaGreatDoorXJoinK
import Derived.Test.YtkppbibiaiecnaaGreatDoorXMxG
import Derived.Test.YtkppbibiaiecnaaGreatDoorRows
open Go Go.Mx
namespace Go.Proofs.YtkppbibiaiecnaaGreatDoor
set_option maxRecDepth 1000000
noncomputable section
theorem band {a b : Bool} (h : a = true) (k : b = true) : (a && b) = true := by rw [h, k]; rfl
def tabT : List (List Nat) := [[], [], [1], [5, 7, 6], [5, 7, 8, 9, 6, 8, 10, 10, 6, 10, 11], [7, 6, 12, 12], [13, 14], [], [15, 16, 17, 19, 18], [15, 16, 17, 18], [20, 16, 14], [15, 16],
  [13], [21, 22, 23, 24, 25, 26, 27, 28, 29, 30, 31, 32, 33, 34], [], [35, 36], [], [], [], [37], [15, 16], [], [], [39, 38, 39, 38],
  [40, 41, 42, 38, 38], [44, 43], [46, 10, 45, 47, 8, 45], [46, 47, 48, 45], [49, 43], [9, 51, 52, 43], [53, 43], [56, 43], [58, 59, 60], [60, 32], [40, 61, 61, 62, 63, 60, 60, 64, 38, 59, 60], [65, 65, 66, 67, 68, 69],
  [16], [], [], [70, 71, 71, 71, 72], [73], [], [41, 41, 74, 45, 73], [75], [10, 45], [40], [40, 75], [35, 76, 11, 35, 45],
  [35, 35, 20, 15, 77, 78, 18], [50, 45], [11, 54, 35, 50, 55], [79, 11, 9], [45], [54, 45, 55, 45], [20, 16, 80], [20, 78], [57, 45], [15, 16, 8, 18], [81], [],
  [40], [82, 83, 84, 85, 86, 86, 86, 88, 87, 83, 84, 89, 87], [90, 90, 91, 91, 87, 87, 87, 87, 92, 87, 87], [90, 90, 87, 87], [90, 91, 93, 93, 92, 94, 95, 96, 97], [98], [99, 86, 99], [100], [], [39], [101, 102], [101],
  [], [103], [104], [35, 45], [66], [16, 105, 16, 16, 16, 78, 78, 35], [106, 86, 107], [], [106, 78, 65], [108, 109, 110, 108, 108], [111], [112],
  [113, 114], [90, 87], [115], [91, 116], [90], [116, 116, 90], [], [], [116], [117], [118, 119], [120],
  [121], [122, 86, 86, 86, 86, 86, 70, 71, 123, 123, 123, 72, 71, 72], [124], [125], [], [126], [127], [120], [128, 129, 130], [66, 66, 131], [132], [134, 133],
  [81], [135, 135, 135, 135, 136, 10], [137, 137, 138, 138, 139], [115], [140], [141, 141, 141, 141, 141, 141, 142], [143, 144, 145, 146], [], [], [116, 90], [], [117, 89, 116, 90],
  [147, 148, 149, 150], [147, 148, 149, 150], [151, 152], [], [140, 153, 140, 154, 153, 155], [156, 157, 98], [], [], [], [158, 159, 129, 160, 129, 161], [112], [],
  [162], [163, 164, 165, 166, 167, 168, 169, 170, 171, 133, 133], [172, 173], [136, 11], [35], [136, 174], [175, 176, 177], [], [178], [], [141, 141, 141, 141, 141, 141], [179],
  [179], [179, 73, 180], [179, 73, 180], [], [173, 181, 182], [], [183, 184], [], [], [], [], [185],
  [186, 187], [186, 188, 98], [], [130, 112, 86, 130, 189, 190], [130, 158, 86], [190, 190, 190, 190, 190, 190, 190, 190, 191, 192], [], [169], [193, 193], [194, 195], [196, 196, 196, 197], [],
  [169, 169, 169], [198, 198], [169, 169], [169, 169, 169, 169], [], [], [15], [199], [201, 200, 202, 204, 203, 206, 205], [207, 114], [], [],
  [], [], [], [], [208, 209], [], [], [210], [], [130, 211, 212, 213, 214, 215, 216, 211], [], [],
  [], [169, 169], [134], [], [197], [217, 217, 217], [], [115], [], [], [], [218],
  [218], [187, 219], [220, 219], [221], [], [], [], [], [211, 129, 130, 86, 211], [222, 215], [211, 176, 82, 216, 211], [],
  [215], [169], [], [223], [224, 187], [113], [], [112, 225, 112, 154, 153], [], [], [], [],
  [], [], [], [], [], [], [], [], [], [], [], [],
  [], [], [], [], [], [], [], [], [], [], [], [],
  [], [], [], [], [180, 180]]
theorem tabT_0 : ((dropP 80 Tryz.prog.funcs.toList 0).take 80).map Tryz.prog.leadsTo = (dropP 80 tabT 0).take 80 := by kernel_rfl
theorem tabT_1 : ((dropP 80 Tryz.prog.funcs.toList 1).take 80).map Tryz.prog.leadsTo = (dropP 80 tabT 1).take 80 := by kernel_rfl
theorem tabT_2 : ((dropP 80 Tryz.prog.funcs.toList 2).take 80).map Tryz.prog.leadsTo = (dropP 80 tabT 2).take 80 := by kernel_rfl
theorem tabT_3 : (dropP 80 Tryz.prog.funcs.toList 3).map Tryz.prog.leadsTo = dropP 80 tabT 3 := by kernel_rfl
theorem tabT_all : Tryz.prog.funcs.toList.map Tryz.prog.leadsTo = tabT := map_parts 80 tabT_0 (map_parts 80 tabT_1 (map_parts 80 tabT_2 (tabT_3)))
def tabG : List (List Nat) := [[], [], [], [], [], [], [], [], [], [], [], [],
  [], [], [], [], [], [], [], [], [], [], [], [],
  [], [], [], [], [], [], [], [], [], [], [], [],
  [], [], [], [], [], [], [], [], [], [], [], [],
  [], [], [], [], [], [], [], [], [], [], [], [],
  [], [], [], [], [], [], [], [], [], [], [], [],
  [], [], [], [], [], [], [], [], [], [], [], [],
  [], [], [], [], [], [], [], [], [], [], [], [],
  [], [], [], [], [], [], [], [], [], [], [], [],
  [], [], [], [], [], [], [], [], [], [], [], [],
  [], [], [], [], [1, 1, 1], [], [], [], [], [], [], [],
  [], [], [], [], [], [], [], [], [], [], [], [2],
  [3], [], [], [], [4], [], [], [], [], [], [], [],
  [], [], [], [], [], [], [], [], [], [], [], [],
  [], [], [], [], [], [], [], [], [], [], [], [],
  [], [], [], [], [], [], [], [], [], [], [], [],
  [], [], [], [], [], [], [], [], [], [], [], [],
  [], [], [], [], [5], [6], [7, 8], [], [], [], [], [],
  [], [], [], [], [], [], [], [], [], [], [], [],
  [], [], [], [], [], [], [], [], [], [], [], [],
  [], [], [], [], [], [], [], [], [], [], [], [],
  [], [], [], [], [5, 6, 4, 8, 3, 2]]
theorem tabG_0 : ((dropP 80 Tryz.prog.funcs.toList 0).take 80).map globsAt = (dropP 80 tabG 0).take 80 := by kernel_rfl
theorem tabG_1 : ((dropP 80 Tryz.prog.funcs.toList 1).take 80).map globsAt = (dropP 80 tabG 1).take 80 := by kernel_rfl
theorem tabG_2 : ((dropP 80 Tryz.prog.funcs.toList 2).take 80).map globsAt = (dropP 80 tabG 2).take 80 := by kernel_rfl
theorem tabG_3 : (dropP 80 Tryz.prog.funcs.toList 3).map globsAt = dropP 80 tabG 3 := by kernel_rfl
theorem tabG_all : Tryz.prog.funcs.toList.map globsAt = tabG := map_parts 80 tabG_0 (map_parts 80 tabG_1 (map_parts 80 tabG_2 (tabG_3)))
def tabN : List Bool := [true, true, false, false, false, false, false, false, false, false, false, false,
  false, false, false, false, false, false, false, false, false, false, false, false,
  false, false, false, false, false, false, false, false, false, false, false, false,
  false, false, false, false, false, false, false, false, false, false, false, false,
  false, false, false, false, false, false, false, false, false, false, false, false,
  false, false, false, false, false, false, false, false, false, false, false, false,
  false, false, false, false, false, false, false, false, false, false, false, false,
  false, false, false, false, false, false, true, false, false, false, false, false,
  false, false, false, false, false, false, false, false, false, false, false, false,
  false, false, false, false, false, false, false, false, true, false, true, false,
  false, false, false, false, false, false, true, true, false, false, false, false,
  false, false, false, false, false, false, false, false, false, false, false, false,
  false, false, false, false, false, false, false, false, false, true, false, false,
  false, false, false, false, false, false, false, false, false, false, false, false,
  false, false, false, false, false, false, false, false, false, false, true, false,
  false, false, false, false, false, false, false, false, true, false, false, false,
  false, false, false, false, false, false, false, false, false, false, false, false,
  false, false, false, false, false, false, false, false, false, false, false, false,
  false, false, false, false, false, false, false, false, false, false, true, true,
  true, true, true, true, true, true, true, true, true, true, true, true,
  true, true, true, true, true, true, true, true, true, true, true, true,
  true, true, true, true, false]
theorem tabN_0 : ((dropP 80 Tryz.prog.funcs.toList 0).take 80).map flagAt = (dropP 80 tabN 0).take 80 := by kernel_rfl
theorem tabN_1 : ((dropP 80 Tryz.prog.funcs.toList 1).take 80).map flagAt = (dropP 80 tabN 1).take 80 := by kernel_rfl
theorem tabN_2 : ((dropP 80 Tryz.prog.funcs.toList 2).take 80).map flagAt = (dropP 80 tabN 2).take 80 := by kernel_rfl
theorem tabN_3 : (dropP 80 Tryz.prog.funcs.toList 3).map flagAt = dropP 80 tabN 3 := by kernel_rfl
theorem tabN_all : Tryz.prog.funcs.toList.map flagAt = tabN := map_parts 80 tabN_0 (map_parts 80 tabN_1 (map_parts 80 tabN_2 (tabN_3)))
def tabE : List Bool := [true, true, false, false, false, false, false, false, false, false, false, false,
  false, false, false, false, false, false, false, false, false, false, false, false,
  false, false, false, false, false, false, false, false, false, false, false, false,
  false, false, false, false, false, false, false, false, false, false, false, false,
  false, false, false, false, false, false, false, false, false, false, false, false,
  false, false, false, false, false, false, false, false, false, false, false, false,
  false, false, false, false, false, false, false, false, false, false, false, false,
  false, false, false, false, false, false, true, false, false, false, false, false,
  false, false, false, false, false, false, false, false, false, false, false, false,
  false, false, false, false, false, false, false, false, true, false, true, false,
  false, false, false, false, false, false, true, true, false, false, false, false,
  false, false, false, false, false, false, false, false, false, false, false, false,
  false, false, false, false, false, false, false, false, false, true, false, false,
  false, false, false, false, false, false, false, false, false, false, false, false,
  false, false, false, false, false, false, false, false, false, false, true, false,
  false, false, false, false, false, false, false, false, true, false, false, false,
  false, false, false, false, false, false, false, false, false, false, false, false,
  false, false, false, false, false, false, false, false, false, false, false, false,
  false, false, false, false, false, false, false, false, false, false, true, true,
  true, true, true, true, true, true, true, true, true, true, true, true,
  true, true, true, true, true, true, true, true, true, true, true, true,
  true, true, true, true, false]
theorem tabE_0 : ((dropP 80 Tryz.prog.funcs.toList 0).take 80).map bareAt = (dropP 80 tabE 0).take 80 := by kernel_rfl
theorem tabE_1 : ((dropP 80 Tryz.prog.funcs.toList 1).take 80).map bareAt = (dropP 80 tabE 1).take 80 := by kernel_rfl
theorem tabE_2 : ((dropP 80 Tryz.prog.funcs.toList 2).take 80).map bareAt = (dropP 80 tabE 2).take 80 := by kernel_rfl
theorem tabE_3 : (dropP 80 Tryz.prog.funcs.toList 3).map bareAt = dropP 80 tabE 3 := by kernel_rfl
theorem tabE_all : Tryz.prog.funcs.toList.map bareAt = tabE := map_parts 80 tabE_0 (map_parts 80 tabE_1 (map_parts 80 tabE_2 (tabE_3)))
theorem laidOut_ok : (laidOutB Tryz.pinned.checked.prog) = true := by kernel_rfl
theorem mapsRowed_ok : (mapsRowed Tryz.pinned.checked.prog) = true := by kernel_rfl
theorem stopsHeard_ok : (Tryz.pinned.checked.prog.stopsHeard) = true := by kernel_rfl
theorem mayEnter_ok : (Tryz.pinned.checked.prog.mayEnter) = true := by kernel_rfl
theorem own : ownKnob Tryz.prog.godebug = none := by kernel_rfl
theorem follows : Tryz.prog.follows .mixedOrders = true := by kernel_rfl
theorem names : Tryz.prog.funcs.toList.all (fun fn => !(fn.name == "runtime.NumGoroutine")) = true := by kernel_rfl
theorem nameOK : NameOK Tryz.prog := by
  intro f fn c hf _
  have h := List.all_eq_true.1 names fn (by
    rw [Array.mem_toList_iff]
    exact Array.mem_of_getElem? hf)
  simpa using h
end
end Go.Proofs.YtkppbibiaiecnaaGreatDoor
