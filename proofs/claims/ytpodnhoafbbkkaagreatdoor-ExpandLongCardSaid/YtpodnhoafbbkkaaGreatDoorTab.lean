/-
  What each function of the program leads to and names, by tables, and closed facts of the whole program. No condition.
-/
import Derived.Test.YtpodnhoafbbkkaaGreatDoorXJoinK
import Derived.Test.YtpodnhoafbbkkaaGreatDoorXMxG
import Derived.Test.YtpodnhoafbbkkaaGreatDoorRows
open Go Go.Mx
namespace Go.Proofs.YtpodnhoafbbkkaaGreatDoor
set_option maxRecDepth 1000000
noncomputable section
theorem band {a b : Bool} (h : a = true) (k : b = true) : (a && b) = true := by rw [h, k]; rfl
def tabT : List (List Nat) := [[], [], [1], [4, 5, 6, 7, 8, 9, 9], [6, 7, 8, 9], [10, 11], [12, 12, 13], [14], [15, 16], [], [17], [18],
  [19], [20, 21, 22, 23, 22, 24, 20, 21, 20, 25, 26, 26, 20, 21, 24, 20, 25, 20, 26, 21, 26, 25, 27, 26, 22], [], [28], [29, 30], [31, 32], [33], [], [], [], [], [],
  [21, 25, 27, 21, 21, 21, 21, 21, 26], [], [], [21, 34, 35, 36, 21, 37, 38, 26], [39, 16], [40], [], [], [], [41, 42, 41, 43, 42, 44], [45, 35], [],
  [21, 46, 21, 47, 20, 25, 46, 25, 13, 21, 25], [20, 21, 21, 25, 25], [20, 21, 48, 25], [49, 50, 51], [52], [53], [], [], [54], [], [20, 55], [21, 34, 21, 35, 21, 35],
  [21, 20, 21, 20, 21, 21], [], [56, 58, 57, 59, 49], [60, 49, 59, 49, 61, 28, 62, 63, 64, 49], [], [], [], [], [65, 29, 30, 66, 67, 68, 60, 29], [69], [71, 70], [72],
  [59, 73, 59, 73, 74, 75, 76, 77], [78, 49, 28, 16, 5, 78], [79, 80, 81, 83, 82], [79, 83, 82], [29, 84, 29, 30], [85], [86], [17, 32, 87], [40], [88, 89, 90], [91, 92], [93],
  [94], [], [95, 29, 29, 29, 30], [96], [97, 98], [], [16, 49], [99, 100, 101], [], [], [], [102],
  [], [33], [], [41], [], [103, 104, 89, 105, 89, 106], [87], [107], [109, 108], [], [110, 111, 112, 113], [40, 114],
  [116, 115, 117, 119, 118, 121, 120], [122], [123, 124, 125, 126], [], [127, 127, 99], [99], [], [], [90, 87, 66, 90, 128, 129], [90, 103, 66], [129, 129, 129, 129, 129, 129, 129, 129, 130, 131], [],
  [132, 133, 134, 135, 136, 137, 138, 139, 140, 108, 108], [141, 142], [], [142, 143, 144], [], [145, 146], [147], [], [], [], [148], [148],
  [149, 150], [151, 150], [152], [153], [153], [153, 59, 154], [153, 59, 154], [], [90, 155, 156, 17, 157, 32, 158, 155], [], [], [],
  [138], [159, 159], [160, 161], [162, 162, 162, 163], [], [138, 138, 138], [164, 164], [138, 138], [138, 138, 138, 138], [], [], [],
  [], [], [165, 166], [], [], [167], [168], [169, 149], [170, 170, 170, 170, 170, 170, 171], [], [], [],
  [155, 89, 90, 66, 155], [155, 96, 172, 158, 155], [32], [138, 138], [109], [], [163], [173, 173, 173], [], [], [], [],
  [87, 174, 87, 43, 42], [], [], [170, 170, 170, 170, 170, 170], [175], [138], [], [86], [], [], [], [],
  [], [], [], [], [], [], [], [], [], [], [], [],
  [], [], [], [], [], [], [], [], [], [], [], [],
  [], [], [], [154, 154]]
theorem tabT_0 : ((dropP 80 Tryz.prog.funcs.toList 0).take 80).map Tryz.prog.leadsTo = (dropP 80 tabT 0).take 80 := by kernel_rfl
theorem tabT_1 : ((dropP 80 Tryz.prog.funcs.toList 1).take 80).map Tryz.prog.leadsTo = (dropP 80 tabT 1).take 80 := by kernel_rfl
theorem tabT_2 : (dropP 80 Tryz.prog.funcs.toList 2).map Tryz.prog.leadsTo = dropP 80 tabT 2 := by kernel_rfl
theorem tabT_all : Tryz.prog.funcs.toList.map Tryz.prog.leadsTo = tabT := map_parts 80 tabT_0 (map_parts 80 tabT_1 (tabT_2))
def tabG : List (List Nat) := [[], [], [], [], [], [], [], [], [], [], [], [],
  [], [], [], [], [], [], [], [], [], [], [], [],
  [], [], [], [], [], [], [], [], [], [0, 0, 0], [], [],
  [], [], [], [], [], [], [], [], [], [], [], [],
  [], [], [], [], [], [], [], [], [], [], [], [],
  [], [], [], [], [], [], [], [], [], [], [], [],
  [], [], [], [], [], [], [], [], [], [], [], [],
  [], [], [], [], [], [], [], [], [], [], [], [],
  [], [], [], [], [], [], [], [], [], [], [], [],
  [], [], [], [1], [], [], [], [], [], [], [], [],
  [], [], [], [2], [3], [], [], [], [], [], [], [],
  [], [], [], [], [], [], [], [], [], [], [], [],
  [], [], [], [], [], [], [], [], [], [], [], [],
  [], [], [], [], [], [], [], [], [], [4], [5], [6, 7],
  [], [], [], [], [], [], [], [], [], [], [], [],
  [], [], [], [], [], [], [], [], [], [], [], [],
  [], [], [], [], [], [], [], [], [], [], [], [],
  [], [], [], [4, 5, 1, 7, 3, 2]]
theorem tabG_0 : ((dropP 80 Tryz.prog.funcs.toList 0).take 80).map globsAt = (dropP 80 tabG 0).take 80 := by kernel_rfl
theorem tabG_1 : ((dropP 80 Tryz.prog.funcs.toList 1).take 80).map globsAt = (dropP 80 tabG 1).take 80 := by kernel_rfl
theorem tabG_2 : (dropP 80 Tryz.prog.funcs.toList 2).map globsAt = dropP 80 tabG 2 := by kernel_rfl
theorem tabG_all : Tryz.prog.funcs.toList.map globsAt = tabG := map_parts 80 tabG_0 (map_parts 80 tabG_1 (tabG_2))
def tabN : List Bool := [true, true, false, false, false, false, false, false, false, false, false, false,
  false, false, false, false, false, false, false, false, false, false, false, false,
  false, false, false, false, false, false, false, false, false, false, false, false,
  false, false, false, false, false, false, true, false, false, false, false, false,
  false, false, false, false, true, true, false, false, false, false, false, false,
  false, false, false, false, false, false, false, false, false, false, false, false,
  false, false, false, false, false, false, false, false, false, false, false, false,
  false, false, false, false, false, false, false, false, false, false, false, false,
  false, false, false, false, false, false, false, false, false, false, false, false,
  false, false, false, false, false, false, false, false, false, false, false, false,
  false, false, false, false, false, false, false, false, false, false, false, false,
  false, false, false, false, false, false, false, false, false, false, false, false,
  false, false, false, true, false, false, false, false, false, false, false, false,
  false, false, false, false, false, false, false, false, false, false, false, false,
  false, false, false, false, false, false, false, false, true, true, true, true,
  true, true, true, true, true, true, true, true, true, true, true, true,
  true, true, true, true, true, true, true, true, true, true, true, true,
  true, true, true, false]
theorem tabN_0 : ((dropP 80 Tryz.prog.funcs.toList 0).take 80).map flagAt = (dropP 80 tabN 0).take 80 := by kernel_rfl
theorem tabN_1 : ((dropP 80 Tryz.prog.funcs.toList 1).take 80).map flagAt = (dropP 80 tabN 1).take 80 := by kernel_rfl
theorem tabN_2 : (dropP 80 Tryz.prog.funcs.toList 2).map flagAt = dropP 80 tabN 2 := by kernel_rfl
theorem tabN_all : Tryz.prog.funcs.toList.map flagAt = tabN := map_parts 80 tabN_0 (map_parts 80 tabN_1 (tabN_2))
def tabE : List Bool := [true, true, false, false, false, false, false, false, false, false, false, false,
  false, false, false, false, false, false, false, false, false, false, false, false,
  false, false, false, false, false, false, false, false, false, false, false, false,
  false, false, false, false, false, false, true, false, false, false, false, false,
  false, false, false, false, true, true, false, false, false, false, false, false,
  false, false, false, false, false, false, false, false, false, false, false, false,
  false, false, false, false, false, false, false, false, false, false, false, false,
  false, false, false, false, false, false, false, false, false, false, false, false,
  false, false, false, false, false, false, false, false, false, false, false, false,
  false, false, false, false, false, false, false, false, false, false, false, false,
  false, false, false, false, false, false, false, false, false, false, false, false,
  false, false, false, false, false, false, false, false, false, false, false, false,
  false, false, false, true, false, false, false, false, false, false, false, false,
  false, false, false, false, false, false, false, false, false, false, false, false,
  false, false, false, false, false, false, false, false, true, true, true, true,
  true, true, true, true, true, true, true, true, true, true, true, true,
  true, true, true, true, true, true, true, true, true, true, true, true,
  true, true, true, false]
theorem tabE_0 : ((dropP 80 Tryz.prog.funcs.toList 0).take 80).map bareAt = (dropP 80 tabE 0).take 80 := by kernel_rfl
theorem tabE_1 : ((dropP 80 Tryz.prog.funcs.toList 1).take 80).map bareAt = (dropP 80 tabE 1).take 80 := by kernel_rfl
theorem tabE_2 : (dropP 80 Tryz.prog.funcs.toList 2).map bareAt = dropP 80 tabE 2 := by kernel_rfl
theorem tabE_all : Tryz.prog.funcs.toList.map bareAt = tabE := map_parts 80 tabE_0 (map_parts 80 tabE_1 (tabE_2))
theorem laidOut_ok : (laidOutB Tryz.pinned.checked.prog) = true := by kernel_rfl
theorem mapsRowed_ok : (mapsRowed Tryz.pinned.checked.prog) = true := by kernel_rfl
theorem stopsHeard_ok : (Tryz.pinned.checked.prog.stopsHeard) = true := by kernel_rfl
theorem mayEnter_ok : (Tryz.pinned.checked.prog.mayEnter) = true := by kernel_rfl
theorem own : ownKnob Tryz.prog.godebug = none := by kernel_rfl
theorem follows : Tryz.prog.follows .mixedOrders = true := by kernel_rfl
theorem names : Tryz.prog.funcs.toList.all (fun fn => !(fn.name == "runtime.NumGoroutine")) = true := by kernel_rfl
theorem nameOK : NameOK Tryz.prog := by
  intro f fn c hf _
  have h := List.all_eq_true.1 names fn (by
    rw [Array.mem_toList_iff]
    exact Array.mem_of_getElem? hf)
  simpa using h
end
end Go.Proofs.YtpodnhoafbbkkaaGreatDoor
