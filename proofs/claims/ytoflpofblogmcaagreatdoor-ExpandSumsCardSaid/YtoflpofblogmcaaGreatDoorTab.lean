/-
  What each function of the program leads to and names, by tables, and closed facts of the whole program. No condition.
-/
import Derived.Test.YtoflpofblogmcaaGreatDoorXJoinK
import Derived.Test.YtoflpofblogmcaaGreatDoorXMxG
import Derived.Test.YtoflpofblogmcaaGreatDoorRows
open Go Go.Mx
namespace Go.Proofs.YtoflpofblogmcaaGreatDoor
set_option maxRecDepth 1000000
noncomputable section
theorem band {a b : Bool} (h : a = true) (k : b = true) : (a && b) = true := by rw [h, k]; rfl
def tabT : List (List Nat) := [[], [], [1], [4, 6, 5, 6, 5, 7, 8, 9, 10, 6], [7, 8, 9, 10], [11, 12], [13, 13], [14, 14, 15], [16], [17, 18], [], [19],
  [20], [13], [21], [22, 23, 24, 25, 24, 26, 22, 23, 22, 27, 28, 28, 22, 23, 26, 22, 27, 22, 28, 23, 28, 27, 29, 28, 24], [], [30], [31, 32], [33, 34], [35], [], [], [],
  [], [], [23, 27, 29, 23, 23, 23, 23, 23, 28], [], [], [23, 36, 37, 38, 23, 39, 40, 28], [41, 18], [42], [], [], [], [43, 44, 43, 45, 44, 46],
  [47, 37], [], [23, 48, 23, 49, 22, 27, 48, 27, 15, 23, 27], [22, 23, 23, 27, 27], [22, 23, 50, 27], [51, 52, 53], [54], [55], [], [], [56], [],
  [22, 57], [23, 36, 23, 37, 23, 37], [23, 22, 23, 22, 23, 23], [], [58, 60, 59, 61, 51], [62, 51, 61, 51, 63, 30, 64, 65, 66, 51], [], [], [], [], [67, 31, 32, 68, 69, 70, 62, 31], [71],
  [73, 72], [74], [61, 75, 61, 75, 76, 77, 78, 79], [80, 51, 30, 18, 5, 80], [81, 82, 83, 85, 84], [81, 85, 84], [31, 86, 31, 32], [87], [88], [19, 34, 89], [42], [90, 91, 92],
  [93, 94], [95], [96], [], [97, 31, 31, 31, 32], [98], [99, 100], [], [18, 51], [101, 102, 103], [], [],
  [], [104], [], [35], [], [43], [], [105, 106, 91, 107, 91, 108], [89], [109], [111, 110], [],
  [112, 113, 114, 115], [42, 116], [118, 117, 119, 121, 120, 123, 122], [124], [125, 126, 127, 128], [], [129, 129, 101], [101], [], [], [92, 89, 68, 92, 130, 131], [92, 105, 68],
  [131, 131, 131, 131, 131, 131, 131, 131, 132, 133], [], [134, 135, 136, 137, 138, 139, 140, 141, 142, 110, 110], [143, 144], [], [144, 145, 146], [], [147, 148], [149], [], [], [],
  [150], [150], [151, 152], [153, 152], [154], [155], [155], [155, 61, 156], [155, 61, 156], [], [92, 157, 158, 19, 159, 34, 160, 157], [],
  [], [], [140], [161, 161], [162, 163], [164, 164, 164, 165], [], [140, 140, 140], [166, 166], [140, 140], [140, 140, 140, 140], [],
  [], [], [], [], [167, 168], [], [], [169], [170], [171, 151], [172, 172, 172, 172, 172, 172, 173], [],
  [], [], [157, 91, 92, 68, 157], [157, 98, 174, 160, 157], [34], [140, 140], [111], [], [165], [175, 175, 175], [], [],
  [], [], [89, 176, 89, 45, 44], [], [], [172, 172, 172, 172, 172, 172], [177], [140], [], [88], [], [],
  [], [], [], [], [], [], [], [], [], [], [], [],
  [], [], [], [], [], [], [], [], [], [], [], [],
  [], [], [], [], [], [156, 156]]
theorem tabT_0 : ((dropP 80 Tryz.prog.funcs.toList 0).take 80).map Tryz.prog.leadsTo = (dropP 80 tabT 0).take 80 := by kernel_rfl
theorem tabT_1 : ((dropP 80 Tryz.prog.funcs.toList 1).take 80).map Tryz.prog.leadsTo = (dropP 80 tabT 1).take 80 := by kernel_rfl
theorem tabT_2 : (dropP 80 Tryz.prog.funcs.toList 2).map Tryz.prog.leadsTo = dropP 80 tabT 2 := by kernel_rfl
theorem tabT_all : Tryz.prog.funcs.toList.map Tryz.prog.leadsTo = tabT := map_parts 80 tabT_0 (map_parts 80 tabT_1 (tabT_2))
def tabG : List (List Nat) := [[], [], [], [], [], [], [], [], [], [], [], [],
  [], [], [], [], [], [], [], [], [], [], [], [],
  [], [], [], [], [], [], [], [], [], [], [], [0, 0, 0],
  [], [], [], [], [], [], [], [], [], [], [], [],
  [], [], [], [], [], [], [], [], [], [], [], [],
  [], [], [], [], [], [], [], [], [], [], [], [],
  [], [], [], [], [], [], [], [], [], [], [], [],
  [], [], [], [], [], [], [], [], [], [], [], [],
  [], [], [], [], [], [], [], [], [], [], [], [],
  [], [], [], [], [], [1], [], [], [], [], [], [],
  [], [], [], [], [], [2], [3], [], [], [], [], [],
  [], [], [], [], [], [], [], [], [], [], [], [],
  [], [], [], [], [], [], [], [], [], [], [], [],
  [], [], [], [], [], [], [], [], [], [], [], [4],
  [5], [6, 7], [], [], [], [], [], [], [], [], [], [],
  [], [], [], [], [], [], [], [], [], [], [], [],
  [], [], [], [], [], [], [], [], [], [], [], [],
  [], [], [], [], [], [4, 5, 1, 7, 3, 2]]
theorem tabG_0 : ((dropP 80 Tryz.prog.funcs.toList 0).take 80).map globsAt = (dropP 80 tabG 0).take 80 := by kernel_rfl
theorem tabG_1 : ((dropP 80 Tryz.prog.funcs.toList 1).take 80).map globsAt = (dropP 80 tabG 1).take 80 := by kernel_rfl
theorem tabG_2 : (dropP 80 Tryz.prog.funcs.toList 2).map globsAt = dropP 80 tabG 2 := by kernel_rfl
theorem tabG_all : Tryz.prog.funcs.toList.map globsAt = tabG := map_parts 80 tabG_0 (map_parts 80 tabG_1 (tabG_2))
def tabN : List Bool := [true, true, false, false, false, false, false, false, false, false, false, false,
  false, false, false, false, false, false, false, false, false, false, false, false,
  false, false, false, false, false, false, false, false, false, false, false, false,
  false, false, false, false, false, false, false, false, true, false, false, false,
  false, false, false, false, false, false, true, true, false, false, false, false,
  false, false, false, false, false, false, false, false, false, false, false, false,
  false, false, false, false, false, false, false, false, false, false, false, false,
  false, false, false, false, false, false, false, false, false, false, false, false,
  false, false, false, false, false, false, false, false, false, false, false, false,
  false, false, false, false, false, false, false, false, false, false, false, false,
  false, false, false, false, false, false, false, false, false, false, false, false,
  false, false, false, false, false, false, false, false, false, false, false, false,
  false, false, false, false, false, true, false, false, false, false, false, false,
  false, false, false, false, false, false, false, false, false, false, false, false,
  false, false, false, false, false, false, false, false, false, false, true, true,
  true, true, true, true, true, true, true, true, true, true, true, true,
  true, true, true, true, true, true, true, true, true, true, true, true,
  true, true, true, true, true, false]
theorem tabN_0 : ((dropP 80 Tryz.prog.funcs.toList 0).take 80).map flagAt = (dropP 80 tabN 0).take 80 := by kernel_rfl
theorem tabN_1 : ((dropP 80 Tryz.prog.funcs.toList 1).take 80).map flagAt = (dropP 80 tabN 1).take 80 := by kernel_rfl
theorem tabN_2 : (dropP 80 Tryz.prog.funcs.toList 2).map flagAt = dropP 80 tabN 2 := by kernel_rfl
theorem tabN_all : Tryz.prog.funcs.toList.map flagAt = tabN := map_parts 80 tabN_0 (map_parts 80 tabN_1 (tabN_2))
def tabE : List Bool := [true, true, false, false, false, false, false, false, false, false, false, false,
  false, false, false, false, false, false, false, false, false, false, false, false,
  false, false, false, false, false, false, false, false, false, false, false, false,
  false, false, false, false, false, false, false, false, true, false, false, false,
  false, false, false, false, false, false, true, true, false, false, false, false,
  false, false, false, false, false, false, false, false, false, false, false, false,
  false, false, false, false, false, false, false, false, false, false, false, false,
  false, false, false, false, false, false, false, false, false, false, false, false,
  false, false, false, false, false, false, false, false, false, false, false, false,
  false, false, false, false, false, false, false, false, false, false, false, false,
  false, false, false, false, false, false, false, false, false, false, false, false,
  false, false, false, false, false, false, false, false, false, false, false, false,
  false, false, false, false, false, true, false, false, false, false, false, false,
  false, false, false, false, false, false, false, false, false, false, false, false,
  false, false, false, false, false, false, false, false, false, false, true, true,
  true, true, true, true, true, true, true, true, true, true, true, true,
  true, true, true, true, true, true, true, true, true, true, true, true,
  true, true, true, true, true, false]
theorem tabE_0 : ((dropP 80 Tryz.prog.funcs.toList 0).take 80).map bareAt = (dropP 80 tabE 0).take 80 := by kernel_rfl
theorem tabE_1 : ((dropP 80 Tryz.prog.funcs.toList 1).take 80).map bareAt = (dropP 80 tabE 1).take 80 := by kernel_rfl
theorem tabE_2 : (dropP 80 Tryz.prog.funcs.toList 2).map bareAt = dropP 80 tabE 2 := by kernel_rfl
theorem tabE_all : Tryz.prog.funcs.toList.map bareAt = tabE := map_parts 80 tabE_0 (map_parts 80 tabE_1 (tabE_2))
theorem laidOut_ok : (laidOutB Tryz.pinned.checked.prog) = true := by kernel_rfl
theorem mapsRowed_ok : (mapsRowed Tryz.pinned.checked.prog) = true := by kernel_rfl
theorem stopsHeard_ok : (Tryz.pinned.checked.prog.stopsHeard) = true := by kernel_rfl
theorem mayEnter_ok : (Tryz.pinned.checked.prog.mayEnter) = true := by kernel_rfl
theorem own : ownKnob Tryz.prog.godebug = none := by kernel_rfl
theorem follows : Tryz.prog.follows .mixedOrders = true := by kernel_rfl
theorem names : Tryz.prog.funcs.toList.all (fun fn => !(fn.name == "runtime.NumGoroutine")) = true := by kernel_rfl
theorem nameOK : NameOK Tryz.prog := by
  intro f fn c hf _
  have h := List.all_eq_true.1 names fn (by
    rw [Array.mem_toList_iff]
    exact Array.mem_of_getElem? hf)
  simpa using h
end
end Go.Proofs.YtoflpofblogmcaaGreatDoor
