/-
  What each function of the program leads to and names, by tables, and closed facts of the whole program. No condition.
-/
import Derived.Test.YteoeiinpiihpoaaGreatDoorXJoinK
import Derived.Test.YteoeiinpiihpoaaGreatDoorXMxG
import Derived.Test.YteoeiinpiihpoaaGreatDoorRows
open Go Go.Mx
namespace Go.Proofs.YteoeiinpiihpoaaGreatDoor
set_option maxRecDepth 1000000
noncomputable section
theorem band {a b : Bool} (h : a = true) (k : b = true) : (a && b) = true := by rw [h, k]; rfl
def tabT : List (List Nat) := [[], [], [1], [4, 5, 7, 7, 6, 8, 8], [5, 6, 6, 8, 8], [], [9], [10, 10], [], [11, 12, 13, 11, 11], [10], [9],
  [14, 14, 14, 14, 16, 15], [17, 17, 18, 18, 19], [16, 20], [21, 22, 23], [24], [16, 25], [26, 27, 28], [], [29, 22], [29, 22], [], [],
  [30, 30, 31, 32, 33, 34], [29], [35], [37, 36, 38, 40, 39, 42, 41], [43, 44], [24, 45], [46], [47, 48, 47], [49], [], [50], [51],
  [], [], [], [52], [52], [53, 54], [55, 54], [56], [57, 58, 59, 60], [22], [61], [62],
  [51], [], [63, 64, 64, 64, 65], [], [], [66], [67], [68, 53], [69], [70], [70], [70, 72, 71],
  [70, 72, 71], [73, 74, 73, 75, 74, 76], [77, 78, 46], [79, 80], [79], [], [], [81, 82, 81, 75, 74], [], [83, 83, 83, 83, 83, 83, 84], [], [],
  [85], [86], [], [], [87], [88, 53], [88, 89, 46], [90], [91], [73], [], [],
  [83, 83, 83, 83, 83, 83], [92], [], [], [], [], [], [], [93, 94, 95, 96], [], [98, 97, 99], [],
  [100, 101], [], [], [], [], [102, 103], [], [], [], [], [], [],
  [], [], [], [], [], [], [], [], [], [], [], [],
  [], [], [], [], [], [], [], [], [], [], [], [],
  [], [], [71, 71]]
theorem tabT_0 : ((dropP 80 Tryz.prog.funcs.toList 0).take 80).map Tryz.prog.leadsTo = (dropP 80 tabT 0).take 80 := by kernel_rfl
theorem tabT_1 : (dropP 80 Tryz.prog.funcs.toList 1).map Tryz.prog.leadsTo = dropP 80 tabT 1 := by kernel_rfl
theorem tabT_all : Tryz.prog.funcs.toList.map Tryz.prog.leadsTo = tabT := map_parts 80 tabT_0 (tabT_1)
def tabG : List (List Nat) := [[], [], [], [], [], [], [], [], [], [], [], [],
  [], [], [], [], [], [], [], [], [], [], [], [],
  [], [], [], [], [], [], [], [], [], [], [], [],
  [], [], [], [], [], [], [], [], [], [], [], [],
  [], [], [], [], [], [], [], [], [], [0], [1], [],
  [], [2, 2, 2], [], [], [], [], [3, 4], [], [], [], [], [],
  [], [], [], [], [], [], [], [], [], [], [], [],
  [], [], [], [], [], [], [], [], [], [], [5], [],
  [], [], [], [], [], [], [6], [7], [], [], [], [],
  [], [], [], [], [], [], [], [], [], [], [], [],
  [], [], [], [], [], [], [], [], [], [], [], [],
  [], [], [6, 7, 5, 4, 1, 0]]
theorem tabG_0 : ((dropP 80 Tryz.prog.funcs.toList 0).take 80).map globsAt = (dropP 80 tabG 0).take 80 := by kernel_rfl
theorem tabG_1 : (dropP 80 Tryz.prog.funcs.toList 1).map globsAt = dropP 80 tabG 1 := by kernel_rfl
theorem tabG_all : Tryz.prog.funcs.toList.map globsAt = tabG := map_parts 80 tabG_0 (tabG_1)
def tabN : List Bool := [true, true, false, false, false, false, false, false, false, false, false, false,
  false, false, false, false, false, false, false, false, false, false, false, false,
  false, false, false, false, false, false, false, false, false, false, false, false,
  false, false, false, false, false, false, false, false, false, false, false, false,
  false, false, false, false, false, false, false, false, false, false, false, false,
  false, false, false, false, false, false, false, false, false, false, false, false,
  false, false, true, false, false, false, false, false, false, false, false, false,
  false, false, true, false, false, true, true, true, false, false, false, false,
  false, false, false, false, false, false, false, false, true, true, true, true,
  true, true, true, true, true, true, true, true, true, true, true, true,
  true, true, true, true, true, true, true, true, true, true, true, true,
  true, true, false]
theorem tabN_0 : ((dropP 80 Tryz.prog.funcs.toList 0).take 80).map flagAt = (dropP 80 tabN 0).take 80 := by kernel_rfl
theorem tabN_1 : (dropP 80 Tryz.prog.funcs.toList 1).map flagAt = dropP 80 tabN 1 := by kernel_rfl
theorem tabN_all : Tryz.prog.funcs.toList.map flagAt = tabN := map_parts 80 tabN_0 (tabN_1)
def tabE : List Bool := [true, true, false, false, false, false, false, false, false, false, false, false,
  false, false, false, false, false, false, false, false, false, false, false, false,
  false, false, false, false, false, false, false, false, false, false, false, false,
  false, false, false, false, false, false, false, false, false, false, false, false,
  false, false, false, false, false, false, false, false, false, false, false, false,
  false, false, false, false, false, false, false, false, false, false, false, false,
  false, false, true, false, false, false, false, false, false, false, false, false,
  false, false, true, false, false, true, true, true, false, false, false, false,
  false, false, false, false, false, false, false, false, true, true, true, true,
  true, true, true, true, true, true, true, true, true, true, true, true,
  true, true, true, true, true, true, true, true, true, true, true, true,
  true, true, false]
theorem tabE_0 : ((dropP 80 Tryz.prog.funcs.toList 0).take 80).map bareAt = (dropP 80 tabE 0).take 80 := by kernel_rfl
theorem tabE_1 : (dropP 80 Tryz.prog.funcs.toList 1).map bareAt = dropP 80 tabE 1 := by kernel_rfl
theorem tabE_all : Tryz.prog.funcs.toList.map bareAt = tabE := map_parts 80 tabE_0 (tabE_1)
theorem laidOut_ok : (laidOutB Tryz.pinned.checked.prog) = true := by kernel_rfl
theorem mapsRowed_ok : (mapsRowed Tryz.pinned.checked.prog) = true := by kernel_rfl
theorem stopsHeard_ok : (Tryz.pinned.checked.prog.stopsHeard) = true := by kernel_rfl
theorem mayEnter_ok : (Tryz.pinned.checked.prog.mayEnter) = true := by kernel_rfl
theorem own : ownKnob Tryz.prog.godebug = none := by kernel_rfl
theorem follows : Tryz.prog.follows .mixedOrders = true := by kernel_rfl
theorem names : Tryz.prog.funcs.toList.all (fun fn => !(fn.name == "runtime.NumGoroutine")) = true := by kernel_rfl
theorem nameOK : NameOK Tryz.prog := by
  intro f fn c hf _
  have h := List.all_eq_true.1 names fn (by
    rw [Array.mem_toList_iff]
    exact Array.mem_of_getElem? hf)
  simpa using h
end
end Go.Proofs.YteoeiinpiihpoaaGreatDoor
