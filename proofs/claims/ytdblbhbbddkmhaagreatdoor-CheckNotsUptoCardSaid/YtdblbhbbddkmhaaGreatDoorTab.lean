/-
  What each function of the program leads to and names, by tables, and closed facts of the whole program. No condition.
-/
import Derived.Test.YtdblbhbbddkmhaaGreatDoorXJoinK
import Derived.Test.YtdblbhbbddkmhaaGreatDoorXMxG
import Derived.Test.YtdblbhbbddkmhaaGreatDoorRows
open Go Go.Mx
namespace Go.Proofs.YtdblbhbbddkmhaaGreatDoor
set_option maxRecDepth 1000000
noncomputable section
theorem band {a b : Bool} (h : a = true) (k : b = true) : (a && b) = true := by rw [h, k]; rfl
def tabT : List (List Nat) := [[], [], [1], [4, 5, 6, 7, 8, 8, 9, 9, 9], [5, 8, 8, 9, 9], [], [10, 11, 12, 14, 13], [10, 11, 12, 13], [15], [], [16, 17], [],
  [], [], [18], [19, 20, 21, 19, 19], [22, 22, 23, 24, 25, 26], [11], [], [15], [27, 27, 27, 27, 29, 28], [30, 30, 31, 31, 32], [33], [34, 35, 34],
  [36], [], [37], [29, 38], [39, 11, 40], [16], [29, 41], [42, 43, 44], [], [45], [46], [47],
  [], [48, 49, 49, 49, 50], [10, 11], [10, 11], [], [10], [51], [53, 52, 54, 56, 55, 58, 57], [59, 60], [61, 62, 61, 63, 62, 64], [65, 66, 33], [],
  [67, 68], [67], [], [47], [], [], [], [69], [69], [70, 71], [72, 71], [73],
  [74, 75, 76, 77], [78], [], [], [79], [80, 70], [80, 81, 33], [82], [83], [], [84], [85],
  [86, 70], [87], [88], [88], [88, 90, 89], [88, 90, 89], [], [], [], [], [], [],
  [], [91, 92, 91, 63, 62], [], [93, 93, 93, 93, 93, 93, 94], [], [], [95], [61], [], [], [93, 93, 93, 93, 93, 93], [96],
  [97, 98, 99, 100], [], [102, 101, 103], [], [104, 105], [], [], [], [], [106, 107], [], [],
  [], [], [], [], [], [], [], [], [], [], [], [],
  [], [], [], [], [], [], [], [], [], [], [], [],
  [], [], [], [], [], [], [89, 89]]
theorem tabT_0 : ((dropP 80 Tryz.prog.funcs.toList 0).take 80).map Tryz.prog.leadsTo = (dropP 80 tabT 0).take 80 := by kernel_rfl
theorem tabT_1 : (dropP 80 Tryz.prog.funcs.toList 1).map Tryz.prog.leadsTo = dropP 80 tabT 1 := by kernel_rfl
theorem tabT_all : Tryz.prog.funcs.toList.map Tryz.prog.leadsTo = tabT := map_parts 80 tabT_0 (tabT_1)
def tabG : List (List Nat) := [[], [], [], [], [], [], [], [], [], [], [], [],
  [], [], [], [], [], [], [], [], [], [], [], [],
  [], [], [], [], [], [], [], [], [], [], [], [],
  [], [], [], [], [], [], [], [], [], [0, 0, 0], [], [],
  [], [], [], [], [], [], [], [], [], [], [], [],
  [], [], [], [], [], [], [], [], [], [], [], [],
  [], [], [1], [2], [], [], [], [], [], [], [], [],
  [3, 4], [], [], [], [], [], [], [], [], [], [], [],
  [], [], [5], [], [], [], [], [], [], [], [6], [7],
  [], [], [], [], [], [], [], [], [], [], [], [],
  [], [], [], [], [], [], [], [], [], [], [], [],
  [], [], [], [], [], [], [6, 7, 5, 4, 2, 1]]
theorem tabG_0 : ((dropP 80 Tryz.prog.funcs.toList 0).take 80).map globsAt = (dropP 80 tabG 0).take 80 := by kernel_rfl
theorem tabG_1 : (dropP 80 Tryz.prog.funcs.toList 1).map globsAt = dropP 80 tabG 1 := by kernel_rfl
theorem tabG_all : Tryz.prog.funcs.toList.map globsAt = tabG := map_parts 80 tabG_0 (tabG_1)
def tabN : List Bool := [true, true, false, false, false, false, false, false, false, false, false, false,
  false, false, false, false, false, false, false, false, false, false, false, false,
  false, false, false, false, false, false, false, false, false, false, false, false,
  false, false, false, false, false, false, false, false, false, false, false, false,
  false, false, false, false, false, false, false, false, false, false, false, false,
  false, false, true, false, false, false, false, false, false, false, false, false,
  false, false, false, false, false, false, true, false, false, true, true, true,
  false, false, false, false, false, false, false, false, false, false, false, false,
  false, false, false, false, false, false, false, false, false, false, false, false,
  true, true, true, true, true, true, true, true, true, true, true, true,
  true, true, true, true, true, true, true, true, true, true, true, true,
  true, true, true, true, true, true, false]
theorem tabN_0 : ((dropP 80 Tryz.prog.funcs.toList 0).take 80).map flagAt = (dropP 80 tabN 0).take 80 := by kernel_rfl
theorem tabN_1 : (dropP 80 Tryz.prog.funcs.toList 1).map flagAt = dropP 80 tabN 1 := by kernel_rfl
theorem tabN_all : Tryz.prog.funcs.toList.map flagAt = tabN := map_parts 80 tabN_0 (tabN_1)
def tabE : List Bool := [true, true, false, false, false, false, false, false, false, false, false, false,
  false, false, false, false, false, false, false, false, false, false, false, false,
  false, false, false, false, false, false, false, false, false, false, false, false,
  false, false, false, false, false, false, false, false, false, false, false, false,
  false, false, false, false, false, false, false, false, false, false, false, false,
  false, false, true, false, false, false, false, false, false, false, false, false,
  false, false, false, false, false, false, true, false, false, true, true, true,
  false, false, false, false, false, false, false, false, false, false, false, false,
  false, false, false, false, false, false, false, false, false, false, false, false,
  true, true, true, true, true, true, true, true, true, true, true, true,
  true, true, true, true, true, true, true, true, true, true, true, true,
  true, true, true, true, true, true, false]
theorem tabE_0 : ((dropP 80 Tryz.prog.funcs.toList 0).take 80).map bareAt = (dropP 80 tabE 0).take 80 := by kernel_rfl
theorem tabE_1 : (dropP 80 Tryz.prog.funcs.toList 1).map bareAt = dropP 80 tabE 1 := by kernel_rfl
theorem tabE_all : Tryz.prog.funcs.toList.map bareAt = tabE := map_parts 80 tabE_0 (tabE_1)
theorem laidOut_ok : (laidOutB Tryz.pinned.checked.prog) = true := by kernel_rfl
theorem mapsRowed_ok : (mapsRowed Tryz.pinned.checked.prog) = true := by kernel_rfl
theorem stopsHeard_ok : (Tryz.pinned.checked.prog.stopsHeard) = true := by kernel_rfl
theorem mayEnter_ok : (Tryz.pinned.checked.prog.mayEnter) = true := by kernel_rfl
theorem own : ownKnob Tryz.prog.godebug = none := by kernel_rfl
theorem follows : Tryz.prog.follows .mixedOrders = true := by kernel_rfl
theorem names : Tryz.prog.funcs.toList.all (fun fn => !(fn.name == "runtime.NumGoroutine")) = true := by kernel_rfl
theorem nameOK : NameOK Tryz.prog := by
  intro f fn c hf _
  have h := List.all_eq_true.1 names fn (by
    rw [Array.mem_toList_iff]
    exact Array.mem_of_getElem? hf)
  simpa using h
end
end Go.Proofs.YtdblbhbbddkmhaaGreatDoor
