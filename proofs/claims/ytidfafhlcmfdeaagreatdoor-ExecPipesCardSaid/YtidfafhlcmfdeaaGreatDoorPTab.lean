/-
  What each function of the program leads to and names, by tables, and closed facts of the whole program. No condition.
-/
import Derived.Test.YtidfafhlcmfdeaaGreatDoorXJoinK
import Derived.Test.YtidfafhlcmfdeaaGreatDoorPXMxG
import Derived.Test.YtidfafhlcmfdeaaGreatDoorRows
open Go Go.Mx
namespace Go.Proofs.YtidfafhlcmfdeaaGreatDoor
set_option maxRecDepth 1000000
noncomputable section
theorem band {a b : Bool} (h : a = true) (k : b = true) : (a && b) = true := by rw [h, k]; rfl
def tabT : List (List Nat) := [[], [], [1], [7, 8, 10, 9, 11, 12], [7, 10, 13, 8, 9, 11, 12], [7, 8, 10, 9, 11], [7, 14, 8, 10, 9, 11, 12], [10, 13, 8, 9, 11, 12, 12], [15], [16, 17, 18, 19], [], [20, 21, 23, 22],
  [], [25, 26, 27, 28], [14], [29, 30], [31, 31, 32, 33, 34, 35], [25, 26], [36], [], [], [], [37], [24],
  [38], [16, 39], [], [], [], [40, 41, 43, 44, 45, 43], [46, 47, 49, 48, 50], [51], [52, 53, 52], [54], [], [55],
  [56], [], [57, 58, 59, 60, 61], [26], [62], [42], [], [63, 64, 65, 62], [], [66, 65, 67, 44, 63, 68, 69], [], [70],
  [], [71, 72, 73, 71], [74], [75], [76], [77], [], [78, 79, 79, 79, 80], [], [], [81, 82, 83, 84, 85, 86], [60],
  [], [84, 88, 87], [90], [44, 62], [53], [], [91, 64], [], [65, 93, 92, 94, 64, 44, 92, 92, 67, 95, 92], [], [96], [97, 70, 70, 47, 97],
  [70, 70, 47], [98, 100, 99], [], [90, 101, 90, 102, 101, 103], [104, 105, 51], [], [106, 107], [106], [], [], [109, 108, 110], [109, 111],
  [112], [113, 86, 115, 87], [117, 119, 118], [120], [89], [123, 124, 38, 125, 126, 127, 22, 128, 129, 130, 131], [132], [], [], [62, 67], [92, 64, 44, 67, 133], [64, 134, 64, 135, 64, 136, 137, 92, 92],
  [100, 100], [138, 139, 70, 47, 139], [100, 99, 140, 142, 141, 96, 143], [], [], [], [], [144], [145, 146], [145, 147, 51], [148], [149],
  [150, 151], [152, 153, 154, 155, 118, 118], [156, 157, 53, 16, 111, 52, 158, 159, 161, 160, 163, 162, 161, 111], [79, 80], [109, 111, 16, 165, 166, 166, 167], [114], [119, 168], [116], [169, 170, 171, 167, 172, 173, 173], [], [167], [174, 31],
  [121, 121, 122], [166, 167], [], [38, 124, 175, 126, 176, 22, 173, 175], [177, 38], [178, 24], [18, 19, 179], [125], [124, 38, 38], [180, 57, 124, 181, 125, 181], [82, 182, 57, 119, 118, 125, 181], [109, 111, 109, 156, 183, 24],
  [], [65, 64, 63, 92, 67, 95, 92], [184, 137, 67, 64, 185, 67, 67, 186], [64, 67, 67], [44, 65, 187, 67], [188, 44, 189, 189, 63], [100, 99], [98, 50, 74, 190, 191], [142, 141], [192], [193, 194], [100, 142, 141],
  [], [], [195], [], [], [], [], [196, 197, 198, 199, 196], [200, 201, 152], [19], [202], [],
  [79, 203, 79, 80], [204], [54], [], [205, 16, 206], [207, 208], [210], [17, 164], [157], [211, 26, 20], [25, 26, 27, 212, 28], [213, 173],
  [], [214, 38], [215, 216, 217, 218, 219, 220, 221, 222, 223, 224], [225], [225, 20], [], [188], [], [38], [], [], [56],
  [], [], [], [226], [65, 65, 185], [227, 64], [64, 44, 67, 68, 65, 67, 133, 69], [44, 65, 67], [228, 189], [], [100, 99, 70, 229, 70, 50, 138, 229, 138, 50, 138, 230, 138, 231, 138, 231, 138, 232, 138, 233, 174, 234, 235, 143, 236], [100, 143, 143, 236, 237, 238],
  [], [], [239], [], [62, 240, 62, 102, 101], [], [], [], [], [8, 118, 126, 241, 22, 242], [243, 111], [],
  [244, 245, 246], [164, 157, 247, 248], [249], [251, 250], [209], [252, 252], [], [25, 26], [253], [254], [], [],
  [255, 173, 215], [255, 16, 17, 167, 215], [255, 215], [215, 174, 168, 167], [256, 255, 215], [257], [257], [256, 255], [256, 255], [258, 259, 260, 261, 262, 263, 264, 265, 266, 267, 268, 269, 270, 271], [204, 272], [],
  [], [47, 49, 48], [229, 138, 50, 229, 138, 138, 229, 138, 50], [229, 273], [100, 99, 174, 50, 47, 138, 100, 237, 96, 96, 50, 70, 47, 273], [237, 47, 138, 50, 47, 138, 274, 70, 138, 50, 47], [], [70, 50, 47, 98, 96, 100, 99, 140, 50, 139], [100, 237], [100, 50, 275, 276], [277, 174], [278, 279],
  [], [24], [280, 281, 282, 283], [284, 285, 286], [], [287, 287, 244], [244], [211, 26, 288], [53, 53, 204, 53, 272, 289, 290], [291], [292, 293, 294, 295, 296, 297, 298, 299, 250, 250], [300, 301],
  [], [], [302], [167], [303], [256, 255, 215], [], [], [55, 304, 55, 304], [305, 306, 307, 304, 304], [309, 308], [311, 165, 310, 312, 166, 310],
  [311, 312, 313, 310], [314, 308], [13, 316, 317, 308], [318, 308], [320, 308], [322, 323, 324], [324, 269], [305, 325, 325, 326, 327, 324, 324, 328, 304, 323, 324], [329], [138, 50, 229, 138, 50], [70, 237, 70, 237, 70, 50, 47, 73, 229], [15, 74, 275],
  [200, 276], [330], [], [], [], [], [331], [332, 333], [], [334, 336, 335, 213, 284], [337, 284, 213, 284, 338, 202, 339, 340, 156, 284], [],
  [206, 341, 31], [251, 342], [], [], [], [343, 343], [344, 345], [346, 346, 346, 347], [], [], [], [],
  [], [], [348, 349, 350, 351], [353, 352, 198, 355, 354, 357, 356], [], [213], [], [306, 306, 335, 310, 213], [358], [165, 310], [305], [305, 358],
  [16, 359, 17, 16, 310], [16, 16, 211, 25, 360, 341, 28], [315, 310], [17, 247, 16, 315, 319], [361, 17, 13], [310], [247, 310, 319, 310], [211, 341], [321, 310], [25, 26, 166, 28], [362], [],
  [305], [363, 364, 365, 366, 53, 53, 53, 368, 367, 364, 365, 369, 367], [370, 370, 371, 371, 367, 367, 367, 367, 372, 367, 367], [370, 370, 367, 367], [370, 371, 373, 373, 372, 374, 375, 376, 377], [], [75], [], [378, 379], [], [277, 79, 80, 53, 380, 381, 337, 79], [382],
  [384, 383], [213, 385, 213, 385, 55, 386, 387, 117], [388, 284, 202, 111, 119, 388], [204, 389, 390, 272, 391], [204, 272, 391], [206, 53, 289], [392, 393, 394, 395, 396, 397, 398, 399, 400, 342, 342], [], [251], [], [347], [401, 401, 401],
  [], [301, 402, 403], [], [404, 405], [], [], [199], [199], [146, 406], [407, 406], [16, 310], [32],
  [26, 408, 26, 26, 26, 341, 341, 16], [], [409, 410, 411, 409, 409], [412], [62], [413, 414], [370, 367], [371, 415], [370], [415, 415, 370], [], [],
  [415], [416], [417, 418], [302], [419], [420, 53, 53, 53, 53, 53, 78, 79, 421, 421, 421, 80, 79, 80], [], [422], [188, 189, 62], [106], [423, 424, 425], [426, 289],
  [427], [], [303], [428, 414], [111, 284], [], [], [], [398], [429, 429], [344, 345], [430, 430, 430, 431],
  [], [398, 398, 398], [252, 252], [398, 398], [398, 398, 398, 398], [], [], [], [], [432, 433], [196], [378, 146],
  [32, 32, 434], [362], [435, 435, 435, 435, 436, 165], [437, 437, 438, 438, 439], [77], [440, 440, 440, 440, 440, 440, 441], [442, 443, 444, 445], [], [415, 370], [], [416, 369, 415, 370], [348, 349, 350, 351],
  [446, 447], [], [], [], [448, 449, 424, 450, 424, 451], [62], [452], [], [453], [398, 398], [431], [454, 454, 454],
  [], [], [], [436, 17], [16], [436, 455], [456, 303, 387], [], [], [440, 440, 440, 440, 440, 440], [457], [457],
  [457, 213, 458], [457, 213, 458], [], [], [], [425, 62, 53, 425, 459, 460], [425, 448, 53], [460, 460, 460, 460, 460, 460, 460, 460, 461, 462], [], [413], [398], [25],
  [463], [], [], [425, 464, 465, 188, 466, 189, 467, 464], [], [], [], [77], [], [464, 424, 425, 53, 464], [464, 303, 363, 467, 464], [189],
  [], [], [], [], [], [], [], [], [], [], [], [],
  [], [], [], [], [], [], [], [], [], [], [], [],
  [], [], [], [], [], [], [], [], [], [], [], [458, 458]]
theorem tabT_0 : ((dropP 80 Tryz.prog.funcs.toList 0).take 80).map Tryz.prog.leadsTo = (dropP 80 tabT 0).take 80 := by kernel_rfl
theorem tabT_1 : ((dropP 80 Tryz.prog.funcs.toList 1).take 80).map Tryz.prog.leadsTo = (dropP 80 tabT 1).take 80 := by kernel_rfl
theorem tabT_2 : ((dropP 80 Tryz.prog.funcs.toList 2).take 80).map Tryz.prog.leadsTo = (dropP 80 tabT 2).take 80 := by kernel_rfl
theorem tabT_3 : ((dropP 80 Tryz.prog.funcs.toList 3).take 80).map Tryz.prog.leadsTo = (dropP 80 tabT 3).take 80 := by kernel_rfl
theorem tabT_4 : ((dropP 80 Tryz.prog.funcs.toList 4).take 80).map Tryz.prog.leadsTo = (dropP 80 tabT 4).take 80 := by kernel_rfl
theorem tabT_5 : ((dropP 80 Tryz.prog.funcs.toList 5).take 80).map Tryz.prog.leadsTo = (dropP 80 tabT 5).take 80 := by kernel_rfl
theorem tabT_6 : (dropP 80 Tryz.prog.funcs.toList 6).map Tryz.prog.leadsTo = dropP 80 tabT 6 := by kernel_rfl
theorem tabT_all : Tryz.prog.funcs.toList.map Tryz.prog.leadsTo = tabT := map_parts 80 tabT_0 (map_parts 80 tabT_1 (map_parts 80 tabT_2 (map_parts 80 tabT_3 (map_parts 80 tabT_4 (map_parts 80 tabT_5 (tabT_6))))))
def tabG : List (List Nat) := [[], [], [], [], [], [], [], [], [], [], [], [],
  [], [], [], [], [], [], [], [], [], [], [], [],
  [], [], [], [], [], [], [], [], [], [], [], [],
  [], [], [], [], [], [], [], [], [], [], [], [],
  [], [], [], [], [], [], [], [], [], [], [], [],
  [], [], [], [], [], [], [], [], [], [], [], [],
  [], [], [], [0, 0, 0], [], [], [], [], [], [], [], [],
  [], [], [], [], [], [], [], [], [], [], [], [],
  [], [], [], [], [], [], [], [], [], [], [], [],
  [], [], [], [], [], [], [], [], [], [], [], [],
  [], [], [], [], [], [], [], [], [], [], [], [],
  [], [], [], [], [], [], [], [], [], [], [1, 1, 1, 1], [],
  [], [], [], [], [], [], [], [], [], [], [], [],
  [], [], [], [], [], [], [], [], [], [], [], [],
  [], [], [], [], [], [], [], [], [], [], [], [],
  [], [], [], [], [], [], [], [], [], [], [], [],
  [], [], [2], [3, 4], [], [], [], [], [], [], [], [],
  [], [], [], [], [], [], [], [], [], [], [], [],
  [], [], [], [], [], [], [], [], [], [], [], [],
  [], [], [], [], [], [], [], [], [], [], [], [],
  [], [], [], [], [], [], [], [], [], [], [], [],
  [], [], [], [], [], [], [], [], [], [], [], [],
  [], [], [], [], [], [], [], [], [], [], [], [],
  [], [], [], [], [], [], [], [], [], [], [], [],
  [], [], [], [], [], [], [], [], [], [], [], [],
  [], [], [], [], [], [], [], [], [], [], [], [],
  [], [], [], [], [], [], [], [], [], [], [], [],
  [], [], [], [], [], [], [], [], [], [], [], [],
  [], [], [], [], [], [], [], [], [], [], [], [],
  [], [5], [], [], [], [], [], [], [], [], [], [],
  [], [], [], [], [], [], [], [], [], [], [], [],
  [], [], [], [], [], [], [], [], [], [], [], [],
  [], [], [], [], [], [], [], [], [], [], [], [],
  [], [], [], [], [], [], [], [], [], [], [], [],
  [], [], [], [], [], [], [], [], [], [], [], [],
  [], [], [3, 4], [], [], [], [], [], [], [], [], [],
  [7], [8], [], [], [], [], [], [], [], [], [9], [10],
  [], [], [], [], [], [], [], [], [], [], [], [],
  [], [], [], [], [], [], [], [], [], [], [], [],
  [], [], [], [], [], [], [], [], [], [], [], [],
  [], [], [], [], [], [], [], [], [], [], [], [],
  [], [], [], [], [], [], [], [], [], [], [], [7, 8, 5, 4, 10, 9, 11, 11, 2, 1]]
theorem tabG_0 : ((dropP 80 Tryz.prog.funcs.toList 0).take 80).map globsAt = (dropP 80 tabG 0).take 80 := by kernel_rfl
theorem tabG_1 : ((dropP 80 Tryz.prog.funcs.toList 1).take 80).map globsAt = (dropP 80 tabG 1).take 80 := by kernel_rfl
theorem tabG_2 : ((dropP 80 Tryz.prog.funcs.toList 2).take 80).map globsAt = (dropP 80 tabG 2).take 80 := by kernel_rfl
theorem tabG_3 : ((dropP 80 Tryz.prog.funcs.toList 3).take 80).map globsAt = (dropP 80 tabG 3).take 80 := by kernel_rfl
theorem tabG_4 : ((dropP 80 Tryz.prog.funcs.toList 4).take 80).map globsAt = (dropP 80 tabG 4).take 80 := by kernel_rfl
theorem tabG_5 : ((dropP 80 Tryz.prog.funcs.toList 5).take 80).map globsAt = (dropP 80 tabG 5).take 80 := by kernel_rfl
theorem tabG_6 : (dropP 80 Tryz.prog.funcs.toList 6).map globsAt = dropP 80 tabG 6 := by kernel_rfl
theorem tabG_all : Tryz.prog.funcs.toList.map globsAt = tabG := map_parts 80 tabG_0 (map_parts 80 tabG_1 (map_parts 80 tabG_2 (map_parts 80 tabG_3 (map_parts 80 tabG_4 (map_parts 80 tabG_5 (tabG_6))))))
def tabN : List Bool := [true, true, false, false, false, false, false, false, false, false, false, false,
  false, false, false, false, false, false, false, false, false, false, false, false,
  false, false, false, false, false, false, false, false, false, false, false, false,
  false, false, false, false, false, false, false, false, false, false, false, false,
  false, false, false, false, false, false, false, false, true, false, false, false,
  false, false, false, false, false, false, false, false, false, false, false, false,
  false, false, false, false, false, false, false, false, false, false, false, false,
  false, false, false, false, false, false, false, false, false, false, false, false,
  false, false, false, false, false, true, false, false, false, false, false, false,
  false, false, false, false, false, false, false, false, false, false, false, false,
  false, false, false, false, false, false, false, false, false, false, false, false,
  true, false, false, false, false, false, false, false, false, false, false, false,
  false, false, false, true, true, true, false, false, false, false, false, false,
  false, false, false, false, false, false, false, false, false, false, false, false,
  false, false, false, false, false, false, false, false, false, false, false, false,
  false, false, false, false, false, false, false, false, false, false, false, false,
  false, false, false, false, false, false, false, false, false, false, false, false,
  false, false, false, false, false, false, false, false, false, false, false, false,
  false, false, false, false, false, false, false, false, false, false, false, false,
  false, false, false, false, false, false, false, false, false, false, false, false,
  false, false, false, false, false, false, false, false, false, false, false, false,
  false, false, false, false, false, false, false, false, false, false, false, false,
  false, false, false, false, false, false, false, false, false, false, false, false,
  false, false, false, false, false, false, false, false, false, false, false, false,
  false, false, false, false, false, false, false, false, false, false, false, false,
  false, false, false, false, false, false, false, false, false, false, false, false,
  false, false, false, false, false, false, false, false, false, false, false, false,
  false, false, false, false, false, false, false, false, false, false, false, false,
  false, false, false, false, false, false, false, false, false, false, false, false,
  false, false, false, false, false, false, false, false, false, false, false, false,
  false, false, false, false, false, false, false, false, false, false, true, false,
  false, false, false, false, false, false, false, false, false, false, false, false,
  false, false, false, false, false, false, false, false, false, false, false, false,
  false, false, false, false, false, false, false, false, false, false, false, false,
  false, false, false, false, false, false, false, true, false, true, false, false,
  false, false, false, false, false, false, false, false, false, false, false, false,
  false, false, false, false, false, false, false, false, false, false, false, false,
  false, false, false, false, false, false, false, false, false, false, false, false,
  false, false, false, false, false, false, false, false, false, false, false, false,
  true, true, true, true, true, true, true, true, true, true, true, true,
  true, true, true, true, true, true, true, true, true, true, true, true,
  true, true, true, true, true, true, true, true, true, true, true, false]
theorem tabN_0 : ((dropP 80 Tryz.prog.funcs.toList 0).take 80).map flagAt = (dropP 80 tabN 0).take 80 := by kernel_rfl
theorem tabN_1 : ((dropP 80 Tryz.prog.funcs.toList 1).take 80).map flagAt = (dropP 80 tabN 1).take 80 := by kernel_rfl
theorem tabN_2 : ((dropP 80 Tryz.prog.funcs.toList 2).take 80).map flagAt = (dropP 80 tabN 2).take 80 := by kernel_rfl
theorem tabN_3 : ((dropP 80 Tryz.prog.funcs.toList 3).take 80).map flagAt = (dropP 80 tabN 3).take 80 := by kernel_rfl
theorem tabN_4 : ((dropP 80 Tryz.prog.funcs.toList 4).take 80).map flagAt = (dropP 80 tabN 4).take 80 := by kernel_rfl
theorem tabN_5 : ((dropP 80 Tryz.prog.funcs.toList 5).take 80).map flagAt = (dropP 80 tabN 5).take 80 := by kernel_rfl
theorem tabN_6 : (dropP 80 Tryz.prog.funcs.toList 6).map flagAt = dropP 80 tabN 6 := by kernel_rfl
theorem tabN_all : Tryz.prog.funcs.toList.map flagAt = tabN := map_parts 80 tabN_0 (map_parts 80 tabN_1 (map_parts 80 tabN_2 (map_parts 80 tabN_3 (map_parts 80 tabN_4 (map_parts 80 tabN_5 (tabN_6))))))
def tabE : List Bool := [true, true, false, false, false, false, false, false, false, false, false, false,
  false, false, false, false, false, false, false, false, false, false, false, false,
  false, false, false, false, false, false, false, false, false, false, false, false,
  false, false, false, false, false, false, false, false, false, false, false, false,
  false, false, false, false, false, false, false, false, true, false, false, false,
  false, false, false, false, false, false, false, false, false, false, false, false,
  false, false, false, false, false, false, false, false, false, false, false, false,
  false, false, false, false, false, false, false, false, false, false, false, false,
  false, false, false, false, false, true, false, false, false, false, false, false,
  false, false, false, false, false, false, false, false, false, false, false, false,
  false, false, false, false, false, false, false, false, false, false, false, false,
  true, false, false, false, false, false, false, false, false, false, false, false,
  false, false, false, true, true, true, false, false, false, false, false, false,
  false, false, false, false, false, false, false, false, false, false, false, false,
  false, false, false, false, false, false, false, false, false, false, false, false,
  false, false, false, false, false, false, false, false, false, false, false, false,
  false, false, false, false, false, false, false, false, false, false, false, false,
  false, false, false, false, false, false, false, false, false, false, false, false,
  false, false, false, false, false, false, false, false, false, false, false, false,
  false, false, false, false, false, false, false, false, false, false, false, false,
  false, false, false, false, false, false, false, false, false, false, false, false,
  false, false, false, false, false, false, false, false, false, false, false, false,
  false, false, false, false, false, false, false, false, false, false, false, false,
  false, false, false, false, false, false, false, false, false, false, false, false,
  false, false, false, false, false, false, false, false, false, false, false, false,
  false, false, false, false, false, false, false, false, false, false, false, false,
  false, false, false, false, false, false, false, false, false, false, false, false,
  false, false, false, false, false, false, false, false, false, false, false, false,
  false, false, false, false, false, false, false, false, false, false, false, false,
  false, false, false, false, false, false, false, false, false, false, false, false,
  false, false, false, false, false, false, false, false, false, false, true, false,
  false, false, false, false, false, false, false, false, false, false, false, false,
  false, false, false, false, false, false, false, false, false, false, false, false,
  false, false, false, false, false, false, false, false, false, false, false, false,
  false, false, false, false, false, false, false, true, false, true, false, false,
  false, false, false, false, false, false, false, false, false, false, false, false,
  false, false, false, false, false, false, false, false, false, false, false, false,
  false, false, false, false, false, false, false, false, false, false, false, false,
  false, false, false, false, false, false, false, false, false, false, false, false,
  true, true, true, true, true, true, true, true, true, true, true, true,
  true, true, true, true, true, true, true, true, true, true, true, true,
  true, true, true, true, true, true, true, true, true, true, true, false]
theorem tabE_0 : ((dropP 80 Tryz.prog.funcs.toList 0).take 80).map bareAt = (dropP 80 tabE 0).take 80 := by kernel_rfl
theorem tabE_1 : ((dropP 80 Tryz.prog.funcs.toList 1).take 80).map bareAt = (dropP 80 tabE 1).take 80 := by kernel_rfl
theorem tabE_2 : ((dropP 80 Tryz.prog.funcs.toList 2).take 80).map bareAt = (dropP 80 tabE 2).take 80 := by kernel_rfl
theorem tabE_3 : ((dropP 80 Tryz.prog.funcs.toList 3).take 80).map bareAt = (dropP 80 tabE 3).take 80 := by kernel_rfl
theorem tabE_4 : ((dropP 80 Tryz.prog.funcs.toList 4).take 80).map bareAt = (dropP 80 tabE 4).take 80 := by kernel_rfl
theorem tabE_5 : ((dropP 80 Tryz.prog.funcs.toList 5).take 80).map bareAt = (dropP 80 tabE 5).take 80 := by kernel_rfl
theorem tabE_6 : (dropP 80 Tryz.prog.funcs.toList 6).map bareAt = dropP 80 tabE 6 := by kernel_rfl
theorem tabE_all : Tryz.prog.funcs.toList.map bareAt = tabE := map_parts 80 tabE_0 (map_parts 80 tabE_1 (map_parts 80 tabE_2 (map_parts 80 tabE_3 (map_parts 80 tabE_4 (map_parts 80 tabE_5 (tabE_6))))))
theorem laidOut_ok : (laidOutB Tryz.pinned.checked.prog) = true := by kernel_rfl
theorem mapsRowed_ok : (mapsRowed Tryz.pinned.checked.prog) = true := by kernel_rfl
theorem stopsHeard_ok : (Tryz.pinned.checked.prog.stopsHeard) = true := by kernel_rfl
theorem mayEnter_ok : (Tryz.pinned.checked.prog.mayEnter) = true := by kernel_rfl
theorem own : ownKnob Tryz.prog.godebug = none := by kernel_rfl
theorem follows : Tryz.prog.follows .mixedOrders = true := by kernel_rfl
theorem names : Tryz.prog.funcs.toList.all (fun fn => !(fn.name == "runtime.NumGoroutine")) = true := by kernel_rfl
theorem nameOK : NameOK Tryz.prog := by
  intro f fn c hf _
  have h := List.all_eq_true.1 names fn (by
    rw [Array.mem_toList_iff]
    exact Array.mem_of_getElem? hf)
  simpa using h
end
end Go.Proofs.YtidfafhlcmfdeaaGreatDoor
