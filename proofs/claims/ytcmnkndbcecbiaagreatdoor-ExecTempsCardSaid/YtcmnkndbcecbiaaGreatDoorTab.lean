/-
  What each function of the program leads to and names, by tables, and closed facts of the whole program. No condition.
-/
import Derived.Test.YtcmnkndbcecbiaaGreatDoorXJoinK
import Derived.Test.YtcmnkndbcecbiaaGreatDoorXMxG
import Derived.Test.YtcmnkndbcecbiaaGreatDoorRows
open Go Go.Mx
namespace Go.Proofs.YtcmnkndbcecbiaaGreatDoor
set_option maxRecDepth 1000000
noncomputable section
theorem band {a b : Bool} (h : a = true) (k : b = true) : (a && b) = true := by rw [h, k]; rfl
def tabT : List (List Nat) := [[], [], [1], [7, 8, 9, 10, 11, 12, 12, 13], [7, 9, 14, 8, 10, 11, 13], [7, 15, 8, 9, 10, 11, 15, 15, 15, 13], [7, 8, 9, 10, 11, 13], [9, 16, 8, 10, 11, 13, 13], [17], [], [18, 19, 20, 21], [22, 23, 25, 24],
  [27, 28, 22], [], [29, 28, 30, 32, 31], [15], [29, 28, 30, 31], [33, 34], [35, 35, 36, 37, 38, 39], [29, 28], [40], [], [], [],
  [41], [26], [42], [29, 28], [], [18, 43], [], [], [44], [45, 46, 48, 49, 50, 48], [51, 52, 54, 53, 55], [56],
  [57, 58, 57], [59], [], [60], [61], [], [62, 63, 64, 65, 66], [28], [], [67], [47], [],
  [68, 69, 70, 67], [], [71, 70, 72, 49, 68, 73, 74], [], [75], [], [76, 77, 78, 76], [79], [80], [81], [82], [],
  [83, 84, 84, 84, 85], [], [], [86, 87, 88, 89, 90, 91], [65], [], [89, 93, 92], [95], [49, 67], [58], [], [96, 69],
  [], [70, 98, 97, 99, 69, 49, 97, 97, 72, 100, 97], [], [101], [102, 75, 75, 52, 102], [75, 75, 52], [103, 105, 104], [], [95, 106, 95, 107, 106, 108], [109, 110, 56], [], [111, 112],
  [111], [], [], [114, 113, 115], [114, 116], [117], [118, 91, 120, 92], [122, 124, 123], [125], [94], [128, 129, 42, 130, 131, 132, 24, 133, 134, 135, 136], [137],
  [], [], [67, 72], [97, 69, 49, 72, 138], [69, 139, 69, 140, 69, 141, 142, 97, 97], [105, 105], [143, 144, 75, 52, 144], [105, 104, 145, 147, 146, 101, 148], [], [], [], [],
  [149], [150, 151], [150, 152, 56], [153], [154], [155, 156], [157, 158, 159, 160, 123, 123], [161, 162, 58, 18, 116, 57, 163, 164, 166, 165, 168, 167, 166, 116], [84, 85], [114, 116, 18, 12, 14, 14, 170], [119], [124, 171],
  [121], [172, 173, 174, 170, 175, 176, 176], [], [170], [177, 35], [126, 126, 127], [14, 170], [], [42, 129, 178, 131, 179, 24, 176, 178], [180, 42], [181, 26], [20, 21, 182],
  [130], [129, 42, 42], [183, 62, 129, 184, 130, 184], [87, 185, 62, 124, 123, 130, 184], [114, 116, 114, 161, 186, 26], [], [70, 69, 68, 97, 72, 100, 97], [187, 142, 72, 69, 188, 72, 72, 189], [69, 72, 72], [49, 70, 190, 72], [191, 49, 192, 192, 68], [105, 104],
  [103, 55, 79, 193, 194], [147, 146], [195], [196, 197], [105, 147, 146], [], [], [198], [], [], [], [],
  [199, 200, 201, 202, 199], [203, 204, 157], [21], [205], [], [84, 206, 84, 85], [207], [59], [], [208, 18, 209], [210, 211], [213],
  [19, 169], [162], [214, 176], [], [215, 42], [216, 217, 218, 219, 220, 221, 222, 223, 224, 225], [226], [226, 22], [], [191], [], [42],
  [], [], [61], [], [], [], [227], [70, 70, 188], [228, 69], [69, 49, 72, 73, 70, 72, 138, 74], [49, 70, 72], [229, 192],
  [], [105, 104, 75, 230, 75, 55, 143, 230, 143, 55, 143, 231, 143, 232, 143, 232, 143, 233, 143, 234, 177, 235, 236, 148, 237], [105, 148, 148, 237, 238, 239], [], [], [240], [], [67, 241, 67, 107, 106], [], [], [], [],
  [8, 123, 131, 242, 24, 243], [244, 116], [], [245, 246, 247], [169, 162, 248, 249], [250], [252, 251], [212], [253, 253], [], [254], [],
  [], [255, 176, 216], [255, 18, 19, 170, 216], [255, 216], [216, 177, 171, 170], [256, 255, 216], [257], [257], [256, 255], [256, 255], [258, 259, 260, 261, 262, 263, 264, 265, 266, 267, 268, 269, 270, 271], [207, 272],
  [], [], [52, 54, 53], [230, 143, 55, 230, 143, 143, 230, 143, 55], [230, 273], [105, 104, 177, 55, 52, 143, 105, 238, 101, 101, 55, 75, 52, 273], [238, 52, 143, 55, 52, 143, 274, 75, 143, 55, 52], [], [75, 55, 52, 103, 101, 105, 104, 145, 55, 144], [105, 238], [105, 55, 275, 276], [277, 177],
  [278, 279], [], [26], [280, 281, 282, 283], [284, 285, 286], [], [287, 287, 245], [245], [27, 28, 288], [58, 58, 207, 58, 272, 289, 290], [291], [292, 293, 294, 295, 296, 297, 298, 299, 251, 251],
  [300, 301], [], [302], [170], [303], [256, 255, 216], [], [], [60, 304, 60, 304], [305, 306, 307, 304, 304], [309, 308], [311, 12, 310, 312, 14, 310],
  [311, 312, 313, 310], [314, 308], [16, 316, 317, 308], [318, 308], [320, 308], [322, 323, 324], [324, 269], [305, 325, 325, 326, 327, 324, 324, 328, 304, 323, 324], [329], [143, 55, 230, 143, 55], [75, 238, 75, 238, 75, 55, 52, 78, 230], [17, 79, 275],
  [203, 276], [330], [], [], [], [], [331], [332, 333], [], [334, 336, 335, 214, 284], [337, 284, 214, 284, 338, 205, 339, 340, 161, 284], [],
  [209, 341, 35], [252, 342], [], [], [], [343, 343], [344, 345], [346, 346, 346, 347], [], [], [], [],
  [], [], [348, 349, 350, 351], [353, 352, 201, 355, 354, 357, 356], [], [214], [], [306, 306, 335, 310, 214], [358], [12, 310], [305], [305, 358],
  [18, 359, 19, 18, 310], [18, 18, 27, 29, 360, 341, 31], [315, 310], [19, 248, 18, 315, 319], [361, 19, 16], [310], [248, 310, 319, 310], [27, 341], [321, 310], [29, 28, 14, 31], [362], [],
  [305], [363, 364, 365, 366, 58, 58, 58, 368, 367, 364, 365, 369, 367], [370, 370, 371, 371, 367, 367, 367, 367, 372, 367, 367], [370, 370, 367, 367], [370, 371, 373, 373, 372, 374, 375, 376, 377], [], [80], [], [378, 379], [], [277, 84, 85, 58, 380, 381, 337, 84], [382],
  [384, 383], [214, 385, 214, 385, 60, 386, 387, 122], [388, 284, 205, 116, 124, 388], [207, 389, 390, 272, 391], [207, 272, 391], [209, 58, 289], [392, 393, 394, 395, 396, 397, 398, 399, 400, 342, 342], [], [252], [], [347], [401, 401, 401],
  [], [301, 402, 403], [], [404, 405], [], [], [202], [202], [151, 406], [407, 406], [18, 310], [36],
  [28, 408, 28, 28, 28, 341, 341, 18], [], [409, 410, 411, 409, 409], [412], [67], [413, 414], [370, 367], [371, 415], [370], [415, 415, 370], [], [],
  [415], [416], [417, 418], [302], [419], [420, 58, 58, 58, 58, 58, 83, 84, 421, 421, 421, 85, 84, 85], [], [422], [191, 192, 67], [111], [423, 424, 425], [426, 289],
  [427], [], [303], [428, 414], [116, 284], [], [], [], [398], [429, 429], [344, 345], [430, 430, 430, 431],
  [], [398, 398, 398], [253, 253], [398, 398], [398, 398, 398, 398], [], [], [], [], [432, 433], [199], [378, 151],
  [36, 36, 434], [362], [435, 435, 435, 435, 436, 12], [437, 437, 438, 438, 439], [82], [440, 440, 440, 440, 440, 440, 441], [442, 443, 444, 445], [], [415, 370], [], [416, 369, 415, 370], [348, 349, 350, 351],
  [446, 447], [], [], [], [448, 449, 424, 450, 424, 451], [67], [452], [], [453], [398, 398], [431], [454, 454, 454],
  [], [], [], [436, 19], [18], [436, 455], [456, 303, 387], [], [], [440, 440, 440, 440, 440, 440], [457], [457],
  [457, 214, 458], [457, 214, 458], [], [], [], [425, 67, 58, 425, 459, 460], [425, 448, 58], [460, 460, 460, 460, 460, 460, 460, 460, 461, 462], [], [413], [398], [29],
  [463], [], [], [425, 464, 465, 191, 466, 192, 467, 464], [], [], [], [82], [], [464, 424, 425, 58, 464], [464, 303, 363, 467, 464], [192],
  [], [], [], [], [], [], [], [], [], [], [], [],
  [], [], [], [], [], [], [], [], [], [], [], [],
  [], [], [], [], [], [], [], [], [], [], [], [458, 458]]
theorem tabT_0 : ((dropP 80 Tryz.prog.funcs.toList 0).take 80).map Tryz.prog.leadsTo = (dropP 80 tabT 0).take 80 := by kernel_rfl
theorem tabT_1 : ((dropP 80 Tryz.prog.funcs.toList 1).take 80).map Tryz.prog.leadsTo = (dropP 80 tabT 1).take 80 := by kernel_rfl
theorem tabT_2 : ((dropP 80 Tryz.prog.funcs.toList 2).take 80).map Tryz.prog.leadsTo = (dropP 80 tabT 2).take 80 := by kernel_rfl
theorem tabT_3 : ((dropP 80 Tryz.prog.funcs.toList 3).take 80).map Tryz.prog.leadsTo = (dropP 80 tabT 3).take 80 := by kernel_rfl
theorem tabT_4 : ((dropP 80 Tryz.prog.funcs.toList 4).take 80).map Tryz.prog.leadsTo = (dropP 80 tabT 4).take 80 := by kernel_rfl
theorem tabT_5 : ((dropP 80 Tryz.prog.funcs.toList 5).take 80).map Tryz.prog.leadsTo = (dropP 80 tabT 5).take 80 := by kernel_rfl
theorem tabT_6 : (dropP 80 Tryz.prog.funcs.toList 6).map Tryz.prog.leadsTo = dropP 80 tabT 6 := by kernel_rfl
theorem tabT_all : Tryz.prog.funcs.toList.map Tryz.prog.leadsTo = tabT := map_parts 80 tabT_0 (map_parts 80 tabT_1 (map_parts 80 tabT_2 (map_parts 80 tabT_3 (map_parts 80 tabT_4 (map_parts 80 tabT_5 (tabT_6))))))
def tabG : List (List Nat) := [[], [], [], [], [], [], [], [], [], [], [], [],
  [], [], [], [], [], [], [], [], [], [], [], [],
  [], [], [], [], [], [], [], [], [], [], [], [],
  [], [], [], [], [], [], [], [], [], [], [], [],
  [], [], [], [], [], [], [], [], [], [], [], [],
  [], [], [], [], [], [], [], [], [], [], [], [],
  [], [], [], [], [], [], [], [], [0, 0, 0], [], [], [],
  [], [], [], [], [], [], [], [], [], [], [], [],
  [], [], [], [], [], [], [], [], [], [], [], [],
  [], [], [], [], [], [], [], [], [], [], [], [],
  [], [], [], [], [], [], [], [], [], [], [], [],
  [], [], [], [], [], [], [], [], [], [], [], [],
  [], [], [], [1, 1, 1, 1], [], [], [], [], [], [], [], [],
  [], [], [], [], [], [], [], [], [], [], [], [],
  [], [], [], [], [], [], [], [], [], [], [], [],
  [], [], [], [], [], [], [], [], [], [], [], [],
  [], [], [], [], [], [2], [3, 4], [], [], [], [], [],
  [], [], [], [], [], [], [], [], [], [], [], [],
  [], [], [], [], [], [], [], [], [], [], [], [],
  [], [], [], [], [], [], [], [], [], [], [], [],
  [], [], [], [], [], [], [], [], [], [], [], [],
  [], [], [], [], [], [], [], [], [], [], [], [],
  [], [], [], [], [], [], [], [], [], [], [], [],
  [], [], [], [], [], [], [], [], [], [], [], [],
  [], [], [], [], [], [], [], [], [], [], [], [],
  [], [], [], [], [], [], [], [], [], [], [], [],
  [], [], [], [], [], [], [], [], [], [], [], [],
  [], [], [], [], [], [], [], [], [], [], [], [],
  [], [], [], [], [], [], [], [], [], [], [], [],
  [], [5], [], [], [], [], [], [], [], [], [], [],
  [], [], [], [], [], [], [], [], [], [], [], [],
  [], [], [], [], [], [], [], [], [], [], [], [],
  [], [], [], [], [], [], [], [], [], [], [], [],
  [], [], [], [], [], [], [], [], [], [], [], [],
  [], [], [], [], [], [], [], [], [], [], [], [],
  [], [], [3, 4], [], [], [], [], [], [], [], [], [],
  [7], [8], [], [], [], [], [], [], [], [], [9], [10],
  [], [], [], [], [], [], [], [], [], [], [], [],
  [], [], [], [], [], [], [], [], [], [], [], [],
  [], [], [], [], [], [], [], [], [], [], [], [],
  [], [], [], [], [], [], [], [], [], [], [], [],
  [], [], [], [], [], [], [], [], [], [], [], [7, 8, 5, 4, 10, 9, 11, 11, 2, 1]]
theorem tabG_0 : ((dropP 80 Tryz.prog.funcs.toList 0).take 80).map globsAt = (dropP 80 tabG 0).take 80 := by kernel_rfl
theorem tabG_1 : ((dropP 80 Tryz.prog.funcs.toList 1).take 80).map globsAt = (dropP 80 tabG 1).take 80 := by kernel_rfl
theorem tabG_2 : ((dropP 80 Tryz.prog.funcs.toList 2).take 80).map globsAt = (dropP 80 tabG 2).take 80 := by kernel_rfl
theorem tabG_3 : ((dropP 80 Tryz.prog.funcs.toList 3).take 80).map globsAt = (dropP 80 tabG 3).take 80 := by kernel_rfl
theorem tabG_4 : ((dropP 80 Tryz.prog.funcs.toList 4).take 80).map globsAt = (dropP 80 tabG 4).take 80 := by kernel_rfl
theorem tabG_5 : ((dropP 80 Tryz.prog.funcs.toList 5).take 80).map globsAt = (dropP 80 tabG 5).take 80 := by kernel_rfl
theorem tabG_6 : (dropP 80 Tryz.prog.funcs.toList 6).map globsAt = dropP 80 tabG 6 := by kernel_rfl
theorem tabG_all : Tryz.prog.funcs.toList.map globsAt = tabG := map_parts 80 tabG_0 (map_parts 80 tabG_1 (map_parts 80 tabG_2 (map_parts 80 tabG_3 (map_parts 80 tabG_4 (map_parts 80 tabG_5 (tabG_6))))))
def tabN : List Bool := [true, true, false, false, false, false, false, false, false, false, false, false,
  false, false, false, false, false, false, false, false, false, false, false, false,
  false, false, false, false, false, false, false, false, false, false, false, false,
  false, false, false, false, false, false, false, false, false, false, false, false,
  false, false, false, false, false, false, false, false, false, false, false, false,
  false, true, false, false, false, false, false, false, false, false, false, false,
  false, false, false, false, false, false, false, false, false, false, false, false,
  false, false, false, false, false, false, false, false, false, false, false, false,
  false, false, false, false, false, false, false, false, false, false, true, false,
  false, false, false, false, false, false, false, false, false, false, false, false,
  false, false, false, false, false, false, false, false, false, false, false, false,
  false, false, false, false, false, true, false, false, false, false, false, false,
  false, false, false, false, false, false, false, false, true, true, true, false,
  false, false, false, false, false, false, false, false, false, false, false, false,
  false, false, false, false, false, false, false, false, false, false, false, false,
  false, false, false, false, false, false, false, false, false, false, false, false,
  false, false, false, false, false, false, false, false, false, false, false, false,
  false, false, false, false, false, false, false, false, false, false, false, false,
  false, false, false, false, false, false, false, false, false, false, false, false,
  false, false, false, false, false, false, false, false, false, false, false, false,
  false, false, false, false, false, false, false, false, false, false, false, false,
  false, false, false, false, false, false, false, false, false, false, false, false,
  false, false, false, false, false, false, false, false, false, false, false, false,
  false, false, false, false, false, false, false, false, false, false, false, false,
  false, false, false, false, false, false, false, false, false, false, false, false,
  false, false, false, false, false, false, false, false, false, false, false, false,
  false, false, false, false, false, false, false, false, false, false, false, false,
  false, false, false, false, false, false, false, false, false, false, false, false,
  false, false, false, false, false, false, false, false, false, false, false, false,
  false, false, false, false, false, false, false, false, false, false, false, false,
  false, false, false, false, false, false, false, false, false, false, true, false,
  false, false, false, false, false, false, false, false, false, false, false, false,
  false, false, false, false, false, false, false, false, false, false, false, false,
  false, false, false, false, false, false, false, false, false, false, false, false,
  false, false, false, false, false, false, false, true, false, true, false, false,
  false, false, false, false, false, false, false, false, false, false, false, false,
  false, false, false, false, false, false, false, false, false, false, false, false,
  false, false, false, false, false, false, false, false, false, false, false, false,
  false, false, false, false, false, false, false, false, false, false, false, false,
  true, true, true, true, true, true, true, true, true, true, true, true,
  true, true, true, true, true, true, true, true, true, true, true, true,
  true, true, true, true, true, true, true, true, true, true, true, false]
theorem tabN_0 : ((dropP 80 Tryz.prog.funcs.toList 0).take 80).map flagAt = (dropP 80 tabN 0).take 80 := by kernel_rfl
theorem tabN_1 : ((dropP 80 Tryz.prog.funcs.toList 1).take 80).map flagAt = (dropP 80 tabN 1).take 80 := by kernel_rfl
theorem tabN_2 : ((dropP 80 Tryz.prog.funcs.toList 2).take 80).map flagAt = (dropP 80 tabN 2).take 80 := by kernel_rfl
theorem tabN_3 : ((dropP 80 Tryz.prog.funcs.toList 3).take 80).map flagAt = (dropP 80 tabN 3).take 80 := by kernel_rfl
theorem tabN_4 : ((dropP 80 Tryz.prog.funcs.toList 4).take 80).map flagAt = (dropP 80 tabN 4).take 80 := by kernel_rfl
theorem tabN_5 : ((dropP 80 Tryz.prog.funcs.toList 5).take 80).map flagAt = (dropP 80 tabN 5).take 80 := by kernel_rfl
theorem tabN_6 : (dropP 80 Tryz.prog.funcs.toList 6).map flagAt = dropP 80 tabN 6 := by kernel_rfl
theorem tabN_all : Tryz.prog.funcs.toList.map flagAt = tabN := map_parts 80 tabN_0 (map_parts 80 tabN_1 (map_parts 80 tabN_2 (map_parts 80 tabN_3 (map_parts 80 tabN_4 (map_parts 80 tabN_5 (tabN_6))))))
def tabE : List Bool := [true, true, false, false, false, false, false, false, false, false, false, false,
  false, false, false, false, false, false, false, false, false, false, false, false,
  false, false, false, false, false, false, false, false, false, false, false, false,
  false, false, false, false, false, false, false, false, false, false, false, false,
  false, false, false, false, false, false, false, false, false, false, false, false,
  false, true, false, false, false, false, false, false, false, false, false, false,
  false, false, false, false, false, false, false, false, false, false, false, false,
  false, false, false, false, false, false, false, false, false, false, false, false,
  false, false, false, false, false, false, false, false, false, false, true, false,
  false, false, false, false, false, false, false, false, false, false, false, false,
  false, false, false, false, false, false, false, false, false, false, false, false,
  false, false, false, false, false, true, false, false, false, false, false, false,
  false, false, false, false, false, false, false, false, true, true, true, false,
  false, false, false, false, false, false, false, false, false, false, false, false,
  false, false, false, false, false, false, false, false, false, false, false, false,
  false, false, false, false, false, false, false, false, false, false, false, false,
  false, false, false, false, false, false, false, false, false, false, false, false,
  false, false, false, false, false, false, false, false, false, false, false, false,
  false, false, false, false, false, false, false, false, false, false, false, false,
  false, false, false, false, false, false, false, false, false, false, false, false,
  false, false, false, false, false, false, false, false, false, false, false, false,
  false, false, false, false, false, false, false, false, false, false, false, false,
  false, false, false, false, false, false, false, false, false, false, false, false,
  false, false, false, false, false, false, false, false, false, false, false, false,
  false, false, false, false, false, false, false, false, false, false, false, false,
  false, false, false, false, false, false, false, false, false, false, false, false,
  false, false, false, false, false, false, false, false, false, false, false, false,
  false, false, false, false, false, false, false, false, false, false, false, false,
  false, false, false, false, false, false, false, false, false, false, false, false,
  false, false, false, false, false, false, false, false, false, false, false, false,
  false, false, false, false, false, false, false, false, false, false, true, false,
  false, false, false, false, false, false, false, false, false, false, false, false,
  false, false, false, false, false, false, false, false, false, false, false, false,
  false, false, false, false, false, false, false, false, false, false, false, false,
  false, false, false, false, false, false, false, true, false, true, false, false,
  false, false, false, false, false, false, false, false, false, false, false, false,
  false, false, false, false, false, false, false, false, false, false, false, false,
  false, false, false, false, false, false, false, false, false, false, false, false,
  false, false, false, false, false, false, false, false, false, false, false, false,
  true, true, true, true, true, true, true, true, true, true, true, true,
  true, true, true, true, true, true, true, true, true, true, true, true,
  true, true, true, true, true, true, true, true, true, true, true, false]
theorem tabE_0 : ((dropP 80 Tryz.prog.funcs.toList 0).take 80).map bareAt = (dropP 80 tabE 0).take 80 := by kernel_rfl
theorem tabE_1 : ((dropP 80 Tryz.prog.funcs.toList 1).take 80).map bareAt = (dropP 80 tabE 1).take 80 := by kernel_rfl
theorem tabE_2 : ((dropP 80 Tryz.prog.funcs.toList 2).take 80).map bareAt = (dropP 80 tabE 2).take 80 := by kernel_rfl
theorem tabE_3 : ((dropP 80 Tryz.prog.funcs.toList 3).take 80).map bareAt = (dropP 80 tabE 3).take 80 := by kernel_rfl
theorem tabE_4 : ((dropP 80 Tryz.prog.funcs.toList 4).take 80).map bareAt = (dropP 80 tabE 4).take 80 := by kernel_rfl
theorem tabE_5 : ((dropP 80 Tryz.prog.funcs.toList 5).take 80).map bareAt = (dropP 80 tabE 5).take 80 := by kernel_rfl
theorem tabE_6 : (dropP 80 Tryz.prog.funcs.toList 6).map bareAt = dropP 80 tabE 6 := by kernel_rfl
theorem tabE_all : Tryz.prog.funcs.toList.map bareAt = tabE := map_parts 80 tabE_0 (map_parts 80 tabE_1 (map_parts 80 tabE_2 (map_parts 80 tabE_3 (map_parts 80 tabE_4 (map_parts 80 tabE_5 (tabE_6))))))
theorem laidOut_ok : (laidOutB Tryz.pinned.checked.prog) = true := by kernel_rfl
theorem mapsRowed_ok : (mapsRowed Tryz.pinned.checked.prog) = true := by kernel_rfl
theorem stopsHeard_ok : (Tryz.pinned.checked.prog.stopsHeard) = true := by kernel_rfl
theorem mayEnter_ok : (Tryz.pinned.checked.prog.mayEnter) = true := by kernel_rfl
theorem own : ownKnob Tryz.prog.godebug = none := by kernel_rfl
theorem follows : Tryz.prog.follows .mixedOrders = true := by kernel_rfl
theorem names : Tryz.prog.funcs.toList.all (fun fn => !(fn.name == "runtime.NumGoroutine")) = true := by kernel_rfl
theorem nameOK : NameOK Tryz.prog := by
  intro f fn c hf _
  have h := List.all_eq_true.1 names fn (by
    rw [Array.mem_toList_iff]
    exact Array.mem_of_getElem? hf)
  simpa using h
end
end Go.Proofs.YtcmnkndbcecbiaaGreatDoor
