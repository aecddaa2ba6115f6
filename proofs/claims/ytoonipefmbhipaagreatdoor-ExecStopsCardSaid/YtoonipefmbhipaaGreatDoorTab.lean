/-
  What each function of the program leads to and names, by tables, and closed facts of the whole program. No condition.
-/
import Derived.Test.YtoonipefmbhipaaGreatDoorXJoinK
import Derived.Test.YtoonipefmbhipaaGreatDoorXMxG
import Derived.Test.YtoonipefmbhipaaGreatDoorRows
open Go Go.Mx
namespace Go.Proofs.YtoonipefmbhipaaGreatDoor
set_option maxRecDepth 1000000
noncomputable section
theorem band {a b : Bool} (h : a = true) (k : b = true) : (a && b) = true := by rw [h, k]; rfl
def tabT : List (List Nat) := [[], [], [1], [4, 5, 6, 8, 7, 9, 10], [8, 11, 6, 7, 9, 10, 10], [5], [12], [13, 14, 15, 16], [], [17, 18, 20, 19], [], [22, 23, 24, 25],
  [26, 27], [28, 28, 29, 30, 31, 32], [22, 23], [33], [], [], [], [34], [21], [35], [13, 36], [],
  [], [], [37, 38, 40, 41, 42, 40], [43, 44, 46, 45, 47], [48], [49, 50, 49], [51], [], [52], [53], [], [54, 55, 56, 57, 58],
  [23], [59], [39], [], [60, 61, 62, 59], [], [63, 62, 64, 41, 60, 65, 66], [], [67], [], [68, 69, 70, 68], [71],
  [72], [73], [74], [], [75, 76, 76, 76, 77], [], [], [78, 79, 80, 81, 82, 83], [57], [], [81, 85, 84], [87],
  [41, 59], [50], [], [88, 61], [], [62, 90, 89, 91, 61, 41, 89, 89, 64, 92, 89], [], [93], [94, 67, 67, 44, 94], [67, 67, 44], [95, 97, 96], [],
  [87, 98, 87, 99, 98, 100], [101, 102, 48], [], [103, 104], [103], [], [], [106, 105, 107], [106, 108], [109], [110, 83, 112, 84], [114, 116, 115],
  [117], [86], [120, 121, 35, 122, 123, 124, 19, 125, 126, 127, 128], [129], [], [], [59, 64], [89, 61, 41, 64, 130], [61, 131, 61, 132, 61, 133, 134, 89, 89], [97, 97], [135, 136, 67, 44, 136], [97, 96, 137, 139, 138, 93, 140],
  [], [], [], [], [141], [142, 143], [142, 144, 48], [145], [146], [147, 148], [149, 150, 151, 152, 115, 115], [153, 154, 50, 13, 108, 49, 155, 156, 158, 157, 160, 159, 158, 108],
  [76, 77], [106, 108, 13, 162, 163, 163, 164], [111], [116, 165], [113], [166, 167, 168, 164, 169, 170, 170], [], [164], [171, 28], [118, 118, 119], [163, 164], [],
  [35, 121, 172, 123, 173, 19, 170, 172], [174, 35], [175, 21], [15, 16, 176], [122], [121, 35, 35], [177, 54, 121, 178, 122, 178], [79, 179, 54, 116, 115, 122, 178], [106, 108, 106, 153, 180, 21], [], [62, 61, 60, 89, 64, 92, 89], [181, 134, 64, 61, 182, 64, 64, 183],
  [61, 64, 64], [41, 62, 184, 64], [185, 41, 186, 186, 60], [97, 96], [95, 47, 71, 187, 188], [139, 138], [189], [190, 191], [97, 139, 138], [], [], [192],
  [], [], [], [], [193, 194, 195, 196, 193], [197, 198, 149], [16], [199], [], [76, 200, 76, 77], [201], [51],
  [], [202, 13, 203], [204, 205], [207], [14, 161], [154], [208, 23, 17], [22, 23, 24, 209, 25], [210, 170], [], [211, 35], [212, 213, 214, 215, 216, 217, 218, 219, 220, 221],
  [222], [222, 17], [], [185], [], [35], [], [], [53], [], [], [],
  [223], [62, 62, 182], [224, 61], [61, 41, 64, 65, 62, 64, 130, 66], [41, 62, 64], [225, 186], [], [97, 96, 67, 226, 67, 47, 135, 226, 135, 47, 135, 227, 135, 228, 135, 228, 135, 229, 135, 230, 171, 231, 232, 140, 233], [97, 140, 140, 233, 234, 235], [], [], [236],
  [], [59, 237, 59, 99, 98], [], [], [], [], [6, 115, 123, 238, 19, 239], [240, 108], [], [241, 242, 243], [161, 154, 244, 245], [246],
  [248, 247], [206], [249, 249], [], [22, 23], [250], [251], [], [], [252, 170, 212], [252, 13, 14, 164, 212], [252, 212],
  [212, 171, 165, 164], [253, 252, 212], [254], [254], [253, 252], [253, 252], [255, 256, 257, 258, 259, 260, 261, 262, 263, 264, 265, 266, 267, 268], [201, 269], [], [], [44, 46, 45], [226, 135, 47, 226, 135, 135, 226, 135, 47],
  [226, 270], [97, 96, 171, 47, 44, 135, 97, 234, 93, 93, 47, 67, 44, 270], [234, 44, 135, 47, 44, 135, 271, 67, 135, 47, 44], [], [67, 47, 44, 95, 93, 97, 96, 137, 47, 136], [97, 234], [97, 47, 272, 273], [274, 171], [275, 276], [], [21], [277, 278, 279, 280],
  [281, 282, 283], [], [284, 284, 241], [241], [208, 23, 285], [50, 50, 201, 50, 269, 286, 287], [288], [289, 290, 291, 292, 293, 294, 295, 296, 247, 247], [297, 298], [], [], [299],
  [164], [300], [253, 252, 212], [], [], [52, 301, 52, 301], [302, 303, 304, 301, 301], [306, 305], [308, 162, 307, 309, 163, 307], [308, 309, 310, 307], [311, 305], [11, 313, 314, 305],
  [315, 305], [317, 305], [319, 320, 321], [321, 266], [302, 322, 322, 323, 324, 321, 321, 325, 301, 320, 321], [326], [135, 47, 226, 135, 47], [67, 234, 67, 234, 67, 47, 44, 70, 226], [12, 71, 272], [197, 273], [327], [],
  [], [], [], [328], [329, 330], [], [331, 333, 332, 210, 281], [334, 281, 210, 281, 335, 199, 336, 337, 153, 281], [], [203, 338, 28], [248, 339], [],
  [], [], [340, 340], [341, 342], [343, 343, 343, 344], [], [], [], [], [], [], [345, 346, 347, 348],
  [350, 349, 195, 352, 351, 354, 353], [], [210], [], [303, 303, 332, 307, 210], [355], [162, 307], [302], [302, 355], [13, 356, 14, 13, 307], [13, 13, 208, 22, 357, 338, 25], [312, 307],
  [14, 244, 13, 312, 316], [358, 14, 11], [307], [244, 307, 316, 307], [208, 338], [318, 307], [22, 23, 163, 25], [359], [], [302], [360, 361, 362, 363, 50, 50, 50, 365, 364, 361, 362, 366, 364], [367, 367, 368, 368, 364, 364, 364, 364, 369, 364, 364],
  [367, 367, 364, 364], [367, 368, 370, 370, 369, 371, 372, 373, 374], [], [72], [], [375, 376], [], [274, 76, 77, 50, 377, 378, 334, 76], [379], [381, 380], [210, 382, 210, 382, 52, 383, 384, 114], [385, 281, 199, 108, 116, 385],
  [201, 386, 387, 269, 388], [201, 269, 388], [203, 50, 286], [389, 390, 391, 392, 393, 394, 395, 396, 397, 339, 339], [], [248], [], [344], [398, 398, 398], [], [298, 399, 400], [],
  [401, 402], [], [], [196], [196], [143, 403], [404, 403], [13, 307], [29], [23, 405, 23, 23, 23, 338, 338, 13], [], [406, 407, 408, 406, 406],
  [409], [59], [410, 411], [367, 364], [368, 412], [367], [412, 412, 367], [], [], [412], [413], [414, 415],
  [299], [416], [417, 50, 50, 50, 50, 50, 75, 76, 418, 418, 418, 77, 76, 77], [], [419], [185, 186, 59], [103], [420, 421, 422], [423, 286], [424], [], [300],
  [425, 411], [108, 281], [], [], [], [395], [426, 426], [341, 342], [427, 427, 427, 428], [], [395, 395, 395], [249, 249],
  [395, 395], [395, 395, 395, 395], [], [], [], [], [429, 430], [193], [375, 143], [29, 29, 431], [359], [432, 432, 432, 432, 433, 162],
  [434, 434, 435, 435, 436], [74], [437, 437, 437, 437, 437, 437, 438], [439, 440, 441, 442], [], [412, 367], [], [413, 366, 412, 367], [345, 346, 347, 348], [443, 444], [], [],
  [], [445, 446, 421, 447, 421, 448], [59], [449], [], [450], [395, 395], [428], [451, 451, 451], [], [], [],
  [433, 14], [13], [433, 452], [453, 300, 384], [], [], [437, 437, 437, 437, 437, 437], [454], [454], [454, 210, 455], [454, 210, 455], [],
  [], [], [422, 59, 50, 422, 456, 457], [422, 445, 50], [457, 457, 457, 457, 457, 457, 457, 457, 458, 459], [], [410], [395], [22], [460], [], [],
  [422, 461, 462, 185, 463, 186, 464, 461], [], [], [], [74], [], [461, 421, 422, 50, 461], [461, 300, 360, 464, 461], [186], [], [], [],
  [], [], [], [], [], [], [], [], [], [], [], [],
  [], [], [], [], [], [], [], [], [], [], [], [],
  [], [], [], [], [], [], [], [], [455, 455]]
theorem tabT_0 : ((dropP 80 Tryz.prog.funcs.toList 0).take 80).map Tryz.prog.leadsTo = (dropP 80 tabT 0).take 80 := by kernel_rfl
theorem tabT_1 : ((dropP 80 Tryz.prog.funcs.toList 1).take 80).map Tryz.prog.leadsTo = (dropP 80 tabT 1).take 80 := by kernel_rfl
theorem tabT_2 : ((dropP 80 Tryz.prog.funcs.toList 2).take 80).map Tryz.prog.leadsTo = (dropP 80 tabT 2).take 80 := by kernel_rfl
theorem tabT_3 : ((dropP 80 Tryz.prog.funcs.toList 3).take 80).map Tryz.prog.leadsTo = (dropP 80 tabT 3).take 80 := by kernel_rfl
theorem tabT_4 : ((dropP 80 Tryz.prog.funcs.toList 4).take 80).map Tryz.prog.leadsTo = (dropP 80 tabT 4).take 80 := by kernel_rfl
theorem tabT_5 : ((dropP 80 Tryz.prog.funcs.toList 5).take 80).map Tryz.prog.leadsTo = (dropP 80 tabT 5).take 80 := by kernel_rfl
theorem tabT_6 : (dropP 80 Tryz.prog.funcs.toList 6).map Tryz.prog.leadsTo = dropP 80 tabT 6 := by kernel_rfl
theorem tabT_all : Tryz.prog.funcs.toList.map Tryz.prog.leadsTo = tabT := map_parts 80 tabT_0 (map_parts 80 tabT_1 (map_parts 80 tabT_2 (map_parts 80 tabT_3 (map_parts 80 tabT_4 (map_parts 80 tabT_5 (tabT_6))))))
def tabG : List (List Nat) := [[], [], [], [], [], [], [], [], [], [], [], [],
  [], [], [], [], [], [], [], [], [], [], [], [],
  [], [], [], [], [], [], [], [], [], [], [], [],
  [], [], [], [], [], [], [], [], [], [], [], [],
  [], [], [], [], [], [], [], [], [], [], [], [],
  [], [], [], [], [], [], [], [], [], [], [], [],
  [0, 0, 0], [], [], [], [], [], [], [], [], [], [], [],
  [], [], [], [], [], [], [], [], [], [], [], [],
  [], [], [], [], [], [], [], [], [], [], [], [],
  [], [], [], [], [], [], [], [], [], [], [], [],
  [], [], [], [], [], [], [], [], [], [], [], [],
  [], [], [], [], [], [], [], [1, 1, 1, 1], [], [], [], [],
  [], [], [], [], [], [], [], [], [], [], [], [],
  [], [], [], [], [], [], [], [], [], [], [], [],
  [], [], [], [], [], [], [], [], [], [], [], [],
  [], [], [], [], [], [], [], [], [], [], [], [2],
  [3, 4], [], [], [], [], [], [], [], [], [], [], [],
  [], [], [], [], [], [], [], [], [], [], [], [],
  [], [], [], [], [], [], [], [], [], [], [], [],
  [], [], [], [], [], [], [], [], [], [], [], [],
  [], [], [], [], [], [], [], [], [], [], [], [],
  [], [], [], [], [], [], [], [], [], [], [], [],
  [], [], [], [], [], [], [], [], [], [], [], [],
  [], [], [], [], [], [], [], [], [], [], [], [],
  [], [], [], [], [], [], [], [], [], [], [], [],
  [], [], [], [], [], [], [], [], [], [], [], [],
  [], [], [], [], [], [], [], [], [], [], [], [],
  [], [], [], [], [], [], [], [], [], [], [], [],
  [], [], [], [], [], [], [], [], [], [], [5], [],
  [], [], [], [], [], [], [], [], [], [], [], [],
  [], [], [], [], [], [], [], [], [], [], [], [],
  [], [], [], [], [], [], [], [], [], [], [], [],
  [], [], [], [], [], [], [], [], [], [], [], [],
  [], [], [], [], [], [], [], [], [], [], [], [],
  [], [], [], [], [], [], [], [], [], [], [], [3, 4],
  [], [], [], [], [], [], [], [], [], [7], [8], [],
  [], [], [], [], [], [], [], [9], [10], [], [], [],
  [], [], [], [], [], [], [], [], [], [], [], [],
  [], [], [], [], [], [], [], [], [], [], [], [],
  [], [], [], [], [], [], [], [], [], [], [], [],
  [], [], [], [], [], [], [], [], [], [], [], [],
  [], [], [], [], [], [], [], [], [7, 8, 5, 4, 10, 9, 11, 11, 2, 1]]
theorem tabG_0 : ((dropP 80 Tryz.prog.funcs.toList 0).take 80).map globsAt = (dropP 80 tabG 0).take 80 := by kernel_rfl
theorem tabG_1 : ((dropP 80 Tryz.prog.funcs.toList 1).take 80).map globsAt = (dropP 80 tabG 1).take 80 := by kernel_rfl
theorem tabG_2 : ((dropP 80 Tryz.prog.funcs.toList 2).take 80).map globsAt = (dropP 80 tabG 2).take 80 := by kernel_rfl
theorem tabG_3 : ((dropP 80 Tryz.prog.funcs.toList 3).take 80).map globsAt = (dropP 80 tabG 3).take 80 := by kernel_rfl
theorem tabG_4 : ((dropP 80 Tryz.prog.funcs.toList 4).take 80).map globsAt = (dropP 80 tabG 4).take 80 := by kernel_rfl
theorem tabG_5 : ((dropP 80 Tryz.prog.funcs.toList 5).take 80).map globsAt = (dropP 80 tabG 5).take 80 := by kernel_rfl
theorem tabG_6 : (dropP 80 Tryz.prog.funcs.toList 6).map globsAt = dropP 80 tabG 6 := by kernel_rfl
theorem tabG_all : Tryz.prog.funcs.toList.map globsAt = tabG := map_parts 80 tabG_0 (map_parts 80 tabG_1 (map_parts 80 tabG_2 (map_parts 80 tabG_3 (map_parts 80 tabG_4 (map_parts 80 tabG_5 (tabG_6))))))
def tabN : List Bool := [true, true, false, false, false, false, false, false, false, false, false, false,
  false, false, false, false, false, false, false, false, false, false, false, false,
  false, false, false, false, false, false, false, false, false, false, false, false,
  false, false, false, false, false, false, false, false, false, false, false, false,
  false, false, false, false, false, true, false, false, false, false, false, false,
  false, false, false, false, false, false, false, false, false, false, false, false,
  false, false, false, false, false, false, false, false, false, false, false, false,
  false, false, false, false, false, false, false, false, false, false, false, false,
  false, false, true, false, false, false, false, false, false, false, false, false,
  false, false, false, false, false, false, false, false, false, false, false, false,
  false, false, false, false, false, false, false, false, false, true, false, false,
  false, false, false, false, false, false, false, false, false, false, false, false,
  true, true, true, false, false, false, false, false, false, false, false, false,
  false, false, false, false, false, false, false, false, false, false, false, false,
  false, false, false, false, false, false, false, false, false, false, false, false,
  false, false, false, false, false, false, false, false, false, false, false, false,
  false, false, false, false, false, false, false, false, false, false, false, false,
  false, false, false, false, false, false, false, false, false, false, false, false,
  false, false, false, false, false, false, false, false, false, false, false, false,
  false, false, false, false, false, false, false, false, false, false, false, false,
  false, false, false, false, false, false, false, false, false, false, false, false,
  false, false, false, false, false, false, false, false, false, false, false, false,
  false, false, false, false, false, false, false, false, false, false, false, false,
  false, false, false, false, false, false, false, false, false, false, false, false,
  false, false, false, false, false, false, false, false, false, false, false, false,
  false, false, false, false, false, false, false, false, false, false, false, false,
  false, false, false, false, false, false, false, false, false, false, false, false,
  false, false, false, false, false, false, false, false, false, false, false, false,
  false, false, false, false, false, false, false, false, false, false, false, false,
  false, false, false, false, false, false, false, false, false, false, false, false,
  false, false, false, false, false, false, false, true, false, false, false, false,
  false, false, false, false, false, false, false, false, false, false, false, false,
  false, false, false, false, false, false, false, false, false, false, false, false,
  false, false, false, false, false, false, false, false, false, false, false, false,
  false, false, false, false, true, false, true, false, false, false, false, false,
  false, false, false, false, false, false, false, false, false, false, false, false,
  false, false, false, false, false, false, false, false, false, false, false, false,
  false, false, false, false, false, false, false, false, false, false, false, false,
  false, false, false, false, false, false, false, false, false, true, true, true,
  true, true, true, true, true, true, true, true, true, true, true, true,
  true, true, true, true, true, true, true, true, true, true, true, true,
  true, true, true, true, true, true, true, true, false]
theorem tabN_0 : ((dropP 80 Tryz.prog.funcs.toList 0).take 80).map flagAt = (dropP 80 tabN 0).take 80 := by kernel_rfl
theorem tabN_1 : ((dropP 80 Tryz.prog.funcs.toList 1).take 80).map flagAt = (dropP 80 tabN 1).take 80 := by kernel_rfl
theorem tabN_2 : ((dropP 80 Tryz.prog.funcs.toList 2).take 80).map flagAt = (dropP 80 tabN 2).take 80 := by kernel_rfl
theorem tabN_3 : ((dropP 80 Tryz.prog.funcs.toList 3).take 80).map flagAt = (dropP 80 tabN 3).take 80 := by kernel_rfl
theorem tabN_4 : ((dropP 80 Tryz.prog.funcs.toList 4).take 80).map flagAt = (dropP 80 tabN 4).take 80 := by kernel_rfl
theorem tabN_5 : ((dropP 80 Tryz.prog.funcs.toList 5).take 80).map flagAt = (dropP 80 tabN 5).take 80 := by kernel_rfl
theorem tabN_6 : (dropP 80 Tryz.prog.funcs.toList 6).map flagAt = dropP 80 tabN 6 := by kernel_rfl
theorem tabN_all : Tryz.prog.funcs.toList.map flagAt = tabN := map_parts 80 tabN_0 (map_parts 80 tabN_1 (map_parts 80 tabN_2 (map_parts 80 tabN_3 (map_parts 80 tabN_4 (map_parts 80 tabN_5 (tabN_6))))))
def tabE : List Bool := [true, true, false, false, false, false, false, false, false, false, false, false,
  false, false, false, false, false, false, false, false, false, false, false, false,
  false, false, false, false, false, false, false, false, false, false, false, false,
  false, false, false, false, false, false, false, false, false, false, false, false,
  false, false, false, false, false, true, false, false, false, false, false, false,
  false, false, false, false, false, false, false, false, false, false, false, false,
  false, false, false, false, false, false, false, false, false, false, false, false,
  false, false, false, false, false, false, false, false, false, false, false, false,
  false, false, true, false, false, false, false, false, false, false, false, false,
  false, false, false, false, false, false, false, false, false, false, false, false,
  false, false, false, false, false, false, false, false, false, true, false, false,
  false, false, false, false, false, false, false, false, false, false, false, false,
  true, true, true, false, false, false, false, false, false, false, false, false,
  false, false, false, false, false, false, false, false, false, false, false, false,
  false, false, false, false, false, false, false, false, false, false, false, false,
  false, false, false, false, false, false, false, false, false, false, false, false,
  false, false, false, false, false, false, false, false, false, false, false, false,
  false, false, false, false, false, false, false, false, false, false, false, false,
  false, false, false, false, false, false, false, false, false, false, false, false,
  false, false, false, false, false, false, false, false, false, false, false, false,
  false, false, false, false, false, false, false, false, false, false, false, false,
  false, false, false, false, false, false, false, false, false, false, false, false,
  false, false, false, false, false, false, false, false, false, false, false, false,
  false, false, false, false, false, false, false, false, false, false, false, false,
  false, false, false, false, false, false, false, false, false, false, false, false,
  false, false, false, false, false, false, false, false, false, false, false, false,
  false, false, false, false, false, false, false, false, false, false, false, false,
  false, false, false, false, false, false, false, false, false, false, false, false,
  false, false, false, false, false, false, false, false, false, false, false, false,
  false, false, false, false, false, false, false, false, false, false, false, false,
  false, false, false, false, false, false, false, true, false, false, false, false,
  false, false, false, false, false, false, false, false, false, false, false, false,
  false, false, false, false, false, false, false, false, false, false, false, false,
  false, false, false, false, false, false, false, false, false, false, false, false,
  false, false, false, false, true, false, true, false, false, false, false, false,
  false, false, false, false, false, false, false, false, false, false, false, false,
  false, false, false, false, false, false, false, false, false, false, false, false,
  false, false, false, false, false, false, false, false, false, false, false, false,
  false, false, false, false, false, false, false, false, false, true, true, true,
  true, true, true, true, true, true, true, true, true, true, true, true,
  true, true, true, true, true, true, true, true, true, true, true, true,
  true, true, true, true, true, true, true, true, false]
theorem tabE_0 : ((dropP 80 Tryz.prog.funcs.toList 0).take 80).map bareAt = (dropP 80 tabE 0).take 80 := by kernel_rfl
theorem tabE_1 : ((dropP 80 Tryz.prog.funcs.toList 1).take 80).map bareAt = (dropP 80 tabE 1).take 80 := by kernel_rfl
theorem tabE_2 : ((dropP 80 Tryz.prog.funcs.toList 2).take 80).map bareAt = (dropP 80 tabE 2).take 80 := by kernel_rfl
theorem tabE_3 : ((dropP 80 Tryz.prog.funcs.toList 3).take 80).map bareAt = (dropP 80 tabE 3).take 80 := by kernel_rfl
theorem tabE_4 : ((dropP 80 Tryz.prog.funcs.toList 4).take 80).map bareAt = (dropP 80 tabE 4).take 80 := by kernel_rfl
theorem tabE_5 : ((dropP 80 Tryz.prog.funcs.toList 5).take 80).map bareAt = (dropP 80 tabE 5).take 80 := by kernel_rfl
theorem tabE_6 : (dropP 80 Tryz.prog.funcs.toList 6).map bareAt = dropP 80 tabE 6 := by kernel_rfl
theorem tabE_all : Tryz.prog.funcs.toList.map bareAt = tabE := map_parts 80 tabE_0 (map_parts 80 tabE_1 (map_parts 80 tabE_2 (map_parts 80 tabE_3 (map_parts 80 tabE_4 (map_parts 80 tabE_5 (tabE_6))))))
theorem laidOut_ok : (laidOutB Tryz.pinned.checked.prog) = true := by kernel_rfl
theorem mapsRowed_ok : (mapsRowed Tryz.pinned.checked.prog) = true := by kernel_rfl
theorem stopsHeard_ok : (Tryz.pinned.checked.prog.stopsHeard) = true := by kernel_rfl
theorem mayEnter_ok : (Tryz.pinned.checked.prog.mayEnter) = true := by kernel_rfl
theorem own : ownKnob Tryz.prog.godebug = none := by kernel_rfl
theorem follows : Tryz.prog.follows .mixedOrders = true := by kernel_rfl
theorem names : Tryz.prog.funcs.toList.all (fun fn => !(fn.name == "runtime.NumGoroutine")) = true := by kernel_rfl
theorem nameOK : NameOK Tryz.prog := by
  intro f fn c hf _
  have h := List.all_eq_true.1 names fn (by
    rw [Array.mem_toList_iff]
    exact Array.mem_of_getElem? hf)
  simpa using h
end
end Go.Proofs.YtoonipefmbhipaaGreatDoor
