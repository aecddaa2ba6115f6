/-
  What each function of the program leads to and names, by tables, and closed facts of the whole program. No condition.
-/
import Derived.Test.YtnpdmljafaolpaaGreatDoorXJoinK
import Derived.Test.YtnpdmljafaolpaaGreatDoorXMxG
import Derived.Test.YtnpdmljafaolpaaGreatDoorRows
open Go Go.Mx
namespace Go.Proofs.YtnpdmljafaolpaaGreatDoor
set_option maxRecDepth 1000000
noncomputable section
theorem band {a b : Bool} (h : a = true) (k : b = true) : (a && b) = true := by rw [h, k]; rfl
def tabT : List (List Nat) := [[], [], [1], [4, 5, 6, 7, 8, 9, 10], [5, 6, 7, 8, 9, 10, 10], [], [11, 12, 13, 14], [15], [16, 17, 18, 19], [20, 21, 23, 22], [], [16, 25],
  [], [], [], [26, 27], [28, 28, 29, 30, 31, 32], [11, 12], [33], [], [], [], [34], [24],
  [35], [12], [36, 37, 39, 40, 41, 39], [42, 43, 45, 44, 46], [47], [48, 49, 48], [50], [], [51], [52], [], [53, 54, 55, 56, 57],
  [58], [38], [], [59, 60, 61, 58], [], [62, 61, 63, 40, 59, 64, 65], [], [66], [], [67, 68, 69, 67], [70], [71],
  [72], [73], [], [74, 75, 75, 75, 76], [], [], [77, 78, 79, 80, 81, 82], [56], [], [80, 84, 83], [86], [40, 58],
  [49], [], [87, 60], [], [61, 89, 88, 90, 60, 40, 88, 88, 63, 91, 88], [], [92], [93, 66, 66, 43, 93], [66, 66, 43], [94, 96, 95], [], [86, 97, 86, 98, 97, 99],
  [100, 101, 47], [], [102, 103], [102], [], [], [105, 104, 106], [105, 107], [108], [109, 82, 111, 83], [113, 115, 114], [116],
  [85], [119, 120, 35, 121, 122, 123, 22, 124, 125, 126, 127], [128], [], [], [58, 63], [88, 60, 40, 63, 129], [60, 130, 60, 131, 60, 132, 133, 88, 88], [96, 96], [134, 135, 66, 43, 135], [96, 95, 136, 138, 137, 92, 139], [],
  [], [], [], [140], [141, 142], [141, 143, 47], [144], [145], [146, 147], [148, 149, 150, 151, 114, 114], [152, 153, 49, 16, 107, 48, 154, 155, 157, 156, 159, 158, 157, 107], [75, 76],
  [105, 107, 16, 161, 162, 162, 163], [110], [115, 164], [112], [165, 166, 167, 163, 168, 169, 169], [], [163], [170, 28], [117, 117, 118], [162, 163], [], [35, 120, 171, 122, 172, 22, 169, 171],
  [173, 35], [174, 24], [18, 19, 175], [121], [120, 35, 35], [176, 53, 120, 177, 121, 177], [78, 178, 53, 115, 114, 121, 177], [105, 107, 105, 152, 179, 24], [], [61, 60, 59, 88, 63, 91, 88], [180, 133, 63, 60, 181, 63, 63, 182], [60, 63, 63],
  [40, 61, 183, 63], [184, 40, 185, 185, 59], [96, 95], [94, 46, 70, 186, 187], [138, 137], [188], [189, 190], [96, 138, 137], [], [], [191], [],
  [], [], [], [192, 193, 194, 195, 192], [196, 197, 148], [19], [198], [], [75, 199, 75, 76], [200], [50], [],
  [201, 16, 202], [203, 204], [206], [17, 160], [153], [207, 12, 20], [11, 12, 13, 208, 14], [209, 169], [], [210, 35], [211, 212, 213, 214, 215, 216, 217, 218, 219, 220], [221],
  [221, 20], [], [184], [], [35], [], [], [52], [], [], [], [222],
  [61, 61, 181], [223, 60], [60, 40, 63, 64, 61, 63, 129, 65], [40, 61, 63], [224, 185], [], [96, 95, 66, 225, 66, 46, 134, 225, 134, 46, 134, 226, 134, 227, 134, 227, 134, 228, 134, 229, 170, 230, 231, 139, 232], [96, 139, 139, 232, 233, 234], [], [], [235], [],
  [58, 236, 58, 98, 97], [], [], [], [], [7, 114, 122, 237, 22, 238], [239, 107], [], [240, 241, 242], [160, 153, 243, 244], [245], [247, 246],
  [205], [248, 248], [], [11, 12], [249], [250], [], [], [251, 169, 211], [251, 16, 17, 163, 211], [251, 211], [211, 170, 164, 163],
  [252, 251, 211], [253], [253], [252, 251], [252, 251], [254, 255, 256, 257, 258, 259, 260, 261, 262, 263, 264, 265, 266, 267], [200, 268], [], [], [43, 45, 44], [225, 134, 46, 225, 134, 134, 225, 134, 46], [225, 269],
  [96, 95, 170, 46, 43, 134, 96, 233, 92, 92, 46, 66, 43, 269], [233, 43, 134, 46, 43, 134, 270, 66, 134, 46, 43], [], [66, 46, 43, 94, 92, 96, 95, 136, 46, 135], [96, 233], [96, 46, 271, 272], [273, 170], [274, 275], [], [24], [276, 277, 278, 279], [280, 281, 282],
  [], [283, 283, 240], [240], [207, 12, 284], [49, 49, 200, 49, 268, 285, 286], [287], [288, 289, 290, 291, 292, 293, 294, 295, 246, 246], [296, 297], [], [], [298], [163],
  [299], [252, 251, 211], [], [], [51, 300, 51, 300], [301, 302, 303, 300, 300], [305, 304], [307, 161, 306, 308, 162, 306], [307, 308, 309, 306], [310, 304], [6, 312, 313, 304], [314, 304],
  [316, 304], [318, 319, 320], [320, 265], [301, 321, 321, 322, 323, 320, 320, 324, 300, 319, 320], [325], [134, 46, 225, 134, 46], [66, 233, 66, 233, 66, 46, 43, 69, 225], [15, 70, 271], [196, 272], [326], [], [],
  [], [], [327], [328, 329], [], [330, 332, 331, 209, 280], [333, 280, 209, 280, 334, 198, 335, 336, 152, 280], [], [202, 337, 28], [247, 338], [], [],
  [], [339, 339], [340, 341], [342, 342, 342, 343], [], [], [], [], [], [], [344, 345, 346, 347], [349, 348, 194, 351, 350, 353, 352],
  [], [209], [], [302, 302, 331, 306, 209], [354], [161, 306], [301], [301, 354], [16, 355, 17, 16, 306], [16, 16, 207, 11, 356, 337, 14], [311, 306], [17, 243, 16, 311, 315],
  [357, 17, 6], [306], [243, 306, 315, 306], [207, 337], [317, 306], [11, 12, 162, 14], [358], [], [301], [359, 360, 361, 362, 49, 49, 49, 364, 363, 360, 361, 365, 363], [366, 366, 367, 367, 363, 363, 363, 363, 368, 363, 363], [366, 366, 363, 363],
  [366, 367, 369, 369, 368, 370, 371, 372, 373], [], [71], [], [374, 375], [], [273, 75, 76, 49, 376, 377, 333, 75], [378], [380, 379], [209, 381, 209, 381, 51, 382, 383, 113], [384, 280, 198, 107, 115, 384], [200, 385, 386, 268, 387],
  [200, 268, 387], [202, 49, 285], [388, 389, 390, 391, 392, 393, 394, 395, 396, 338, 338], [], [247], [], [343], [397, 397, 397], [], [297, 398, 399], [], [400, 401],
  [], [], [195], [195], [142, 402], [403, 402], [16, 306], [29], [12, 404, 12, 12, 12, 337, 337, 16], [], [405, 406, 407, 405, 405], [408],
  [58], [409, 410], [366, 363], [367, 411], [366], [411, 411, 366], [], [], [411], [412], [413, 414], [298],
  [415], [416, 49, 49, 49, 49, 49, 74, 75, 417, 417, 417, 76, 75, 76], [], [418], [184, 185, 58], [102], [419, 420, 421], [422, 285], [423], [], [299], [424, 410],
  [107, 280], [], [], [], [394], [425, 425], [340, 341], [426, 426, 426, 427], [], [394, 394, 394], [248, 248], [394, 394],
  [394, 394, 394, 394], [], [], [], [], [428, 429], [192], [374, 142], [29, 29, 430], [358], [431, 431, 431, 431, 432, 161], [433, 433, 434, 434, 435],
  [73], [436, 436, 436, 436, 436, 436, 437], [438, 439, 440, 441], [], [411, 366], [], [412, 365, 411, 366], [344, 345, 346, 347], [442, 443], [], [], [],
  [444, 445, 420, 446, 420, 447], [58], [448], [], [449], [394, 394], [427], [450, 450, 450], [], [], [], [432, 17],
  [16], [432, 451], [452, 299, 383], [], [], [436, 436, 436, 436, 436, 436], [453], [453], [453, 209, 454], [453, 209, 454], [], [],
  [], [421, 58, 49, 421, 455, 456], [421, 444, 49], [456, 456, 456, 456, 456, 456, 456, 456, 457, 458], [], [409], [394], [11], [459], [], [], [421, 460, 461, 184, 462, 185, 463, 460],
  [], [], [], [73], [], [460, 420, 421, 49, 460], [460, 299, 359, 463, 460], [185], [], [], [], [],
  [], [], [], [], [], [], [], [], [], [], [], [],
  [], [], [], [], [], [], [], [], [], [], [], [],
  [], [], [], [], [], [], [], [454, 454]]
theorem tabT_0 : ((dropP 80 Tryz.prog.funcs.toList 0).take 80).map Tryz.prog.leadsTo = (dropP 80 tabT 0).take 80 := by kernel_rfl
theorem tabT_1 : ((dropP 80 Tryz.prog.funcs.toList 1).take 80).map Tryz.prog.leadsTo = (dropP 80 tabT 1).take 80 := by kernel_rfl
theorem tabT_2 : ((dropP 80 Tryz.prog.funcs.toList 2).take 80).map Tryz.prog.leadsTo = (dropP 80 tabT 2).take 80 := by kernel_rfl
theorem tabT_3 : ((dropP 80 Tryz.prog.funcs.toList 3).take 80).map Tryz.prog.leadsTo = (dropP 80 tabT 3).take 80 := by kernel_rfl
theorem tabT_4 : ((dropP 80 Tryz.prog.funcs.toList 4).take 80).map Tryz.prog.leadsTo = (dropP 80 tabT 4).take 80 := by kernel_rfl
theorem tabT_5 : ((dropP 80 Tryz.prog.funcs.toList 5).take 80).map Tryz.prog.leadsTo = (dropP 80 tabT 5).take 80 := by kernel_rfl
theorem tabT_6 : (dropP 80 Tryz.prog.funcs.toList 6).map Tryz.prog.leadsTo = dropP 80 tabT 6 := by kernel_rfl
theorem tabT_all : Tryz.prog.funcs.toList.map Tryz.prog.leadsTo = tabT := map_parts 80 tabT_0 (map_parts 80 tabT_1 (map_parts 80 tabT_2 (map_parts 80 tabT_3 (map_parts 80 tabT_4 (map_parts 80 tabT_5 (tabT_6))))))
def tabG : List (List Nat) := [[], [], [], [], [], [], [], [], [], [], [], [],
  [], [], [], [], [], [], [], [], [], [], [], [],
  [], [], [], [], [], [], [], [], [], [], [], [],
  [], [], [], [], [], [], [], [], [], [], [], [],
  [], [], [], [], [], [], [], [], [], [], [], [],
  [], [], [], [], [], [], [], [], [], [], [], [0, 0, 0],
  [], [], [], [], [], [], [], [], [], [], [], [],
  [], [], [], [], [], [], [], [], [], [], [], [],
  [], [], [], [], [], [], [], [], [], [], [], [],
  [], [], [], [], [], [], [], [], [], [], [], [],
  [], [], [], [], [], [], [], [], [], [], [], [],
  [], [], [], [], [], [], [1, 1, 1, 1], [], [], [], [], [],
  [], [], [], [], [], [], [], [], [], [], [], [],
  [], [], [], [], [], [], [], [], [], [], [], [],
  [], [], [], [], [], [], [], [], [], [], [], [],
  [], [], [], [], [], [], [], [], [], [], [2], [3, 4],
  [], [], [], [], [], [], [], [], [], [], [], [],
  [], [], [], [], [], [], [], [], [], [], [], [],
  [], [], [], [], [], [], [], [], [], [], [], [],
  [], [], [], [], [], [], [], [], [], [], [], [],
  [], [], [], [], [], [], [], [], [], [], [], [],
  [], [], [], [], [], [], [], [], [], [], [], [],
  [], [], [], [], [], [], [], [], [], [], [], [],
  [], [], [], [], [], [], [], [], [], [], [], [],
  [], [], [], [], [], [], [], [], [], [], [], [],
  [], [], [], [], [], [], [], [], [], [], [], [],
  [], [], [], [], [], [], [], [], [], [], [], [],
  [], [], [], [], [], [], [], [], [], [], [], [],
  [], [], [], [], [], [], [], [], [], [5], [], [],
  [], [], [], [], [], [], [], [], [], [], [], [],
  [], [], [], [], [], [], [], [], [], [], [], [],
  [], [], [], [], [], [], [], [], [], [], [], [],
  [], [], [], [], [], [], [], [], [], [], [], [],
  [], [], [], [], [], [], [], [], [], [], [], [],
  [], [], [], [], [], [], [], [], [], [], [3, 4], [],
  [], [], [], [], [], [], [], [], [7], [8], [], [],
  [], [], [], [], [], [], [9], [10], [], [], [], [],
  [], [], [], [], [], [], [], [], [], [], [], [],
  [], [], [], [], [], [], [], [], [], [], [], [],
  [], [], [], [], [], [], [], [], [], [], [], [],
  [], [], [], [], [], [], [], [], [], [], [], [],
  [], [], [], [], [], [], [], [7, 8, 5, 4, 10, 9, 11, 11, 2, 1]]
theorem tabG_0 : ((dropP 80 Tryz.prog.funcs.toList 0).take 80).map globsAt = (dropP 80 tabG 0).take 80 := by kernel_rfl
theorem tabG_1 : ((dropP 80 Tryz.prog.funcs.toList 1).take 80).map globsAt = (dropP 80 tabG 1).take 80 := by kernel_rfl
theorem tabG_2 : ((dropP 80 Tryz.prog.funcs.toList 2).take 80).map globsAt = (dropP 80 tabG 2).take 80 := by kernel_rfl
theorem tabG_3 : ((dropP 80 Tryz.prog.funcs.toList 3).take 80).map globsAt = (dropP 80 tabG 3).take 80 := by kernel_rfl
theorem tabG_4 : ((dropP 80 Tryz.prog.funcs.toList 4).take 80).map globsAt = (dropP 80 tabG 4).take 80 := by kernel_rfl
theorem tabG_5 : ((dropP 80 Tryz.prog.funcs.toList 5).take 80).map globsAt = (dropP 80 tabG 5).take 80 := by kernel_rfl
theorem tabG_6 : (dropP 80 Tryz.prog.funcs.toList 6).map globsAt = dropP 80 tabG 6 := by kernel_rfl
theorem tabG_all : Tryz.prog.funcs.toList.map globsAt = tabG := map_parts 80 tabG_0 (map_parts 80 tabG_1 (map_parts 80 tabG_2 (map_parts 80 tabG_3 (map_parts 80 tabG_4 (map_parts 80 tabG_5 (tabG_6))))))
def tabN : List Bool := [true, true, false, false, false, false, false, false, false, false, false, false,
  false, false, false, false, false, false, false, false, false, false, false, false,
  false, false, false, false, false, false, false, false, false, false, false, false,
  false, false, false, false, false, false, false, false, false, false, false, false,
  false, false, false, false, true, false, false, false, false, false, false, false,
  false, false, false, false, false, false, false, false, false, false, false, false,
  false, false, false, false, false, false, false, false, false, false, false, false,
  false, false, false, false, false, false, false, false, false, false, false, false,
  false, true, false, false, false, false, false, false, false, false, false, false,
  false, false, false, false, false, false, false, false, false, false, false, false,
  false, false, false, false, false, false, false, false, true, false, false, false,
  false, false, false, false, false, false, false, false, false, false, false, true,
  true, true, false, false, false, false, false, false, false, false, false, false,
  false, false, false, false, false, false, false, false, false, false, false, false,
  false, false, false, false, false, false, false, false, false, false, false, false,
  false, false, false, false, false, false, false, false, false, false, false, false,
  false, false, false, false, false, false, false, false, false, false, false, false,
  false, false, false, false, false, false, false, false, false, false, false, false,
  false, false, false, false, false, false, false, false, false, false, false, false,
  false, false, false, false, false, false, false, false, false, false, false, false,
  false, false, false, false, false, false, false, false, false, false, false, false,
  false, false, false, false, false, false, false, false, false, false, false, false,
  false, false, false, false, false, false, false, false, false, false, false, false,
  false, false, false, false, false, false, false, false, false, false, false, false,
  false, false, false, false, false, false, false, false, false, false, false, false,
  false, false, false, false, false, false, false, false, false, false, false, false,
  false, false, false, false, false, false, false, false, false, false, false, false,
  false, false, false, false, false, false, false, false, false, false, false, false,
  false, false, false, false, false, false, false, false, false, false, false, false,
  false, false, false, false, false, false, false, false, false, false, false, false,
  false, false, false, false, false, false, true, false, false, false, false, false,
  false, false, false, false, false, false, false, false, false, false, false, false,
  false, false, false, false, false, false, false, false, false, false, false, false,
  false, false, false, false, false, false, false, false, false, false, false, false,
  false, false, false, true, false, true, false, false, false, false, false, false,
  false, false, false, false, false, false, false, false, false, false, false, false,
  false, false, false, false, false, false, false, false, false, false, false, false,
  false, false, false, false, false, false, false, false, false, false, false, false,
  false, false, false, false, false, false, false, false, true, true, true, true,
  true, true, true, true, true, true, true, true, true, true, true, true,
  true, true, true, true, true, true, true, true, true, true, true, true,
  true, true, true, true, true, true, true, false]
theorem tabN_0 : ((dropP 80 Tryz.prog.funcs.toList 0).take 80).map flagAt = (dropP 80 tabN 0).take 80 := by kernel_rfl
theorem tabN_1 : ((dropP 80 Tryz.prog.funcs.toList 1).take 80).map flagAt = (dropP 80 tabN 1).take 80 := by kernel_rfl
theorem tabN_2 : ((dropP 80 Tryz.prog.funcs.toList 2).take 80).map flagAt = (dropP 80 tabN 2).take 80 := by kernel_rfl
theorem tabN_3 : ((dropP 80 Tryz.prog.funcs.toList 3).take 80).map flagAt = (dropP 80 tabN 3).take 80 := by kernel_rfl
theorem tabN_4 : ((dropP 80 Tryz.prog.funcs.toList 4).take 80).map flagAt = (dropP 80 tabN 4).take 80 := by kernel_rfl
theorem tabN_5 : ((dropP 80 Tryz.prog.funcs.toList 5).take 80).map flagAt = (dropP 80 tabN 5).take 80 := by kernel_rfl
theorem tabN_6 : (dropP 80 Tryz.prog.funcs.toList 6).map flagAt = dropP 80 tabN 6 := by kernel_rfl
theorem tabN_all : Tryz.prog.funcs.toList.map flagAt = tabN := map_parts 80 tabN_0 (map_parts 80 tabN_1 (map_parts 80 tabN_2 (map_parts 80 tabN_3 (map_parts 80 tabN_4 (map_parts 80 tabN_5 (tabN_6))))))
def tabE : List Bool := [true, true, false, false, false, false, false, false, false, false, false, false,
  false, false, false, false, false, false, false, false, false, false, false, false,
  false, false, false, false, false, false, false, false, false, false, false, false,
  false, false, false, false, false, false, false, false, false, false, false, false,
  false, false, false, false, true, false, false, false, false, false, false, false,
  false, false, false, false, false, false, false, false, false, false, false, false,
  false, false, false, false, false, false, false, false, false, false, false, false,
  false, false, false, false, false, false, false, false, false, false, false, false,
  false, true, false, false, false, false, false, false, false, false, false, false,
  false, false, false, false, false, false, false, false, false, false, false, false,
  false, false, false, false, false, false, false, false, true, false, false, false,
  false, false, false, false, false, false, false, false, false, false, false, true,
  true, true, false, false, false, false, false, false, false, false, false, false,
  false, false, false, false, false, false, false, false, false, false, false, false,
  false, false, false, false, false, false, false, false, false, false, false, false,
  false, false, false, false, false, false, false, false, false, false, false, false,
  false, false, false, false, false, false, false, false, false, false, false, false,
  false, false, false, false, false, false, false, false, false, false, false, false,
  false, false, false, false, false, false, false, false, false, false, false, false,
  false, false, false, false, false, false, false, false, false, false, false, false,
  false, false, false, false, false, false, false, false, false, false, false, false,
  false, false, false, false, false, false, false, false, false, false, false, false,
  false, false, false, false, false, false, false, false, false, false, false, false,
  false, false, false, false, false, false, false, false, false, false, false, false,
  false, false, false, false, false, false, false, false, false, false, false, false,
  false, false, false, false, false, false, false, false, false, false, false, false,
  false, false, false, false, false, false, false, false, false, false, false, false,
  false, false, false, false, false, false, false, false, false, false, false, false,
  false, false, false, false, false, false, false, false, false, false, false, false,
  false, false, false, false, false, false, false, false, false, false, false, false,
  false, false, false, false, false, false, true, false, false, false, false, false,
  false, false, false, false, false, false, false, false, false, false, false, false,
  false, false, false, false, false, false, false, false, false, false, false, false,
  false, false, false, false, false, false, false, false, false, false, false, false,
  false, false, false, true, false, true, false, false, false, false, false, false,
  false, false, false, false, false, false, false, false, false, false, false, false,
  false, false, false, false, false, false, false, false, false, false, false, false,
  false, false, false, false, false, false, false, false, false, false, false, false,
  false, false, false, false, false, false, false, false, true, true, true, true,
  true, true, true, true, true, true, true, true, true, true, true, true,
  true, true, true, true, true, true, true, true, true, true, true, true,
  true, true, true, true, true, true, true, false]
theorem tabE_0 : ((dropP 80 Tryz.prog.funcs.toList 0).take 80).map bareAt = (dropP 80 tabE 0).take 80 := by kernel_rfl
theorem tabE_1 : ((dropP 80 Tryz.prog.funcs.toList 1).take 80).map bareAt = (dropP 80 tabE 1).take 80 := by kernel_rfl
theorem tabE_2 : ((dropP 80 Tryz.prog.funcs.toList 2).take 80).map bareAt = (dropP 80 tabE 2).take 80 := by kernel_rfl
theorem tabE_3 : ((dropP 80 Tryz.prog.funcs.toList 3).take 80).map bareAt = (dropP 80 tabE 3).take 80 := by kernel_rfl
theorem tabE_4 : ((dropP 80 Tryz.prog.funcs.toList 4).take 80).map bareAt = (dropP 80 tabE 4).take 80 := by kernel_rfl
theorem tabE_5 : ((dropP 80 Tryz.prog.funcs.toList 5).take 80).map bareAt = (dropP 80 tabE 5).take 80 := by kernel_rfl
theorem tabE_6 : (dropP 80 Tryz.prog.funcs.toList 6).map bareAt = dropP 80 tabE 6 := by kernel_rfl
theorem tabE_all : Tryz.prog.funcs.toList.map bareAt = tabE := map_parts 80 tabE_0 (map_parts 80 tabE_1 (map_parts 80 tabE_2 (map_parts 80 tabE_3 (map_parts 80 tabE_4 (map_parts 80 tabE_5 (tabE_6))))))
theorem laidOut_ok : (laidOutB Tryz.pinned.checked.prog) = true := by kernel_rfl
theorem mapsRowed_ok : (mapsRowed Tryz.pinned.checked.prog) = true := by kernel_rfl
theorem stopsHeard_ok : (Tryz.pinned.checked.prog.stopsHeard) = true := by kernel_rfl
theorem mayEnter_ok : (Tryz.pinned.checked.prog.mayEnter) = true := by kernel_rfl
theorem own : ownKnob Tryz.prog.godebug = none := by kernel_rfl
theorem follows : Tryz.prog.follows .mixedOrders = true := by kernel_rfl
theorem names : Tryz.prog.funcs.toList.all (fun fn => !(fn.name == "runtime.NumGoroutine")) = true := by kernel_rfl
theorem nameOK : NameOK Tryz.prog := by
  intro f fn c hf _
  have h := List.all_eq_true.1 names fn (by
    rw [Array.mem_toList_iff]
    exact Array.mem_of_getElem? hf)
  simpa using h
end
end Go.Proofs.YtnpdmljafaolpaaGreatDoor
