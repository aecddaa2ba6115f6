/-
  What each function of the program leads to and names, by tables, and closed facts of the whole program. No condition.
-/
import Derived.Test.YtmplmfieipckjaaGreatDoorXJoinK
import Derived.Test.YtmplmfieipckjaaGreatDoorXMxF
import Derived.Test.YtmplmfieipckjaaGreatDoorRows
open Go Go.Mx
namespace Go.Proofs.YtmplmfieipckjaaGreatDoor
set_option maxRecDepth 1000000
noncomputable section
theorem band {a b : Bool} (h : a = true) (k : b = true) : (a && b) = true := by rw [h, k]; rfl
def tabT : List (List Nat) := [[], [], [1], [4, 5, 6, 6, 6, 6, 7, 8, 9, 10], [5, 6, 7, 7, 9], [], [11, 12, 13, 15, 14], [16, 17, 18], [19, 12, 20], [], [11], [21, 22],
  [], [], [], [23], [], [24], [25], [11, 12], [], [26, 26, 27, 28, 29, 30], [12], [],
  [31, 32, 33], [34, 35], [36], [37, 38, 37], [39], [], [40], [41, 42, 43, 44, 45, 46, 47, 43, 48, 46, 46, 49, 46], [], [], [50], [],
  [51], [52], [53], [], [54, 55, 55, 55, 56], [57], [58], [42, 46], [59, 60, 41, 61, 62, 63], [31, 33], [], [21, 64],
  [65, 66, 67, 68, 28], [69, 70, 71, 72, 73], [], [74, 75, 74, 76, 75, 77], [78, 79, 36], [], [80, 81], [80], [], [], [82], [83],
  [28, 84], [41], [], [60, 85, 86, 60, 87, 88], [11, 12], [21, 64, 10], [86, 41, 89], [65, 65], [65, 41, 66], [32, 21, 90, 42], [21, 10], [86, 91, 92, 67, 40, 40],
  [93, 42, 94, 66, 32, 95, 66, 42], [96, 66, 66, 47, 70, 21, 97], [98], [], [], [99], [100, 101], [100, 102, 36], [103], [104], [105], [107, 106, 108, 110, 109, 112, 111],
  [26], [], [60, 41], [113, 114, 115, 116], [60, 59, 38, 117, 118, 92, 119, 116], [121, 120], [11, 12, 6, 14], [118], [122], [123, 124], [125], [126, 58, 127, 128, 129],
  [89], [19, 130], [], [], [], [131], [], [], [], [132, 133, 134, 135], [], [],
  [], [136], [136], [101, 137], [138, 137], [139, 38, 118], [139], [140, 28], [61, 62], [85, 141], [142], [21, 64],
  [143], [60, 41], [142], [], [144, 139, 55, 145, 146, 55, 145, 144, 56], [74], [147], [148, 26], [21, 64, 149, 62], [20, 150, 152, 151], [92, 38, 154], [],
  [], [156, 155, 157], [], [158, 159], [], [160], [161, 101], [162], [119], [163], [], [],
  [], [], [144, 164, 165, 164, 165, 165], [166, 167], [168], [169], [], [170], [153], [171], [173, 172], [],
  [], [], [], [174, 175], [125, 176, 125, 76, 75], [], [51], [53], [144], [144, 177, 124, 139, 139, 178, 178, 179], [180, 181, 183, 184, 185, 183], [186, 187, 189, 188, 190],
  [191, 192], [193], [], [194, 195, 196, 197, 198], [199, 200, 201, 202, 203, 204, 205, 206, 207, 172, 172], [208, 156], [], [], [], [], [209, 209, 41, 144, 124], [210, 84, 211, 40, 113, 114, 40],
  [125], [182], [], [212, 213, 214, 125], [], [215, 214, 216, 184, 212, 217, 218], [], [219], [], [220, 221, 222, 220], [223], [],
  [], [], [], [224, 225, 226, 227, 228, 229], [197], [], [227, 231, 230], [205], [233, 233], [234, 235], [236, 236, 236, 237], [],
  [205, 205, 205], [238, 238], [205, 205], [205, 205, 205, 205], [], [], [239, 240], [62, 118], [184, 125], [38], [], [241, 213],
  [], [214, 243, 242, 244, 213, 184, 242, 242, 216, 245, 242], [], [246], [247, 219, 219, 187, 247], [219, 219, 187], [248, 250, 249], [], [], [252, 251, 253], [252, 254], [255],
  [256, 229, 258, 230], [260, 127, 261], [262], [232], [265, 266, 171, 267, 268, 269, 151, 270, 271, 272, 273], [205, 205], [173], [], [237], [274, 274, 274], [], [],
  [], [], [], [125, 216], [242, 213, 184, 216, 275], [213, 276, 213, 277, 213, 278, 279, 242, 242], [250, 250], [280, 281, 219, 187, 281], [250, 249, 282, 283, 41, 246, 284], [], [], [285, 286],
  [287, 288, 289, 290, 261, 261], [291, 292, 38, 21, 254, 37, 293, 294, 296, 295, 298, 297, 296, 254], [55, 56], [252, 254, 21, 8, 6, 6, 300], [257], [127, 301], [259], [302, 303, 304, 300, 305, 306, 306], [], [300], [263, 263, 264], [6, 300],
  [], [171, 266, 307, 268, 308, 151, 306, 307], [309, 171], [310, 153], [149, 62, 311], [267], [266, 171, 171], [312, 194, 266, 313, 267, 313], [225, 314, 194, 127, 261, 267, 313], [252, 254, 252, 291, 315, 153], [205], [214, 213, 212, 242, 216, 245, 242],
  [316, 279, 216, 213, 317, 216, 216, 318], [213, 216, 216], [184, 214, 319, 216], [168, 184, 192, 192, 212], [250, 249], [248, 190, 223, 320, 321], [283, 41], [239, 322], [250, 283, 41], [], [160, 323, 108, 136, 160], [324, 325, 287],
  [62], [326], [], [55, 327, 55, 56], [328], [39], [], [329, 21, 92], [330, 331], [333], [64, 299], [292],
  [58, 306], [], [334, 171], [335, 336, 337, 338, 339, 340, 341, 342, 343, 344], [345], [345, 20], [], [], [171], [], [], [193],
  [], [], [], [346], [214, 214, 317], [347, 213], [213, 184, 216, 217, 214, 216, 275, 218], [184, 214, 216], [250, 249, 219, 348, 219, 190, 280, 348, 280, 190, 280, 349, 280, 350, 280, 350, 280, 351, 280, 352, 148, 353, 354, 284, 355], [250, 284, 284, 355, 356, 357], [358], [],
  [], [126, 261, 268, 359, 151, 360], [361, 254], [], [362, 363, 364], [299, 292, 365, 366], [173, 367], [332], [238, 238], [], [], [],
  [368, 306, 335], [368, 21, 64, 300, 335], [368, 335], [335, 148, 301, 300], [369, 368, 335], [370], [370], [369, 368], [369, 368], [371, 372, 373, 374, 375, 376, 377, 378, 379, 380, 381, 382, 383, 384], [328, 385], [],
  [187, 189, 188], [348, 280, 190, 348, 280, 280, 348, 280, 190], [348, 386], [250, 249, 148, 190, 187, 280, 250, 356, 246, 246, 190, 219, 187, 386], [356, 187, 280, 190, 187, 280, 387, 219, 280, 190, 187], [], [219, 190, 187, 248, 246, 250, 249, 282, 190, 281], [250, 356], [250, 190, 388, 389], [139, 148], [390, 391], [153],
  [392, 393, 394, 395], [396, 397, 398], [], [399, 399, 362], [362], [19, 12, 400], [38, 38, 328, 38, 385, 154, 401], [402, 403, 404, 405, 406, 407, 408, 409, 367, 367], [300], [83], [369, 368, 335], [],
  [], [40, 410, 40, 410], [411, 412, 413, 410, 410], [415, 414], [417, 8, 416, 418, 6, 416], [417, 418, 419, 416], [420, 414], [422, 423, 424, 414], [425, 414], [426, 414], [427, 428, 429], [429, 382],
  [411, 430, 430, 431, 432, 429, 429, 433, 410, 428, 429], [434], [280, 190, 348, 280, 190], [219, 356, 219, 356, 219, 190, 187, 222, 348], [147, 223, 388], [324, 389], [], [], [], [], [435], [436, 437],
  [], [438, 440, 439, 58, 396], [441, 396, 58, 396, 442, 326, 443, 444, 291, 396], [], [92, 130, 26], [], [], [445, 445], [234, 235], [446, 446, 446, 447], [], [],
  [], [], [], [58], [], [412, 412, 439, 416, 58], [448], [8, 416], [411], [411, 448], [21, 449, 64, 21, 416], [21, 21, 19, 11, 450, 130, 14],
  [421, 416], [64, 365, 21, 421, 97], [11, 12, 13, 14], [451, 64, 422], [416], [365, 416, 97, 416], [90, 416], [452], [], [411], [141, 453, 454, 455, 38, 38, 38, 457, 456, 453, 454, 458, 456], [459, 459, 460, 460, 456, 456, 456, 456, 461, 456, 456],
  [459, 459, 456, 456], [459, 460, 462, 462, 461, 463, 464, 465, 466], [], [], [161, 467], [], [139, 55, 56, 38, 468, 469, 441, 55], [470], [472, 471], [58, 473, 58, 473, 40, 474, 475, 260], [476, 396, 326, 254, 127, 476], [328, 477, 478, 385, 479],
  [328, 385, 479], [], [447], [480, 480, 480], [21, 416], [27], [12, 481, 12, 12, 12, 130, 130, 21], [], [482, 483, 484, 482, 482], [125], [485, 486], [459, 456],
  [460, 487], [459], [487, 487, 459], [], [], [487], [488], [489, 490], [105], [491], [492, 38, 38, 38, 38, 38, 54, 55, 145, 145, 145, 56, 55, 56], [493],
  [168, 192, 125], [80], [494, 495, 496], [497, 154], [498], [], [83], [499, 486], [254, 396], [], [], [],
  [], [27, 27, 500], [452], [501, 501, 501, 501, 502, 8], [503, 503, 504, 504, 505], [506, 506, 506, 506, 506, 506, 507], [508, 509, 510, 511], [], [487, 459], [], [488, 458, 487, 459], [132, 133, 134, 135],
  [512, 513], [], [], [514, 515, 495, 516, 495, 517], [125], [518], [], [519], [], [502, 64], [21], [502, 10],
  [520, 83, 475], [], [], [506, 506, 506, 506, 506, 506], [521], [521], [521, 58, 522], [521, 58, 522], [], [], [], [496, 125, 38, 496, 523, 524],
  [496, 514, 38], [524, 524, 524, 524, 524, 524, 524, 524, 525, 526], [], [485], [527], [], [], [496, 528, 529, 168, 530, 192, 531, 528], [], [], [], [53],
  [], [528, 495, 496, 38, 528], [528, 83, 141, 531, 528], [192], [], [], [], [], [], [], [], [],
  [], [], [], [], [], [], [], [], [], [], [], [],
  [], [], [], [], [], [], [], [], [], [], [], [],
  [], [], [], [522, 522]]
theorem tabT_0 : ((dropP 80 Tryz.prog.funcs.toList 0).take 80).map Tryz.prog.leadsTo = (dropP 80 tabT 0).take 80 := by kernel_rfl
theorem tabT_1 : ((dropP 80 Tryz.prog.funcs.toList 1).take 80).map Tryz.prog.leadsTo = (dropP 80 tabT 1).take 80 := by kernel_rfl
theorem tabT_2 : ((dropP 80 Tryz.prog.funcs.toList 2).take 80).map Tryz.prog.leadsTo = (dropP 80 tabT 2).take 80 := by kernel_rfl
theorem tabT_3 : ((dropP 80 Tryz.prog.funcs.toList 3).take 80).map Tryz.prog.leadsTo = (dropP 80 tabT 3).take 80 := by kernel_rfl
theorem tabT_4 : ((dropP 80 Tryz.prog.funcs.toList 4).take 80).map Tryz.prog.leadsTo = (dropP 80 tabT 4).take 80 := by kernel_rfl
theorem tabT_5 : ((dropP 80 Tryz.prog.funcs.toList 5).take 80).map Tryz.prog.leadsTo = (dropP 80 tabT 5).take 80 := by kernel_rfl
theorem tabT_6 : ((dropP 80 Tryz.prog.funcs.toList 6).take 80).map Tryz.prog.leadsTo = (dropP 80 tabT 6).take 80 := by kernel_rfl
theorem tabT_7 : (dropP 80 Tryz.prog.funcs.toList 7).map Tryz.prog.leadsTo = dropP 80 tabT 7 := by kernel_rfl
theorem tabT_all : Tryz.prog.funcs.toList.map Tryz.prog.leadsTo = tabT := map_parts 80 tabT_0 (map_parts 80 tabT_1 (map_parts 80 tabT_2 (map_parts 80 tabT_3 (map_parts 80 tabT_4 (map_parts 80 tabT_5 (map_parts 80 tabT_6 (tabT_7)))))))
def tabG : List (List Nat) := [[], [], [], [], [], [], [], [], [], [], [], [],
  [], [], [], [], [], [], [], [], [], [], [], [],
  [], [], [], [], [], [], [], [], [], [], [], [],
  [], [], [], [], [], [], [], [], [], [], [], [],
  [], [], [], [0, 0, 0], [], [], [], [], [], [], [], [],
  [], [], [], [], [], [], [], [], [], [], [], [],
  [], [], [], [], [], [], [], [], [], [], [], [],
  [], [], [], [], [], [], [], [], [], [], [], [],
  [], [], [], [], [], [], [], [], [], [], [], [],
  [], [], [], [], [], [], [], [], [], [], [], [],
  [], [], [], [], [], [], [], [], [], [], [], [1, 2],
  [], [3], [], [], [], [], [], [], [], [], [], [],
  [], [], [], [], [], [], [], [], [], [], [], [],
  [], [], [], [], [], [], [], [], [], [], [], [],
  [], [], [], [], [], [], [4], [5], [], [], [], [],
  [], [], [], [], [], [], [], [], [], [], [], [],
  [], [], [], [], [], [], [], [], [], [], [], [],
  [], [], [], [], [], [], [], [], [], [], [], [],
  [], [], [], [], [], [], [], [], [], [], [], [],
  [], [], [], [], [], [], [], [], [], [], [], [],
  [], [], [], [], [], [], [], [], [], [], [], [],
  [], [], [], [], [], [], [], [], [], [], [], [],
  [], [], [], [], [], [], [], [], [], [], [], [],
  [], [], [], [], [], [], [], [6, 6, 6, 6], [], [], [], [],
  [], [], [], [], [], [], [], [], [], [], [], [],
  [], [], [], [], [], [], [], [], [], [], [], [],
  [], [], [], [], [], [], [], [], [], [], [7], [],
  [], [], [], [], [], [], [], [], [], [], [], [],
  [], [], [], [], [], [], [], [], [], [], [], [],
  [], [], [], [], [], [], [], [], [], [], [], [],
  [], [], [], [], [], [], [], [], [], [], [], [],
  [], [], [], [], [], [], [], [], [], [], [], [],
  [], [], [], [], [], [], [], [], [], [], [], [],
  [], [], [], [], [], [], [], [], [], [], [], [],
  [], [], [], [], [], [], [], [], [], [], [], [],
  [], [], [], [], [], [], [], [], [], [], [], [],
  [], [], [], [], [], [], [], [], [], [], [], [],
  [], [], [], [], [], [], [], [], [], [], [], [],
  [], [], [], [], [], [], [], [], [], [], [], [],
  [], [], [], [], [], [], [], [], [], [], [], [],
  [], [], [], [], [], [], [], [], [], [], [], [],
  [], [1, 2], [], [], [], [], [], [], [], [], [], [],
  [], [], [], [], [9], [10], [], [], [], [], [], [],
  [], [], [], [], [], [], [], [], [], [], [], [],
  [], [], [], [], [], [], [], [], [], [], [], [],
  [], [], [], [], [], [], [], [], [], [], [], [],
  [], [], [], [], [], [], [], [], [], [], [], [],
  [], [], [], [4, 5, 3, 2, 10, 9, 11, 11, 7, 6]]
theorem tabG_0 : ((dropP 80 Tryz.prog.funcs.toList 0).take 80).map globsAt = (dropP 80 tabG 0).take 80 := by kernel_rfl
theorem tabG_1 : ((dropP 80 Tryz.prog.funcs.toList 1).take 80).map globsAt = (dropP 80 tabG 1).take 80 := by kernel_rfl
theorem tabG_2 : ((dropP 80 Tryz.prog.funcs.toList 2).take 80).map globsAt = (dropP 80 tabG 2).take 80 := by kernel_rfl
theorem tabG_3 : ((dropP 80 Tryz.prog.funcs.toList 3).take 80).map globsAt = (dropP 80 tabG 3).take 80 := by kernel_rfl
theorem tabG_4 : ((dropP 80 Tryz.prog.funcs.toList 4).take 80).map globsAt = (dropP 80 tabG 4).take 80 := by kernel_rfl
theorem tabG_5 : ((dropP 80 Tryz.prog.funcs.toList 5).take 80).map globsAt = (dropP 80 tabG 5).take 80 := by kernel_rfl
theorem tabG_6 : ((dropP 80 Tryz.prog.funcs.toList 6).take 80).map globsAt = (dropP 80 tabG 6).take 80 := by kernel_rfl
theorem tabG_7 : (dropP 80 Tryz.prog.funcs.toList 7).map globsAt = dropP 80 tabG 7 := by kernel_rfl
theorem tabG_all : Tryz.prog.funcs.toList.map globsAt = tabG := map_parts 80 tabG_0 (map_parts 80 tabG_1 (map_parts 80 tabG_2 (map_parts 80 tabG_3 (map_parts 80 tabG_4 (map_parts 80 tabG_5 (map_parts 80 tabG_6 (tabG_7)))))))
def tabN : List Bool := [true, true, false, false, false, false, false, false, false, false, false, false,
  false, false, false, false, false, false, false, false, false, false, false, false,
  false, false, false, false, false, false, false, false, false, false, false, false,
  false, false, false, false, false, false, false, false, false, false, false, false,
  false, false, false, false, false, false, false, false, false, false, false, false,
  false, false, false, false, false, false, false, false, false, false, false, false,
  false, false, false, true, false, false, false, false, false, false, false, false,
  false, false, false, false, false, false, false, false, false, false, false, false,
  false, false, true, false, false, false, true, true, true, false, false, false,
  false, false, false, false, false, false, false, false, false, false, false, false,
  false, false, false, false, false, false, false, false, false, false, false, false,
  false, false, false, false, false, false, false, false, false, false, false, false,
  false, false, false, false, false, false, false, false, false, false, false, false,
  false, false, false, false, false, false, false, false, false, false, false, false,
  false, false, false, false, false, false, false, false, false, false, false, false,
  false, false, false, false, false, false, false, false, false, false, false, false,
  false, true, false, false, false, false, false, false, false, false, false, false,
  false, false, false, false, false, false, false, false, false, false, false, false,
  false, false, false, false, false, false, false, false, false, false, false, false,
  false, false, false, false, false, false, false, false, false, false, false, false,
  false, false, false, false, false, false, false, false, false, false, false, false,
  false, false, false, false, false, false, false, false, false, false, false, false,
  false, false, false, false, false, false, false, false, false, false, false, false,
  false, false, false, false, false, false, false, false, false, false, false, false,
  false, false, false, false, false, false, false, false, false, false, false, false,
  false, false, false, false, false, false, false, false, false, false, false, false,
  false, false, false, false, false, false, false, false, false, false, false, false,
  false, false, false, false, false, false, false, false, false, false, false, false,
  false, false, false, false, false, false, false, false, false, false, false, false,
  false, false, false, false, false, false, false, false, false, false, false, false,
  false, false, false, false, false, false, false, false, false, false, false, false,
  false, false, false, false, false, false, false, false, false, false, false, false,
  false, false, false, false, false, false, false, false, false, false, false, false,
  false, false, false, false, false, false, false, false, false, false, false, false,
  false, false, false, false, false, false, false, false, false, false, false, false,
  false, false, false, false, false, false, false, false, false, false, false, false,
  false, false, false, false, false, false, false, false, false, false, false, false,
  false, false, false, false, false, false, false, false, false, false, false, false,
  false, false, false, true, false, false, false, false, false, false, false, false,
  false, false, false, false, false, false, false, false, false, false, false, false,
  false, false, false, false, false, false, false, true, false, true, false, false,
  false, false, false, false, false, false, false, false, false, false, false, false,
  false, false, false, false, false, false, false, false, false, false, false, false,
  false, false, false, false, false, false, false, false, false, false, false, false,
  false, false, false, false, true, true, true, true, true, true, true, true,
  true, true, true, true, true, true, true, true, true, true, true, true,
  true, true, true, true, true, true, true, true, true, true, true, true,
  true, true, true, false]
theorem tabN_0 : ((dropP 80 Tryz.prog.funcs.toList 0).take 80).map flagAt = (dropP 80 tabN 0).take 80 := by kernel_rfl
theorem tabN_1 : ((dropP 80 Tryz.prog.funcs.toList 1).take 80).map flagAt = (dropP 80 tabN 1).take 80 := by kernel_rfl
theorem tabN_2 : ((dropP 80 Tryz.prog.funcs.toList 2).take 80).map flagAt = (dropP 80 tabN 2).take 80 := by kernel_rfl
theorem tabN_3 : ((dropP 80 Tryz.prog.funcs.toList 3).take 80).map flagAt = (dropP 80 tabN 3).take 80 := by kernel_rfl
theorem tabN_4 : ((dropP 80 Tryz.prog.funcs.toList 4).take 80).map flagAt = (dropP 80 tabN 4).take 80 := by kernel_rfl
theorem tabN_5 : ((dropP 80 Tryz.prog.funcs.toList 5).take 80).map flagAt = (dropP 80 tabN 5).take 80 := by kernel_rfl
theorem tabN_6 : ((dropP 80 Tryz.prog.funcs.toList 6).take 80).map flagAt = (dropP 80 tabN 6).take 80 := by kernel_rfl
theorem tabN_7 : (dropP 80 Tryz.prog.funcs.toList 7).map flagAt = dropP 80 tabN 7 := by kernel_rfl
theorem tabN_all : Tryz.prog.funcs.toList.map flagAt = tabN := map_parts 80 tabN_0 (map_parts 80 tabN_1 (map_parts 80 tabN_2 (map_parts 80 tabN_3 (map_parts 80 tabN_4 (map_parts 80 tabN_5 (map_parts 80 tabN_6 (tabN_7)))))))
def tabE : List Bool := [true, true, false, false, false, false, false, false, false, false, false, false,
  false, false, false, false, false, false, false, false, false, false, false, false,
  false, false, false, false, false, false, false, false, false, false, false, false,
  false, false, false, false, false, false, false, false, false, false, false, false,
  false, false, false, false, false, false, false, false, false, false, false, false,
  false, false, false, false, false, false, false, false, false, false, false, false,
  false, false, false, true, false, false, false, false, false, false, false, false,
  false, false, false, false, false, false, false, false, false, false, false, false,
  false, false, true, false, false, false, true, true, true, false, false, false,
  false, false, false, false, false, false, false, false, false, false, false, false,
  false, false, false, false, false, false, false, false, false, false, false, false,
  false, false, false, false, false, false, false, false, false, false, false, false,
  false, false, false, false, false, false, false, false, false, false, false, false,
  false, false, false, false, false, false, false, false, false, false, false, false,
  false, false, false, false, false, false, false, false, false, false, false, false,
  false, false, false, false, false, false, false, false, false, false, false, false,
  false, true, false, false, false, false, false, false, false, false, false, false,
  false, false, false, false, false, false, false, false, false, false, false, false,
  false, false, false, false, false, false, false, false, false, false, false, false,
  false, false, false, false, false, false, false, false, false, false, false, false,
  false, false, false, false, false, false, false, false, false, false, false, false,
  false, false, false, false, false, false, false, false, false, false, false, false,
  false, false, false, false, false, false, false, false, false, false, false, false,
  false, false, false, false, false, false, false, false, false, false, false, false,
  false, false, false, false, false, false, false, false, false, false, false, false,
  false, false, false, false, false, false, false, false, false, false, false, false,
  false, false, false, false, false, false, false, false, false, false, false, false,
  false, false, false, false, false, false, false, false, false, false, false, false,
  false, false, false, false, false, false, false, false, false, false, false, false,
  false, false, false, false, false, false, false, false, false, false, false, false,
  false, false, false, false, false, false, false, false, false, false, false, false,
  false, false, false, false, false, false, false, false, false, false, false, false,
  false, false, false, false, false, false, false, false, false, false, false, false,
  false, false, false, false, false, false, false, false, false, false, false, false,
  false, false, false, false, false, false, false, false, false, false, false, false,
  false, false, false, false, false, false, false, false, false, false, false, false,
  false, false, false, false, false, false, false, false, false, false, false, false,
  false, false, false, false, false, false, false, false, false, false, false, false,
  false, false, false, true, false, false, false, false, false, false, false, false,
  false, false, false, false, false, false, false, false, false, false, false, false,
  false, false, false, false, false, false, false, true, false, true, false, false,
  false, false, false, false, false, false, false, false, false, false, false, false,
  false, false, false, false, false, false, false, false, false, false, false, false,
  false, false, false, false, false, false, false, false, false, false, false, false,
  false, false, false, false, true, true, true, true, true, true, true, true,
  true, true, true, true, true, true, true, true, true, true, true, true,
  true, true, true, true, true, true, true, true, true, true, true, true,
  true, true, true, false]
theorem tabE_0 : ((dropP 80 Tryz.prog.funcs.toList 0).take 80).map bareAt = (dropP 80 tabE 0).take 80 := by kernel_rfl
theorem tabE_1 : ((dropP 80 Tryz.prog.funcs.toList 1).take 80).map bareAt = (dropP 80 tabE 1).take 80 := by kernel_rfl
theorem tabE_2 : ((dropP 80 Tryz.prog.funcs.toList 2).take 80).map bareAt = (dropP 80 tabE 2).take 80 := by kernel_rfl
theorem tabE_3 : ((dropP 80 Tryz.prog.funcs.toList 3).take 80).map bareAt = (dropP 80 tabE 3).take 80 := by kernel_rfl
theorem tabE_4 : ((dropP 80 Tryz.prog.funcs.toList 4).take 80).map bareAt = (dropP 80 tabE 4).take 80 := by kernel_rfl
theorem tabE_5 : ((dropP 80 Tryz.prog.funcs.toList 5).take 80).map bareAt = (dropP 80 tabE 5).take 80 := by kernel_rfl
theorem tabE_6 : ((dropP 80 Tryz.prog.funcs.toList 6).take 80).map bareAt = (dropP 80 tabE 6).take 80 := by kernel_rfl
theorem tabE_7 : (dropP 80 Tryz.prog.funcs.toList 7).map bareAt = dropP 80 tabE 7 := by kernel_rfl
theorem tabE_all : Tryz.prog.funcs.toList.map bareAt = tabE := map_parts 80 tabE_0 (map_parts 80 tabE_1 (map_parts 80 tabE_2 (map_parts 80 tabE_3 (map_parts 80 tabE_4 (map_parts 80 tabE_5 (map_parts 80 tabE_6 (tabE_7)))))))
theorem laidOut_ok : (laidOutB Tryz.pinned.checked.prog) = true := by kernel_rfl
theorem mapsRowed_ok : (mapsRowed Tryz.pinned.checked.prog) = true := by kernel_rfl
theorem stopsHeard_ok : (Tryz.pinned.checked.prog.stopsHeard) = true := by kernel_rfl
theorem mayEnter_ok : (Tryz.pinned.checked.prog.mayEnter) = true := by kernel_rfl
theorem own : ownKnob Tryz.prog.godebug = none := by kernel_rfl
theorem follows : Tryz.prog.follows .mixedOrders = true := by kernel_rfl
theorem names : Tryz.prog.funcs.toList.all (fun fn => !(fn.name == "runtime.NumGoroutine")) = true := by kernel_rfl
theorem nameOK : NameOK Tryz.prog := by
  intro f fn c hf _
  have h := List.all_eq_true.1 names fn (by
    rw [Array.mem_toList_iff]
    exact Array.mem_of_getElem? hf)
  simpa using h
end
end Go.Proofs.YtmplmfieipckjaaGreatDoor
