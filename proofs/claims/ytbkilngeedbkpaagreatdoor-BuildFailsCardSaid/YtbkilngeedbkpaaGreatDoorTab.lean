/-
  What each function of the program leads to and names, by tables, and closed facts of the whole program. No condition.
-/
import Derived.Test.YtbkilngeedbkpaaGreatDoorXJoinK
import Derived.Test.YtbkilngeedbkpaaGreatDoorXMxG
import Derived.Test.YtbkilngeedbkpaaGreatDoorRows
open Go Go.Mx
namespace Go.Proofs.YtbkilngeedbkpaaGreatDoor
set_option maxRecDepth 1000000
noncomputable section
theorem band {a b : Bool} (h : a = true) (k : b = true) : (a && b) = true := by rw [h, k]; rfl
def tabT : List (List Nat) := [[], [], [1], [6, 8, 7, 9], [10, 8, 11, 12, 13], [14, 15, 15, 8, 16, 17], [8, 7, 9], [18, 19, 20, 21, 22], [], [], [8, 12, 11, 12], [23, 24, 25, 27, 26],
  [28, 29, 30, 29, 31, 29, 32, 29, 33, 16], [], [8, 11, 16, 16, 17], [15], [34, 35, 36], [], [37], [38], [39, 40], [41, 42, 43, 44], [45, 46, 48, 47], [41, 50],
  [], [], [], [51], [52, 53, 54, 55], [19], [41, 42, 56], [55, 57, 58, 59], [60, 61, 54, 40], [62], [], [63],
  [64], [65, 66], [67], [68], [69], [40, 40, 70, 60, 71, 72], [23, 24], [73], [], [], [], [74],
  [49], [75], [24], [], [76], [77, 78], [79], [], [80, 24, 45], [], [81, 82, 82, 83, 84, 85, 86, 87, 88], [89, 90],
  [92], [40], [], [93, 94, 95], [96, 97], [98, 99, 101, 102, 103, 101], [104, 105, 107, 106, 108], [109, 110, 111, 112], [113, 114], [115], [116, 54, 116], [],
  [117], [118], [], [119, 120, 121, 122, 123], [115], [125, 124, 126, 128, 127, 130, 129], [], [], [23, 24], [86, 116, 131, 85, 132, 134, 133, 131], [], [55, 135, 55, 85, 135],
  [137, 136, 82], [138], [139], [137, 140, 41, 82, 56, 82, 82, 58], [141, 137, 52, 140, 140, 40, 142, 82, 82], [144, 143], [91], [145, 145], [], [146, 147, 148, 149, 150, 151, 152, 148, 153, 151, 151, 154, 151], [], [],
  [155], [], [86], [100], [], [156, 157, 158, 86], [], [159, 158, 160, 102, 156, 161, 162], [], [163], [], [164, 165, 166, 164],
  [167], [], [169, 168, 170], [], [171, 172], [], [], [139, 173, 139, 174, 173, 175], [176], [177, 178, 178, 178, 179], [], [],
  [180, 181, 182, 183, 184, 185], [122], [], [183, 187, 186], [], [], [], [189], [189], [190, 191], [192, 191], [],
  [193, 131, 194], [77], [193, 131, 195, 135], [124, 126, 127, 129], [196], [59, 197, 82], [79], [198], [199, 200], [201, 201, 135], [60, 202, 60, 203], [204, 205, 206, 207, 208, 209, 210, 211, 143, 143],
  [212, 169], [], [213], [19], [147, 151], [214, 215, 146, 216, 44, 217], [93, 95], [], [41, 42], [218, 219, 220, 221, 60], [222, 223, 224, 225, 226], [],
  [102, 86], [54], [], [227, 157], [], [158, 229, 228, 230, 157, 102, 228, 228, 160, 231, 228], [], [232], [233, 163, 163, 105, 233], [163, 163, 105], [234, 236, 235], [],
  [], [], [], [], [237, 238], [], [], [239], [240, 241, 69], [242, 243], [242], [],
  [], [245, 244, 246], [245, 247], [248], [249, 185, 251, 186], [253, 20, 254], [255], [188], [258, 259, 75, 260, 261, 262, 47, 263, 264, 265, 266], [], [267], [268],
  [269, 190], [195], [270], [125, 126, 128, 130], [241, 177, 69, 178, 178, 178, 190, 178, 178, 178, 179], [271, 272], [], [], [], [], [40], [202],
  [], [273, 273], [274, 275], [276, 276, 276, 277], [], [], [], [], [], [], [77], [60, 202],
  [146], [215, 278, 279, 215, 280, 281], [41, 42, 282], [279, 146, 283], [218, 218], [218, 146, 219], [94, 41, 284, 147], [41, 282], [279, 285, 286, 220, 117, 117], [197, 147, 287, 219, 94, 7, 219, 147], [288, 219, 219, 152, 223, 41, 289], [],
  [], [86, 160], [228, 157, 102, 160, 290], [157, 291, 157, 292, 157, 293, 294, 228, 228], [236, 236], [295, 296, 163, 105, 296], [236, 235, 297, 298, 146, 232, 299], [], [], [], [], [],
  [300, 190], [300, 301, 69], [302], [303], [304, 305], [306, 307, 308, 309, 254, 254], [310, 311, 54, 41, 247, 116, 312, 313, 315, 314, 317, 316, 315, 247], [178, 179], [245, 247, 41, 56, 11, 11, 319], [250], [20, 320], [252],
  [321, 322, 323, 319, 324, 325, 325], [], [319], [256, 256, 257], [11, 319], [], [75, 259, 326, 261, 327, 47, 325, 326], [328, 75], [329, 49], [43, 44, 330], [260], [259, 75, 75],
  [331, 119, 259, 332, 260, 332], [181, 333, 119, 20, 254, 260, 332], [245, 247, 245, 310, 334, 49], [], [86, 335, 86, 174, 173], [], [79], [], [336, 52, 178, 337, 338, 178, 337, 336, 179], [], [144], [],
  [277], [339, 339, 339], [], [215, 146], [340, 341, 342, 343], [215, 214, 54, 344, 345, 286, 346, 343], [23], [348, 347], [23, 24, 11, 26], [345], [349], [86],
  [283], [80, 350], [158, 157, 156, 228, 160, 231, 228], [351, 294, 160, 157, 352, 160, 160, 353], [157, 160, 160], [102, 158, 354, 160], [68, 102, 114, 114, 156], [236, 235], [234, 108, 167, 355, 356], [298, 146], [199, 357], [236, 298, 146],
  [], [], [], [], [], [268, 358, 126, 189, 268], [359, 360, 306], [44], [361], [], [178, 362, 178, 179], [363],
  [92], [], [364, 41, 286], [365, 366], [367], [42, 318], [311], [19, 325], [], [368, 75], [369, 370, 371, 372, 373, 374, 375, 376, 377, 378], [379],
  [379, 45], [], [], [75], [], [], [118], [], [], [], [380], [],
  [], [], [336, 381, 382, 381, 382, 382], [], [52, 54, 345], [52], [383, 60], [216, 44], [278, 85], [384], [41, 42], [385],
  [215, 146], [384], [286, 54, 386], [158, 158, 352], [387, 157], [157, 102, 160, 161, 158, 160, 290, 162], [102, 158, 160], [236, 235, 163, 388, 163, 108, 295, 388, 295, 108, 295, 389, 295, 390, 295, 390, 295, 391, 295, 392, 39, 393, 394, 299, 395], [236, 299, 299, 395, 396, 397], [398], [], [],
  [18, 254, 261, 399, 47, 400], [401, 247], [], [402, 403, 404], [318, 311, 405, 406], [144, 407], [91], [], [], [], [408, 325, 369], [408, 41, 42, 319, 369],
  [408, 369], [369, 39, 320, 319], [409, 408, 369], [410], [410], [409, 408], [409, 408], [411, 412, 413, 414, 415, 416, 417, 418, 419, 420, 421, 422, 423, 424], [363, 425], [336], [336, 426, 272, 52, 52, 427, 427, 428], [346],
  [], [], [144, 429], [], [105, 107, 106], [388, 295, 108, 388, 295, 295, 388, 295, 108], [388, 430], [236, 235, 39, 108, 105, 295, 236, 396, 232, 232, 108, 163, 105, 430], [396, 105, 295, 108, 105, 295, 431, 163, 295, 108, 105], [], [163, 108, 105, 234, 232, 236, 235, 297, 108, 296], [236, 396],
  [236, 108, 432, 433], [52, 39], [434, 435], [49], [436, 437, 438, 439], [440, 441, 442], [], [443, 443, 402], [402], [80, 24, 444], [54, 54, 363, 54, 425, 386, 445], [446, 447, 448, 449, 450, 451, 452, 453, 407, 407],
  [319], [77], [409, 408, 369], [], [], [117, 454, 117, 454], [455, 456, 457, 454, 454], [459, 458], [461, 56, 460, 462, 11, 460], [461, 462, 463, 460], [464, 458], [466, 467, 468, 458],
  [469, 458], [470, 458], [471, 472, 473], [473, 422], [455, 474, 474, 475, 476, 473, 473, 477, 454, 472, 473], [478], [], [479, 479, 146, 336, 272], [140, 202, 480, 117, 340, 341, 117], [481, 482, 483, 484, 485, 486, 487, 488, 489, 429, 429], [295, 108, 388, 295, 108], [163, 396, 163, 396, 163, 108, 105, 166, 388],
  [37, 167, 432], [359, 433], [], [], [], [], [490], [491, 492], [], [493, 495, 494, 19, 440], [496, 440, 19, 440, 497, 361, 498, 499, 310, 440], [],
  [286, 350, 40], [], [], [500, 500], [274, 275], [501, 501, 501, 502], [], [], [], [], [], [19],
  [], [456, 456, 494, 460, 19], [503], [56, 460], [455], [455, 503], [41, 504, 42, 41, 460], [41, 41, 80, 23, 505, 350, 26], [465, 460], [42, 405, 41, 465, 289], [23, 24, 25, 26], [506, 42, 466],
  [460], [405, 460, 289, 460], [284, 460], [507], [], [455], [85, 508, 509, 510, 54, 54, 54, 512, 511, 508, 509, 513, 511], [514, 514, 515, 515, 511, 511, 511, 511, 516, 511, 511], [514, 514, 511, 511], [514, 515, 517, 517, 516, 518, 519, 520, 521], [], [],
  [44, 345], [487], [522, 522], [274, 275], [523, 523, 523, 524], [], [487, 487, 487], [145, 145], [487, 487], [487, 487, 487, 487], [], [269, 525],
  [], [52, 178, 179, 54, 526, 527, 496, 178], [528], [530, 529], [19, 531, 19, 531, 117, 532, 533, 253], [534, 440, 361, 247, 20, 534], [363, 535, 536, 425, 537], [363, 425, 537], [], [502], [538, 538, 538], [41, 460],
  [70], [24, 539, 24, 24, 24, 350, 350, 41], [], [540, 541, 542, 540, 540], [86], [543, 544], [514, 511], [515, 545], [514], [545, 545, 514], [], [],
  [545], [546], [547, 548], [67], [549], [550, 54, 54, 54, 54, 54, 177, 178, 337, 337, 337, 179, 178, 179], [487, 487], [524], [551, 551, 551], [552], [68, 114, 86], [242],
  [553, 554, 555], [556, 386], [557], [], [77], [558, 544], [247, 440], [], [], [], [], [70, 70, 559],
  [507], [560, 560, 560, 560, 561, 56], [562, 562, 563, 563, 564], [565, 565, 565, 565, 565, 565, 566], [567, 568, 569, 570], [], [545, 514], [], [546, 513, 545, 514], [109, 110, 111, 112], [571, 572], [487],
  [], [], [573, 574, 554, 575, 554, 576], [86], [577], [], [578], [], [561, 42], [41], [561, 282], [194, 77, 533],
  [], [], [565, 565, 565, 565, 565, 565], [579], [579], [579, 19, 580], [579, 19, 580], [], [], [], [555, 86, 54, 555, 581, 582], [555, 573, 54],
  [582, 582, 582, 582, 582, 582, 582, 582, 583, 584], [], [543], [], [], [555, 585, 586, 68, 587, 114, 588, 585], [], [], [], [], [585, 554, 555, 54, 585], [585, 77, 85, 588, 585],
  [114], [], [], [], [], [], [], [], [], [], [], [],
  [], [], [], [], [], [], [], [], [], [], [], [],
  [], [], [], [], [], [], [], [], [], [], [], [],
  [580, 580]]
theorem tabT_0 : ((dropP 80 Tryz.prog.funcs.toList 0).take 80).map Tryz.prog.leadsTo = (dropP 80 tabT 0).take 80 := by kernel_rfl
theorem tabT_1 : ((dropP 80 Tryz.prog.funcs.toList 1).take 80).map Tryz.prog.leadsTo = (dropP 80 tabT 1).take 80 := by kernel_rfl
theorem tabT_2 : ((dropP 80 Tryz.prog.funcs.toList 2).take 80).map Tryz.prog.leadsTo = (dropP 80 tabT 2).take 80 := by kernel_rfl
theorem tabT_3 : ((dropP 80 Tryz.prog.funcs.toList 3).take 80).map Tryz.prog.leadsTo = (dropP 80 tabT 3).take 80 := by kernel_rfl
theorem tabT_4 : ((dropP 80 Tryz.prog.funcs.toList 4).take 80).map Tryz.prog.leadsTo = (dropP 80 tabT 4).take 80 := by kernel_rfl
theorem tabT_5 : ((dropP 80 Tryz.prog.funcs.toList 5).take 80).map Tryz.prog.leadsTo = (dropP 80 tabT 5).take 80 := by kernel_rfl
theorem tabT_6 : ((dropP 80 Tryz.prog.funcs.toList 6).take 80).map Tryz.prog.leadsTo = (dropP 80 tabT 6).take 80 := by kernel_rfl
theorem tabT_7 : (dropP 80 Tryz.prog.funcs.toList 7).map Tryz.prog.leadsTo = dropP 80 tabT 7 := by kernel_rfl
theorem tabT_all : Tryz.prog.funcs.toList.map Tryz.prog.leadsTo = tabT := map_parts 80 tabT_0 (map_parts 80 tabT_1 (map_parts 80 tabT_2 (map_parts 80 tabT_3 (map_parts 80 tabT_4 (map_parts 80 tabT_5 (map_parts 80 tabT_6 (tabT_7)))))))
def tabG : List (List Nat) := [[], [], [], [], [], [], [], [], [], [], [], [],
  [], [], [], [], [], [], [], [], [], [], [], [],
  [], [], [], [], [], [], [], [], [], [], [], [],
  [], [], [], [], [], [], [], [], [], [], [], [],
  [], [], [], [], [], [], [], [], [], [], [], [],
  [], [], [], [], [], [], [], [], [], [], [], [],
  [], [], [], [], [], [], [], [], [], [], [], [],
  [], [], [], [], [], [], [], [], [], [], [], [],
  [], [], [], [], [], [], [], [], [], [], [], [],
  [], [], [0], [], [], [], [], [1, 1, 1], [], [], [], [],
  [], [], [], [], [], [], [], [], [], [], [], [],
  [], [], [], [], [], [], [], [], [], [], [], [],
  [], [], [], [], [], [], [], [], [], [], [], [],
  [], [], [], [], [], [], [], [], [], [], [], [],
  [], [], [], [], [], [], [], [], [], [], [], [],
  [], [], [], [], [], [], [], [], [], [], [], [],
  [], [], [], [], [], [], [], [], [], [], [], [],
  [], [], [], [], [], [], [], [], [], [], [], [],
  [], [], [], [], [], [], [], [], [], [], [], [],
  [], [], [], [], [], [], [], [], [], [2], [3], [],
  [], [], [], [], [], [], [], [], [], [], [], [],
  [], [], [], [], [], [], [], [], [], [], [], [],
  [], [], [], [4, 5], [], [], [], [], [], [], [], [],
  [], [], [], [], [], [], [], [], [], [], [], [],
  [], [], [], [], [], [], [], [], [], [], [6, 6, 6, 6], [],
  [], [], [], [], [], [], [], [], [], [], [], [],
  [], [], [], [], [], [], [], [], [], [], [], [],
  [], [], [], [], [], [], [], [], [], [], [], [],
  [], [], [], [], [], [], [], [], [], [], [], [],
  [], [], [], [], [], [], [], [], [], [7], [], [],
  [], [], [], [], [], [], [], [], [], [], [], [],
  [], [], [], [], [], [], [], [], [], [], [], [],
  [], [], [], [], [], [], [], [], [], [], [], [],
  [], [], [], [], [], [], [], [], [], [], [], [],
  [], [], [], [], [], [], [], [], [], [], [], [],
  [], [], [], [], [], [], [], [], [], [], [], [],
  [], [], [], [], [], [], [], [], [], [], [], [],
  [], [], [], [], [], [], [], [], [], [], [], [],
  [], [], [], [], [], [], [], [], [], [], [], [],
  [], [], [], [], [], [], [], [], [], [], [], [],
  [], [], [], [], [], [], [], [], [], [], [], [],
  [], [], [], [], [], [], [], [], [], [], [], [],
  [], [], [], [], [], [], [], [], [], [], [], [],
  [], [], [], [], [], [], [], [], [], [], [], [],
  [], [], [], [], [], [], [], [], [], [], [], [],
  [], [], [], [], [], [], [], [], [], [], [], [],
  [4, 5], [], [], [], [], [], [], [], [], [], [], [],
  [], [], [], [9], [10], [], [], [], [], [], [], [],
  [], [], [], [], [], [], [], [], [], [], [], [],
  [], [], [], [], [], [], [], [], [], [], [], [],
  [], [], [], [], [], [], [], [], [], [], [], [],
  [], [], [], [], [], [], [], [], [], [], [], [],
  [2, 3, 0, 5, 10, 9, 11, 11, 7, 6]]
theorem tabG_0 : ((dropP 80 Tryz.prog.funcs.toList 0).take 80).map globsAt = (dropP 80 tabG 0).take 80 := by kernel_rfl
theorem tabG_1 : ((dropP 80 Tryz.prog.funcs.toList 1).take 80).map globsAt = (dropP 80 tabG 1).take 80 := by kernel_rfl
theorem tabG_2 : ((dropP 80 Tryz.prog.funcs.toList 2).take 80).map globsAt = (dropP 80 tabG 2).take 80 := by kernel_rfl
theorem tabG_3 : ((dropP 80 Tryz.prog.funcs.toList 3).take 80).map globsAt = (dropP 80 tabG 3).take 80 := by kernel_rfl
theorem tabG_4 : ((dropP 80 Tryz.prog.funcs.toList 4).take 80).map globsAt = (dropP 80 tabG 4).take 80 := by kernel_rfl
theorem tabG_5 : ((dropP 80 Tryz.prog.funcs.toList 5).take 80).map globsAt = (dropP 80 tabG 5).take 80 := by kernel_rfl
theorem tabG_6 : ((dropP 80 Tryz.prog.funcs.toList 6).take 80).map globsAt = (dropP 80 tabG 6).take 80 := by kernel_rfl
theorem tabG_7 : (dropP 80 Tryz.prog.funcs.toList 7).map globsAt = dropP 80 tabG 7 := by kernel_rfl
theorem tabG_all : Tryz.prog.funcs.toList.map globsAt = tabG := map_parts 80 tabG_0 (map_parts 80 tabG_1 (map_parts 80 tabG_2 (map_parts 80 tabG_3 (map_parts 80 tabG_4 (map_parts 80 tabG_5 (map_parts 80 tabG_6 (tabG_7)))))))
def tabN : List Bool := [true, true, false, false, false, false, false, false, false, false, false, false,
  false, false, false, false, false, false, false, false, false, false, false, false,
  false, false, false, false, false, false, false, false, false, false, false, false,
  false, false, false, false, false, false, false, false, false, false, false, false,
  false, false, false, false, false, false, false, false, false, false, false, false,
  false, false, false, false, false, false, false, false, false, false, false, false,
  false, false, false, false, false, false, false, false, false, false, false, false,
  false, false, false, false, false, false, false, false, false, false, false, false,
  false, false, false, false, false, false, false, false, false, false, false, false,
  false, false, false, false, false, false, false, false, false, false, true, false,
  false, false, false, false, false, false, false, false, false, false, false, false,
  false, false, false, false, false, false, false, false, false, false, false, false,
  false, false, false, false, false, false, false, false, false, false, false, false,
  false, false, false, false, false, false, false, false, false, false, false, false,
  false, false, false, false, false, true, false, false, false, false, false, false,
  false, false, false, false, false, false, false, false, false, false, false, false,
  false, false, false, false, false, false, true, false, false, false, false, false,
  false, false, false, false, false, false, false, false, false, false, false, false,
  false, false, false, false, false, false, false, false, false, false, false, false,
  false, false, false, false, false, false, false, false, false, false, false, false,
  false, false, false, false, false, false, false, false, false, false, false, false,
  false, false, false, false, false, false, false, false, false, false, false, false,
  false, false, false, false, false, false, false, false, false, false, false, false,
  false, false, false, false, false, false, false, false, false, false, false, false,
  false, false, false, false, false, false, false, false, false, false, false, false,
  false, true, true, true, false, false, false, false, false, false, false, false,
  false, false, false, false, false, false, false, false, false, false, false, false,
  false, false, false, false, false, false, false, false, false, false, false, false,
  false, false, false, false, false, false, false, false, false, false, false, false,
  false, false, false, false, false, false, false, false, false, false, false, false,
  false, false, false, false, false, false, false, false, false, false, false, false,
  false, false, false, false, false, false, false, false, false, false, false, false,
  false, false, false, false, false, false, false, false, false, false, false, false,
  false, false, false, false, false, false, false, false, false, false, false, false,
  false, false, false, false, false, false, false, false, false, false, false, false,
  false, false, false, false, false, false, false, false, false, false, false, false,
  false, false, false, false, false, false, false, false, false, false, false, false,
  false, false, false, false, false, false, false, false, false, false, false, false,
  false, false, false, false, false, false, false, false, false, false, false, false,
  false, false, false, false, false, false, false, false, false, false, false, false,
  false, false, false, false, false, false, false, false, false, false, false, false,
  false, false, false, false, false, false, false, false, false, false, false, false,
  false, false, false, false, false, false, false, false, false, false, true, false,
  false, false, false, false, false, false, false, false, false, false, false, false,
  false, false, false, false, false, false, false, false, false, false, false, false,
  false, false, false, false, false, true, false, true, false, false, false, false,
  false, false, false, false, false, false, false, false, false, false, false, false,
  false, false, false, false, false, false, false, false, false, false, false, false,
  false, false, false, false, false, false, false, false, false, false, false, false,
  false, true, true, true, true, true, true, true, true, true, true, true,
  true, true, true, true, true, true, true, true, true, true, true, true,
  true, true, true, true, true, true, true, true, true, true, true, true,
  false]
theorem tabN_0 : ((dropP 80 Tryz.prog.funcs.toList 0).take 80).map flagAt = (dropP 80 tabN 0).take 80 := by kernel_rfl
theorem tabN_1 : ((dropP 80 Tryz.prog.funcs.toList 1).take 80).map flagAt = (dropP 80 tabN 1).take 80 := by kernel_rfl
theorem tabN_2 : ((dropP 80 Tryz.prog.funcs.toList 2).take 80).map flagAt = (dropP 80 tabN 2).take 80 := by kernel_rfl
theorem tabN_3 : ((dropP 80 Tryz.prog.funcs.toList 3).take 80).map flagAt = (dropP 80 tabN 3).take 80 := by kernel_rfl
theorem tabN_4 : ((dropP 80 Tryz.prog.funcs.toList 4).take 80).map flagAt = (dropP 80 tabN 4).take 80 := by kernel_rfl
theorem tabN_5 : ((dropP 80 Tryz.prog.funcs.toList 5).take 80).map flagAt = (dropP 80 tabN 5).take 80 := by kernel_rfl
theorem tabN_6 : ((dropP 80 Tryz.prog.funcs.toList 6).take 80).map flagAt = (dropP 80 tabN 6).take 80 := by kernel_rfl
theorem tabN_7 : (dropP 80 Tryz.prog.funcs.toList 7).map flagAt = dropP 80 tabN 7 := by kernel_rfl
theorem tabN_all : Tryz.prog.funcs.toList.map flagAt = tabN := map_parts 80 tabN_0 (map_parts 80 tabN_1 (map_parts 80 tabN_2 (map_parts 80 tabN_3 (map_parts 80 tabN_4 (map_parts 80 tabN_5 (map_parts 80 tabN_6 (tabN_7)))))))
def tabE : List Bool := [true, true, false, false, false, false, false, false, false, false, false, false,
  false, false, false, false, false, false, false, false, false, false, false, false,
  false, false, false, false, false, false, false, false, false, false, false, false,
  false, false, false, false, false, false, false, false, false, false, false, false,
  false, false, false, false, false, false, false, false, false, false, false, false,
  false, false, false, false, false, false, false, false, false, false, false, false,
  false, false, false, false, false, false, false, false, false, false, false, false,
  false, false, false, false, false, false, false, false, false, false, false, false,
  false, false, false, false, false, false, false, false, false, false, false, false,
  false, false, false, false, false, false, false, false, false, false, true, false,
  false, false, false, false, false, false, false, false, false, false, false, false,
  false, false, false, false, false, false, false, false, false, false, false, false,
  false, false, false, false, false, false, false, false, false, false, false, false,
  false, false, false, false, false, false, false, false, false, false, false, false,
  false, false, false, false, false, true, false, false, false, false, false, false,
  false, false, false, false, false, false, false, false, false, false, false, false,
  false, false, false, false, false, false, true, false, false, false, false, false,
  false, false, false, false, false, false, false, false, false, false, false, false,
  false, false, false, false, false, false, false, false, false, false, false, false,
  false, false, false, false, false, false, false, false, false, false, false, false,
  false, false, false, false, false, false, false, false, false, false, false, false,
  false, false, false, false, false, false, false, false, false, false, false, false,
  false, false, false, false, false, false, false, false, false, false, false, false,
  false, false, false, false, false, false, false, false, false, false, false, false,
  false, false, false, false, false, false, false, false, false, false, false, false,
  false, true, true, true, false, false, false, false, false, false, false, false,
  false, false, false, false, false, false, false, false, false, false, false, false,
  false, false, false, false, false, false, false, false, false, false, false, false,
  false, false, false, false, false, false, false, false, false, false, false, false,
  false, false, false, false, false, false, false, false, false, false, false, false,
  false, false, false, false, false, false, false, false, false, false, false, false,
  false, false, false, false, false, false, false, false, false, false, false, false,
  false, false, false, false, false, false, false, false, false, false, false, false,
  false, false, false, false, false, false, false, false, false, false, false, false,
  false, false, false, false, false, false, false, false, false, false, false, false,
  false, false, false, false, false, false, false, false, false, false, false, false,
  false, false, false, false, false, false, false, false, false, false, false, false,
  false, false, false, false, false, false, false, false, false, false, false, false,
  false, false, false, false, false, false, false, false, false, false, false, false,
  false, false, false, false, false, false, false, false, false, false, false, false,
  false, false, false, false, false, false, false, false, false, false, false, false,
  false, false, false, false, false, false, false, false, false, false, false, false,
  false, false, false, false, false, false, false, false, false, false, true, false,
  false, false, false, false, false, false, false, false, false, false, false, false,
  false, false, false, false, false, false, false, false, false, false, false, false,
  false, false, false, false, false, true, false, true, false, false, false, false,
  false, false, false, false, false, false, false, false, false, false, false, false,
  false, false, false, false, false, false, false, false, false, false, false, false,
  false, false, false, false, false, false, false, false, false, false, false, false,
  false, true, true, true, true, true, true, true, true, true, true, true,
  true, true, true, true, true, true, true, true, true, true, true, true,
  true, true, true, true, true, true, true, true, true, true, true, true,
  false]
theorem tabE_0 : ((dropP 80 Tryz.prog.funcs.toList 0).take 80).map bareAt = (dropP 80 tabE 0).take 80 := by kernel_rfl
theorem tabE_1 : ((dropP 80 Tryz.prog.funcs.toList 1).take 80).map bareAt = (dropP 80 tabE 1).take 80 := by kernel_rfl
theorem tabE_2 : ((dropP 80 Tryz.prog.funcs.toList 2).take 80).map bareAt = (dropP 80 tabE 2).take 80 := by kernel_rfl
theorem tabE_3 : ((dropP 80 Tryz.prog.funcs.toList 3).take 80).map bareAt = (dropP 80 tabE 3).take 80 := by kernel_rfl
theorem tabE_4 : ((dropP 80 Tryz.prog.funcs.toList 4).take 80).map bareAt = (dropP 80 tabE 4).take 80 := by kernel_rfl
theorem tabE_5 : ((dropP 80 Tryz.prog.funcs.toList 5).take 80).map bareAt = (dropP 80 tabE 5).take 80 := by kernel_rfl
theorem tabE_6 : ((dropP 80 Tryz.prog.funcs.toList 6).take 80).map bareAt = (dropP 80 tabE 6).take 80 := by kernel_rfl
theorem tabE_7 : (dropP 80 Tryz.prog.funcs.toList 7).map bareAt = dropP 80 tabE 7 := by kernel_rfl
theorem tabE_all : Tryz.prog.funcs.toList.map bareAt = tabE := map_parts 80 tabE_0 (map_parts 80 tabE_1 (map_parts 80 tabE_2 (map_parts 80 tabE_3 (map_parts 80 tabE_4 (map_parts 80 tabE_5 (map_parts 80 tabE_6 (tabE_7)))))))
theorem laidOut_ok : (laidOutB Tryz.pinned.checked.prog) = true := by kernel_rfl
theorem mapsRowed_ok : (mapsRowed Tryz.pinned.checked.prog) = true := by kernel_rfl
theorem stopsHeard_ok : (Tryz.pinned.checked.prog.stopsHeard) = true := by kernel_rfl
theorem mayEnter_ok : (Tryz.pinned.checked.prog.mayEnter) = true := by kernel_rfl
theorem own : ownKnob Tryz.prog.godebug = none := by kernel_rfl
theorem follows : Tryz.prog.follows .mixedOrders = true := by kernel_rfl
theorem names : Tryz.prog.funcs.toList.all (fun fn => !(fn.name == "runtime.NumGoroutine")) = true := by kernel_rfl
theorem nameOK : NameOK Tryz.prog := by
  intro f fn c hf _
  have h := List.all_eq_true.1 names fn (by
    rw [Array.mem_toList_iff]
    exact Array.mem_of_getElem? hf)
  simpa using h
end
end Go.Proofs.YtbkilngeedbkpaaGreatDoor
