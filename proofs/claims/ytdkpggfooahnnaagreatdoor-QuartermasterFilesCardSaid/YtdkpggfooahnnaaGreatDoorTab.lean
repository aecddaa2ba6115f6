/-
  What each function of the program leads to and names, by tables, and closed facts of the whole program. No condition.
-/
import Derived.Test.YtdkpggfooahnnaaGreatDoorXJoinK
import Derived.Test.YtdkpggfooahnnaaGreatDoorXMxG
import Derived.Test.YtdkpggfooahnnaaGreatDoorRows
open Go Go.Mx
namespace Go.Proofs.YtdkpggfooahnnaaGreatDoor
set_option maxRecDepth 1000000
noncomputable section
theorem band {a b : Bool} (h : a = true) (k : b = true) : (a && b) = true := by rw [h, k]; rfl
def tabT : List (List Nat) := [[], [], [1], [6, 7], [6, 8, 7, 9], [6, 9, 7, 9], [7], [10, 11, 12, 13, 14, 15], [], [16], [17], [18],
  [], [19, 20, 21, 22, 23, 24, 25, 26, 27, 28, 29], [30, 17, 33, 32, 34, 35, 36], [], [16], [37], [38], [12, 31], [31], [41, 40, 39], [42, 39], [43, 39],
  [44, 39], [45, 35, 46], [47, 11, 31, 11, 11, 31], [41, 48, 49], [50, 49], [41, 51, 39], [11, 31], [53, 52, 54], [], [], [55], [],
  [56, 35, 57], [58, 59, 60], [61], [35, 31], [62, 63, 64, 66, 65], [], [62, 63, 64, 65], [67, 68], [62, 63, 40, 65], [67, 63, 69], [10, 31], [68, 69],
  [51, 18, 70, 71, 72], [35, 46, 46, 11, 31], [73, 74, 75, 74, 76, 74, 77, 74, 79, 78], [80], [81], [82, 52, 52, 52, 15], [81], [], [84, 83, 85, 87, 86, 89, 88], [90, 91], [92, 93], [92, 94, 60],
  [95], [96, 97, 98, 99], [100, 101], [], [], [], [102], [62, 63], [103, 104, 105], [], [106, 107], [100, 108, 109, 110],
  [69, 111, 113, 112], [115, 116, 104, 117], [18], [100, 108, 45], [117, 118, 119, 120], [121, 122, 104, 107], [123, 124, 125], [126], [127, 128], [129], [81, 130], [],
  [], [], [131], [131], [93, 132], [133, 132], [134], [135, 136, 137, 138], [], [139], [], [140, 141, 140, 142, 141, 143],
  [], [145, 144, 146], [], [147, 148], [107, 107, 149, 121, 150, 151], [63], [], [152], [153], [155, 154], [156], [60],
  [62, 63], [157], [], [], [158], [114], [159], [160], [56, 161], [], [], [162, 163, 163, 164, 165, 166, 167, 168, 169],
  [170, 171], [32], [107], [], [173], [174], [], [175, 176, 178, 179, 180, 178], [181, 182, 184, 183, 185], [], [186], [],
  [187], [188, 93], [189], [190], [190], [190, 18, 191], [190, 18, 191], [], [192], [], [], [193],
  [], [], [], [], [194, 195], [17, 104, 17], [], [53], [196], [], [197, 198, 199, 200, 201, 202, 203, 204, 205, 154, 154], [206, 145],
  [207, 208], [209], [], [210, 211, 212, 213, 214], [95], [], [167, 17, 215, 166, 216, 218, 217, 215], [], [117, 219, 117, 166, 219], [221, 220, 163], [222], [140],
  [221, 223, 100, 163, 45, 163, 163, 119], [224, 221, 115, 223, 223, 107, 225, 163, 163], [155, 226], [172], [227, 227], [228, 229, 230], [231, 232], [167], [177], [], [233, 234, 235, 167], [],
  [236, 235, 237, 179, 233, 238, 239], [], [240], [], [241, 242, 243, 241], [244], [], [167, 245, 167, 142, 141], [], [246, 246, 246, 246, 246, 246, 247], [], [],
  [], [], [], [], [], [203], [248, 248], [249, 250], [251, 251, 251, 252], [], [203, 203, 203], [227, 227],
  [203, 203], [203, 203, 203, 203], [], [], [], [], [], [253, 254, 255, 256, 257, 258], [213], [], [256, 260, 259], [],
  [262, 215, 263], [56], [262, 215, 264, 219], [83, 85, 86, 88], [265], [120, 266, 163], [153], [267, 268], [269, 269, 219], [121, 270, 121, 271], [272, 273, 274, 275, 276, 277, 278, 279, 226, 226], [],
  [34, 280, 281, 282, 283, 284, 285, 281, 286, 284, 284, 287, 284], [], [], [288], [], [179, 167], [104], [], [289, 234], [], [235, 291, 290, 292, 234, 179, 290, 290, 237, 293, 290], [],
  [294], [295, 240, 240, 182, 295], [240, 240, 182], [296, 298, 297], [], [], [], [246, 246, 246, 246, 246, 246], [203, 203], [155], [], [252],
  [299, 299, 299], [], [301, 300, 302], [301, 303], [304], [305, 258, 307, 259], [309, 70, 310], [311], [261], [314, 315, 159, 316, 317, 318, 112, 319, 320, 321, 322], [264], [323],
  [84, 85, 87, 89], [59, 82, 60, 52, 52, 52, 93, 52, 52, 52, 15], [324, 325], [], [], [], [107], [270], [], [326, 326], [249, 250], [327, 327, 327, 328],
  [], [], [], [], [18], [280, 284], [329, 330, 34, 331, 110, 332], [228, 230], [], [100, 108], [333, 334, 335, 336, 121], [337, 338, 339, 340, 341],
  [], [], [], [167, 237], [290, 234, 179, 237, 342], [234, 343, 234, 344, 234, 345, 346, 290, 290], [298, 298], [347, 348, 240, 182, 348], [298, 297, 349, 350, 34, 294, 351], [], [], [203],
  [352, 353], [354, 355, 356, 357, 310, 310], [358, 359, 104, 100, 303, 17, 360, 361, 363, 362, 365, 364, 363, 303], [52, 15], [301, 303, 100, 45, 40, 40, 367], [306], [70, 368], [308], [369, 370, 371, 367, 372, 373, 373], [], [367], [312, 312, 313],
  [40, 367], [], [159, 315, 374, 317, 375, 112, 373, 374], [376, 159], [377, 114], [109, 110, 378], [316], [315, 159, 159], [379, 210, 315, 380, 316, 380], [254, 381, 210, 70, 310, 316, 380], [301, 303, 301, 358, 382, 114], [153],
  [], [383, 115, 52, 384, 385, 52, 384, 383, 15], [], [328], [386, 386, 386], [56], [121, 270], [34], [330, 387, 388, 330, 389, 390], [100, 108, 391], [388, 34, 392], [333, 333],
  [333, 34, 334], [229, 100, 44, 280], [100, 391], [388, 393, 103, 335, 53, 53], [266, 280, 394, 334, 229, 48, 334, 280], [395, 334, 334, 285, 338, 100, 43], [235, 234, 233, 290, 237, 293, 290], [396, 346, 237, 234, 397, 237, 237, 398], [234, 237, 237], [179, 235, 399, 237], [156, 179, 208, 208, 233], [298, 297],
  [296, 185, 244, 400, 401], [350, 34], [267, 402], [298, 350, 34], [], [187, 403, 85, 131, 187], [404, 405, 354], [110], [406], [], [52, 407, 52, 15], [408],
  [32], [], [409, 100, 103], [410, 411], [412], [108, 366], [359], [18, 373], [], [413, 159], [414, 415, 416, 417, 418, 419, 420, 421, 422, 423], [424],
  [424, 69], [], [], [159], [], [], [209], [], [], [], [425], [],
  [], [383, 426, 427, 426, 427, 427], [], [], [330, 34], [428, 429, 430, 431], [330, 329, 104, 432, 433, 103, 434, 431], [62], [436, 435], [433], [167], [392],
  [235, 235, 397], [437, 234], [234, 179, 237, 238, 235, 237, 342, 239], [179, 235, 237], [298, 297, 240, 438, 240, 185, 347, 438, 347, 185, 347, 439, 347, 440, 347, 440, 347, 441, 347, 442, 106, 443, 444, 351, 445], [298, 351, 351, 445, 446, 447], [448], [], [], [51, 310, 317, 449, 112, 450], [451, 303], [],
  [452, 453, 454], [366, 359, 455, 456], [155, 457], [172], [], [], [], [458, 373, 414], [458, 100, 108, 367, 414], [458, 414], [414, 106, 368, 367], [459, 458, 414],
  [460], [460], [459, 458], [459, 458], [461, 462, 463, 464, 465, 466, 467, 468, 469, 470, 471, 472, 473, 474], [408, 475], [383], [383, 476, 325, 115, 115, 477, 477, 478], [115, 104, 433], [115], [479, 121], [331, 110],
  [387, 166], [196], [100, 108], [480], [330, 34], [], [182, 184, 183], [438, 347, 185, 438, 347, 347, 438, 347, 185], [438, 481], [298, 297, 106, 185, 182, 347, 298, 446, 294, 294, 185, 240, 182, 481], [446, 182, 347, 185, 182, 347, 482, 240, 347, 185, 182], [],
  [240, 185, 182, 296, 294, 298, 297, 349, 185, 348], [298, 446], [298, 185, 483, 484], [115, 106], [485, 486], [114], [487, 488, 489, 490], [491, 492, 493], [], [494, 494, 452], [452], [67, 63, 495],
  [104, 104, 408, 104, 475, 105, 496], [497, 498, 499, 500, 501, 502, 503, 504, 457, 457], [367], [56], [459, 458, 414], [], [], [53, 505, 53, 505], [506, 507, 508, 505, 505], [510, 509], [512, 45, 511, 513, 40, 511], [512, 513, 514, 511],
  [515, 509], [42, 517, 518, 509], [519, 509], [520, 509], [521, 522, 523], [523, 472], [506, 524, 524, 525, 526, 523, 523, 527, 505, 522, 523], [528], [], [529, 529, 34, 383, 325], [223, 270, 530, 53, 428, 429, 53], [434],
  [], [347, 185, 438, 347, 185], [240, 446, 240, 446, 240, 185, 182, 243, 438], [80, 244, 483], [404, 484], [], [], [], [], [531], [532, 533], [],
  [534, 536, 535, 18, 491], [537, 491, 18, 491, 538, 406, 539, 540, 358, 491], [], [103, 68, 107], [], [], [541, 541], [249, 250], [542, 542, 542, 543], [], [], [],
  [], [], [18], [], [507, 507, 535, 511, 18], [544], [45, 511], [506], [506, 544], [100, 545, 108, 100, 511], [100, 100, 67, 62, 546, 68, 65], [516, 511],
  [108, 455, 100, 516, 43], [547, 108, 42], [511], [455, 511, 43, 511], [44, 511], [548], [], [506], [166, 549, 550, 551, 104, 104, 104, 553, 552, 549, 550, 554, 552], [555, 555, 556, 556, 552, 552, 552, 552, 557, 552, 552], [555, 555, 552, 552], [555, 556, 558, 558, 557, 559, 560, 561, 562],
  [], [], [110, 433], [], [188, 563], [], [115, 52, 15, 104, 564, 54, 537, 52], [565], [567, 566], [18, 568, 18, 568, 53, 569, 57, 309], [570, 491, 406, 303, 70, 570], [408, 571, 572, 475, 573],
  [408, 475, 573], [], [543], [574, 574, 574], [100, 511], [149], [63, 575, 63, 63, 63, 68, 68, 100], [], [576, 577, 578, 576, 576], [167], [189, 91], [555, 552],
  [556, 579], [555], [579, 579, 555], [], [], [579], [580], [581, 582], [61], [583], [584, 104, 104, 104, 104, 104, 82, 52, 384, 384, 384, 15, 52, 15], [585],
  [156, 208, 167], [586, 587, 588], [589, 105], [590], [], [56], [303, 491], [], [], [], [], [149, 149, 591],
  [548], [592, 592, 592, 592, 593, 45], [594, 594, 595, 595, 596], [], [579, 555], [], [580, 554, 579, 555], [96, 97, 98, 99], [597, 598], [], [], [599, 600, 587, 601, 587, 602],
  [167], [603], [], [], [593, 108], [100], [593, 391], [263, 56, 57], [], [], [], [],
  [588, 167, 104, 588, 604, 605], [588, 599, 104], [605, 605, 605, 605, 605, 605, 605, 605, 606, 607], [], [588, 608, 609, 156, 610, 208, 611, 608], [], [], [], [], [608, 587, 588, 104, 608], [608, 56, 166, 611, 608], [208],
  [], [], [], [], [], [], [], [], [], [], [], [],
  [], [], [], [], [], [], [], [], [], [], [], [],
  [], [], [], [], [], [], [], [], [], [], [], [191, 191]]
theorem tabT_0 : ((dropP 80 Tryz.prog.funcs.toList 0).take 80).map Tryz.prog.leadsTo = (dropP 80 tabT 0).take 80 := by kernel_rfl
theorem tabT_1 : ((dropP 80 Tryz.prog.funcs.toList 1).take 80).map Tryz.prog.leadsTo = (dropP 80 tabT 1).take 80 := by kernel_rfl
theorem tabT_2 : ((dropP 80 Tryz.prog.funcs.toList 2).take 80).map Tryz.prog.leadsTo = (dropP 80 tabT 2).take 80 := by kernel_rfl
theorem tabT_3 : ((dropP 80 Tryz.prog.funcs.toList 3).take 80).map Tryz.prog.leadsTo = (dropP 80 tabT 3).take 80 := by kernel_rfl
theorem tabT_4 : ((dropP 80 Tryz.prog.funcs.toList 4).take 80).map Tryz.prog.leadsTo = (dropP 80 tabT 4).take 80 := by kernel_rfl
theorem tabT_5 : ((dropP 80 Tryz.prog.funcs.toList 5).take 80).map Tryz.prog.leadsTo = (dropP 80 tabT 5).take 80 := by kernel_rfl
theorem tabT_6 : ((dropP 80 Tryz.prog.funcs.toList 6).take 80).map Tryz.prog.leadsTo = (dropP 80 tabT 6).take 80 := by kernel_rfl
theorem tabT_7 : ((dropP 80 Tryz.prog.funcs.toList 7).take 80).map Tryz.prog.leadsTo = (dropP 80 tabT 7).take 80 := by kernel_rfl
theorem tabT_8 : (dropP 80 Tryz.prog.funcs.toList 8).map Tryz.prog.leadsTo = dropP 80 tabT 8 := by kernel_rfl
theorem tabT_all : Tryz.prog.funcs.toList.map Tryz.prog.leadsTo = tabT := map_parts 80 tabT_0 (map_parts 80 tabT_1 (map_parts 80 tabT_2 (map_parts 80 tabT_3 (map_parts 80 tabT_4 (map_parts 80 tabT_5 (map_parts 80 tabT_6 (map_parts 80 tabT_7 (tabT_8))))))))
def tabG : List (List Nat) := [[], [], [], [], [], [], [], [], [], [], [], [],
  [], [], [], [], [], [], [], [], [], [], [], [],
  [], [], [], [], [], [], [], [], [], [], [], [],
  [], [], [], [], [], [], [], [], [], [], [], [],
  [], [], [], [], [], [], [], [], [], [], [], [],
  [], [], [], [], [], [], [], [], [], [], [], [],
  [], [], [], [], [], [], [], [], [], [], [], [],
  [], [], [], [], [], [], [], [], [], [], [], [0, 0, 0],
  [], [1], [], [], [], [], [], [], [], [], [], [],
  [], [], [], [], [], [], [], [], [], [], [], [],
  [], [], [], [], [], [], [], [], [], [], [], [],
  [], [], [], [2], [3], [], [], [4, 5], [], [], [], [],
  [], [], [], [], [], [], [], [], [], [], [], [],
  [], [], [], [], [], [], [], [], [], [], [], [],
  [], [], [], [], [], [], [], [], [], [], [], [],
  [], [], [], [], [], [], [], [], [], [], [], [],
  [], [], [6], [7], [], [], [], [], [], [], [], [],
  [], [], [], [], [], [], [], [], [], [], [], [],
  [], [], [], [], [], [], [], [], [], [], [], [],
  [], [], [], [], [], [], [], [], [], [], [], [],
  [], [], [], [], [], [], [], [], [], [], [], [],
  [], [], [], [], [], [], [], [], [], [], [], [],
  [], [], [], [], [], [], [], [], [], [], [], [],
  [], [], [], [], [], [], [], [], [], [], [], [],
  [], [], [], [], [], [], [], [], [], [], [], [],
  [], [], [], [], [], [], [], [], [], [], [], [],
  [], [], [], [], [], [], [], [], [], [], [], [],
  [], [], [], [], [], [], [], [], [], [], [], [],
  [], [], [], [], [], [], [], [], [], [], [], [],
  [], [], [8, 8, 8, 8], [], [], [], [], [], [], [], [], [],
  [], [], [], [], [], [], [], [], [], [], [], [],
  [], [], [], [], [], [], [], [], [], [], [], [],
  [], [], [], [], [], [], [], [], [], [], [], [],
  [], [], [], [], [], [], [9], [], [], [], [], [],
  [], [], [], [], [], [], [], [], [], [], [], [],
  [], [], [], [], [], [], [], [], [], [], [], [],
  [], [], [], [], [], [], [], [], [], [], [], [],
  [], [], [], [], [], [], [], [], [], [], [], [],
  [], [], [], [], [], [], [], [], [], [], [], [],
  [], [], [], [], [], [], [], [], [], [], [], [],
  [], [], [], [], [], [], [], [], [], [], [], [],
  [], [], [], [], [], [], [], [], [], [], [], [],
  [], [], [], [], [], [], [], [], [], [], [], [],
  [], [], [], [], [], [], [], [], [], [], [], [],
  [], [], [], [], [], [], [], [], [], [], [], [],
  [], [], [], [], [], [], [], [], [], [], [], [],
  [], [], [], [], [], [], [], [], [], [], [], [],
  [], [], [], [], [], [], [], [], [], [], [], [],
  [], [], [], [], [], [], [], [], [], [4, 5], [], [],
  [], [], [], [], [], [], [], [], [], [], [], [],
  [], [], [], [], [], [], [], [], [], [], [], [],
  [], [], [], [], [], [], [], [], [], [], [], [],
  [], [], [], [], [], [], [], [], [], [], [], [],
  [], [], [], [], [], [], [], [], [], [], [], [6, 7, 1, 5, 3, 2, 11, 11, 9, 8]]
theorem tabG_0 : ((dropP 80 Tryz.prog.funcs.toList 0).take 80).map globsAt = (dropP 80 tabG 0).take 80 := by kernel_rfl
theorem tabG_1 : ((dropP 80 Tryz.prog.funcs.toList 1).take 80).map globsAt = (dropP 80 tabG 1).take 80 := by kernel_rfl
theorem tabG_2 : ((dropP 80 Tryz.prog.funcs.toList 2).take 80).map globsAt = (dropP 80 tabG 2).take 80 := by kernel_rfl
theorem tabG_3 : ((dropP 80 Tryz.prog.funcs.toList 3).take 80).map globsAt = (dropP 80 tabG 3).take 80 := by kernel_rfl
theorem tabG_4 : ((dropP 80 Tryz.prog.funcs.toList 4).take 80).map globsAt = (dropP 80 tabG 4).take 80 := by kernel_rfl
theorem tabG_5 : ((dropP 80 Tryz.prog.funcs.toList 5).take 80).map globsAt = (dropP 80 tabG 5).take 80 := by kernel_rfl
theorem tabG_6 : ((dropP 80 Tryz.prog.funcs.toList 6).take 80).map globsAt = (dropP 80 tabG 6).take 80 := by kernel_rfl
theorem tabG_7 : ((dropP 80 Tryz.prog.funcs.toList 7).take 80).map globsAt = (dropP 80 tabG 7).take 80 := by kernel_rfl
theorem tabG_8 : (dropP 80 Tryz.prog.funcs.toList 8).map globsAt = dropP 80 tabG 8 := by kernel_rfl
theorem tabG_all : Tryz.prog.funcs.toList.map globsAt = tabG := map_parts 80 tabG_0 (map_parts 80 tabG_1 (map_parts 80 tabG_2 (map_parts 80 tabG_3 (map_parts 80 tabG_4 (map_parts 80 tabG_5 (map_parts 80 tabG_6 (map_parts 80 tabG_7 (tabG_8))))))))
def tabN : List Bool := [true, true, false, false, false, false, false, false, false, false, false, false,
  false, false, false, false, false, false, false, false, false, false, false, false,
  false, false, false, false, false, false, false, false, false, false, false, false,
  false, false, false, false, false, false, false, false, false, false, false, false,
  false, false, false, false, false, false, false, false, false, false, false, false,
  false, false, false, false, false, false, false, false, false, false, false, false,
  false, false, false, false, false, false, false, false, false, false, false, false,
  false, false, false, false, false, false, false, false, false, false, true, false,
  false, false, false, false, false, false, false, false, false, false, false, false,
  false, false, false, false, false, false, false, false, false, false, false, false,
  false, false, false, false, false, false, false, false, false, true, false, false,
  false, false, false, false, false, false, false, false, false, true, false, false,
  false, false, false, false, false, false, false, false, false, false, false, false,
  false, false, false, false, false, false, false, false, false, false, false, false,
  false, false, false, false, false, false, false, false, false, false, false, false,
  false, false, false, false, false, false, true, false, false, false, false, false,
  true, false, false, false, false, false, false, false, false, false, false, false,
  false, false, false, false, false, true, false, false, false, false, false, false,
  false, false, false, false, false, false, false, false, false, false, false, false,
  false, false, false, false, false, false, false, false, false, false, false, false,
  false, false, false, false, false, false, false, false, false, false, false, false,
  false, false, false, false, false, false, false, false, false, false, false, false,
  false, false, false, false, false, false, false, false, false, false, false, false,
  false, false, false, false, false, false, false, false, false, false, false, false,
  false, false, false, false, false, false, false, false, false, false, false, false,
  false, false, false, false, false, false, false, false, false, false, false, false,
  false, false, false, false, false, false, false, false, false, false, false, false,
  false, false, false, false, false, false, false, false, false, false, false, false,
  false, false, false, false, false, false, false, false, false, false, false, false,
  false, false, false, false, false, false, false, false, false, false, false, false,
  false, false, false, false, false, false, false, false, false, false, false, false,
  false, false, false, false, false, false, false, false, false, false, false, false,
  false, false, false, false, false, false, false, false, false, false, false, false,
  false, false, false, false, false, false, false, false, false, false, false, false,
  false, false, false, false, false, false, false, false, false, false, false, false,
  false, false, false, false, false, false, false, false, false, false, false, false,
  false, false, false, false, false, false, false, false, false, false, false, false,
  false, false, false, false, false, false, false, false, false, false, false, false,
  false, false, false, false, false, false, false, false, false, false, false, false,
  false, false, false, false, false, false, false, false, false, false, false, false,
  false, false, false, false, false, false, false, false, false, false, false, false,
  false, false, false, false, false, false, false, false, false, false, false, false,
  false, false, false, false, false, false, false, false, false, false, false, false,
  false, false, false, false, false, false, false, false, false, false, false, false,
  false, false, false, false, false, false, false, false, false, false, false, false,
  false, false, false, false, false, false, false, false, false, false, false, false,
  false, false, false, true, false, false, false, false, false, false, false, false,
  false, false, false, false, false, false, false, false, false, false, false, false,
  false, false, false, true, false, true, false, false, false, false, false, false,
  false, false, false, false, false, false, false, false, false, false, false, false,
  false, false, false, false, false, false, false, false, false, false, false, false,
  true, true, true, true, true, true, true, true, true, true, true, true,
  true, true, true, true, true, true, true, true, true, true, true, true,
  true, true, true, true, true, true, true, true, true, true, true, false]
theorem tabN_0 : ((dropP 80 Tryz.prog.funcs.toList 0).take 80).map flagAt = (dropP 80 tabN 0).take 80 := by kernel_rfl
theorem tabN_1 : ((dropP 80 Tryz.prog.funcs.toList 1).take 80).map flagAt = (dropP 80 tabN 1).take 80 := by kernel_rfl
theorem tabN_2 : ((dropP 80 Tryz.prog.funcs.toList 2).take 80).map flagAt = (dropP 80 tabN 2).take 80 := by kernel_rfl
theorem tabN_3 : ((dropP 80 Tryz.prog.funcs.toList 3).take 80).map flagAt = (dropP 80 tabN 3).take 80 := by kernel_rfl
theorem tabN_4 : ((dropP 80 Tryz.prog.funcs.toList 4).take 80).map flagAt = (dropP 80 tabN 4).take 80 := by kernel_rfl
theorem tabN_5 : ((dropP 80 Tryz.prog.funcs.toList 5).take 80).map flagAt = (dropP 80 tabN 5).take 80 := by kernel_rfl
theorem tabN_6 : ((dropP 80 Tryz.prog.funcs.toList 6).take 80).map flagAt = (dropP 80 tabN 6).take 80 := by kernel_rfl
theorem tabN_7 : ((dropP 80 Tryz.prog.funcs.toList 7).take 80).map flagAt = (dropP 80 tabN 7).take 80 := by kernel_rfl
theorem tabN_8 : (dropP 80 Tryz.prog.funcs.toList 8).map flagAt = dropP 80 tabN 8 := by kernel_rfl
theorem tabN_all : Tryz.prog.funcs.toList.map flagAt = tabN := map_parts 80 tabN_0 (map_parts 80 tabN_1 (map_parts 80 tabN_2 (map_parts 80 tabN_3 (map_parts 80 tabN_4 (map_parts 80 tabN_5 (map_parts 80 tabN_6 (map_parts 80 tabN_7 (tabN_8))))))))
def tabE : List Bool := [true, true, false, false, false, false, false, false, false, false, false, false,
  false, false, false, false, false, false, false, false, false, false, false, false,
  false, false, false, false, false, false, false, false, false, false, false, false,
  false, false, false, false, false, false, false, false, false, false, false, false,
  false, false, false, false, false, false, false, false, false, false, false, false,
  false, false, false, false, false, false, false, false, false, false, false, false,
  false, false, false, false, false, false, false, false, false, false, false, false,
  false, false, false, false, false, false, false, false, false, false, true, false,
  false, false, false, false, false, false, false, false, false, false, false, false,
  false, false, false, false, false, false, false, false, false, false, false, false,
  false, false, false, false, false, false, false, false, false, true, false, false,
  false, false, false, false, false, false, false, false, false, true, false, false,
  false, false, false, false, false, false, false, false, false, false, false, false,
  false, false, false, false, false, false, false, false, false, false, false, false,
  false, false, false, false, false, false, false, false, false, false, false, false,
  false, false, false, false, false, false, true, false, false, false, false, false,
  true, false, false, false, false, false, false, false, false, false, false, false,
  false, false, false, false, false, true, false, false, false, false, false, false,
  false, false, false, false, false, false, false, false, false, false, false, false,
  false, false, false, false, false, false, false, false, false, false, false, false,
  false, false, false, false, false, false, false, false, false, false, false, false,
  false, false, false, false, false, false, false, false, false, false, false, false,
  false, false, false, false, false, false, false, false, false, false, false, false,
  false, false, false, false, false, false, false, false, false, false, false, false,
  false, false, false, false, false, false, false, false, false, false, false, false,
  false, false, false, false, false, false, false, false, false, false, false, false,
  false, false, false, false, false, false, false, false, false, false, false, false,
  false, false, false, false, false, false, false, false, false, false, false, false,
  false, false, false, false, false, false, false, false, false, false, false, false,
  false, false, false, false, false, false, false, false, false, false, false, false,
  false, false, false, false, false, false, false, false, false, false, false, false,
  false, false, false, false, false, false, false, false, false, false, false, false,
  false, false, false, false, false, false, false, false, false, false, false, false,
  false, false, false, false, false, false, false, false, false, false, false, false,
  false, false, false, false, false, false, false, false, false, false, false, false,
  false, false, false, false, false, false, false, false, false, false, false, false,
  false, false, false, false, false, false, false, false, false, false, false, false,
  false, false, false, false, false, false, false, false, false, false, false, false,
  false, false, false, false, false, false, false, false, false, false, false, false,
  false, false, false, false, false, false, false, false, false, false, false, false,
  false, false, false, false, false, false, false, false, false, false, false, false,
  false, false, false, false, false, false, false, false, false, false, false, false,
  false, false, false, false, false, false, false, false, false, false, false, false,
  false, false, false, false, false, false, false, false, false, false, false, false,
  false, false, false, false, false, false, false, false, false, false, false, false,
  false, false, false, false, false, false, false, false, false, false, false, false,
  false, false, false, true, false, false, false, false, false, false, false, false,
  false, false, false, false, false, false, false, false, false, false, false, false,
  false, false, false, true, false, true, false, false, false, false, false, false,
  false, false, false, false, false, false, false, false, false, false, false, false,
  false, false, false, false, false, false, false, false, false, false, false, false,
  true, true, true, true, true, true, true, true, true, true, true, true,
  true, true, true, true, true, true, true, true, true, true, true, true,
  true, true, true, true, true, true, true, true, true, true, true, false]
theorem tabE_0 : ((dropP 80 Tryz.prog.funcs.toList 0).take 80).map bareAt = (dropP 80 tabE 0).take 80 := by kernel_rfl
theorem tabE_1 : ((dropP 80 Tryz.prog.funcs.toList 1).take 80).map bareAt = (dropP 80 tabE 1).take 80 := by kernel_rfl
theorem tabE_2 : ((dropP 80 Tryz.prog.funcs.toList 2).take 80).map bareAt = (dropP 80 tabE 2).take 80 := by kernel_rfl
theorem tabE_3 : ((dropP 80 Tryz.prog.funcs.toList 3).take 80).map bareAt = (dropP 80 tabE 3).take 80 := by kernel_rfl
theorem tabE_4 : ((dropP 80 Tryz.prog.funcs.toList 4).take 80).map bareAt = (dropP 80 tabE 4).take 80 := by kernel_rfl
theorem tabE_5 : ((dropP 80 Tryz.prog.funcs.toList 5).take 80).map bareAt = (dropP 80 tabE 5).take 80 := by kernel_rfl
theorem tabE_6 : ((dropP 80 Tryz.prog.funcs.toList 6).take 80).map bareAt = (dropP 80 tabE 6).take 80 := by kernel_rfl
theorem tabE_7 : ((dropP 80 Tryz.prog.funcs.toList 7).take 80).map bareAt = (dropP 80 tabE 7).take 80 := by kernel_rfl
theorem tabE_8 : (dropP 80 Tryz.prog.funcs.toList 8).map bareAt = dropP 80 tabE 8 := by kernel_rfl
theorem tabE_all : Tryz.prog.funcs.toList.map bareAt = tabE := map_parts 80 tabE_0 (map_parts 80 tabE_1 (map_parts 80 tabE_2 (map_parts 80 tabE_3 (map_parts 80 tabE_4 (map_parts 80 tabE_5 (map_parts 80 tabE_6 (map_parts 80 tabE_7 (tabE_8))))))))
theorem laidOut_ok : (laidOutB Tryz.pinned.checked.prog) = true := by kernel_rfl
theorem mapsRowed_ok : (mapsRowed Tryz.pinned.checked.prog) = true := by kernel_rfl
theorem stopsHeard_ok : (Tryz.pinned.checked.prog.stopsHeard) = true := by kernel_rfl
theorem mayEnter_ok : (Tryz.pinned.checked.prog.mayEnter) = true := by kernel_rfl
theorem own : ownKnob Tryz.prog.godebug = none := by kernel_rfl
theorem follows : Tryz.prog.follows .mixedOrders = true := by kernel_rfl
theorem names : Tryz.prog.funcs.toList.all (fun fn => !(fn.name == "runtime.NumGoroutine")) = true := by kernel_rfl
theorem nameOK : NameOK Tryz.prog := by
  intro f fn c hf _
  have h := List.all_eq_true.1 names fn (by
    rw [Array.mem_toList_iff]
    exact Array.mem_of_getElem? hf)
  simpa using h
end
end Go.Proofs.YtdkpggfooahnnaaGreatDoor
