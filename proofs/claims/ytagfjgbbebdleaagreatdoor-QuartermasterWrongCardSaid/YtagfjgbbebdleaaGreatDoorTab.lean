/-
  What each function of the program leads to and names, by tables, and closed facts of the whole program. No condition.
-/
import Derived.Test.YtagfjgbbebdleaaGreatDoorXJoinK
import Derived.Test.YtagfjgbbebdleaaGreatDoorXMxF
import Derived.Test.YtagfjgbbebdleaaGreatDoorRows
open Go Go.Mx
namespace Go.Proofs.YtagfjgbbebdleaaGreatDoor
set_option maxRecDepth 1000000
noncomputable section
theorem band {a b : Bool} (h : a = true) (k : b = true) : (a && b) = true := by rw [h, k]; rfl
def tabT : List (List Nat) := [[], [], [1], [4, 5], [5], [6, 7, 8, 9, 10, 11], [12], [13], [], [14, 15, 16, 17, 18, 19, 20, 21, 22, 23, 24], [25, 12, 28, 27, 29, 30, 31], [],
  [32], [33], [8, 26], [26], [36, 35, 34], [37, 34], [38, 34], [39, 34], [40, 30, 41], [42, 7, 26, 7, 7, 26], [36, 43, 44], [45, 44],
  [36, 46, 34], [7, 26], [48, 47, 49], [], [], [50], [], [51, 30, 52], [53, 54, 55], [56], [30, 26], [57, 58, 59, 61, 60],
  [], [57, 58, 59, 60], [62, 63], [57, 58, 35, 60], [62, 58, 64], [6, 26], [63, 64], [46, 13, 65, 66, 67], [30, 41, 41, 7, 26], [68, 69, 70, 69, 71, 69, 72, 69, 74, 73], [75], [76],
  [77, 47, 47, 47, 11], [76], [], [79, 78, 80, 82, 81, 84, 83], [85, 86], [87, 88], [87, 89, 55], [90], [91, 92, 93, 94], [95, 96], [], [],
  [], [97], [57, 58], [98, 99, 100], [], [101, 102], [95, 103, 104, 105], [64, 106, 108, 107], [110, 111, 99, 112], [13], [95, 103, 40], [112, 113, 114, 115],
  [116, 117, 99, 102], [118, 119, 120], [121], [122, 123], [124], [76, 125], [], [], [], [126], [126], [88, 127],
  [128, 127], [129], [130, 131, 132, 133], [], [134], [], [135, 136, 135, 137, 136, 138], [], [140, 139, 141], [], [142, 143], [102, 102, 144, 116, 145, 146],
  [58], [], [147], [148], [150, 149], [151], [55], [57, 58], [152], [], [], [153],
  [109], [154], [155], [51, 156], [], [], [157, 158, 158, 159, 160, 161, 162, 163, 164], [165, 166], [27], [102], [], [168],
  [169], [], [170, 171, 173, 174, 175, 173], [176, 177, 179, 178, 180], [], [181], [], [182], [183, 88], [184], [185], [185],
  [185, 13, 186], [185, 13, 186], [], [187], [], [], [188], [], [], [], [], [189, 190],
  [12, 99, 12], [], [48], [191], [], [192, 193, 194, 195, 196, 197, 198, 199, 200, 149, 149], [201, 140], [202, 203], [204], [], [205, 206, 207, 208, 209], [90],
  [], [162, 12, 210, 161, 211, 213, 212, 210], [], [112, 214, 112, 161, 214], [216, 215, 158], [217], [135], [216, 218, 95, 158, 40, 158, 158, 114], [219, 216, 110, 218, 218, 102, 220, 158, 158], [150, 221], [167], [222, 222],
  [223, 224, 225], [226, 227], [162], [172], [], [228, 229, 230, 162], [], [231, 230, 232, 174, 228, 233, 234], [], [235], [], [236, 237, 238, 236],
  [239], [], [162, 240, 162, 137, 136], [], [241, 241, 241, 241, 241, 241, 242], [], [], [], [], [], [], [],
  [198], [243, 243], [244, 245], [246, 246, 246, 247], [], [198, 198, 198], [222, 222], [198, 198], [198, 198, 198, 198], [], [], [],
  [], [], [248, 249, 250, 251, 252, 253], [208], [], [251, 255, 254], [], [257, 210, 258], [51], [257, 210, 259, 214], [78, 80, 81, 83], [260],
  [115, 261, 158], [148], [262, 263], [264, 264, 214], [116, 265, 116, 266], [267, 268, 269, 270, 271, 272, 273, 274, 221, 221], [], [29, 275, 276, 277, 278, 279, 280, 276, 281, 279, 279, 282, 279], [], [], [283], [],
  [174, 162], [99], [], [284, 229], [], [230, 286, 285, 287, 229, 174, 285, 285, 232, 288, 285], [], [289], [290, 235, 235, 177, 290], [235, 235, 177], [291, 293, 292], [],
  [], [], [241, 241, 241, 241, 241, 241], [198, 198], [150], [], [247], [294, 294, 294], [], [296, 295, 297], [296, 298], [299],
  [300, 253, 302, 254], [304, 65, 305], [306], [256], [309, 310, 154, 311, 312, 313, 107, 314, 315, 316, 317], [259], [318], [79, 80, 82, 84], [54, 77, 55, 47, 47, 47, 88, 47, 47, 47, 11], [319, 320], [], [],
  [], [102], [265], [], [321, 321], [244, 245], [322, 322, 322, 323], [], [], [], [], [13],
  [275, 279], [324, 325, 29, 326, 105, 327], [223, 225], [], [95, 103], [328, 329, 330, 331, 116], [332, 333, 334, 335, 336], [], [], [], [162, 232], [285, 229, 174, 232, 337],
  [229, 338, 229, 339, 229, 340, 341, 285, 285], [293, 293], [342, 343, 235, 177, 343], [293, 292, 344, 345, 29, 289, 346], [], [], [198], [347, 348], [349, 350, 351, 352, 305, 305], [353, 354, 99, 95, 298, 12, 355, 356, 358, 357, 360, 359, 358, 298], [47, 11], [296, 298, 95, 40, 35, 35, 362],
  [301], [65, 363], [303], [364, 365, 366, 362, 367, 368, 368], [], [362], [307, 307, 308], [35, 362], [], [154, 310, 369, 312, 370, 107, 368, 369], [371, 154], [372, 109],
  [104, 105, 373], [311], [310, 154, 154], [374, 205, 310, 375, 311, 375], [249, 376, 205, 65, 305, 311, 375], [296, 298, 296, 353, 377, 109], [148], [], [378, 110, 47, 379, 380, 47, 379, 378, 11], [], [323], [381, 381, 381],
  [51], [116, 265], [29], [325, 382, 383, 325, 384, 385], [95, 103, 386], [383, 29, 387], [328, 328], [328, 29, 329], [224, 95, 39, 275], [95, 386], [383, 388, 98, 330, 48, 48], [261, 275, 389, 329, 224, 43, 329, 275],
  [390, 329, 329, 280, 333, 95, 38], [230, 229, 228, 285, 232, 288, 285], [391, 341, 232, 229, 392, 232, 232, 393], [229, 232, 232], [174, 230, 394, 232], [151, 174, 203, 203, 228], [293, 292], [291, 180, 239, 395, 396], [345, 29], [262, 397], [293, 345, 29], [],
  [182, 398, 80, 126, 182], [399, 400, 349], [105], [401], [], [47, 402, 47, 11], [403], [27], [], [404, 95, 98], [405, 406], [407],
  [103, 361], [354], [13, 368], [], [408, 154], [409, 410, 411, 412, 413, 414, 415, 416, 417, 418], [419], [419, 64], [], [], [154], [],
  [], [204], [], [], [], [420], [], [], [378, 421, 422, 421, 422, 422], [], [], [325, 29],
  [423, 424, 425, 426], [325, 324, 99, 427, 428, 98, 429, 426], [57], [431, 430], [428], [162], [387], [230, 230, 392], [432, 229], [229, 174, 232, 233, 230, 232, 337, 234], [174, 230, 232], [293, 292, 235, 433, 235, 180, 342, 433, 342, 180, 342, 434, 342, 435, 342, 435, 342, 436, 342, 437, 101, 438, 439, 346, 440],
  [293, 346, 346, 440, 441, 442], [443], [], [], [46, 305, 312, 444, 107, 445], [446, 298], [], [447, 448, 449], [361, 354, 450, 451], [150, 452], [167], [],
  [], [], [453, 368, 409], [453, 95, 103, 362, 409], [453, 409], [409, 101, 363, 362], [454, 453, 409], [455], [455], [454, 453], [454, 453], [456, 457, 458, 459, 460, 461, 462, 463, 464, 465, 466, 467, 468, 469],
  [403, 470], [378], [378, 471, 320, 110, 110, 472, 472, 473], [110, 99, 428], [110], [474, 116], [326, 105], [382, 161], [191], [95, 103], [475], [325, 29],
  [], [177, 179, 178], [433, 342, 180, 433, 342, 342, 433, 342, 180], [433, 476], [293, 292, 101, 180, 177, 342, 293, 441, 289, 289, 180, 235, 177, 476], [441, 177, 342, 180, 177, 342, 477, 235, 342, 180, 177], [], [235, 180, 177, 291, 289, 293, 292, 344, 180, 343], [293, 441], [293, 180, 478, 479], [110, 101], [480, 481],
  [109], [482, 483, 484, 485], [486, 487, 488], [], [489, 489, 447], [447], [62, 58, 490], [99, 99, 403, 99, 470, 100, 491], [492, 493, 494, 495, 496, 497, 498, 499, 452, 452], [362], [51], [454, 453, 409],
  [], [], [48, 500, 48, 500], [501, 502, 503, 500, 500], [505, 504], [507, 40, 506, 508, 35, 506], [507, 508, 509, 506], [510, 504], [37, 512, 513, 504], [514, 504], [515, 504], [516, 517, 518],
  [518, 467], [501, 519, 519, 520, 521, 518, 518, 522, 500, 517, 518], [523], [], [524, 524, 29, 378, 320], [218, 265, 525, 48, 423, 424, 48], [429], [], [342, 180, 433, 342, 180], [235, 441, 235, 441, 235, 180, 177, 238, 433], [75, 239, 478], [399, 479],
  [], [], [], [], [526], [527, 528], [], [529, 531, 530, 13, 486], [532, 486, 13, 486, 533, 401, 534, 535, 353, 486], [], [98, 63, 102], [],
  [], [536, 536], [244, 245], [537, 537, 537, 538], [], [], [], [], [], [13], [], [502, 502, 530, 506, 13],
  [539], [40, 506], [501], [501, 539], [95, 540, 103, 95, 506], [95, 95, 62, 57, 541, 63, 60], [511, 506], [103, 450, 95, 511, 38], [542, 103, 37], [506], [450, 506, 38, 506], [39, 506],
  [543], [], [501], [161, 544, 545, 546, 99, 99, 99, 548, 547, 544, 545, 549, 547], [550, 550, 551, 551, 547, 547, 547, 547, 552, 547, 547], [550, 550, 547, 547], [550, 551, 553, 553, 552, 554, 555, 556, 557], [], [], [105, 428], [], [183, 558],
  [], [110, 47, 11, 99, 559, 49, 532, 47], [560], [562, 561], [13, 563, 13, 563, 48, 564, 52, 304], [565, 486, 401, 298, 65, 565], [403, 566, 567, 470, 568], [403, 470, 568], [], [538], [569, 569, 569], [95, 506],
  [144], [58, 570, 58, 58, 58, 63, 63, 95], [], [571, 572, 573, 571, 571], [162], [184, 86], [550, 547], [551, 574], [550], [574, 574, 550], [], [],
  [574], [575], [576, 577], [56], [578], [579, 99, 99, 99, 99, 99, 77, 47, 379, 379, 379, 11, 47, 11], [580], [151, 203, 162], [581, 582, 583], [584, 100], [585], [],
  [51], [298, 486], [], [], [], [], [144, 144, 586], [543], [587, 587, 587, 587, 588, 40], [589, 589, 590, 590, 591], [], [574, 550],
  [], [575, 549, 574, 550], [91, 92, 93, 94], [592, 593], [], [], [594, 595, 582, 596, 582, 597], [162], [598], [], [], [588, 103],
  [95], [588, 386], [258, 51, 52], [], [], [], [], [583, 162, 99, 583, 599, 600], [583, 594, 99], [600, 600, 600, 600, 600, 600, 600, 600, 601, 602], [], [583, 603, 604, 151, 605, 203, 606, 603],
  [], [], [], [], [603, 582, 583, 99, 603], [603, 51, 161, 606, 603], [203], [], [], [], [], [],
  [], [], [], [], [], [], [], [], [], [], [], [],
  [], [], [], [], [], [], [], [], [], [], [], [],
  [], [], [], [], [], [], [186, 186]]
theorem tabT_0 : ((dropP 80 Tryz.prog.funcs.toList 0).take 80).map Tryz.prog.leadsTo = (dropP 80 tabT 0).take 80 := by kernel_rfl
theorem tabT_1 : ((dropP 80 Tryz.prog.funcs.toList 1).take 80).map Tryz.prog.leadsTo = (dropP 80 tabT 1).take 80 := by kernel_rfl
theorem tabT_2 : ((dropP 80 Tryz.prog.funcs.toList 2).take 80).map Tryz.prog.leadsTo = (dropP 80 tabT 2).take 80 := by kernel_rfl
theorem tabT_3 : ((dropP 80 Tryz.prog.funcs.toList 3).take 80).map Tryz.prog.leadsTo = (dropP 80 tabT 3).take 80 := by kernel_rfl
theorem tabT_4 : ((dropP 80 Tryz.prog.funcs.toList 4).take 80).map Tryz.prog.leadsTo = (dropP 80 tabT 4).take 80 := by kernel_rfl
theorem tabT_5 : ((dropP 80 Tryz.prog.funcs.toList 5).take 80).map Tryz.prog.leadsTo = (dropP 80 tabT 5).take 80 := by kernel_rfl
theorem tabT_6 : ((dropP 80 Tryz.prog.funcs.toList 6).take 80).map Tryz.prog.leadsTo = (dropP 80 tabT 6).take 80 := by kernel_rfl
theorem tabT_7 : ((dropP 80 Tryz.prog.funcs.toList 7).take 80).map Tryz.prog.leadsTo = (dropP 80 tabT 7).take 80 := by kernel_rfl
theorem tabT_8 : (dropP 80 Tryz.prog.funcs.toList 8).map Tryz.prog.leadsTo = dropP 80 tabT 8 := by kernel_rfl
theorem tabT_all : Tryz.prog.funcs.toList.map Tryz.prog.leadsTo = tabT := map_parts 80 tabT_0 (map_parts 80 tabT_1 (map_parts 80 tabT_2 (map_parts 80 tabT_3 (map_parts 80 tabT_4 (map_parts 80 tabT_5 (map_parts 80 tabT_6 (map_parts 80 tabT_7 (tabT_8))))))))
def tabG : List (List Nat) := [[], [], [], [], [], [], [], [], [], [], [], [],
  [], [], [], [], [], [], [], [], [], [], [], [],
  [], [], [], [], [], [], [], [], [], [], [], [],
  [], [], [], [], [], [], [], [], [], [], [], [],
  [], [], [], [], [], [], [], [], [], [], [], [],
  [], [], [], [], [], [], [], [], [], [], [], [],
  [], [], [], [], [], [], [], [], [], [], [], [],
  [], [], [], [], [], [], [0, 0, 0], [], [1], [], [], [],
  [], [], [], [], [], [], [], [], [], [], [], [],
  [], [], [], [], [], [], [], [], [], [], [], [],
  [], [], [], [], [], [], [], [], [], [], [2], [3],
  [], [], [4, 5], [], [], [], [], [], [], [], [], [],
  [], [], [], [], [], [], [], [], [], [], [], [],
  [], [], [], [], [], [], [], [], [], [], [], [],
  [], [], [], [], [], [], [], [], [], [], [], [],
  [], [], [], [], [], [], [], [], [], [6], [7], [],
  [], [], [], [], [], [], [], [], [], [], [], [],
  [], [], [], [], [], [], [], [], [], [], [], [],
  [], [], [], [], [], [], [], [], [], [], [], [],
  [], [], [], [], [], [], [], [], [], [], [], [],
  [], [], [], [], [], [], [], [], [], [], [], [],
  [], [], [], [], [], [], [], [], [], [], [], [],
  [], [], [], [], [], [], [], [], [], [], [], [],
  [], [], [], [], [], [], [], [], [], [], [], [],
  [], [], [], [], [], [], [], [], [], [], [], [],
  [], [], [], [], [], [], [], [], [], [], [], [],
  [], [], [], [], [], [], [], [], [], [], [], [],
  [], [], [], [], [], [], [], [], [], [], [], [],
  [], [], [], [], [], [], [], [], [], [8, 8, 8, 8], [], [],
  [], [], [], [], [], [], [], [], [], [], [], [],
  [], [], [], [], [], [], [], [], [], [], [], [],
  [], [], [], [], [], [], [], [], [], [], [], [],
  [], [], [], [], [], [], [], [], [], [], [], [],
  [], [9], [], [], [], [], [], [], [], [], [], [],
  [], [], [], [], [], [], [], [], [], [], [], [],
  [], [], [], [], [], [], [], [], [], [], [], [],
  [], [], [], [], [], [], [], [], [], [], [], [],
  [], [], [], [], [], [], [], [], [], [], [], [],
  [], [], [], [], [], [], [], [], [], [], [], [],
  [], [], [], [], [], [], [], [], [], [], [], [],
  [], [], [], [], [], [], [], [], [], [], [], [],
  [], [], [], [], [], [], [], [], [], [], [], [],
  [], [], [], [], [], [], [], [], [], [], [], [],
  [], [], [], [], [], [], [], [], [], [], [], [],
  [], [], [], [], [], [], [], [], [], [], [], [],
  [], [], [], [], [], [], [], [], [], [], [], [],
  [], [], [], [], [], [], [], [], [], [], [], [],
  [], [], [], [], [], [], [], [], [], [], [], [],
  [], [], [], [], [4, 5], [], [], [], [], [], [], [],
  [], [], [], [], [], [], [], [], [], [], [], [],
  [], [], [], [], [], [], [], [], [], [], [], [],
  [], [], [], [], [], [], [], [], [], [], [], [],
  [], [], [], [], [], [], [], [], [], [], [], [],
  [], [], [], [], [], [], [6, 7, 1, 5, 3, 2, 11, 11, 9, 8]]
theorem tabG_0 : ((dropP 80 Tryz.prog.funcs.toList 0).take 80).map globsAt = (dropP 80 tabG 0).take 80 := by kernel_rfl
theorem tabG_1 : ((dropP 80 Tryz.prog.funcs.toList 1).take 80).map globsAt = (dropP 80 tabG 1).take 80 := by kernel_rfl
theorem tabG_2 : ((dropP 80 Tryz.prog.funcs.toList 2).take 80).map globsAt = (dropP 80 tabG 2).take 80 := by kernel_rfl
theorem tabG_3 : ((dropP 80 Tryz.prog.funcs.toList 3).take 80).map globsAt = (dropP 80 tabG 3).take 80 := by kernel_rfl
theorem tabG_4 : ((dropP 80 Tryz.prog.funcs.toList 4).take 80).map globsAt = (dropP 80 tabG 4).take 80 := by kernel_rfl
theorem tabG_5 : ((dropP 80 Tryz.prog.funcs.toList 5).take 80).map globsAt = (dropP 80 tabG 5).take 80 := by kernel_rfl
theorem tabG_6 : ((dropP 80 Tryz.prog.funcs.toList 6).take 80).map globsAt = (dropP 80 tabG 6).take 80 := by kernel_rfl
theorem tabG_7 : ((dropP 80 Tryz.prog.funcs.toList 7).take 80).map globsAt = (dropP 80 tabG 7).take 80 := by kernel_rfl
theorem tabG_8 : (dropP 80 Tryz.prog.funcs.toList 8).map globsAt = dropP 80 tabG 8 := by kernel_rfl
theorem tabG_all : Tryz.prog.funcs.toList.map globsAt = tabG := map_parts 80 tabG_0 (map_parts 80 tabG_1 (map_parts 80 tabG_2 (map_parts 80 tabG_3 (map_parts 80 tabG_4 (map_parts 80 tabG_5 (map_parts 80 tabG_6 (map_parts 80 tabG_7 (tabG_8))))))))
def tabN : List Bool := [true, true, false, false, false, false, false, false, false, false, false, false,
  false, false, false, false, false, false, false, false, false, false, false, false,
  false, false, false, false, false, false, false, false, false, false, false, false,
  false, false, false, false, false, false, false, false, false, false, false, false,
  false, false, false, false, false, false, false, false, false, false, false, false,
  false, false, false, false, false, false, false, false, false, false, false, false,
  false, false, false, false, false, false, false, false, false, false, false, false,
  false, false, false, false, false, true, false, false, false, false, false, false,
  false, false, false, false, false, false, false, false, false, false, false, false,
  false, false, false, false, false, false, false, false, false, false, false, false,
  false, false, false, false, true, false, false, false, false, false, false, false,
  false, false, false, false, true, false, false, false, false, false, false, false,
  false, false, false, false, false, false, false, false, false, false, false, false,
  false, false, false, false, false, false, false, false, false, false, false, false,
  false, false, false, false, false, false, false, false, false, false, false, false,
  false, true, false, false, false, false, false, true, false, false, false, false,
  false, false, false, false, false, false, false, false, false, false, false, false,
  true, false, false, false, false, false, false, false, false, false, false, false,
  false, false, false, false, false, false, false, false, false, false, false, false,
  false, false, false, false, false, false, false, false, false, false, false, false,
  false, false, false, false, false, false, false, false, false, false, false, false,
  false, false, false, false, false, false, false, false, false, false, false, false,
  false, false, false, false, false, false, false, false, false, false, false, false,
  false, false, false, false, false, false, false, false, false, false, false, false,
  false, false, false, false, false, false, false, false, false, false, false, false,
  false, false, false, false, false, false, false, false, false, false, false, false,
  false, false, false, false, false, false, false, false, false, false, false, false,
  false, false, false, false, false, false, false, false, false, false, false, false,
  false, false, false, false, false, false, false, false, false, false, false, false,
  false, false, false, false, false, false, false, false, false, false, false, false,
  false, false, false, false, false, false, false, false, false, false, false, false,
  false, false, false, false, false, false, false, false, false, false, false, false,
  false, false, false, false, false, false, false, false, false, false, false, false,
  false, false, false, false, false, false, false, false, false, false, false, false,
  false, false, false, false, false, false, false, false, false, false, false, false,
  false, false, false, false, false, false, false, false, false, false, false, false,
  false, false, false, false, false, false, false, false, false, false, false, false,
  false, false, false, false, false, false, false, false, false, false, false, false,
  false, false, false, false, false, false, false, false, false, false, false, false,
  false, false, false, false, false, false, false, false, false, false, false, false,
  false, false, false, false, false, false, false, false, false, false, false, false,
  false, false, false, false, false, false, false, false, false, false, false, false,
  false, false, false, false, false, false, false, false, false, false, false, false,
  false, false, false, false, false, false, false, false, false, false, false, false,
  false, false, false, false, false, false, false, false, false, false, false, false,
  false, false, false, false, false, false, false, false, false, false, true, false,
  false, false, false, false, false, false, false, false, false, false, false, false,
  false, false, false, false, false, false, false, false, false, false, true, false,
  true, false, false, false, false, false, false, false, false, false, false, false,
  false, false, false, false, false, false, false, false, false, false, false, false,
  false, false, false, false, false, false, false, true, true, true, true, true,
  true, true, true, true, true, true, true, true, true, true, true, true,
  true, true, true, true, true, true, true, true, true, true, true, true,
  true, true, true, true, true, true, false]
theorem tabN_0 : ((dropP 80 Tryz.prog.funcs.toList 0).take 80).map flagAt = (dropP 80 tabN 0).take 80 := by kernel_rfl
theorem tabN_1 : ((dropP 80 Tryz.prog.funcs.toList 1).take 80).map flagAt = (dropP 80 tabN 1).take 80 := by kernel_rfl
theorem tabN_2 : ((dropP 80 Tryz.prog.funcs.toList 2).take 80).map flagAt = (dropP 80 tabN 2).take 80 := by kernel_rfl
theorem tabN_3 : ((dropP 80 Tryz.prog.funcs.toList 3).take 80).map flagAt = (dropP 80 tabN 3).take 80 := by kernel_rfl
theorem tabN_4 : ((dropP 80 Tryz.prog.funcs.toList 4).take 80).map flagAt = (dropP 80 tabN 4).take 80 := by kernel_rfl
theorem tabN_5 : ((dropP 80 Tryz.prog.funcs.toList 5).take 80).map flagAt = (dropP 80 tabN 5).take 80 := by kernel_rfl
theorem tabN_6 : ((dropP 80 Tryz.prog.funcs.toList 6).take 80).map flagAt = (dropP 80 tabN 6).take 80 := by kernel_rfl
theorem tabN_7 : ((dropP 80 Tryz.prog.funcs.toList 7).take 80).map flagAt = (dropP 80 tabN 7).take 80 := by kernel_rfl
theorem tabN_8 : (dropP 80 Tryz.prog.funcs.toList 8).map flagAt = dropP 80 tabN 8 := by kernel_rfl
theorem tabN_all : Tryz.prog.funcs.toList.map flagAt = tabN := map_parts 80 tabN_0 (map_parts 80 tabN_1 (map_parts 80 tabN_2 (map_parts 80 tabN_3 (map_parts 80 tabN_4 (map_parts 80 tabN_5 (map_parts 80 tabN_6 (map_parts 80 tabN_7 (tabN_8))))))))
def tabE : List Bool := [true, true, false, false, false, false, false, false, false, false, false, false,
  false, false, false, false, false, false, false, false, false, false, false, false,
  false, false, false, false, false, false, false, false, false, false, false, false,
  false, false, false, false, false, false, false, false, false, false, false, false,
  false, false, false, false, false, false, false, false, false, false, false, false,
  false, false, false, false, false, false, false, false, false, false, false, false,
  false, false, false, false, false, false, false, false, false, false, false, false,
  false, false, false, false, false, true, false, false, false, false, false, false,
  false, false, false, false, false, false, false, false, false, false, false, false,
  false, false, false, false, false, false, false, false, false, false, false, false,
  false, false, false, false, true, false, false, false, false, false, false, false,
  false, false, false, false, true, false, false, false, false, false, false, false,
  false, false, false, false, false, false, false, false, false, false, false, false,
  false, false, false, false, false, false, false, false, false, false, false, false,
  false, false, false, false, false, false, false, false, false, false, false, false,
  false, true, false, false, false, false, false, true, false, false, false, false,
  false, false, false, false, false, false, false, false, false, false, false, false,
  true, false, false, false, false, false, false, false, false, false, false, false,
  false, false, false, false, false, false, false, false, false, false, false, false,
  false, false, false, false, false, false, false, false, false, false, false, false,
  false, false, false, false, false, false, false, false, false, false, false, false,
  false, false, false, false, false, false, false, false, false, false, false, false,
  false, false, false, false, false, false, false, false, false, false, false, false,
  false, false, false, false, false, false, false, false, false, false, false, false,
  false, false, false, false, false, false, false, false, false, false, false, false,
  false, false, false, false, false, false, false, false, false, false, false, false,
  false, false, false, false, false, false, false, false, false, false, false, false,
  false, false, false, false, false, false, false, false, false, false, false, false,
  false, false, false, false, false, false, false, false, false, false, false, false,
  false, false, false, false, false, false, false, false, false, false, false, false,
  false, false, false, false, false, false, false, false, false, false, false, false,
  false, false, false, false, false, false, false, false, false, false, false, false,
  false, false, false, false, false, false, false, false, false, false, false, false,
  false, false, false, false, false, false, false, false, false, false, false, false,
  false, false, false, false, false, false, false, false, false, false, false, false,
  false, false, false, false, false, false, false, false, false, false, false, false,
  false, false, false, false, false, false, false, false, false, false, false, false,
  false, false, false, false, false, false, false, false, false, false, false, false,
  false, false, false, false, false, false, false, false, false, false, false, false,
  false, false, false, false, false, false, false, false, false, false, false, false,
  false, false, false, false, false, false, false, false, false, false, false, false,
  false, false, false, false, false, false, false, false, false, false, false, false,
  false, false, false, false, false, false, false, false, false, false, false, false,
  false, false, false, false, false, false, false, false, false, false, false, false,
  false, false, false, false, false, false, false, false, false, false, false, false,
  false, false, false, false, false, false, false, false, false, false, true, false,
  false, false, false, false, false, false, false, false, false, false, false, false,
  false, false, false, false, false, false, false, false, false, false, true, false,
  true, false, false, false, false, false, false, false, false, false, false, false,
  false, false, false, false, false, false, false, false, false, false, false, false,
  false, false, false, false, false, false, false, true, true, true, true, true,
  true, true, true, true, true, true, true, true, true, true, true, true,
  true, true, true, true, true, true, true, true, true, true, true, true,
  true, true, true, true, true, true, false]
theorem tabE_0 : ((dropP 80 Tryz.prog.funcs.toList 0).take 80).map bareAt = (dropP 80 tabE 0).take 80 := by kernel_rfl
theorem tabE_1 : ((dropP 80 Tryz.prog.funcs.toList 1).take 80).map bareAt = (dropP 80 tabE 1).take 80 := by kernel_rfl
theorem tabE_2 : ((dropP 80 Tryz.prog.funcs.toList 2).take 80).map bareAt = (dropP 80 tabE 2).take 80 := by kernel_rfl
theorem tabE_3 : ((dropP 80 Tryz.prog.funcs.toList 3).take 80).map bareAt = (dropP 80 tabE 3).take 80 := by kernel_rfl
theorem tabE_4 : ((dropP 80 Tryz.prog.funcs.toList 4).take 80).map bareAt = (dropP 80 tabE 4).take 80 := by kernel_rfl
theorem tabE_5 : ((dropP 80 Tryz.prog.funcs.toList 5).take 80).map bareAt = (dropP 80 tabE 5).take 80 := by kernel_rfl
theorem tabE_6 : ((dropP 80 Tryz.prog.funcs.toList 6).take 80).map bareAt = (dropP 80 tabE 6).take 80 := by kernel_rfl
theorem tabE_7 : ((dropP 80 Tryz.prog.funcs.toList 7).take 80).map bareAt = (dropP 80 tabE 7).take 80 := by kernel_rfl
theorem tabE_8 : (dropP 80 Tryz.prog.funcs.toList 8).map bareAt = dropP 80 tabE 8 := by kernel_rfl
theorem tabE_all : Tryz.prog.funcs.toList.map bareAt = tabE := map_parts 80 tabE_0 (map_parts 80 tabE_1 (map_parts 80 tabE_2 (map_parts 80 tabE_3 (map_parts 80 tabE_4 (map_parts 80 tabE_5 (map_parts 80 tabE_6 (map_parts 80 tabE_7 (tabE_8))))))))
theorem laidOut_ok : (laidOutB Tryz.pinned.checked.prog) = true := by kernel_rfl
theorem mapsRowed_ok : (mapsRowed Tryz.pinned.checked.prog) = true := by kernel_rfl
theorem stopsHeard_ok : (Tryz.pinned.checked.prog.stopsHeard) = true := by kernel_rfl
theorem mayEnter_ok : (Tryz.pinned.checked.prog.mayEnter) = true := by kernel_rfl
theorem own : ownKnob Tryz.prog.godebug = none := by kernel_rfl
theorem follows : Tryz.prog.follows .mixedOrders = true := by kernel_rfl
theorem names : Tryz.prog.funcs.toList.all (fun fn => !(fn.name == "runtime.NumGoroutine")) = true := by kernel_rfl
theorem nameOK : NameOK Tryz.prog := by
  intro f fn c hf _
  have h := List.all_eq_true.1 names fn (by
    rw [Array.mem_toList_iff]
    exact Array.mem_of_getElem? hf)
  simpa using h
end
end Go.Proofs.YtagfjgbbebdleaaGreatDoor
