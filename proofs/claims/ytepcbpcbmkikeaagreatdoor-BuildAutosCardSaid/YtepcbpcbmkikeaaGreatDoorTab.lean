/-
  What each function of the program leads to and names, by tables, and closed facts of the whole program. No condition.
-/
import Derived.Test.YtepcbpcbmkikeaaGreatDoorXJoinK
import Derived.Test.YtepcbpcbmkikeaaGreatDoorXMxG
import Derived.Test.YtepcbpcbmkikeaaGreatDoorRows
open Go Go.Mx
namespace Go.Proofs.YtepcbpcbmkikeaaGreatDoor
set_option maxRecDepth 1000000
noncomputable section
theorem band {a b : Bool} (h : a = true) (k : b = true) : (a && b) = true := by rw [h, k]; rfl
def tabT : List (List Nat) := [[], [], [1], [8, 10, 9, 11], [8, 10, 12, 12, 9, 13, 11, 11], [8, 10, 14, 12, 12, 14, 12, 9, 11], [8, 14, 14, 10, 9, 11], [15, 10, 12, 12, 12, 16, 17], [10, 12, 9, 9, 11], [18, 19, 20], [], [],
  [21, 22, 23, 25, 24], [26, 22, 27], [14], [10, 16, 12, 16], [28, 29, 30, 29, 31, 29, 32, 29, 33, 9], [], [], [34], [35], [36, 37], [], [],
  [], [38], [21, 22], [], [39, 40, 41, 42], [43], [36, 44, 13], [42, 45, 46, 47], [48, 49, 41, 50], [51], [52, 53, 54], [55, 56],
  [50, 50, 57, 48, 58, 59], [22], [], [60], [61, 62], [63], [], [64], [21, 22], [], [65, 66, 66, 67, 68, 69, 70, 71, 72], [73, 74],
  [76], [50], [77], [], [78, 79, 80, 81, 82, 83, 84, 80, 85, 83, 83, 86, 83], [], [], [87], [], [88, 41, 88], [], [89],
  [90], [92, 91, 93, 95, 94, 97, 96], [], [], [98], [70, 88, 99, 69, 100, 102, 101, 99], [], [42, 103, 42, 69, 103], [105, 104, 66], [106], [107], [105, 108, 36, 66, 13, 66, 66, 46],
  [109, 105, 39, 108, 108, 50, 110, 66, 66], [112, 111], [75], [113, 113], [], [90], [114], [43], [79, 83], [115, 116, 78, 117, 118, 119], [52, 54], [],
  [36, 44], [120, 121, 122, 123, 48], [124, 125, 126, 127, 128], [], [129], [130, 131, 131, 131, 132], [107, 133, 107, 134, 133, 135], [], [], [], [136], [136],
  [137, 138], [139, 138], [140, 141, 142, 143], [], [144, 99, 145], [61], [144, 99, 146, 103], [91, 93, 94, 96], [147], [47, 148, 66], [63], [149],
  [150, 151], [152, 152, 103], [48, 153, 48, 154], [155, 156, 157, 158, 159, 160, 161, 162, 111, 111], [163, 164], [], [], [61], [48, 153], [78], [], [116, 165, 166, 116, 167, 168],
  [36, 44, 169], [166, 78, 170], [120, 120], [120, 78, 121], [53, 36, 171, 79], [36, 169], [166, 172, 173, 122, 89, 89], [148, 79, 174, 121, 53, 175, 121, 79], [176, 121, 121, 84, 125, 36, 177], [178, 179, 77], [180, 181], [180],
  [], [], [], [182], [], [183], [184], [185, 137], [], [164, 186, 187], [], [188, 189],
  [146], [190], [92, 93, 95, 97], [179, 130, 77, 131, 131, 131, 137, 131, 131, 131, 132], [191, 192], [], [], [], [], [50], [153], [],
  [193, 193], [194, 195], [196, 196, 196, 197], [], [], [], [], [], [], [], [116, 78], [198, 199, 200, 201],
  [116, 115, 41, 202, 203, 173, 204, 201], [21], [206, 205], [21, 22, 12, 24], [203], [207], [70], [208, 43, 209, 210, 211], [170], [26, 212], [213, 137], [213, 214, 77],
  [215], [216], [], [], [70, 217, 70, 134, 133], [], [], [], [], [218, 219], [63], [],
  [220, 39, 131, 221, 222, 131, 221, 220, 132], [], [112], [], [197], [223, 223, 223], [39, 41, 203], [39], [224, 48], [117, 118], [165, 69], [225],
  [36, 44], [226], [116, 78], [225], [227], [228, 50], [36, 44, 229, 118], [27, 230, 232, 231], [173, 41, 234], [], [], [],
  [], [], [], [], [], [], [220, 235, 236, 235, 236, 236], [], [204], [], [], [237, 238],
  [239], [240], [], [241], [233], [242], [112, 243], [220], [220, 244, 192, 39, 39, 245, 245, 246], [247, 248, 250, 251, 252, 250], [253, 254, 256, 255, 257], [258, 259],
  [260], [], [261, 262, 263, 264, 265], [266, 267, 268, 269, 270, 271, 272, 273, 274, 243, 243], [], [275, 275, 78, 220, 192], [108, 153, 276, 89, 198, 199, 89], [70], [249], [], [277, 278, 279, 70], [],
  [280, 279, 281, 251, 277, 282, 283], [], [284], [], [285, 286, 287, 285], [288], [], [], [], [], [289, 290, 291, 292, 293, 294], [264],
  [], [292, 296, 295], [272], [298, 298], [194, 195], [299, 299, 299, 300], [], [272, 272, 272], [113, 113], [272, 272], [272, 272, 272, 272], [],
  [118, 203], [251, 70], [41], [], [301, 278], [], [279, 303, 302, 304, 278, 251, 302, 302, 281, 305, 302], [], [306], [307, 284, 284, 254, 307], [284, 284, 254], [308, 310, 309],
  [], [], [312, 311, 313], [312, 314], [315], [316, 294, 318, 295], [320, 209, 321], [322], [297], [325, 326, 242, 327, 328, 329, 231, 330, 331, 332, 333], [272, 272], [300],
  [334, 334, 334], [], [], [70, 281], [302, 278, 251, 281, 335], [278, 336, 278, 337, 278, 338, 339, 302, 302], [310, 310], [340, 341, 284, 254, 341], [310, 309, 342, 343, 78, 306, 344], [], [], [345, 346],
  [347, 348, 349, 350, 321, 321], [351, 352, 41, 36, 314, 88, 353, 354, 356, 355, 358, 357, 356, 314], [131, 132], [312, 314, 36, 13, 12, 12, 360], [317], [209, 361], [319], [362, 363, 364, 360, 365, 366, 366], [], [360], [323, 323, 324], [12, 360],
  [], [242, 326, 367, 328, 368, 231, 366, 367], [369, 242], [370, 233], [229, 118, 371], [327], [326, 242, 242], [372, 261, 326, 373, 327, 373], [290, 374, 261, 209, 321, 327, 373], [312, 314, 312, 351, 375, 233], [272], [279, 278, 277, 302, 281, 305, 302],
  [376, 339, 281, 278, 377, 281, 281, 378], [278, 281, 281], [251, 279, 379, 281], [239, 251, 259, 259, 277], [310, 309], [308, 257, 288, 380, 381], [343, 78], [150, 382], [310, 343, 78], [], [184, 383, 93, 136, 184], [384, 385, 347],
  [118], [386], [], [131, 387, 131, 132], [388], [76], [], [389, 36, 173], [390, 391], [392], [44, 359], [352],
  [43, 366], [], [393, 242], [394, 395, 396, 397, 398, 399, 400, 401, 402, 403], [404], [404, 27], [], [], [242], [], [], [260],
  [], [], [], [405], [279, 279, 377], [406, 278], [278, 251, 281, 282, 279, 281, 335, 283], [251, 279, 281], [310, 309, 284, 407, 284, 257, 340, 407, 340, 257, 340, 408, 340, 409, 340, 409, 340, 410, 340, 411, 228, 412, 413, 344, 414], [310, 344, 344, 414, 415, 416], [417], [],
  [], [208, 321, 328, 418, 231, 419], [420, 314], [], [421, 422, 423], [359, 352, 424, 425], [112, 426], [75], [], [], [], [427, 366, 394],
  [427, 36, 44, 360, 394], [427, 394], [394, 228, 361, 360], [428, 427, 394], [429], [429], [428, 427], [428, 427], [430, 431, 432, 433, 434, 435, 436, 437, 438, 439, 440, 441, 442, 443], [388, 444], [], [254, 256, 255],
  [407, 340, 257, 407, 340, 340, 407, 340, 257], [407, 445], [310, 309, 228, 257, 254, 340, 310, 415, 306, 306, 257, 284, 254, 445], [415, 254, 340, 257, 254, 340, 446, 284, 340, 257, 254], [], [284, 257, 254, 308, 306, 310, 309, 342, 257, 341], [310, 415], [310, 257, 447, 448], [39, 228], [449, 450], [233], [451, 452, 453, 454],
  [455, 456, 457], [], [458, 458, 421], [421], [26, 22, 459], [41, 41, 388, 41, 444, 234, 460], [461, 462, 463, 464, 465, 466, 467, 468, 426, 426], [360], [61], [428, 427, 394], [], [],
  [89, 469, 89, 469], [470, 471, 472, 469, 469], [474, 473], [476, 13, 475, 477, 12, 475], [476, 477, 478, 475], [479, 473], [481, 482, 483, 473], [484, 473], [485, 473], [486, 487, 488], [488, 441], [470, 489, 489, 490, 491, 488, 488, 492, 469, 487, 488],
  [493], [340, 257, 407, 340, 257], [284, 415, 284, 415, 284, 257, 254, 287, 407], [227, 288, 447], [384, 448], [], [], [], [], [494], [495, 496], [],
  [497, 499, 498, 43, 455], [500, 455, 43, 455, 501, 386, 502, 503, 351, 455], [], [173, 212, 50], [], [], [504, 504], [194, 195], [505, 505, 505, 506], [], [], [],
  [], [], [43], [], [471, 471, 498, 475, 43], [507], [13, 475], [470], [470, 507], [36, 508, 44, 36, 475], [36, 36, 26, 21, 509, 212, 24], [480, 475],
  [44, 424, 36, 480, 177], [21, 22, 23, 24], [510, 44, 481], [475], [424, 475, 177, 475], [171, 475], [511], [], [470], [69, 512, 513, 514, 41, 41, 41, 516, 515, 512, 513, 517, 515], [518, 518, 519, 519, 515, 515, 515, 515, 520, 515, 515], [518, 518, 515, 515],
  [518, 519, 521, 521, 520, 522, 523, 524, 525], [], [], [185, 526], [], [39, 131, 132, 41, 527, 528, 500, 131], [529], [531, 530], [43, 532, 43, 532, 89, 533, 534, 320], [535, 455, 386, 314, 209, 535], [388, 536, 537, 444, 538], [388, 444, 538],
  [], [506], [539, 539, 539], [36, 475], [57], [22, 540, 22, 22, 22, 212, 212, 36], [], [541, 542, 543, 541, 541], [70], [544, 545], [518, 515], [519, 546],
  [518], [546, 546, 518], [], [], [546], [547], [548, 549], [98], [550], [551, 41, 41, 41, 41, 41, 130, 131, 221, 221, 221, 132, 131, 132], [552], [239, 259, 70],
  [180], [553, 554, 555], [556, 234], [557], [], [61], [558, 545], [314, 455], [], [], [], [],
  [57, 57, 559], [511], [560, 560, 560, 560, 561, 13], [562, 562, 563, 563, 564], [565, 565, 565, 565, 565, 565, 566], [567, 568, 569, 570], [], [546, 518], [], [547, 517, 546, 518], [140, 141, 142, 143], [571, 572],
  [], [], [573, 574, 554, 575, 554, 576], [70], [577], [], [578], [], [561, 44], [36], [561, 169], [145, 61, 534],
  [], [], [565, 565, 565, 565, 565, 565], [579], [579], [579, 43, 580], [579, 43, 580], [], [], [], [555, 70, 41, 555, 581, 582], [555, 573, 41],
  [582, 582, 582, 582, 582, 582, 582, 582, 583, 584], [], [544], [], [], [555, 585, 586, 239, 587, 259, 588, 585], [], [], [], [], [585, 554, 555, 41, 585], [585, 61, 69, 588, 585],
  [259], [], [], [], [], [], [], [], [], [], [], [],
  [], [], [], [], [], [], [], [], [], [], [], [],
  [], [], [], [], [], [], [], [], [], [], [], [],
  [580, 580]]
theorem tabT_0 : ((dropP 80 Tryz.prog.funcs.toList 0).take 80).map Tryz.prog.leadsTo = (dropP 80 tabT 0).take 80 := by kernel_rfl
theorem tabT_1 : ((dropP 80 Tryz.prog.funcs.toList 1).take 80).map Tryz.prog.leadsTo = (dropP 80 tabT 1).take 80 := by kernel_rfl
theorem tabT_2 : ((dropP 80 Tryz.prog.funcs.toList 2).take 80).map Tryz.prog.leadsTo = (dropP 80 tabT 2).take 80 := by kernel_rfl
theorem tabT_3 : ((dropP 80 Tryz.prog.funcs.toList 3).take 80).map Tryz.prog.leadsTo = (dropP 80 tabT 3).take 80 := by kernel_rfl
theorem tabT_4 : ((dropP 80 Tryz.prog.funcs.toList 4).take 80).map Tryz.prog.leadsTo = (dropP 80 tabT 4).take 80 := by kernel_rfl
theorem tabT_5 : ((dropP 80 Tryz.prog.funcs.toList 5).take 80).map Tryz.prog.leadsTo = (dropP 80 tabT 5).take 80 := by kernel_rfl
theorem tabT_6 : ((dropP 80 Tryz.prog.funcs.toList 6).take 80).map Tryz.prog.leadsTo = (dropP 80 tabT 6).take 80 := by kernel_rfl
theorem tabT_7 : (dropP 80 Tryz.prog.funcs.toList 7).map Tryz.prog.leadsTo = dropP 80 tabT 7 := by kernel_rfl
theorem tabT_all : Tryz.prog.funcs.toList.map Tryz.prog.leadsTo = tabT := map_parts 80 tabT_0 (map_parts 80 tabT_1 (map_parts 80 tabT_2 (map_parts 80 tabT_3 (map_parts 80 tabT_4 (map_parts 80 tabT_5 (map_parts 80 tabT_6 (tabT_7)))))))
def tabG : List (List Nat) := [[], [], [], [], [], [], [], [], [], [], [], [],
  [], [], [], [], [], [], [], [], [], [], [], [],
  [], [], [], [], [], [], [], [], [], [], [], [],
  [], [], [], [], [], [], [], [], [], [], [], [],
  [], [], [], [], [], [], [], [], [], [], [], [],
  [], [], [], [], [], [], [], [], [], [], [], [],
  [], [], [], [], [], [], [], [], [], [], [], [],
  [], [], [], [], [], [], [0, 0, 0], [], [], [], [], [],
  [], [], [], [], [], [], [], [], [], [], [], [],
  [], [], [], [], [], [], [], [], [], [], [], [],
  [], [], [], [], [], [], [], [], [], [], [], [],
  [], [], [], [], [], [], [], [], [], [1], [], [],
  [], [], [], [], [], [], [], [], [], [], [], [],
  [], [], [], [], [], [], [], [], [], [], [], [],
  [], [], [], [], [], [], [], [], [], [], [], [],
  [], [], [], [2, 3], [], [], [], [], [], [], [], [],
  [], [], [], [], [], [], [], [], [], [], [], [],
  [], [], [], [], [], [], [], [], [], [], [], [],
  [], [], [4], [5], [], [], [], [], [], [], [], [],
  [], [], [], [], [], [], [], [], [], [], [], [],
  [], [], [], [], [], [], [], [], [], [], [], [],
  [], [], [], [], [], [], [], [], [], [], [], [],
  [], [], [], [], [], [], [], [], [], [], [], [],
  [], [], [], [], [], [], [], [], [], [], [], [],
  [], [], [], [], [], [], [], [], [], [], [], [],
  [], [], [], [], [], [], [], [], [], [], [], [],
  [], [], [], [], [], [], [], [], [], [], [], [],
  [], [], [], [], [], [], [], [], [], [], [], [],
  [], [], [], [], [], [], [], [6, 6, 6, 6], [], [], [], [],
  [], [], [], [], [], [], [], [], [], [], [], [],
  [], [], [], [], [], [], [], [], [], [], [], [],
  [], [], [], [], [], [], [], [], [], [], [7], [],
  [], [], [], [], [], [], [], [], [], [], [], [],
  [], [], [], [], [], [], [], [], [], [], [], [],
  [], [], [], [], [], [], [], [], [], [], [], [],
  [], [], [], [], [], [], [], [], [], [], [], [],
  [], [], [], [], [], [], [], [], [], [], [], [],
  [], [], [], [], [], [], [], [], [], [], [], [],
  [], [], [], [], [], [], [], [], [], [], [], [],
  [], [], [], [], [], [], [], [], [], [], [], [],
  [], [], [], [], [], [], [], [], [], [], [], [],
  [], [], [], [], [], [], [], [], [], [], [], [],
  [], [], [], [], [], [], [], [], [], [], [], [],
  [], [], [], [], [], [], [], [], [], [], [], [],
  [], [], [], [], [], [], [], [], [], [], [], [],
  [], [], [], [], [], [], [], [], [], [], [], [],
  [2, 3], [], [], [], [], [], [], [], [], [], [], [],
  [], [], [], [9], [10], [], [], [], [], [], [], [],
  [], [], [], [], [], [], [], [], [], [], [], [],
  [], [], [], [], [], [], [], [], [], [], [], [],
  [], [], [], [], [], [], [], [], [], [], [], [],
  [], [], [], [], [], [], [], [], [], [], [], [],
  [4, 5, 1, 3, 10, 9, 11, 11, 7, 6]]
theorem tabG_0 : ((dropP 80 Tryz.prog.funcs.toList 0).take 80).map globsAt = (dropP 80 tabG 0).take 80 := by kernel_rfl
theorem tabG_1 : ((dropP 80 Tryz.prog.funcs.toList 1).take 80).map globsAt = (dropP 80 tabG 1).take 80 := by kernel_rfl
theorem tabG_2 : ((dropP 80 Tryz.prog.funcs.toList 2).take 80).map globsAt = (dropP 80 tabG 2).take 80 := by kernel_rfl
theorem tabG_3 : ((dropP 80 Tryz.prog.funcs.toList 3).take 80).map globsAt = (dropP 80 tabG 3).take 80 := by kernel_rfl
theorem tabG_4 : ((dropP 80 Tryz.prog.funcs.toList 4).take 80).map globsAt = (dropP 80 tabG 4).take 80 := by kernel_rfl
theorem tabG_5 : ((dropP 80 Tryz.prog.funcs.toList 5).take 80).map globsAt = (dropP 80 tabG 5).take 80 := by kernel_rfl
theorem tabG_6 : ((dropP 80 Tryz.prog.funcs.toList 6).take 80).map globsAt = (dropP 80 tabG 6).take 80 := by kernel_rfl
theorem tabG_7 : (dropP 80 Tryz.prog.funcs.toList 7).map globsAt = dropP 80 tabG 7 := by kernel_rfl
theorem tabG_all : Tryz.prog.funcs.toList.map globsAt = tabG := map_parts 80 tabG_0 (map_parts 80 tabG_1 (map_parts 80 tabG_2 (map_parts 80 tabG_3 (map_parts 80 tabG_4 (map_parts 80 tabG_5 (map_parts 80 tabG_6 (tabG_7)))))))
def tabN : List Bool := [true, true, false, false, false, false, false, false, false, false, false, false,
  false, false, false, false, false, false, false, false, false, false, false, false,
  false, false, false, false, false, false, false, false, false, false, false, false,
  false, false, false, false, false, false, false, false, false, false, false, false,
  false, false, false, false, false, false, false, false, false, false, false, false,
  false, false, false, false, false, false, false, false, false, false, false, false,
  false, false, false, false, false, false, false, false, false, false, false, false,
  false, false, false, false, false, false, false, false, false, false, false, false,
  false, false, false, false, false, false, false, false, false, false, false, false,
  false, false, false, false, false, false, false, false, false, false, false, false,
  false, false, false, false, false, false, false, false, false, false, false, false,
  false, true, false, false, false, false, false, false, false, false, false, false,
  false, false, false, false, false, true, false, false, false, false, false, false,
  false, false, false, false, false, false, false, false, false, false, false, false,
  false, false, false, false, false, false, false, false, false, false, false, false,
  false, false, false, false, false, false, false, false, false, false, false, false,
  false, false, false, false, false, false, false, false, false, false, false, false,
  false, false, false, false, false, false, false, false, false, false, true, true,
  true, false, false, false, false, false, false, false, false, false, false, false,
  false, false, false, false, false, false, false, false, false, false, false, false,
  false, false, false, false, false, false, false, false, false, false, false, false,
  false, false, false, false, false, false, false, false, true, false, false, false,
  false, false, false, false, false, false, false, false, false, false, false, false,
  false, false, false, false, false, false, false, false, false, false, false, false,
  false, false, false, false, false, false, false, false, false, false, false, false,
  false, false, false, false, false, false, false, false, false, false, false, false,
  false, false, false, false, false, false, false, false, false, false, false, false,
  false, false, false, false, false, false, false, false, false, false, false, false,
  false, false, false, false, false, false, false, false, false, false, false, false,
  false, false, false, false, false, false, false, false, false, false, false, false,
  false, false, false, false, false, false, false, false, false, false, false, false,
  false, false, false, false, false, false, false, false, false, false, false, false,
  false, false, false, false, false, false, false, false, false, false, false, false,
  false, false, false, false, false, false, false, false, false, false, false, false,
  false, false, false, false, false, false, false, false, false, false, false, false,
  false, false, false, false, false, false, false, false, false, false, false, false,
  false, false, false, false, false, false, false, false, false, false, false, false,
  false, false, false, false, false, false, false, false, false, false, false, false,
  false, false, false, false, false, false, false, false, false, false, false, false,
  false, false, false, false, false, false, false, false, false, false, false, false,
  false, false, false, false, false, false, false, false, false, false, false, false,
  false, false, false, false, false, false, false, false, false, false, false, false,
  false, false, false, false, false, false, false, false, false, false, false, false,
  false, false, true, false, false, false, false, false, false, false, false, false,
  false, false, false, false, false, false, false, false, false, false, false, false,
  false, false, false, false, false, false, true, false, true, false, false, false,
  false, false, false, false, false, false, false, false, false, false, false, false,
  false, false, false, false, false, false, false, false, false, false, false, false,
  false, false, false, false, false, false, false, false, false, false, false, false,
  false, true, true, true, true, true, true, true, true, true, true, true,
  true, true, true, true, true, true, true, true, true, true, true, true,
  true, true, true, true, true, true, true, true, true, true, true, true,
  false]
theorem tabN_0 : ((dropP 80 Tryz.prog.funcs.toList 0).take 80).map flagAt = (dropP 80 tabN 0).take 80 := by kernel_rfl
theorem tabN_1 : ((dropP 80 Tryz.prog.funcs.toList 1).take 80).map flagAt = (dropP 80 tabN 1).take 80 := by kernel_rfl
theorem tabN_2 : ((dropP 80 Tryz.prog.funcs.toList 2).take 80).map flagAt = (dropP 80 tabN 2).take 80 := by kernel_rfl
theorem tabN_3 : ((dropP 80 Tryz.prog.funcs.toList 3).take 80).map flagAt = (dropP 80 tabN 3).take 80 := by kernel_rfl
theorem tabN_4 : ((dropP 80 Tryz.prog.funcs.toList 4).take 80).map flagAt = (dropP 80 tabN 4).take 80 := by kernel_rfl
theorem tabN_5 : ((dropP 80 Tryz.prog.funcs.toList 5).take 80).map flagAt = (dropP 80 tabN 5).take 80 := by kernel_rfl
theorem tabN_6 : ((dropP 80 Tryz.prog.funcs.toList 6).take 80).map flagAt = (dropP 80 tabN 6).take 80 := by kernel_rfl
theorem tabN_7 : (dropP 80 Tryz.prog.funcs.toList 7).map flagAt = dropP 80 tabN 7 := by kernel_rfl
theorem tabN_all : Tryz.prog.funcs.toList.map flagAt = tabN := map_parts 80 tabN_0 (map_parts 80 tabN_1 (map_parts 80 tabN_2 (map_parts 80 tabN_3 (map_parts 80 tabN_4 (map_parts 80 tabN_5 (map_parts 80 tabN_6 (tabN_7)))))))
def tabE : List Bool := [true, true, false, false, false, false, false, false, false, false, false, false,
  false, false, false, false, false, false, false, false, false, false, false, false,
  false, false, false, false, false, false, false, false, false, false, false, false,
  false, false, false, false, false, false, false, false, false, false, false, false,
  false, false, false, false, false, false, false, false, false, false, false, false,
  false, false, false, false, false, false, false, false, false, false, false, false,
  false, false, false, false, false, false, false, false, false, false, false, false,
  false, false, false, false, false, false, false, false, false, false, false, false,
  false, false, false, false, false, false, false, false, false, false, false, false,
  false, false, false, false, false, false, false, false, false, false, false, false,
  false, false, false, false, false, false, false, false, false, false, false, false,
  false, true, false, false, false, false, false, false, false, false, false, false,
  false, false, false, false, false, true, false, false, false, false, false, false,
  false, false, false, false, false, false, false, false, false, false, false, false,
  false, false, false, false, false, false, false, false, false, false, false, false,
  false, false, false, false, false, false, false, false, false, false, false, false,
  false, false, false, false, false, false, false, false, false, false, false, false,
  false, false, false, false, false, false, false, false, false, false, true, true,
  true, false, false, false, false, false, false, false, false, false, false, false,
  false, false, false, false, false, false, false, false, false, false, false, false,
  false, false, false, false, false, false, false, false, false, false, false, false,
  false, false, false, false, false, false, false, false, true, false, false, false,
  false, false, false, false, false, false, false, false, false, false, false, false,
  false, false, false, false, false, false, false, false, false, false, false, false,
  false, false, false, false, false, false, false, false, false, false, false, false,
  false, false, false, false, false, false, false, false, false, false, false, false,
  false, false, false, false, false, false, false, false, false, false, false, false,
  false, false, false, false, false, false, false, false, false, false, false, false,
  false, false, false, false, false, false, false, false, false, false, false, false,
  false, false, false, false, false, false, false, false, false, false, false, false,
  false, false, false, false, false, false, false, false, false, false, false, false,
  false, false, false, false, false, false, false, false, false, false, false, false,
  false, false, false, false, false, false, false, false, false, false, false, false,
  false, false, false, false, false, false, false, false, false, false, false, false,
  false, false, false, false, false, false, false, false, false, false, false, false,
  false, false, false, false, false, false, false, false, false, false, false, false,
  false, false, false, false, false, false, false, false, false, false, false, false,
  false, false, false, false, false, false, false, false, false, false, false, false,
  false, false, false, false, false, false, false, false, false, false, false, false,
  false, false, false, false, false, false, false, false, false, false, false, false,
  false, false, false, false, false, false, false, false, false, false, false, false,
  false, false, false, false, false, false, false, false, false, false, false, false,
  false, false, false, false, false, false, false, false, false, false, false, false,
  false, false, true, false, false, false, false, false, false, false, false, false,
  false, false, false, false, false, false, false, false, false, false, false, false,
  false, false, false, false, false, false, true, false, true, false, false, false,
  false, false, false, false, false, false, false, false, false, false, false, false,
  false, false, false, false, false, false, false, false, false, false, false, false,
  false, false, false, false, false, false, false, false, false, false, false, false,
  false, true, true, true, true, true, true, true, true, true, true, true,
  true, true, true, true, true, true, true, true, true, true, true, true,
  true, true, true, true, true, true, true, true, true, true, true, true,
  false]
theorem tabE_0 : ((dropP 80 Tryz.prog.funcs.toList 0).take 80).map bareAt = (dropP 80 tabE 0).take 80 := by kernel_rfl
theorem tabE_1 : ((dropP 80 Tryz.prog.funcs.toList 1).take 80).map bareAt = (dropP 80 tabE 1).take 80 := by kernel_rfl
theorem tabE_2 : ((dropP 80 Tryz.prog.funcs.toList 2).take 80).map bareAt = (dropP 80 tabE 2).take 80 := by kernel_rfl
theorem tabE_3 : ((dropP 80 Tryz.prog.funcs.toList 3).take 80).map bareAt = (dropP 80 tabE 3).take 80 := by kernel_rfl
theorem tabE_4 : ((dropP 80 Tryz.prog.funcs.toList 4).take 80).map bareAt = (dropP 80 tabE 4).take 80 := by kernel_rfl
theorem tabE_5 : ((dropP 80 Tryz.prog.funcs.toList 5).take 80).map bareAt = (dropP 80 tabE 5).take 80 := by kernel_rfl
theorem tabE_6 : ((dropP 80 Tryz.prog.funcs.toList 6).take 80).map bareAt = (dropP 80 tabE 6).take 80 := by kernel_rfl
theorem tabE_7 : (dropP 80 Tryz.prog.funcs.toList 7).map bareAt = dropP 80 tabE 7 := by kernel_rfl
theorem tabE_all : Tryz.prog.funcs.toList.map bareAt = tabE := map_parts 80 tabE_0 (map_parts 80 tabE_1 (map_parts 80 tabE_2 (map_parts 80 tabE_3 (map_parts 80 tabE_4 (map_parts 80 tabE_5 (map_parts 80 tabE_6 (tabE_7)))))))
theorem laidOut_ok : (laidOutB Tryz.pinned.checked.prog) = true := by kernel_rfl
theorem mapsRowed_ok : (mapsRowed Tryz.pinned.checked.prog) = true := by kernel_rfl
theorem stopsHeard_ok : (Tryz.pinned.checked.prog.stopsHeard) = true := by kernel_rfl
theorem mayEnter_ok : (Tryz.pinned.checked.prog.mayEnter) = true := by kernel_rfl
theorem own : ownKnob Tryz.prog.godebug = none := by kernel_rfl
theorem follows : Tryz.prog.follows .mixedOrders = true := by kernel_rfl
theorem names : Tryz.prog.funcs.toList.all (fun fn => !(fn.name == "runtime.NumGoroutine")) = true := by kernel_rfl
theorem nameOK : NameOK Tryz.prog := by
  intro f fn c hf _
  have h := List.all_eq_true.1 names fn (by
    rw [Array.mem_toList_iff]
    exact Array.mem_of_getElem? hf)
  simpa using h
end
end Go.Proofs.YtepcbpcbmkikeaaGreatDoor
