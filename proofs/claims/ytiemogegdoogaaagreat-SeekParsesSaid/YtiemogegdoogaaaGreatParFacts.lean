/- Facts of the program that the law seekParses needs. No condition. -/
import Derived.Test.YtiemogegdoogaaaGreatProg
import Derived.WalkKit
import Derived.ProofKit
import Derived.OpenShut
import Derived.ShutString
import Derived.ChangeOld
import Derived.Below
import Derived.JoinedOf
import Derived.KernelRfl
namespace Go.Proofs.YtiemogegdoogaaaGreat.seekParses
open Go.ChangeShapes Go.WideShapes Go.ChangeAt Go.RowKit
set_option linter.unusedVariables false
theorem own : ownKnob Tryz.prog.godebug = none := by kernel_rfl
theorem rows_add (p : Nat → Bool) (a b : Nat) (h : (List.range a).all p = true) (k : (List.range' a b).all p = true) : (List.range (a + b)).all p = true := by
  rw [List.range_eq_range', ← List.range'_append_1, List.all_append, ← List.range_eq_range', h, Nat.zero_add, k]; rfl
theorem rows0 : (List.range 150).all (rowFine Tryz.prog) = true := by kernel_rfl
theorem rows1a : (List.range' (150) 150).all (rowFine Tryz.prog) = true := by kernel_rfl
theorem rows1 : (List.range (150 + 150)).all (rowFine Tryz.prog) = true := rows_add _ _ _ rows0 rows1a
theorem rows2a : (List.range' (300) 150).all (rowFine Tryz.prog) = true := by kernel_rfl
theorem rows2 : (List.range (150 + 150 + 150)).all (rowFine Tryz.prog) = true := rows_add _ _ _ rows1 rows2a
theorem rows3a : (List.range' (450) 150).all (rowFine Tryz.prog) = true := by kernel_rfl
theorem rows3 : (List.range (150 + 150 + 150 + 150)).all (rowFine Tryz.prog) = true := rows_add _ _ _ rows2 rows3a
theorem rows4a : (List.range' (600) 150).all (rowFine Tryz.prog) = true := by kernel_rfl
theorem rows4 : (List.range (150 + 150 + 150 + 150 + 150)).all (rowFine Tryz.prog) = true := rows_add _ _ _ rows3 rows4a
theorem rows5a : (List.range' (750) 38).all (rowFine Tryz.prog) = true := by kernel_rfl
theorem rows5 : (List.range (150 + 150 + 150 + 150 + 150 + 38)).all (rowFine Tryz.prog) = true := rows_add _ _ _ rows4 rows5a
theorem varsFine : (Tryz.prog.globals.all fun g => decide (g.type < Tryz.prog.types.size)) = true := by kernel_rfl
theorem paramsFine : (Tryz.prog.funcs.all fun f => f.params.all fun t => decide (t < Tryz.prog.types.size)) = true := by kernel_rfl
theorem sizeIs : Tryz.prog.types.size = 150 + 150 + 150 + 150 + 150 + 38 := by kernel_rfl
theorem laidOut : laidOutB Tryz.prog = true := by
  unfold laidOutB
  rw [varsFine, paramsFine, sizeIs, rows5]
  rfl
/-- the functions that the law reaches -/
def reached : List Nat := [
  3, 4, 9, 21, 53, 22, 23, 24, 34, 54, 84, 25, 26, 55, 85, 86, 121, 153, 123, 122, 154, 120, 87, 28, 56, 27, 5, 15, 16, 39, 40, 42, 77, 78, 114, 46, 113, 
  149, 79, 115, 76, 112, 41, 43, 45, 73, 104, 80, 44, 48, 82, 83, 118, 119, 152, 151, 170, 117, 150, 81, 116, 47, 10, 29, 57, 88, 89, 30, 33, 61, 95, 66, 
  96, 128, 158, 62, 97, 98, 99, 130, 129, 159, 175, 63, 100, 65, 64, 101, 58, 90, 59, 91, 35, 67, 68, 93, 92, 124, 155, 125, 126, 156, 172, 197, 239, 
  292, 381, 460, 465, 394, 464, 525, 528, 565, 566, 595, 615, 616, 626, 299, 614, 617, 618, 627, 596, 594, 567, 598, 619, 620, 597, 599, 524, 240, 293, 
  382, 385, 466, 529, 461, 462, 294, 463, 526, 527, 314, 402, 403, 383, 384, 241, 295, 386, 467, 388, 468, 530, 568, 343, 423, 490, 492, 493, 491, 425, 
  494, 346, 427, 496, 497, 498, 395, 472, 539, 579, 540, 471, 531, 303, 569, 305, 532, 570, 307, 296, 387, 469, 533, 571, 600, 601, 392, 342, 424, 574, 
  575, 602, 573, 572, 298, 535, 536, 537, 576, 577, 393, 603, 345, 604, 538, 578, 605, 621, 628, 630, 631, 638, 632, 639, 640, 633, 641, 642, 643, 634, 
  635, 636, 637, 622, 606, 534, 470, 297, 389, 391, 236, 230, 278, 280, 279, 358, 435, 231, 436, 359, 360, 285, 284, 390, 198, 242, 243, 301, 300, 171, 
  142, 195, 229, 277, 357, 232, 196, 233, 234, 235, 281, 361, 282, 283, 362, 437, 363, 364, 365, 438, 237, 286, 366, 367, 439, 180, 210, 440, 499, 247, 
  368, 442, 441, 500, 369, 443, 370, 444, 445, 502, 501, 503, 550, 586, 585, 609, 505, 551, 504, 553, 552, 587, 610, 611, 623, 629, 507, 508, 506, 371, 
  446, 447, 509, 410, 510, 554, 588, 589, 612, 624, 480, 555, 590, 322, 511, 379, 458, 459, 380, 418, 448, 512, 405, 513, 556, 407, 408, 477, 516, 515, 
  514, 449, 517, 250, 518, 544, 583, 584, 312, 519, 557, 591, 558, 592, 521, 559, 560, 561, 562, 563, 564, 334, 417, 486, 542, 593, 263, 338, 419, 487, 
  548, 549, 420, 339, 613, 625, 377, 341, 457, 378, 428, 266, 287, 288, 238, 187, 219, 289, 267, 344, 426, 495, 347, 372, 373, 450, 271, 451, 351, 352, 
  429, 273, 189, 188, 220, 290, 374, 261, 323, 326, 414, 483, 547, 484, 485, 324, 452, 520, 375, 262, 325, 327, 329, 415, 328, 330, 416, 331, 332, 311, 
  398, 399, 473, 541, 488, 350, 422, 489, 474, 475, 476, 400, 333, 335, 336, 337, 453, 454, 523, 522, 455, 222, 291, 376, 456, 144, 157, 173, 199, 200, 
  202, 203, 244, 302, 245, 205, 204, 246, 304, 306, 201, 174, 127, 94, 11, 31, 60, 32, 12, 36, 37, 69, 102, 38, 70, 71, 72, 103, 74, 106, 131, 132, 133, 
  134, 135, 105, 107, 136, 160, 109, 137, 138, 161, 108, 110, 139, 162, 140, 141, 163, 143, 145, 164, 146, 165, 176, 206, 207, 177, 147, 166, 179, 178, 
  208, 167, 181, 182, 209, 211, 183, 213, 212, 184, 185, 214, 249, 248, 216, 217, 251, 252, 309, 308, 253, 254, 310, 397, 396, 255, 313, 223, 264, 340, 
  421, 401, 270, 256, 257, 315, 404, 215, 218, 258, 259, 317, 316, 406, 409, 478, 260, 318, 320, 321, 413, 482, 481, 546, 319, 411, 412, 479, 543, 545, 
  580, 607, 582, 581, 608, 186, 168, 190, 221, 191, 224, 265, 268, 348, 269, 349, 225, 272, 169, 192, 227, 226, 274, 353, 354, 430, 431, 355, 228, 275, 
  276, 356, 432, 434, 433, 193, 194, 148, 111, 75, 14, 13, 6, 7, 17, 18, 49, 50, 19, 51, 20, 52, 8]
theorem rowed : mapsRowed Tryz.prog = true := by kernel_rfl
theorem clo : Tryz.prog.closure 3 = reached := by kernel_rfl
theorem heard : Tryz.prog.stopsHeard = true := by kernel_rfl
theorem mayEnter : Tryz.prog.mayEnter = true := by kernel_rfl
end Go.Proofs.YtiemogegdoogaaaGreat.seekParses
