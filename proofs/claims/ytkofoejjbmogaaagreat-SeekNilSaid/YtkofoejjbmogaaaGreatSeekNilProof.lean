/- The law seekNil of the given program holds at every input: it returns true and its arguments read as before. No condition. -/
import Derived.Test.YtkofoejjbmogaaaGreatRows
import Derived.Test.YtkofoejjbmogaaaGreatSeekNilWalk
import Derived.WalkKit
import Derived.ProofKit
import Derived.OpenShut
import Derived.ShutString
import Derived.Below
import Derived.ChangeOld
namespace Go.Proofs.YtkofoejjbmogaaaGreat.seekNil
open Go.ChangeShapes Go.WideShapes Go.ChangeAt Go.RowKit
open Go.ChangeMaps (open_string shut_string)
set_option linter.unusedVariables false      -- a walk need not use every 'w<i>' (that an integer argument fits its kind)

theorem own : ownKnob Tryz.prog.godebug = none := by kernel_rfl

/-! ### STEP 1: THE WALK: the Go text returns true. 'Below w.heap.size w w'': the world has at most new blocks (Derived/RowKit3.lean). Part the cases AHEAD of 'go_enter' where a test parts the walk; take each callee by a contract of your own. -/
theorem walk (a0 : Int) (a1 : Int) (w0 : (Lit.int .i64 a0).wf = true) (w1 : (Lit.int .i64 a1).wf = true) (w : World) :
    Calls Tryz.prog 3 #[.int .i64 a0, .int .i64 a1] w fun e w' => e = .returned (.bool true) ∧ Below w.heap.size w w' := by
  exact seekNil_walk a0 a1 w0 w1 w

/-! ### THE ROW's STEP: WRITTEN OUT: LEAVE IT -/
set_option maxRecDepth 100000 in
theorem lifted (os : Os) (started : os.Started) (H : Type) (enc : TypeId × Value → H) :
    ReturnsInHanded {} Tryz.checked os 3 .any (Rows.seekNilSpec.pre6 enc Tryz.prog Tryz.f3 Rows.seekNilRow.domain false) (Rows.seekNilSpec.post enc Tryz.prog Tryz.f3 false true false false) := by
  refine returnsInHanded_of_change (C := Tryz.checked) own started (by kernel_rfl) Tryz.func3
    (ChangeSpec.witness6 (enc := enc) (C := Tryz.checked) false ⟨#[], #[.int .i64 0, .int .i64 0], []⟩ 8 (by kernel_rfl) (by kernel_rfl) (by kernel_rfl) (by kernel_rfl)) ?_
  intro W base args ds gs before hval0 hW hcnd _
  have hval : ∀ (j : Nat) t v, Tryz.f3.params[j]? = some t → args[j]? = some v → Value.okWide Tryz.prog W .any base t v := hval0
  have hW' := hW
  obtain ⟨p, q, hA0, hV, rfl, hfz, hnd⟩ := hW
  have hA : DataW.TrodAll enc Tryz.prog W 0 (fun _ => true) true Tryz.f3.params.toList args.toList ds p := hA0
  rw [Tryz.params3] at hA hval
  obtain ⟨v0, vs0, d0, ds0, p0, q0, hargs, rfl, rfl, h0, r0⟩ := trodAll_cons hA
  obtain ⟨v1, vs1, d1, ds1, p1, q1, rfl, rfl, rfl, h1, r1⟩ := trodAll_cons r0
  obtain ⟨rfl, rfl, rfl⟩ := trodAll_nil r1
  obtain rfl : args = #[v0, v1] := by cases args; simp_all
  obtain ⟨rfl, rfl⟩ := trodVars_none hV
  obtain ⟨a0, rfl, rfl, rfl, w0⟩ := open_int Tryz.underlying3 (hval 0 3 v0 rfl rfl) h0
  obtain ⟨a1, rfl, rfl, rfl, w1⟩ := open_int Tryz.underlying3 (hval 1 3 v1 rfl rfl) h1
  clear hA0 hval0
  refine (walk a0 a1 w0 w1 W).mono fun e W' ⟨he, bel⟩ => ?_
  subst he
  exact ⟨_, rfl, _, _, _, [], _, [], hW', trodAll_mk1 (shut_bool Tryz.underlying4 _), (trodAll_cons_mk (shut_int Tryz.underlying3 w0) (trodAll_cons_mk (shut_int Tryz.underlying3 w1) trodAll_mk0)), rfl, bel.frame _, fun h => by cases h⟩

theorem rows_add (p : Nat → Bool) (a b : Nat) (h : (List.range a).all p = true) (k : (List.range' a b).all p = true) : (List.range (a + b)).all p = true := by
  rw [List.range_eq_range', ← List.range'_append_1, List.all_append, ← List.range_eq_range', h, Nat.zero_add, k]; rfl
theorem rows0 : (List.range 150).all (rowFine Tryz.prog) = true := by kernel_rfl
theorem rows1a : (List.range' (150) 150).all (rowFine Tryz.prog) = true := by kernel_rfl
theorem rows1 : (List.range (150 + 150)).all (rowFine Tryz.prog) = true := rows_add _ _ _ rows0 rows1a
theorem rows2a : (List.range' (300) 150).all (rowFine Tryz.prog) = true := by kernel_rfl
theorem rows2 : (List.range (150 + 150 + 150)).all (rowFine Tryz.prog) = true := rows_add _ _ _ rows1 rows2a
theorem rows3a : (List.range' (450) 150).all (rowFine Tryz.prog) = true := by kernel_rfl
theorem rows3 : (List.range (150 + 150 + 150 + 150)).all (rowFine Tryz.prog) = true := rows_add _ _ _ rows2 rows3a
theorem rows4a : (List.range' (600) 150).all (rowFine Tryz.prog) = true := by kernel_rfl
theorem rows4 : (List.range (150 + 150 + 150 + 150 + 150)).all (rowFine Tryz.prog) = true := rows_add _ _ _ rows3 rows4a
theorem rows5a : (List.range' (750) 28).all (rowFine Tryz.prog) = true := by kernel_rfl
theorem rows5 : (List.range (150 + 150 + 150 + 150 + 150 + 28)).all (rowFine Tryz.prog) = true := rows_add _ _ _ rows4 rows5a
theorem varsFine : (Tryz.prog.globals.all fun g => decide (g.type < Tryz.prog.types.size)) = true := by kernel_rfl
theorem paramsFine : (Tryz.prog.funcs.all fun f => f.params.all fun t => decide (t < Tryz.prog.types.size)) = true := by kernel_rfl
theorem sizeIs : Tryz.prog.types.size = 150 + 150 + 150 + 150 + 150 + 28 := by kernel_rfl
theorem laidOut : laidOutB Tryz.prog = true := by
  unfold laidOutB
  rw [varsFine, paramsFine, sizeIs, rows5]
  rfl
/-- the functions that the law reaches -/
def reached : List Nat := [
  3, 4, 11, 12, 37, 69, 9, 22, 43, 23, 24, 44, 74, 75, 76, 124, 152, 45, 77, 78, 79, 126, 125, 153, 179, 46, 80, 48, 47, 81, 25, 26, 39, 27, 29, 50, 62, 
  28, 49, 30, 52, 63, 110, 109, 143, 82, 83, 128, 127, 154, 84, 85, 86, 60, 107, 108, 142, 106, 141, 87, 88, 130, 129, 155, 89, 51, 53, 90, 131, 54, 91, 
  92, 57, 56, 93, 94, 132, 55, 58, 95, 133, 96, 98, 97, 134, 99, 100, 101, 102, 135, 103, 136, 156, 180, 181, 157, 104, 137, 159, 158, 182, 138, 161, 
  160, 162, 183, 206, 184, 185, 163, 187, 186, 164, 165, 188, 208, 207, 190, 191, 210, 209, 211, 241, 116, 145, 144, 175, 240, 244, 212, 213, 242, 301, 
  300, 214, 243, 302, 303, 357, 415, 373, 282, 326, 374, 358, 359, 416, 246, 306, 307, 360, 304, 245, 270, 323, 372, 424, 425, 324, 197, 223, 272, 325, 
  305, 229, 215, 216, 247, 308, 189, 192, 217, 113, 218, 249, 248, 309, 310, 311, 312, 361, 313, 362, 219, 250, 252, 253, 317, 366, 365, 420, 254, 251, 
  315, 314, 316, 363, 417, 418, 467, 468, 419, 464, 505, 550, 551, 581, 602, 506, 466, 465, 507, 364, 166, 139, 167, 193, 169, 168, 194, 170, 195, 220, 
  255, 258, 318, 367, 421, 368, 369, 256, 221, 257, 259, 261, 319, 260, 262, 320, 263, 264, 265, 266, 321, 370, 422, 423, 371, 322, 267, 268, 269, 171, 
  196, 222, 271, 198, 225, 273, 224, 226, 274, 327, 375, 377, 378, 376, 328, 379, 275, 329, 276, 330, 380, 277, 331, 381, 382, 383, 278, 279, 227, 280, 
  332, 228, 281, 199, 231, 230, 232, 203, 283, 284, 333, 140, 172, 201, 200, 233, 285, 286, 334, 335, 287, 202, 234, 235, 288, 336, 338, 337, 173, 174, 
  105, 59, 61, 41, 71, 72, 121, 150, 123, 122, 151, 120, 73, 32, 31, 5, 6, 13, 7, 8, 14, 38, 15, 16, 17, 40, 70, 18, 19, 21, 42, 20, 10, 33, 64, 65, 111, 
  112, 114, 115, 34, 66, 117, 146, 67, 118, 147, 119, 148, 149, 176, 177, 204, 237, 291, 349, 399, 449, 492, 497, 462, 496, 534, 537, 566, 567, 590, 608, 
  609, 618, 406, 607, 610, 611, 619, 591, 589, 568, 593, 612, 613, 592, 594, 533, 350, 400, 450, 453, 498, 538, 493, 494, 401, 495, 535, 536, 451, 452, 
  351, 402, 454, 499, 456, 500, 539, 569, 463, 504, 548, 580, 549, 503, 540, 410, 570, 412, 541, 571, 414, 403, 455, 501, 542, 572, 595, 596, 460, 575, 
  576, 597, 574, 573, 405, 544, 545, 546, 577, 578, 461, 598, 599, 547, 579, 600, 614, 620, 622, 623, 630, 624, 631, 632, 625, 633, 634, 635, 626, 627, 
  628, 629, 615, 601, 543, 502, 404, 457, 459, 346, 340, 385, 387, 386, 427, 469, 341, 470, 428, 429, 392, 391, 458, 292, 352, 353, 408, 407, 236, 289, 
  339, 384, 426, 342, 290, 343, 344, 345, 388, 430, 389, 390, 431, 471, 432, 433, 434, 472, 347, 393, 435, 436, 473, 474, 508, 437, 476, 475, 509, 438, 
  477, 439, 478, 479, 511, 510, 512, 552, 583, 582, 603, 514, 553, 513, 555, 554, 584, 604, 605, 616, 621, 516, 517, 515, 440, 480, 481, 518, 519, 556, 
  585, 520, 448, 482, 521, 522, 557, 525, 524, 523, 483, 526, 527, 528, 558, 586, 559, 587, 530, 560, 561, 562, 563, 564, 565, 588, 606, 617, 446, 491, 
  447, 394, 395, 348, 396, 441, 442, 484, 485, 397, 443, 486, 529, 444, 487, 488, 532, 531, 489, 398, 445, 490, 205, 238, 293, 294, 296, 297, 354, 409, 
  355, 299, 298, 356, 411, 413, 295, 239, 178, 35, 68, 36]
theorem rowed : mapsRowed Tryz.prog = true := by kernel_rfl
theorem clo : Tryz.prog.closure 3 = reached := by kernel_rfl
theorem inPlace : Tryz.prog.inPlace 3 = Rows.seekNilRow.inPlace := by unfold Program.inPlace; rw [clo]; kernel_rfl
theorem unfollowed : Tryz.prog.unfollowed 3 = Rows.seekNilRow.unfollowed := by unfold Program.unfollowed; rw [clo]; kernel_rfl
theorem recurses : Tryz.prog.recurses 3 = Rows.seekNilRow.recurses := by unfold Program.recurses; rw [unfollowed]; rfl
theorem names : Tryz.prog.varsNamed 3 = Rows.seekNilRow.named := by unfold Program.varsNamed; rw [clo]; kernel_rfl
theorem plainKeys : Tryz.prog.plainKeys = Rows.seekNilRow.plainKeys := by kernel_rfl
theorem heard : Tryz.prog.stopsHeard = true := by kernel_rfl
theorem mayEnter : Tryz.prog.mayEnter = true := by kernel_rfl
theorem lifts : Tryz.prog.liftsFinal = Rows.seekNilRow.lifted := by kernel_rfl
theorem make : Tryz.prog.make = some Rows.seekNilRow.make := by kernel_rfl
theorem closed : joinedFacts Tryz.prog 3 Tryz.f3 Rows.seekNilSpec Rows.seekNilRow = true := by
  unfold joinedFacts
  rw [laidOut, rowed, inPlace, unfollowed, recurses, names, plainKeys, heard, mayEnter, lifts, make]
  kernel_rfl
theorem named : Tryz.prog.funcNamed Rows.seekNilRow.func = some 3 := by kernel_rfl
theorem inst : Tryz.f3.isInstance Tryz.prog Rows.seekNilRow.origin Rows.seekNilRow.targs := of_decide_eq_true (by kernel_rfl)
theorem wrap : Tryz.f3.isWrapper Tryz.prog Rows.seekNilRow.wrapper Rows.seekNilRow.mainSum := by unfold Func.isWrapper; first | (rw [if_pos (by decide +kernel)]; kernel_rfl) | (rw [if_neg (by decide +kernel)]; exact ⟨rfl, rfl⟩)

theorem over : Rows.seekNilRow.holds Tryz.pinned (OpenSpec.ofChange Rows.seekNilSpec) :=
  OpenClaim.holds_of_wide 3 Tryz.f3 rfl rfl rfl rfl rfl rfl rfl ⟨rfl, rfl, rfl, rfl, rfl⟩ rfl rfl rfl rfl rfl named Tryz.func3 closed inst wrap
    (fun os started H enc _ => lifted os started H enc)

/-- ████ THE STATEMENT ████ -/
theorem proved : Rows.SeekNilSaid :=
  over
#print axioms proved
end Go.Proofs.YtkofoejjbmogaaaGreat.seekNil
