/- The law seekTables of the given program holds at every input: it returns true and its arguments read as before. No condition. -/
import Derived.Test.YtempojknmnmffaaGreatRows
import Derived.Test.YtempojknmnmffaaGreatTabWalk
import Derived.WalkKit
import Derived.ProofKit
import Derived.OpenShut
import Derived.ShutString
import Derived.ChangeOld
import Derived.Below
namespace Go.Proofs.YtempojknmnmffaaGreat.seekTables
open Go.ChangeShapes Go.WideShapes Go.ChangeAt Go.RowKit
open Go.ChangeMaps (open_string shut_string)
set_option linter.unusedVariables false

theorem own : ownKnob Tryz.prog.godebug = none := by kernel_rfl
theorem rows_add (p : Nat → Bool) (a b : Nat) (h : (List.range a).all p = true) (k : (List.range' a b).all p = true) : (List.range (a + b)).all p = true := by
  rw [List.range_eq_range', ← List.range'_append_1, List.all_append, ← List.range_eq_range', h, Nat.zero_add, k]; rfl
theorem rows0 : (List.range 150).all (rowFine Tryz.prog) = true := by kernel_rfl
theorem rows1a : (List.range' (150) 150).all (rowFine Tryz.prog) = true := by kernel_rfl
theorem rows1 : (List.range (150 + 150)).all (rowFine Tryz.prog) = true := rows_add _ _ _ rows0 rows1a
theorem rows2a : (List.range' (300) 150).all (rowFine Tryz.prog) = true := by kernel_rfl
theorem rows2 : (List.range (150 + 150 + 150)).all (rowFine Tryz.prog) = true := rows_add _ _ _ rows1 rows2a
theorem rows3a : (List.range' (450) 150).all (rowFine Tryz.prog) = true := by kernel_rfl
theorem rows3 : (List.range (150 + 150 + 150 + 150)).all (rowFine Tryz.prog) = true := rows_add _ _ _ rows2 rows3a
theorem rows4a : (List.range' (600) 150).all (rowFine Tryz.prog) = true := by kernel_rfl
theorem rows4 : (List.range (150 + 150 + 150 + 150 + 150)).all (rowFine Tryz.prog) = true := rows_add _ _ _ rows3 rows4a
theorem rows5a : (List.range' (750) 45).all (rowFine Tryz.prog) = true := by kernel_rfl
theorem rows5 : (List.range (150 + 150 + 150 + 150 + 150 + 45)).all (rowFine Tryz.prog) = true := rows_add _ _ _ rows4 rows5a
theorem varsFine : (Tryz.prog.globals.all fun g => decide (g.type < Tryz.prog.types.size)) = true := by kernel_rfl
theorem paramsFine : (Tryz.prog.funcs.all fun f => f.params.all fun t => decide (t < Tryz.prog.types.size)) = true := by kernel_rfl
theorem sizeIs : Tryz.prog.types.size = 150 + 150 + 150 + 150 + 150 + 45 := by kernel_rfl
theorem laidOut : laidOutB Tryz.prog = true := by
  unfold laidOutB
  rw [varsFine, paramsFine, sizeIs, rows5]
  rfl

/-- a slice of pairs that came in: nil, or a row of twice 'cap' numbers -/
def IsRow (w : World) (a : Option Addr) (len cap : Nat) (zs : List Int) : Prop :=
  (a = none ∧ len = 0 ∧ cap = 0 ∧ zs = []) ∨
  ∃ x, a = some x ∧ len ≤ cap ∧ cap ≤ maxLen ∧ zs.length = cap * 2 ∧ ∀ i, i < zs.length → w.cell? (x.add i) = some (.int .i64 (zs.getD i 0))
theorem cells25 : Tryz.prog.cellsOf 25 = 2 := by kernel_rfl
theorem cells3 : Tryz.prog.cellsOf 3 = 1 := by kernel_rfl

/-! ### STEP 1: THE WALK: the Go text returns true, AND WRITES NOTHING THAT WAS THERE: 'Below w.heap.size w w'' (Derived/Below.lean: '.refl', '.alloc', '.drew', '.setCell' at a new block, '.trans'). Open each 'IsRow' by 'rcases' AHEAD of 'go_enter'; part every test ahead of the walk. -/
theorem walk (a0 : Option Addr) (len0 cap0 : Nat) (z0 : List Int) (w : World) (w0 : IsRow w a0 len0 cap0 z0) :
    Calls Tryz.prog 3 #[.slice a0 len0 cap0] w fun e w' => e = .returned (.bool true) ∧ Below w.heap.size w w' := by
  exact seekTables_walk a0 len0 cap0 z0 w w0

/-! ### THE ROW's STEP: WRITTEN OUT: LEAVE IT -/
set_option maxRecDepth 100000 in
theorem lifted (os : Os) (started : os.Started) (H : Type) (enc : TypeId × Value → H) :
    ReturnsInHanded {} Tryz.checked os 3 .any (Rows.seekTablesSpec.pre6 enc Tryz.prog Tryz.f3 Rows.seekTablesRow.domain false) (Rows.seekTablesSpec.post enc Tryz.prog Tryz.f3 false true false false) := by
  refine returnsInHanded_of_change (C := Tryz.checked) own started (by kernel_rfl) Tryz.func3
    (ChangeSpec.witness6 (enc := enc) (C := Tryz.checked) false ⟨#[], #[.slice none 0 0], []⟩ 8 (by kernel_rfl) (by kernel_rfl) (by kernel_rfl) (by kernel_rfl)) ?_
  intro W base args ds gs before hval0 hW hcnd _
  have hval : ∀ (j : Nat) t v, Tryz.f3.params[j]? = some t → args[j]? = some v → Value.okWide Tryz.prog W .any base t v := hval0
  have hW' := hW
  obtain ⟨p, q, hA0, hV, rfl, hfz, hnd⟩ := hW
  have hA : DataW.TrodAll enc Tryz.prog W 0 (fun _ => true) true Tryz.f3.params.toList args.toList ds p := hA0
  rw [Tryz.params3] at hA hval
  obtain ⟨v0, vs0, d0, ds0, p0, q0, hargs, rfl, rfl, h0, r0⟩ := trodAll_cons hA
  obtain ⟨rfl, rfl, rfl⟩ := trodAll_nil r0
  obtain rfl : args = #[v0] := by cases args; simp_all
  obtain ⟨rfl, rfl⟩ := trodVars_none hV
  obtain ⟨a0, len0, cap0, rfl⟩ := okWide_slice Tryz.underlying22 (hval 0 22 v0 rfl rfl)
  have k0 := h0
  have lt0 : ∀ x ∈ p0, x.block < W.heap.size := by obtain ⟨m, hm⟩ := k0; exact DataW.trod_lt m _ _ _ hm
  obtain ⟨z0, w0⟩ : ∃ zs, IsRow W a0 len0 cap0 zs := by
    obtain ⟨fuel, hf⟩ := h0
    rcases Go.Proofs.YtempojknmnmffaaGreat.Eng.open_pairs Tryz.underlying22 Tryz.underlying25 Tryz.underlying3 cells25 cells3 hf with hcs | ⟨x, l, c, zs, hcs, hl, hm, hz, hcell⟩
    · simp [Value.cells] at hcs
      obtain ⟨rfl, rfl, rfl⟩ := hcs
      exact ⟨[], .inl ⟨rfl, rfl, rfl, rfl⟩⟩
    · simp [Value.cells] at hcs
      obtain ⟨rfl, rfl, rfl⟩ := hcs
      exact ⟨zs, .inr ⟨_, rfl, hl, hm, hz, hcell⟩⟩
  clear hA0 hval0
  refine (walk a0 len0 cap0 z0 W w0).mono fun e W' ⟨he, bel⟩ => ?_
  subst he
  exact ⟨_, rfl, _, _, _, [], _, [], hW', trodAll_mk1 (shut_bool Tryz.underlying4 _), (trodAll_cons_mk (Below.trod laidOut (by kernel_rfl) (of_decide_eq_true (by kernel_rfl)) k0 bel lt0) trodAll_mk0), rfl, bel.frame _, fun h => by cases h⟩

/-- the functions that the law reaches -/
def reached : List Nat := [
  3, 6, 8, 23, 59, 24, 25, 26, 57, 60, 100, 27, 28, 61, 101, 102, 146, 173, 148, 147, 174, 145, 103, 30, 62, 29, 11, 35, 36, 64, 47, 66, 105, 93, 140, 
  48, 139, 169, 106, 150, 104, 149, 65, 67, 53, 50, 82, 92, 68, 70, 108, 109, 153, 119, 158, 157, 178, 152, 175, 107, 151, 69, 20, 54, 94, 141, 121, 55, 
  45, 76, 111, 97, 112, 154, 176, 77, 113, 114, 115, 156, 155, 177, 201, 78, 116, 80, 79, 117, 95, 142, 96, 143, 58, 98, 99, 88, 144, 170, 198, 134, 171, 
  199, 226, 261, 329, 391, 457, 506, 511, 470, 510, 550, 553, 583, 584, 608, 626, 627, 637, 398, 625, 628, 629, 638, 609, 607, 585, 611, 630, 631, 610, 
  612, 549, 330, 392, 458, 461, 512, 554, 507, 508, 393, 509, 551, 552, 276, 343, 344, 459, 460, 331, 394, 462, 513, 464, 514, 555, 586, 305, 364, 425, 
  427, 428, 426, 366, 429, 308, 368, 431, 432, 433, 471, 518, 564, 597, 565, 517, 556, 402, 587, 404, 557, 588, 406, 395, 463, 515, 558, 589, 613, 614, 
  468, 304, 365, 592, 593, 615, 591, 590, 397, 560, 561, 562, 594, 595, 469, 616, 307, 617, 563, 596, 618, 632, 639, 641, 642, 649, 643, 650, 651, 644, 
  652, 653, 654, 645, 646, 647, 648, 633, 619, 559, 516, 396, 465, 467, 326, 320, 377, 379, 378, 435, 483, 321, 484, 436, 437, 384, 383, 466, 262, 332, 
  333, 400, 399, 225, 131, 259, 319, 376, 434, 322, 260, 323, 324, 325, 380, 438, 381, 382, 439, 485, 440, 441, 442, 486, 327, 385, 443, 444, 487, 183, 
  206, 488, 524, 229, 445, 490, 489, 525, 446, 491, 447, 492, 493, 527, 526, 528, 569, 601, 600, 621, 530, 570, 529, 572, 571, 602, 622, 623, 635, 640, 
  532, 533, 531, 448, 494, 495, 534, 351, 535, 566, 598, 599, 620, 634, 414, 573, 603, 284, 536, 420, 479, 480, 456, 359, 496, 537, 346, 538, 574, 348, 
  349, 411, 541, 540, 539, 497, 542, 232, 543, 475, 522, 523, 274, 544, 575, 604, 576, 605, 546, 577, 578, 579, 580, 581, 582, 296, 358, 421, 473, 606, 
  245, 300, 360, 422, 481, 482, 361, 301, 624, 636, 454, 303, 505, 455, 369, 248, 386, 387, 328, 190, 215, 388, 249, 306, 367, 430, 309, 449, 450, 498, 
  253, 499, 313, 314, 370, 255, 192, 191, 216, 389, 451, 243, 285, 288, 355, 417, 478, 418, 419, 286, 500, 545, 452, 244, 287, 289, 291, 356, 290, 292, 
  357, 293, 294, 273, 339, 340, 407, 472, 423, 312, 363, 424, 408, 409, 410, 341, 295, 297, 298, 299, 501, 502, 548, 547, 503, 218, 390, 453, 504, 133, 
  200, 227, 263, 264, 266, 267, 334, 401, 335, 269, 268, 336, 403, 405, 265, 228, 172, 91, 21, 43, 75, 56, 15, 40, 41, 74, 110, 19, 44, 46, 49, 81, 51, 
  84, 118, 120, 122, 123, 124, 83, 85, 125, 159, 87, 126, 127, 160, 86, 89, 128, 161, 129, 130, 162, 132, 135, 163, 136, 164, 179, 202, 203, 180, 137, 
  165, 182, 181, 204, 166, 184, 185, 205, 207, 186, 209, 208, 187, 188, 210, 231, 230, 212, 213, 233, 234, 271, 270, 235, 236, 272, 338, 337, 237, 275, 
  219, 246, 302, 362, 342, 252, 238, 239, 277, 345, 211, 214, 240, 241, 279, 278, 347, 350, 412, 242, 280, 282, 283, 354, 416, 415, 477, 281, 352, 353, 
  413, 474, 476, 519, 567, 521, 520, 568, 189, 167, 193, 217, 194, 220, 247, 250, 310, 251, 311, 221, 254, 168, 195, 223, 222, 256, 315, 316, 371, 372, 
  317, 224, 257, 258, 318, 373, 375, 374, 196, 197, 138, 90, 52, 18, 22, 7, 10, 31, 32, 33, 63, 34, 9]
theorem rowed : mapsRowed Tryz.prog = true := by kernel_rfl
theorem clo : Tryz.prog.closure 3 = reached := by kernel_rfl
theorem inPlace : Tryz.prog.inPlace 3 = Rows.seekTablesRow.inPlace := by unfold Program.inPlace; rw [clo]; kernel_rfl
theorem unfollowed : Tryz.prog.unfollowed 3 = Rows.seekTablesRow.unfollowed := by unfold Program.unfollowed; rw [clo]; kernel_rfl
theorem recurses : Tryz.prog.recurses 3 = Rows.seekTablesRow.recurses := by unfold Program.recurses; rw [unfollowed]; rfl
theorem names : Tryz.prog.varsNamed 3 = Rows.seekTablesRow.named := by unfold Program.varsNamed; rw [clo]; kernel_rfl
theorem plainKeys : Tryz.prog.plainKeys = Rows.seekTablesRow.plainKeys := by kernel_rfl
theorem heard : Tryz.prog.stopsHeard = true := by kernel_rfl
theorem mayEnter : Tryz.prog.mayEnter = true := by kernel_rfl
theorem lifts : Tryz.prog.liftsFinal = Rows.seekTablesRow.lifted := by kernel_rfl
theorem make : Tryz.prog.make = some Rows.seekTablesRow.make := by kernel_rfl
theorem closed : joinedFacts Tryz.prog 3 Tryz.f3 Rows.seekTablesSpec Rows.seekTablesRow = true := by
  unfold joinedFacts
  rw [laidOut, rowed, inPlace, unfollowed, recurses, names, plainKeys, heard, mayEnter, lifts, make]
  kernel_rfl
theorem named : Tryz.prog.funcNamed Rows.seekTablesRow.func = some 3 := by kernel_rfl
theorem inst : Tryz.f3.isInstance Tryz.prog Rows.seekTablesRow.origin Rows.seekTablesRow.targs := of_decide_eq_true (by kernel_rfl)
theorem wrap : Tryz.f3.isWrapper Tryz.prog Rows.seekTablesRow.wrapper Rows.seekTablesRow.mainSum := by unfold Func.isWrapper; first | (rw [if_pos (by decide +kernel)]; kernel_rfl) | (rw [if_neg (by decide +kernel)]; exact ⟨rfl, rfl⟩)

theorem over : Rows.seekTablesRow.holds Tryz.pinned (OpenSpec.ofChange Rows.seekTablesSpec) :=
  OpenClaim.holds_of_wide 3 Tryz.f3 rfl rfl rfl rfl rfl rfl rfl ⟨rfl, rfl, rfl, rfl, rfl⟩ rfl rfl rfl rfl rfl named Tryz.func3 closed inst wrap
    (fun os started H enc _ => lifted os started H enc)

/-- ████ THE STATEMENT ████ -/
theorem proved : Rows.SeekTablesSaid := over
#print axioms proved
end Go.Proofs.YtempojknmnmffaaGreat.seekTables
