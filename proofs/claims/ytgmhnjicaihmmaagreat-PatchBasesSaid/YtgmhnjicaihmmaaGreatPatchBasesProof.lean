/- The law patchBases of the given program holds at every input: it returns true and its arguments read as before. No condition. -/
import Derived.Test.YtgmhnjicaihmmaaGreatRows
import Derived.Test.YtgmhnjicaihmmaaGreatBaseWalk
import Derived.WalkKit
import Derived.ProofKit
import Derived.OpenShut
import Derived.ShutString
import Derived.ChangeOld
import Derived.Below
namespace Go.Proofs.YtgmhnjicaihmmaaGreat.patchBases
open Go.ChangeShapes Go.WideShapes Go.ChangeAt Go.RowKit
open Go.ChangeMaps (open_string shut_string)
set_option linter.unusedVariables false

theorem own : ownKnob Tryz.prog.godebug = none := by kernel_rfl
theorem rows_add (p : Nat → Bool) (a b : Nat) (h : (List.range a).all p = true) (k : (List.range' a b).all p = true) : (List.range (a + b)).all p = true := by
  rw [List.range_eq_range', ← List.range'_append_1, List.all_append, ← List.range_eq_range', h, Nat.zero_add, k]; rfl
theorem rows0 : (List.range 150).all (rowFine Tryz.prog) = true := by kernel_rfl
theorem rows1a : (List.range' (150) 150).all (rowFine Tryz.prog) = true := by kernel_rfl
theorem rows1 : (List.range (150 + 150)).all (rowFine Tryz.prog) = true := rows_add _ _ _ rows0 rows1a
theorem rows2a : (List.range' (300) 150).all (rowFine Tryz.prog) = true := by kernel_rfl
theorem rows2 : (List.range (150 + 150 + 150)).all (rowFine Tryz.prog) = true := rows_add _ _ _ rows1 rows2a
theorem rows3a : (List.range' (450) 150).all (rowFine Tryz.prog) = true := by kernel_rfl
theorem rows3 : (List.range (150 + 150 + 150 + 150)).all (rowFine Tryz.prog) = true := rows_add _ _ _ rows2 rows3a
theorem rows4a : (List.range' (600) 150).all (rowFine Tryz.prog) = true := by kernel_rfl
theorem rows4 : (List.range (150 + 150 + 150 + 150 + 150)).all (rowFine Tryz.prog) = true := rows_add _ _ _ rows3 rows4a
theorem rows5a : (List.range' (750) 34).all (rowFine Tryz.prog) = true := by kernel_rfl
theorem rows5 : (List.range (150 + 150 + 150 + 150 + 150 + 34)).all (rowFine Tryz.prog) = true := rows_add _ _ _ rows4 rows5a
theorem varsFine : (Tryz.prog.globals.all fun g => decide (g.type < Tryz.prog.types.size)) = true := by kernel_rfl
theorem paramsFine : (Tryz.prog.funcs.all fun f => f.params.all fun t => decide (t < Tryz.prog.types.size)) = true := by kernel_rfl
theorem sizeIs : Tryz.prog.types.size = 150 + 150 + 150 + 150 + 150 + 34 := by kernel_rfl
theorem laidOut : laidOutB Tryz.prog = true := by
  unfold laidOutB
  rw [varsFine, paramsFine, sizeIs, rows5]
  rfl

/-- WHAT THE WALK IS TOLD OF A SLICE OF INTEGERS THAT CAME IN: it is nil; or it leads to a row of 'cap' cells, the numbers 'zs' (the first 'len' are its elements, the rest its spare room), each fitting its kind. -/
def IsRow (k : IntKind) (w : World) (a : Option Addr) (len cap : Nat) (zs : List Int) : Prop :=
  (a = none ∧ len = 0 ∧ cap = 0 ∧ zs = []) ∨
  ∃ x, a = some x ∧ len ≤ cap ∧ cap ≤ maxLen ∧ zs.length = cap ∧ (∀ i, i < zs.length → w.cell? (x.add i) = some (.int k (zs.getD i 0))) ∧ ∀ n ∈ zs, (Lit.int k n).wf = true

/-! ### STEP 1: THE WALK: the Go text returns true, AND WRITES NOTHING THAT WAS THERE: 'Below w.heap.size w w'' (Derived/Below.lean: '.refl', '.alloc', '.drew', '.setCell' at a new block, '.trans'). Open each 'IsRow' by 'rcases' AHEAD of 'go_enter'; part every test ahead of the walk. -/
theorem walk (a0 : Option Addr) (len0 cap0 : Nat) (z0 : List Int) (a1 : Int) (a2 : Int) (w : World) (w0 : IsRow .u8 w a0 len0 cap0 z0) (w1 : (Lit.int .i64 a1).wf = true) (w2 : (Lit.int .i64 a2).wf = true) :
    Calls Tryz.prog 4 #[.slice a0 len0 cap0, .int .i64 a1, .int .i64 a2] w fun e w' => e = .returned (.bool true) ∧ Below w.heap.size w w' := by
  exact patchBases_walk a0 len0 cap0 z0 a1 a2 w w0 w1 w2

/-! ### THE ROW's STEP: WRITTEN OUT: LEAVE IT -/
set_option maxRecDepth 100000 in
theorem lifted (os : Os) (started : os.Started) (H : Type) (enc : TypeId × Value → H) :
    ReturnsInHanded {} Tryz.checked os 4 .any (Rows.patchBasesSpec.pre6 enc Tryz.prog Tryz.f4 Rows.patchBasesRow.domain false) (Rows.patchBasesSpec.post enc Tryz.prog Tryz.f4 false true false false) := by
  refine returnsInHanded_of_change (C := Tryz.checked) own started (by kernel_rfl) Tryz.func4
    (ChangeSpec.witness6 (enc := enc) (C := Tryz.checked) false ⟨#[], #[.slice none 0 0, .int .i64 0, .int .i64 0], []⟩ 8 (by kernel_rfl) (by kernel_rfl) (by kernel_rfl) (by kernel_rfl)) ?_
  intro W base args ds gs before hval0 hW hcnd _
  have hval : ∀ (j : Nat) t v, Tryz.f4.params[j]? = some t → args[j]? = some v → Value.okWide Tryz.prog W .any base t v := hval0
  have hW' := hW
  obtain ⟨p, q, hA0, hV, rfl, hfz, hnd⟩ := hW
  have hA : DataW.TrodAll enc Tryz.prog W 0 (fun _ => true) true Tryz.f4.params.toList args.toList ds p := hA0
  rw [Tryz.params4] at hA hval
  obtain ⟨v0, vs0, d0, ds0, p0, q0, hargs, rfl, rfl, h0, r0⟩ := trodAll_cons hA
  obtain ⟨v1, vs1, d1, ds1, p1, q1, rfl, rfl, rfl, h1, r1⟩ := trodAll_cons r0
  obtain ⟨v2, vs2, d2, ds2, p2, q2, rfl, rfl, rfl, h2, r2⟩ := trodAll_cons r1
  obtain ⟨rfl, rfl, rfl⟩ := trodAll_nil r2
  obtain rfl : args = #[v0, v1, v2] := by cases args; simp_all
  obtain ⟨rfl, rfl⟩ := trodVars_none hV
  obtain ⟨a0, len0, cap0, rfl⟩ := okWide_slice Tryz.underlying23 (hval 0 23 v0 rfl rfl)
  have k0 := h0
  have lt0 : ∀ x ∈ p0, x.block < W.heap.size := by obtain ⟨m, hm⟩ := k0; exact DataW.trod_lt m _ _ _ hm
  obtain ⟨z0, w0⟩ : ∃ zs, IsRow .u8 W a0 len0 cap0 zs := by
    obtain ⟨fuel, hf⟩ := h0
    rcases open_ints Tryz.underlying23 Tryz.underlying5 (by kernel_rfl) hf with ⟨hcs, _⟩ | ⟨x, l, c, zs, hcs, _, hl, hm, hz, _, hcell, hwz⟩
    · simp [Value.cells] at hcs
      obtain ⟨rfl, rfl, rfl⟩ := hcs
      exact ⟨[], .inl ⟨rfl, rfl, rfl, rfl⟩⟩
    · simp [Value.cells] at hcs
      obtain ⟨rfl, rfl, rfl⟩ := hcs
      exact ⟨zs, .inr ⟨_, rfl, hl, hm, by simpa using hz, hcell, hwz⟩⟩
  obtain ⟨a1, rfl, rfl, rfl, w1⟩ := open_int Tryz.underlying3 (hval 1 3 v1 rfl rfl) h1
  obtain ⟨a2, rfl, rfl, rfl, w2⟩ := open_int Tryz.underlying3 (hval 2 3 v2 rfl rfl) h2
  clear hA0 hval0
  refine (walk a0 len0 cap0 z0 a1 a2 W w0 w1 w2).mono fun e W' ⟨he, bel⟩ => ?_
  subst he
  exact ⟨_, rfl, _, _, _, [], _, [], hW', trodAll_mk1 (shut_bool Tryz.underlying4 _), (trodAll_cons_mk (Below.trod laidOut (by kernel_rfl) (of_decide_eq_true (by kernel_rfl)) k0 bel lt0) (trodAll_cons_mk (shut_int Tryz.underlying3 w1) (trodAll_cons_mk (shut_int Tryz.underlying3 w2) trodAll_mk0))), rfl, bel.frame _, fun h => by cases h⟩

/-- the functions that the law reaches -/
def reached : List Nat := [
  4, 5, 6, 20, 19, 22, 50, 83, 51, 21, 23, 52, 25, 53, 84, 24, 8, 29, 30, 54, 55, 86, 77, 85, 119, 56, 57, 88, 89, 121, 87, 120, 58, 59, 91, 92, 124, 
  125, 159, 158, 178, 123, 157, 90, 122, 60, 31, 17, 45, 46, 70, 95, 96, 127, 160, 129, 128, 161, 126, 97, 11, 34, 62, 35, 63, 64, 43, 13, 38, 39, 47, 
  65, 93, 71, 98, 130, 99, 131, 132, 133, 163, 162, 179, 204, 100, 134, 101, 72, 102, 73, 103, 105, 138, 139, 106, 104, 135, 164, 67, 136, 165, 181, 207, 
  249, 303, 392, 471, 476, 405, 475, 536, 539, 576, 577, 606, 626, 627, 637, 310, 625, 628, 629, 638, 607, 605, 578, 609, 630, 631, 608, 610, 535, 250, 
  304, 393, 396, 477, 540, 472, 473, 305, 474, 537, 538, 325, 413, 414, 394, 395, 251, 306, 397, 478, 399, 479, 541, 579, 354, 434, 501, 503, 504, 502, 
  436, 505, 357, 438, 507, 508, 509, 406, 483, 550, 590, 551, 482, 542, 314, 580, 316, 543, 581, 318, 307, 398, 480, 544, 582, 611, 612, 403, 353, 435, 
  585, 586, 613, 584, 583, 309, 546, 547, 548, 587, 588, 404, 614, 356, 615, 549, 589, 616, 632, 639, 641, 642, 649, 643, 650, 651, 644, 652, 653, 654, 
  645, 646, 647, 648, 633, 617, 545, 481, 308, 400, 402, 246, 240, 289, 291, 290, 369, 446, 241, 447, 370, 371, 296, 295, 401, 208, 252, 167, 184, 253, 
  312, 311, 180, 150, 205, 239, 288, 368, 242, 206, 243, 244, 245, 292, 372, 293, 294, 373, 448, 374, 375, 376, 449, 247, 297, 377, 378, 450, 189, 220, 
  451, 510, 257, 379, 453, 452, 511, 380, 454, 381, 455, 456, 513, 512, 514, 561, 597, 596, 620, 516, 562, 515, 564, 563, 598, 621, 622, 634, 640, 518, 
  519, 517, 382, 457, 458, 520, 421, 521, 565, 599, 600, 623, 635, 491, 566, 601, 333, 522, 390, 469, 470, 391, 429, 459, 523, 416, 524, 567, 418, 419, 
  488, 527, 526, 525, 460, 528, 260, 529, 555, 594, 595, 323, 530, 568, 602, 569, 603, 532, 570, 571, 572, 573, 574, 575, 345, 428, 497, 553, 604, 274, 
  349, 430, 498, 559, 560, 431, 350, 624, 636, 388, 352, 468, 389, 439, 277, 298, 299, 248, 196, 229, 300, 278, 355, 437, 506, 358, 383, 384, 461, 282, 
  462, 362, 363, 440, 284, 198, 197, 230, 301, 385, 272, 334, 337, 425, 494, 558, 495, 496, 335, 463, 531, 386, 273, 336, 338, 340, 426, 339, 341, 427, 
  342, 343, 322, 118, 409, 410, 484, 552, 499, 361, 433, 500, 485, 486, 487, 411, 344, 346, 347, 348, 464, 465, 534, 533, 466, 232, 302, 387, 467, 152, 
  166, 182, 209, 210, 212, 213, 254, 313, 255, 215, 214, 256, 315, 317, 211, 183, 137, 107, 18, 48, 49, 74, 108, 75, 76, 79, 110, 78, 109, 80, 112, 140, 
  141, 142, 143, 111, 113, 144, 168, 115, 145, 146, 169, 114, 116, 147, 170, 148, 149, 171, 151, 153, 172, 154, 173, 185, 216, 217, 186, 155, 174, 188, 
  187, 218, 175, 190, 191, 219, 221, 192, 223, 222, 193, 194, 224, 259, 258, 226, 227, 261, 262, 320, 319, 263, 264, 321, 408, 407, 265, 324, 233, 275, 
  351, 432, 412, 281, 266, 267, 326, 415, 225, 228, 268, 270, 269, 328, 327, 417, 420, 489, 271, 329, 331, 332, 424, 493, 492, 557, 330, 422, 423, 490, 
  554, 556, 591, 618, 593, 592, 619, 195, 176, 199, 231, 200, 234, 276, 279, 359, 280, 360, 235, 283, 177, 201, 237, 236, 285, 364, 365, 441, 442, 366, 
  238, 286, 287, 367, 443, 445, 444, 202, 203, 156, 117, 82, 81, 10, 12, 36, 37, 14, 26, 41, 40, 15, 42, 66, 16, 44, 68, 94, 69]
theorem rowed : mapsRowed Tryz.prog = true := by kernel_rfl
theorem clo : Tryz.prog.closure 4 = reached := by kernel_rfl
theorem inPlace : Tryz.prog.inPlace 4 = Rows.patchBasesRow.inPlace := by unfold Program.inPlace; rw [clo]; kernel_rfl
theorem unfollowed : Tryz.prog.unfollowed 4 = Rows.patchBasesRow.unfollowed := by unfold Program.unfollowed; rw [clo]; kernel_rfl
theorem recurses : Tryz.prog.recurses 4 = Rows.patchBasesRow.recurses := by unfold Program.recurses; rw [unfollowed]; rfl
theorem names : Tryz.prog.varsNamed 4 = Rows.patchBasesRow.named := by unfold Program.varsNamed; rw [clo]; kernel_rfl
theorem plainKeys : Tryz.prog.plainKeys = Rows.patchBasesRow.plainKeys := by kernel_rfl
theorem heard : Tryz.prog.stopsHeard = true := by kernel_rfl
theorem mayEnter : Tryz.prog.mayEnter = true := by kernel_rfl
theorem lifts : Tryz.prog.liftsFinal = Rows.patchBasesRow.lifted := by kernel_rfl
theorem make : Tryz.prog.make = some Rows.patchBasesRow.make := by kernel_rfl
theorem closed : joinedFacts Tryz.prog 4 Tryz.f4 Rows.patchBasesSpec Rows.patchBasesRow = true := by
  unfold joinedFacts
  rw [laidOut, rowed, inPlace, unfollowed, recurses, names, plainKeys, heard, mayEnter, lifts, make]
  kernel_rfl
theorem named : Tryz.prog.funcNamed Rows.patchBasesRow.func = some 4 := by kernel_rfl
theorem inst : Tryz.f4.isInstance Tryz.prog Rows.patchBasesRow.origin Rows.patchBasesRow.targs := of_decide_eq_true (by kernel_rfl)
theorem wrap : Tryz.f4.isWrapper Tryz.prog Rows.patchBasesRow.wrapper Rows.patchBasesRow.mainSum := by unfold Func.isWrapper; first | (rw [if_pos (by decide +kernel)]; kernel_rfl) | (rw [if_neg (by decide +kernel)]; exact ⟨rfl, rfl⟩)

theorem over : Rows.patchBasesRow.holds Tryz.pinned (OpenSpec.ofChange Rows.patchBasesSpec) :=
  OpenClaim.holds_of_wide 4 Tryz.f4 rfl rfl rfl rfl rfl rfl rfl ⟨rfl, rfl, rfl, rfl, rfl⟩ rfl rfl rfl rfl rfl named Tryz.func4 closed inst wrap
    (fun os started H enc _ => lifted os started H enc)

/-- ████ THE STATEMENT ████ -/
theorem proved : Rows.PatchBasesSaid := over
#print axioms proved
end Go.Proofs.YtgmhnjicaihmmaaGreat.patchBases
