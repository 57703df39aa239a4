/- The law writerNil of the given program holds at every input: it returns true and its arguments read as before. No condition. -/
import Derived.Test.YtphmfjgllccgbaaGreatRows
import Derived.Test.YtphmfjgllccgbaaGreatWriterNilWalk
import Derived.WalkKit
import Derived.ProofKit
import Derived.OpenShut
import Derived.ShutString
import Derived.ChangeOld
import Derived.Below
namespace Go.Proofs.YtphmfjgllccgbaaGreat.writerNil
open Go.ChangeShapes Go.WideShapes Go.ChangeAt Go.RowKit
open Go.ChangeMaps (open_string shut_string)
set_option linter.unusedVariables false

theorem own : ownKnob Tryz.prog.godebug = none := by kernel_rfl
theorem rows_add (p : Nat → Bool) (a b : Nat) (h : (List.range a).all p = true) (k : (List.range' a b).all p = true) : (List.range (a + b)).all p = true := by
  rw [List.range_eq_range', ← List.range'_append_1, List.all_append, ← List.range_eq_range', h, Nat.zero_add, k]; rfl
theorem rows0 : (List.range 150).all (rowFine Tryz.prog) = true := by kernel_rfl
theorem rows1a : (List.range' (150) 150).all (rowFine Tryz.prog) = true := by kernel_rfl
theorem rows1 : (List.range (150 + 150)).all (rowFine Tryz.prog) = true := rows_add _ _ _ rows0 rows1a
theorem rows2a : (List.range' (300) 150).all (rowFine Tryz.prog) = true := by kernel_rfl
theorem rows2 : (List.range (150 + 150 + 150)).all (rowFine Tryz.prog) = true := rows_add _ _ _ rows1 rows2a
theorem rows3a : (List.range' (450) 144).all (rowFine Tryz.prog) = true := by kernel_rfl
theorem rows3 : (List.range (150 + 150 + 150 + 144)).all (rowFine Tryz.prog) = true := rows_add _ _ _ rows2 rows3a
theorem varsFine : (Tryz.prog.globals.all fun g => decide (g.type < Tryz.prog.types.size)) = true := by kernel_rfl
theorem paramsFine : (Tryz.prog.funcs.all fun f => f.params.all fun t => decide (t < Tryz.prog.types.size)) = true := by kernel_rfl
theorem sizeIs : Tryz.prog.types.size = 150 + 150 + 150 + 144 := by kernel_rfl
theorem laidOut : laidOutB Tryz.prog = true := by
  unfold laidOutB
  rw [varsFine, paramsFine, sizeIs, rows3]
  rfl

/-- WHAT THE WALK IS TOLD OF A SLICE OF INTEGERS THAT CAME IN: it is nil; or it leads to a row of 'cap' cells, the numbers 'zs' (the first 'len' are its elements, the rest its spare room), each fitting its kind. -/
def IsRow (k : IntKind) (w : World) (a : Option Addr) (len cap : Nat) (zs : List Int) : Prop :=
  (a = none ∧ len = 0 ∧ cap = 0 ∧ zs = []) ∨
  ∃ x, a = some x ∧ len ≤ cap ∧ cap ≤ maxLen ∧ zs.length = cap ∧ (∀ i, i < zs.length → w.cell? (x.add i) = some (.int k (zs.getD i 0))) ∧ ∀ n ∈ zs, (Lit.int k n).wf = true

/-! ### STEP 1: THE WALK: the Go text returns true, AND WRITES NOTHING THAT WAS THERE: 'Below w.heap.size w w'' (Derived/Below.lean: '.refl', '.alloc', '.drew', '.setCell' at a new block, '.trans'). Open each 'IsRow' by 'rcases' AHEAD of 'go_enter'; part every test ahead of the walk. -/
theorem walk (a0 : Option Addr) (len0 cap0 : Nat) (z0 : List Int) (w : World) (w0 : IsRow .u8 w a0 len0 cap0 z0) :
    Calls Tryz.prog 3 #[.slice a0 len0 cap0] w fun e w' => e = .returned (.bool true) ∧ Below w.heap.size w w' := by
  exact writerNil_walk a0 len0 cap0 z0 w w0

/-! ### THE ROW's STEP: WRITTEN OUT: LEAVE IT -/
set_option maxRecDepth 100000 in
theorem lifted (os : Os) (started : os.Started) (H : Type) (enc : TypeId × Value → H) :
    ReturnsInHanded {} Tryz.checked os 3 .any (Rows.writerNilSpec.pre6 enc Tryz.prog Tryz.f3 Rows.writerNilRow.domain false) (Rows.writerNilSpec.post enc Tryz.prog Tryz.f3 false true false false) := by
  refine returnsInHanded_of_change (C := Tryz.checked) own started (by kernel_rfl) Tryz.func3
    (ChangeSpec.witness6 (enc := enc) (C := Tryz.checked) false ⟨#[], #[.slice none 0 0], []⟩ 8 (by kernel_rfl) (by kernel_rfl) (by kernel_rfl) (by kernel_rfl)) ?_
  intro W base args ds gs before hval0 hW hcnd _
  have hval : ∀ (j : Nat) t v, Tryz.f3.params[j]? = some t → args[j]? = some v → Value.okWide Tryz.prog W .any base t v := hval0
  have hW' := hW
  obtain ⟨p, q, hA0, hV, rfl, hfz, hnd⟩ := hW
  have hA : DataW.TrodAll enc Tryz.prog W 0 (fun _ => true) true Tryz.f3.params.toList args.toList ds p := hA0
  rw [Tryz.params3] at hA hval
  obtain ⟨v0, vs0, d0, ds0, p0, q0, hargs, rfl, rfl, h0, r0⟩ := trodAll_cons hA
  obtain ⟨rfl, rfl, rfl⟩ := trodAll_nil r0
  obtain rfl : args = #[v0] := by cases args; simp_all
  obtain ⟨rfl, rfl⟩ := trodVars_none hV
  obtain ⟨a0, len0, cap0, rfl⟩ := okWide_slice Tryz.underlying22 (hval 0 22 v0 rfl rfl)
  have k0 := h0
  have lt0 : ∀ x ∈ p0, x.block < W.heap.size := by obtain ⟨m, hm⟩ := k0; exact DataW.trod_lt m _ _ _ hm
  obtain ⟨z0, w0⟩ : ∃ zs, IsRow .u8 W a0 len0 cap0 zs := by
    obtain ⟨fuel, hf⟩ := h0
    rcases open_ints Tryz.underlying22 Tryz.underlying5 (by kernel_rfl) hf with ⟨hcs, _⟩ | ⟨x, l, c, zs, hcs, _, hl, hm, hz, _, hcell, hwz⟩
    · simp [Value.cells] at hcs
      obtain ⟨rfl, rfl, rfl⟩ := hcs
      exact ⟨[], .inl ⟨rfl, rfl, rfl, rfl⟩⟩
    · simp [Value.cells] at hcs
      obtain ⟨rfl, rfl, rfl⟩ := hcs
      exact ⟨zs, .inr ⟨_, rfl, hl, hm, by simpa using hz, hcell, hwz⟩⟩
  clear hA0 hval0
  refine (walk a0 len0 cap0 z0 W w0).mono fun e W' ⟨he, bel⟩ => ?_
  subst he
  exact ⟨_, rfl, _, _, _, [], _, [], hW', trodAll_mk1 (shut_bool Tryz.underlying4 _), (trodAll_cons_mk (Below.trod laidOut (by kernel_rfl) (of_decide_eq_true (by kernel_rfl)) k0 bel lt0) trodAll_mk0), rfl, bel.frame _, fun h => by cases h⟩

/-- the functions that the law reaches -/
def reached : List Nat := [
  3, 4, 10, 21, 33, 42, 53, 22, 34, 54, 39, 55, 66, 74, 35, 56, 57, 58, 68, 67, 75, 89, 36, 59, 38, 37, 60, 23, 40, 41, 24, 5, 12, 13, 14, 25, 31, 43, 
  61, 69, 15, 16, 27, 44, 45, 28, 46, 26, 17, 18, 29, 47, 62, 48, 63, 49, 64, 71, 80, 100, 127, 172, 231, 236, 187, 235, 304, 307, 361, 362, 404, 428, 
  429, 440, 134, 427, 430, 431, 441, 405, 403, 363, 407, 432, 433, 406, 408, 303, 101, 128, 173, 176, 237, 308, 232, 233, 129, 234, 305, 306, 189, 247, 
  248, 174, 175, 102, 130, 177, 238, 179, 239, 309, 364, 208, 245, 322, 324, 325, 323, 277, 321, 210, 243, 318, 319, 320, 188, 246, 326, 375, 327, 242, 
  310, 138, 365, 140, 311, 366, 142, 131, 178, 240, 312, 367, 409, 410, 183, 186, 244, 370, 371, 411, 369, 368, 133, 314, 315, 316, 372, 373, 185, 412, 
  184, 413, 317, 374, 414, 434, 442, 445, 446, 453, 447, 454, 455, 448, 456, 457, 458, 449, 450, 451, 452, 435, 415, 313, 241, 132, 180, 182, 97, 91, 
  109, 111, 110, 144, 190, 92, 191, 145, 146, 116, 115, 181, 81, 103, 30, 51, 104, 136, 135, 70, 76, 77, 90, 108, 143, 93, 78, 94, 95, 96, 112, 147, 113, 
  114, 148, 192, 149, 150, 151, 193, 98, 117, 152, 153, 195, 194, 196, 197, 249, 203, 154, 199, 198, 250, 155, 200, 156, 201, 202, 252, 251, 253, 328, 
  377, 376, 416, 255, 329, 254, 331, 330, 378, 417, 418, 436, 443, 257, 258, 256, 157, 204, 205, 260, 259, 261, 332, 379, 380, 419, 437, 263, 333, 381, 
  334, 262, 169, 228, 229, 264, 335, 171, 230, 206, 266, 265, 267, 336, 268, 271, 337, 272, 270, 269, 207, 274, 273, 275, 338, 382, 383, 339, 276, 340, 
  384, 341, 385, 286, 345, 346, 347, 348, 349, 350, 298, 359, 400, 424, 386, 165, 222, 301, 360, 401, 402, 302, 223, 420, 438, 167, 225, 226, 168, 227, 
  170, 118, 119, 99, 120, 158, 121, 159, 209, 278, 342, 211, 160, 161, 213, 212, 214, 279, 280, 343, 281, 123, 122, 162, 124, 163, 215, 282, 284, 344, 
  387, 421, 388, 389, 283, 216, 285, 164, 220, 289, 290, 292, 351, 291, 293, 352, 391, 392, 390, 422, 353, 294, 295, 296, 355, 354, 356, 393, 423, 439, 
  444, 397, 425, 394, 395, 396, 357, 358, 399, 398, 426, 297, 299, 221, 300, 217, 218, 288, 287, 219, 125, 126, 166, 224, 79, 65, 72, 82, 83, 85, 86, 
  105, 137, 106, 88, 87, 107, 139, 141, 84, 73, 50, 19, 32, 52, 20, 9, 6, 7, 11, 8]
theorem rowed : mapsRowed Tryz.prog = true := by kernel_rfl
theorem clo : Tryz.prog.closure 3 = reached := by kernel_rfl
theorem inPlace : Tryz.prog.inPlace 3 = Rows.writerNilRow.inPlace := by unfold Program.inPlace; rw [clo]; kernel_rfl
theorem unfollowed : Tryz.prog.unfollowed 3 = Rows.writerNilRow.unfollowed := by unfold Program.unfollowed; rw [clo]; kernel_rfl
theorem recurses : Tryz.prog.recurses 3 = Rows.writerNilRow.recurses := by unfold Program.recurses; rw [unfollowed]; rfl
theorem names : Tryz.prog.varsNamed 3 = Rows.writerNilRow.named := by unfold Program.varsNamed; rw [clo]; kernel_rfl
theorem plainKeys : Tryz.prog.plainKeys = Rows.writerNilRow.plainKeys := by kernel_rfl
theorem heard : Tryz.prog.stopsHeard = true := by kernel_rfl
theorem mayEnter : Tryz.prog.mayEnter = true := by kernel_rfl
theorem lifts : Tryz.prog.liftsFinal = Rows.writerNilRow.lifted := by kernel_rfl
theorem make : Tryz.prog.make = some Rows.writerNilRow.make := by kernel_rfl
theorem closed : joinedFacts Tryz.prog 3 Tryz.f3 Rows.writerNilSpec Rows.writerNilRow = true := by
  unfold joinedFacts
  rw [laidOut, rowed, inPlace, unfollowed, recurses, names, plainKeys, heard, mayEnter, lifts, make]
  kernel_rfl
theorem named : Tryz.prog.funcNamed Rows.writerNilRow.func = some 3 := by kernel_rfl
theorem inst : Tryz.f3.isInstance Tryz.prog Rows.writerNilRow.origin Rows.writerNilRow.targs := of_decide_eq_true (by kernel_rfl)
theorem wrap : Tryz.f3.isWrapper Tryz.prog Rows.writerNilRow.wrapper Rows.writerNilRow.mainSum := by unfold Func.isWrapper; first | (rw [if_pos (by decide +kernel)]; kernel_rfl) | (rw [if_neg (by decide +kernel)]; exact ⟨rfl, rfl⟩)

theorem over : Rows.writerNilRow.holds Tryz.pinned (OpenSpec.ofChange Rows.writerNilSpec) :=
  OpenClaim.holds_of_wide 3 Tryz.f3 rfl rfl rfl rfl rfl rfl rfl ⟨rfl, rfl, rfl, rfl, rfl⟩ rfl rfl rfl rfl rfl named Tryz.func3 closed inst wrap
    (fun os started H enc _ => lifted os started H enc)

/-- ████ THE STATEMENT ████ -/
theorem proved : Rows.WriterNilSaid := over
#print axioms proved
end Go.Proofs.YtphmfjgllccgbaaGreat.writerNil
