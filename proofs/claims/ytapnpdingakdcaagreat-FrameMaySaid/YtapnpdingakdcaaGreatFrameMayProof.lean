/- The law frameMay of the given program holds at every input: it returns true and its arguments read as before. No condition. -/
import Derived.Test.YtapnpdingakdcaaGreatRows
import Derived.Test.YtapnpdingakdcaaGreatFrameMayWalk
import Derived.WalkKit
import Derived.ProofKit
import Derived.OpenShut
import Derived.ShutString
import Derived.ChangeOld
import Derived.Below
namespace Go.Proofs.YtapnpdingakdcaaGreat.frameMay
open Go.ChangeShapes Go.WideShapes Go.ChangeAt Go.RowKit
open Go.ChangeMaps (open_string shut_string)
set_option linter.unusedVariables false      -- a walk need not use every 'w<i>' (that an integer argument fits its kind)

theorem own : ownKnob Tryz.prog.godebug = none := by kernel_rfl
theorem rows_add (p : Nat → Bool) (a b : Nat) (h : (List.range a).all p = true) (k : (List.range' a b).all p = true) : (List.range (a + b)).all p = true := by
  rw [List.range_eq_range', ← List.range'_append_1, List.all_append, ← List.range_eq_range', h, Nat.zero_add, k]; rfl
theorem rows0 : (List.range 150).all (rowFine Tryz.prog) = true := by kernel_rfl
theorem rows1a : (List.range' (150) 150).all (rowFine Tryz.prog) = true := by kernel_rfl
theorem rows1 : (List.range (150 + 150)).all (rowFine Tryz.prog) = true := rows_add _ _ _ rows0 rows1a
theorem rows2a : (List.range' (300) 150).all (rowFine Tryz.prog) = true := by kernel_rfl
theorem rows2 : (List.range (150 + 150 + 150)).all (rowFine Tryz.prog) = true := rows_add _ _ _ rows1 rows2a
theorem varsFine : (Tryz.prog.globals.all fun g => decide (g.type < Tryz.prog.types.size)) = true := by kernel_rfl
theorem paramsFine : (Tryz.prog.funcs.all fun f => f.params.all fun t => decide (t < Tryz.prog.types.size)) = true := by kernel_rfl
theorem sizeIs : Tryz.prog.types.size = 150 + 150 + 150 := by kernel_rfl
theorem laidOut : laidOutB Tryz.prog = true := by
  unfold laidOutB
  rw [varsFine, paramsFine, sizeIs, rows2]
  rfl

/-! ### STEP 1: THE WALK -/
theorem walk (a0 a1 a2 a5 b0 : Int) (a3 a4 : Bool) (w : World) :
    Calls Tryz.prog 3 #[.agg #[.int .i64 a0, .int .i64 a1, .int .i64 a2, .bool a3, .bool a4, .int .i64 a5], .int .i64 b0] w fun e w' => e = .returned (.bool true) ∧ Below w.heap.size w w' :=
  frameMay_walk a0 a1 a2 a5 b0 a3 a4 w
theorem fields6 {P : Program} {H : Type} {enc : TypeId × Value → H} {w : World} {base : Nat} {spare : Nat → Bool} {held : Bool} {fuel : Nat} {t : TypeId} {cs : List Value} {x : DataW H × List MemPlace} {f0 f1 f2 f3 f4 f5 : Field} (ht : P.underlying t = some (.struct #[f0, f1, f2, f3, f4, f5]))
    (h : DataW.trod enc P w base spare held fuel t cs = some x) : ∃ n y0 y1 y2 y3 y4 y5, DataW.trod enc P w base spare held n f0.type ((cs.drop f0.offset).take (P.cellsOf f0.type)) = some y0 ∧ DataW.trod enc P w base spare held n f1.type ((cs.drop f1.offset).take (P.cellsOf f1.type)) = some y1 ∧
      DataW.trod enc P w base spare held n f2.type ((cs.drop f2.offset).take (P.cellsOf f2.type)) = some y2 ∧ DataW.trod enc P w base spare held n f3.type ((cs.drop f3.offset).take (P.cellsOf f3.type)) = some y3 ∧
      DataW.trod enc P w base spare held n f4.type ((cs.drop f4.offset).take (P.cellsOf f4.type)) = some y4 ∧ DataW.trod enc P w base spare held n f5.type ((cs.drop f5.offset).take (P.cellsOf f5.type)) = some y5 := by
  obtain ⟨xs, n, _, _, _, hlen, hx⟩ := DataW.trod_struct ht h
  have hlen : xs.length = 6 := hlen
  match xs, hlen with
  | [y0, y1, y2, y3, y4, y5], _ => exact ⟨n, y0, y1, y2, y3, y4, y5, hx 0 f0 rfl, hx 1 f1 rfl, hx 2 f2 rfl, hx 3 f3 rfl, hx 4 f4 rfl, hx 5 f5 rfl⟩
theorem cells3 : Tryz.prog.cellsOf 3 = 1 := by kernel_rfl
theorem cells22 : Tryz.prog.cellsOf 22 = 1 := by kernel_rfl
theorem cells4 : Tryz.prog.cellsOf 4 = 1 := by kernel_rfl
theorem cells24 : Tryz.prog.cellsOf 24 = 6 := by kernel_rfl
theorem six {l : List Value} (h : l.length = 6) : ∃ a b c d e f, l = [a, b, c, d, e, f] := by
  match l, h with
  | [a, b, c, d, e, f], _ => exact ⟨a, b, c, d, e, f, rfl⟩
theorem openO {H : Type} {enc : TypeId × Value → H} {w : World} {base : Nat} {spare : Nat → Bool} {held : Bool} {fuel : Nat} {x : DataW H × List MemPlace} (l : List Value) (hsz : l.length = 6)
    (h : DataW.trod enc Tryz.prog w base spare held fuel 24 l = some x) :
    ∃ a0 a1 a2 a3 a4 a5, l = [.int .i64 a0, .int .i64 a1, .int .i64 a2, .bool a3, .bool a4, .int .i64 a5] := by
  obtain ⟨n, y0, y1, y2, y3, y4, y5, g0, g1, g2, g3, g4, g5⟩ := fields6 Tryz.underlying24 h
  obtain ⟨m0, e0, _⟩ := DataW.trod_int (t := 3) Tryz.underlying3 g0
  obtain ⟨m1, e1, _⟩ := DataW.trod_int (t := 22) Tryz.underlying22 g1
  obtain ⟨m2, e2, _⟩ := DataW.trod_int (t := 3) Tryz.underlying3 g2
  obtain ⟨m3, e3, _⟩ := DataW.trod_bool (t := 4) Tryz.underlying4 g3
  obtain ⟨m4, e4, _⟩ := DataW.trod_bool (t := 4) Tryz.underlying4 g4
  obtain ⟨m5, e5, _⟩ := DataW.trod_int (t := 3) Tryz.underlying3 g5
  refine ⟨m0, m1, m2, m3, m4, m5, ?_⟩
  have e0 : List.take (Tryz.prog.cellsOf 3) (List.drop 0 l) = [.int .i64 m0] := e0
  have e1 : List.take (Tryz.prog.cellsOf 22) (List.drop 1 l) = [.int .i64 m1] := e1
  have e2 : List.take (Tryz.prog.cellsOf 3) (List.drop 2 l) = [.int .i64 m2] := e2
  have e3 : List.take (Tryz.prog.cellsOf 4) (List.drop 3 l) = [.bool m3] := e3
  have e4 : List.take (Tryz.prog.cellsOf 4) (List.drop 4 l) = [.bool m4] := e4
  have e5 : List.take (Tryz.prog.cellsOf 3) (List.drop 5 l) = [.int .i64 m5] := e5
  rw [cells3] at e0 e2 e5
  rw [cells22] at e1
  rw [cells4] at e3 e4
  clear g0 g1 g2 g3 g4 g5 h
  obtain ⟨c0, c1, c2, c3, c4, c5, rfl⟩ := six hsz
  simp only [List.drop, List.take, List.cons.injEq, and_true] at e0 e1 e2 e3 e4 e5
  rw [e0, e1, e2, e3, e4, e5]

/-! ### THE ROW's STEP: WRITTEN OUT: LEAVE IT -/
set_option maxRecDepth 100000 in
theorem lifted (os : Os) (started : os.Started) (H : Type) (enc : TypeId × Value → H) :
    ReturnsInHanded {} Tryz.checked os 3 .any (Rows.frameMaySpec.pre6 enc Tryz.prog Tryz.f3 Rows.frameMayRow.domain false) (Rows.frameMaySpec.post enc Tryz.prog Tryz.f3 false true false false) := by
  refine returnsInHanded_of_change (C := Tryz.checked) own started (by kernel_rfl) Tryz.func3
    (ChangeSpec.witness6 (enc := enc) (C := Tryz.checked) false ⟨#[], #[.agg #[.int .i64 0, .int .i64 0, .int .i64 0, .bool false, .bool false, .int .i64 0], .int .i64 0], []⟩ 8 (by kernel_rfl) (by kernel_rfl) (by kernel_rfl) (by kernel_rfl)) ?_
  intro W base args ds gs before hval0 hW hcnd _
  have hval : ∀ (j : Nat) t v, Tryz.f3.params[j]? = some t → args[j]? = some v → Value.okWide Tryz.prog W .any base t v := hval0
  have hW' := hW
  obtain ⟨p, q, hA0, hV, rfl, hfz, hnd⟩ := hW
  have hA : DataW.TrodAll enc Tryz.prog W 0 (fun _ => true) true Tryz.f3.params.toList args.toList ds p := hA0
  rw [Tryz.params3] at hA hval
  obtain ⟨v0, vs0, d0, ds0, p0, q0, hargs, rfl, rfl, h0, r0⟩ := trodAll_cons hA
  obtain ⟨v1, vs1, d1, ds1, p1, q1, rfl, rfl, rfl, h1, r1⟩ := trodAll_cons r0
  obtain ⟨rfl, rfl, rfl⟩ := trodAll_nil r1
  obtain rfl : args = #[v0, v1] := by cases args; simp_all
  obtain ⟨rfl, rfl⟩ := trodVars_none hV
  obtain ⟨cs, rfl, hsz⟩ := okWide_struct Tryz.underlying24 (hval 0 24 v0 rfl rfl)
  rw [cells24] at hsz
  have k0 := h0
  have lt0 : ∀ x ∈ p0, x.block < W.heap.size := by obtain ⟨m, hm⟩ := k0; exact DataW.trod_lt m _ _ _ hm
  obtain ⟨a0, a1, a2, a3, a4, a5, rfl⟩ : ∃ a0 a1 a2 a3 a4 a5, cs = #[.int .i64 a0, .int .i64 a1, .int .i64 a2, .bool a3, .bool a4, .int .i64 a5] := by
    obtain ⟨fuel, hf⟩ := h0
    obtain ⟨a0, a1, a2, a3, a4, a5, e⟩ := openO cs.toList (by simpa using hsz) hf
    exact ⟨a0, a1, a2, a3, a4, a5, Array.toList_inj.1 e⟩
  obtain ⟨b0, rfl, rfl, rfl, w1⟩ := open_int Tryz.underlying3 (hval 1 3 v1 rfl rfl) h1
  clear hA0 hval0
  refine (walk a0 a1 a2 a5 b0 a3 a4 W).mono fun e W' ⟨he, bel⟩ => ?_
  subst he
  exact ⟨_, rfl, _, _, _, [], _, [], hW', trodAll_mk1 (shut_bool Tryz.underlying4 _), (trodAll_cons_mk (Below.trod laidOut (by kernel_rfl) (of_decide_eq_true (by kernel_rfl)) k0 bel lt0) (trodAll_cons_mk (shut_int Tryz.underlying3 w1) trodAll_mk0)), rfl, bel.frame _, fun h => by cases h⟩

/-- the functions that the law reaches -/
def reached : List Nat := [
  3, 4, 5, 10, 16, 17, 6, 11, 19, 18, 7, 12, 13, 8, 14, 9, 15, 20, 21, 32, 22, 23, 33, 54, 55, 56, 90, 113, 34, 57, 58, 59, 92, 91, 114, 140, 35, 60, 37, 
  36, 61, 24, 25, 38, 26, 28, 40, 52, 27, 39, 29, 42, 53, 89, 88, 112, 62, 63, 94, 93, 115, 64, 65, 50, 85, 86, 108, 84, 107, 66, 67, 96, 95, 116, 68, 
  41, 43, 69, 97, 44, 70, 71, 47, 46, 72, 73, 98, 45, 48, 74, 99, 75, 77, 76, 100, 78, 79, 80, 101, 81, 102, 117, 141, 142, 118, 82, 103, 120, 119, 143, 
  104, 122, 121, 123, 144, 166, 145, 146, 124, 148, 147, 125, 126, 149, 168, 167, 151, 152, 170, 169, 171, 198, 199, 249, 248, 289, 197, 202, 172, 173, 
  200, 251, 250, 174, 201, 252, 253, 290, 317, 306, 240, 276, 307, 291, 292, 318, 204, 256, 257, 293, 254, 203, 228, 273, 305, 326, 327, 274, 158, 184, 
  230, 275, 255, 190, 175, 176, 205, 258, 150, 153, 177, 179, 178, 207, 206, 259, 260, 261, 262, 294, 263, 295, 180, 208, 210, 211, 267, 299, 298, 322, 
  212, 209, 265, 264, 266, 296, 319, 320, 331, 332, 321, 328, 333, 336, 337, 338, 339, 334, 330, 329, 335, 297, 127, 105, 128, 154, 130, 129, 155, 131, 
  156, 181, 213, 216, 268, 300, 323, 301, 302, 214, 182, 215, 217, 219, 269, 218, 220, 270, 221, 222, 223, 224, 271, 303, 324, 325, 304, 272, 225, 226, 
  227, 132, 157, 183, 229, 159, 186, 231, 185, 187, 232, 277, 308, 310, 311, 309, 278, 312, 233, 279, 234, 280, 313, 235, 281, 314, 315, 316, 236, 237, 
  188, 238, 282, 189, 239, 160, 192, 191, 193, 242, 241, 243, 283, 106, 133, 162, 161, 194, 244, 245, 284, 285, 246, 163, 195, 196, 247, 286, 288, 287, 
  134, 135, 83, 49, 51, 87, 109, 110, 137, 164, 139, 138, 165, 136, 111, 31, 30]
theorem rowed : mapsRowed Tryz.prog = true := by kernel_rfl
theorem clo : Tryz.prog.closure 3 = reached := by kernel_rfl
theorem inPlace : Tryz.prog.inPlace 3 = Rows.frameMayRow.inPlace := by unfold Program.inPlace; rw [clo]; kernel_rfl
theorem unfollowed : Tryz.prog.unfollowed 3 = Rows.frameMayRow.unfollowed := by unfold Program.unfollowed; rw [clo]; kernel_rfl
theorem recurses : Tryz.prog.recurses 3 = Rows.frameMayRow.recurses := by unfold Program.recurses; rw [unfollowed]; rfl
theorem names : Tryz.prog.varsNamed 3 = Rows.frameMayRow.named := by unfold Program.varsNamed; rw [clo]; kernel_rfl
theorem plainKeys : Tryz.prog.plainKeys = Rows.frameMayRow.plainKeys := by kernel_rfl
theorem heard : Tryz.prog.stopsHeard = true := by kernel_rfl
theorem mayEnter : Tryz.prog.mayEnter = true := by kernel_rfl
theorem lifts : Tryz.prog.liftsFinal = Rows.frameMayRow.lifted := by kernel_rfl
theorem make : Tryz.prog.make = some Rows.frameMayRow.make := by kernel_rfl
theorem closed : joinedFacts Tryz.prog 3 Tryz.f3 Rows.frameMaySpec Rows.frameMayRow = true := by
  unfold joinedFacts
  rw [laidOut, rowed, inPlace, unfollowed, recurses, names, plainKeys, heard, mayEnter, lifts, make]
  kernel_rfl
theorem named : Tryz.prog.funcNamed Rows.frameMayRow.func = some 3 := by kernel_rfl
theorem inst : Tryz.f3.isInstance Tryz.prog Rows.frameMayRow.origin Rows.frameMayRow.targs := of_decide_eq_true (by kernel_rfl)
theorem wrap : Tryz.f3.isWrapper Tryz.prog Rows.frameMayRow.wrapper Rows.frameMayRow.mainSum := by unfold Func.isWrapper; first | (rw [if_pos (by decide +kernel)]; kernel_rfl) | (rw [if_neg (by decide +kernel)]; exact ⟨rfl, rfl⟩)

theorem over : Rows.frameMayRow.holds Tryz.pinned (OpenSpec.ofChange Rows.frameMaySpec) :=
  OpenClaim.holds_of_wide 3 Tryz.f3 rfl rfl rfl rfl rfl rfl rfl ⟨rfl, rfl, rfl, rfl, rfl⟩ rfl rfl rfl rfl rfl named Tryz.func3 closed inst wrap
    (fun os started H enc _ => lifted os started H enc)

/-- ████ THE STATEMENT ████ -/
theorem proved : Rows.FrameMaySaid :=
  over
#print axioms proved
end Go.Proofs.YtapnpdingakdcaaGreat.frameMay
