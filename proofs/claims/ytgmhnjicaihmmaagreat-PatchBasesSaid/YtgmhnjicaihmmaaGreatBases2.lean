/- The base of a patch, in the program and in the reference. No condition beyond those that each contract lists. -/
import Derived.Test.YtgmhnjicaihmmaaGreatBases
set_option linter.unusedVariables false
set_option linter.unusedSimpArgs false
set_option maxRecDepth 100000
namespace Go.Proofs.YtgmhnjicaihmmaaGreat.Sy
open Go Go.Proofs.YtgmhnjicaihmmaaGreat.Eng Go.Proofs
section
variable {E : Nat → Option Value} {I : Interp}
noncomputable def obW : PObj := .win .u8 (.var 1) (.var 0)
noncomputable def zeroE : SX := .a2 .eq (.a1 .len (.var 0)) (.lit 0)
/-- slices.Clone at no bytes, nil or not -/
noncomputable def cCloneZ : Con := ⟨52, [.slv 0 (.var 1) (.a1 .len (.var 0)) none 1], [obW], [(.a2 .lt (.var 1) (.lit 0), false), (zeroE, true)], .slv 1 (.lit 0) (.lit 0) none 1, [(0, obW), (1, .seq .u8 (.var 0) 5)], 2⟩
theorem cCloneZ_ok : ConGood E tb Tryz.prog I cCloneZ :=
  con_nil (p := 0) (i := 0) (o := .var 1) (l := .a1 .len (.var 0)) (z := 1) rfl (con_goodM (l := []) (d := 60) tb_ok (fun _ h => by cases h) (by kernel_rfl)) (con_goodM (l := []) (d := 60) tb_ok (fun _ h => by cases h) (by kernel_rfl))
noncomputable def kB : List Con := [cCloneZ, cPW 13, cPW 14, cPB 15 bndP, cPB 16 bndR]
/-! the law's loop: each byte of the base goes up by one -/
noncomputable def dRow (o : Nat) (n : SX) : PObj := .row [.lit (.int .u32 0), .lit (.slice none 0 0), .lit (.int .i64 0), .lit (.slice none 0 0), .lit (.int .i64 0), .lit (.slice none 0 0), .lit (.int .i64 0), .lit (.slice none 0 0), .lit (.int .i64 1), .lit (.int .i64 4), .lit (.int .i64 8), .slv o (.lit 0) n none 1] 46 false
noncomputable def upL (l i : SX) : SX := .a2 (.u 52) l i
noncomputable def inB : SX := .a2 .lt (.var 4) (.var 6)
noncomputable def upF : Facts := [(.a2 .eq (.a1 .len (.var 5)) (.var 6), true), (.a2 .lt (.var 4) (.lit 0), false), (.a2 .lt (.var 6) (.var 4), false), (.a2 .lt (.lit 300) (.var 6), false)]
noncomputable def lUp : LCon := ⟨4, [false, true, false, true, true, true, true, true, true], 107,
  [(8, .ptr 0 0), (10, .si .i64 (.var 4))],
  [(10, .any), (68, .any), (69, .any), (70, .any), (71, .any), (72, .any), (73, .any), (74, .any), (75, .any), (76, .any), (77, .any), (78, .any), (79, .any), (80, .any), (81, .any)],
  [dRow 1 (.var 6), .seq .u8 (.var 5) 5], [], upF, .ext 0, [(0, dRow 1 (.var 6)), (1, .seq .u8 (upL (.var 5) (.var 4)) 5)], 2, .a2 .sub (.var 6) (.var 4)⟩
/-- a list, each number from place i on one up -/
def upD : Nat → Int → D → D
  | 0, _, x => x
  | m + 1, i, x => upD m (i + 1) (.l (setL x.list i (arI .add .u8 (x.list[i.toNat]?.getD 0) 1)))
/-- the meaning of the function 52 -/
class UpI (I : Interp) : Prop where
  h52 : ∀ x i, I.f2 52 x i = upD (x.list.length - i.int.toNat) i.int x
noncomputable def upS : SX := .a3 .set (.var 5) (.var 4) (.a2 (.ar .add .u8) (.a2 .rd (.var 5) (.var 4)) (.lit 1))
noncomputable def upLs : List Lem := [
  ⟨(inB, true) :: upF, [(.a2 .same (upL (.var 5) (.var 4)) (upL upS (.a2 .add (.var 4) (.lit 1))), true)]⟩,
  ⟨(inB, false) :: upF, [(.a2 .same (upL (.var 5) (.var 4)) (.var 5), true)]⟩]
theorem same_ok {J : Interp} {x y : SX} (h : @SX.ev J x = @SX.ev J y) : (@SX.ev J (.a2 .same x y)).tr = true := by
  change (@F2.ev J .same _ _).tr = true
  rw [h]; simp only [F2.ev, D.tr_ofB, decide_eq_true_eq]
theorem upLs_ok [hU : UpI I] : ∀ l ∈ upLs, l.Valid I := by
  intro l hl
  simp only [upLs, List.mem_cons, List.not_mem_nil, or_false] at hl
  rcases hl with rfl | rfl
  · intro v h
    simp only [upF, inB, holds_cons, holds_nil, and_true, fact_lt, fact_eq, decide_eq_true_eq, decide_eq_false_iff_not] at h
    obtain ⟨h1, h2, h3, h4, h5⟩ := h
    have h1 : (v 4).int < (v 6).int := h1
    have h2 : ((v 5).list.length : Int) = (v 6).int := h2
    have h3 : ¬ (v 4).int < 0 := h3
    simp only [holds_cons, holds_nil, and_true]
    refine same_ok ?_
    change I.f2 52 (v 5) (v 4) = I.f2 52 (.l (setL (v 5).list (v 4).int (arI .add .u8 ((v 5).list[(v 4).int.toNat]?.getD 0) 1))) (.i ((v 4).int + 1))
    rw [hU.h52, hU.h52]
    have e1 : (D.l (setL (v 5).list (v 4).int (arI .add .u8 ((v 5).list[(v 4).int.toNat]?.getD 0) 1))).list.length = (v 5).list.length := by
      change (setL _ _ _).length = _
      unfold setL; rw [List.length_set]
    have e2 : (D.i ((v 4).int + 1)).int = (v 4).int + 1 := rfl
    rw [e1, e2, show (v 5).list.length - (v 4).int.toNat = ((v 5).list.length - ((v 4).int + 1).toNat) + 1 by omega]
    rfl
  · intro v h
    simp only [upF, inB, holds_cons, holds_nil, and_true, fact_lt, fact_eq, decide_eq_true_eq, decide_eq_false_iff_not] at h
    obtain ⟨h1, h2, h3, h4, h5⟩ := h
    have h1 : ¬ (v 4).int < (v 6).int := h1
    have h2 : ((v 5).list.length : Int) = (v 6).int := h2
    simp only [holds_cons, holds_nil, and_true]
    refine same_ok ?_
    change I.f2 52 (v 5) (v 4) = v 5
    rw [hU.h52, show (v 5).list.length - (v 4).int.toNat = 0 by omega]
    rfl
theorem lUp_ok [UpI I] : LGood tb Tryz.prog I lUp :=
  lcon_good (d := 60) (l := []) (lps := []) tb_ok (fun _ h => by cases h) (fun _ h => by cases h) (L := lemL upLs) (fun v => lemL_ok upLs_ok v) (t := .br inB (.lem 0 .leaf) (.lem 1 .leaf)) (m := 2) (fun ds => by kernel_rfl)
/-! the law -/
noncomputable def cKw : Con := ⟨5, [], [], [], .lit (.bool true), [], 1⟩
noncomputable def bN : SX := .a1 .len (.var 0)
noncomputable def bF : Facts := [(.a1 .byt (.var 0), true), (.a2 .lt (.lit 300) bN, false), (.a2 .lt (.var 3) (.lit 0), false)]
noncomputable def mark4 : SX := .a2 .eqL (.a3 .cut (.var 0) (.lit 0) (.lit 4)) (.str [80, 77, 84, 68])
noncomputable def bL : List Lem := [
  ⟨[(zeroE, true)], [(.a2 .eqL (.str []) (.var 0), true)]⟩,
  ⟨[(mark4, true), (.a2 .lt bN (.lit 4), false)], [(.a2 .eqL (.a3 .cut (.var 0) (.lit 1) (.lit 5)) (.str [80, 77, 84, 68]), false)]⟩,
  ⟨[(mark4, true), (.a2 .lt bN (.lit 4), false), (.a2 .lt (.a2 .sub bN (.lit 1)) (.lit 4), true)], [(.a2 .eqL (.var 0) (.str [80, 77, 84, 68]), true)]⟩,
  bndL, ⟨[(zeroE, false)], [(.a2 .lt (.lit 0) bN, true)]⟩]
noncomputable def kL : List Con := kB ++ [cKw]
noncomputable def cB (fs : Facts) : Con := ⟨4, [.slv 0 (.var 3) bN none 1, .si .i64 (.var 1), .si .i64 (.var 2)], [.win .u8 (.var 3) (.var 0)], fs, .lit (.bool true), [(0, .win .u8 (.var 3) (.var 0))], 1⟩
end
end Go.Proofs.YtgmhnjicaihmmaaGreat.Sy
