/- slices.IndexFunc on rows of which one is not valid. -/
import Derived.Test.YtempojknmnmffaaGreatTable2
set_option linter.unusedVariables false
set_option linter.unusedSimpArgs false
set_option maxRecDepth 100000
namespace Go.Proofs.YtempojknmnmffaaGreat.Sy
open Go Go.Proofs.YtempojknmnmffaaGreat.Eng Go.Proofs
def mayRow (x y : Int) : Prop := 0 < x ∧ x ≤ 4611686018427387903 ∧ 0 ≤ y ∧ y ≤ 4611686018427387903
instance (x y : Int) : Decidable (mayRow x y) := by unfold mayRow; infer_instance
/-- the first row that is not valid -/
def firstBad : List Int → Int → Int
  | x :: y :: r, i => if mayRow x y then firstBad r (i + 1) else i
  | _, i => i
class BadI (I : Interp) : Prop where
  h33 : ∀ x i, I.f2 33 x i = .i (firstBad (x.list.drop (2 * i.int.toNat)) i.int)
theorem firstBad_le : ∀ (l : List Int) (i : Int), i ≤ firstBad l i
  | [], i => Int.le_refl _
  | [x], i => Int.le_refl _
  | x :: y :: r, i => by
    simp only [firstBad]
    split
    · have := firstBad_le r (i + 1); omega
    · exact Int.le_refl _
section
variable {I : Interp}
noncomputable def badT (i : SX) : SX := .a2 (.u 33) (.var 0) i
noncomputable def g0 : Facts := [(.a2 .lt (.var 3) (.lit 0), false), (more, true), c2]
noncomputable def xl : SX := .a2 .lt (.lit 0) x0
noncomputable def xh : SX := .a2 .lt (.lit 4611686018427387903) x0
noncomputable def yl : SX := .a2 .lt y0 (.lit 0)
noncomputable def yh : SX := .a2 .lt (.lit 4611686018427387903) y0
noncomputable def may0 : SX × Bool := (.a2 .eq (mayT (.var 3)) (.lit 0), true)
noncomputable def badL : List Lem := [
  ⟨g0, [(.a2 .lt (.a2 .add at2 (.lit 1)) (.a1 .len (.var 0)), true), (.a2 .lt at2 (.a1 .len (.var 0)), true)]⟩,
  ⟨g0 ++ [may0, (xl, true), (xh, false), (yl, false), (yh, false)], [(.a2 .eq (mayT n3) (.lit 0), true), (.a2 .eq (badT (.var 3)) (badT n3), true)]⟩,
  ⟨g0 ++ [(xl, false)], [(.a2 .eq (badT (.var 3)) (.var 3), true)]⟩,
  ⟨g0 ++ [(xh, true)], [(.a2 .eq (badT (.var 3)) (.var 3), true)]⟩,
  ⟨g0 ++ [(yl, true)], [(.a2 .eq (badT (.var 3)) (.var 3), true)]⟩,
  ⟨g0 ++ [(yh, true)], [(.a2 .eq (badT (.var 3)) (.var 3), true)]⟩,
  ⟨[(.a2 .lt (.var 3) (.lit 0), false), (more, false), c2], [(.a2 .eq (mayT (.var 3)) (.lit 0), false)]⟩]
noncomputable def lBad : LCon := ⟨59, [false, true, false, true], 19,
  [(0, .slv 0 (.var 1) (.var 2) none 2), (1, .fn 24 [] []), (6, .slv 0 (.var 1) (.var 2) none 2), (7, .si .i64 (.var 2)), (8, .si .i64 (.var 3)), (4, .lit (.int .i64 0))],
  [(4, .si .i64 (badT (.var 3))), (5, .any), (8, .any), (9, .any), (10, .any), (11, .any), (12, .any), (13, .any), (14, .any), (15, .any), (16, .any), (17, .any), (18, .any)],
  [.win .i64 (.var 1) (.var 0)], [], [(.a2 .lt (.var 3) (.lit 0), false), (.a2 .lt (.var 2) (.var 3), false), (.a2 .lt (.lit 200) (.var 2), false), (.a2 .lt (.var 1) (.lit 0), false), c2, may0], .ret, [(0, .win .i64 (.var 1) (.var 0))], 400, .a2 .sub (.var 2) (.var 3)⟩
structure AtRow (I : Interp) (v : Nat → D) (x y : Int) (r : List Int) : Prop where
  b1 : (v 3).int * 2 + 1 < ((v 0).list.length : Int)
  hx : (@SX.ev (I.at v) x0).int = x
  hy : (@SX.ev (I.at v) y0).int = y
  m : (@SX.ev (I.at v) (mayT (.var 3))).int = if mayRows (x :: y :: r) then 1 else 0
  m' : (@SX.ev (I.at v) (mayT n3)).int = if mayRows r then 1 else 0
  f : (@SX.ev (I.at v) (badT (.var 3))).int = firstBad (x :: y :: r) (v 3).int
  f' : (@SX.ev (I.at v) (badT n3)).int = firstBad r ((v 3).int + 1)
theorem atRow [hT : TabI I] [hB : BadI I] {v : Nat → D} (h : @Holds (I.at v) g0) : ∃ x y r, AtRow I v x y r := by
  simp only [g0, holds_cons, holds_nil, and_true, more, c2, tr_lt, tr_eq, decide_eq_true_eq, decide_eq_false_iff_not] at h
  obtain ⟨h0, h1, h2⟩ := h
  have h0 : ¬ (v 3).int < 0 := h0
  have h1 : (v 3).int < (v 2).int := h1
  have h2 : ((v 0).list.length : Int) = (v 2).int * 2 := h2
  obtain ⟨n, hn⟩ : ∃ n : Nat, (v 3).int = n := ⟨(v 3).int.toNat, by omega⟩
  have hd := drop_two (l := (v 0).list) (n := n) (by omega)
  have e5 : (v 3).int.toNat = n := by omega
  have e4 : (D.i ((v 3).int + 1)).int.toNat = n + 1 := by change ((v 3).int + 1).toNat = _; omega
  refine ⟨(v 0).list[2 * n]?.getD 0, (v 0).list[2 * n + 1]?.getD 0, (v 0).list.drop (2 * (n + 1)), by omega, ?_, ?_, ?_, ?_, ?_, ?_⟩
  · change ((v 0).list[((v 3).int * 2).toNat]?.getD 0) = _
    rw [show ((v 3).int * 2).toNat = 2 * n by omega]
  · change ((v 0).list[((v 3).int * 2 + 1).toNat]?.getD 0) = _
    rw [show ((v 3).int * 2 + 1).toNat = 2 * n + 1 by omega]
  · change (I.f2 31 (v 0) (v 3)).int = _
    rw [hT.h31, e5, hd]; rfl
  · change (I.f2 31 (v 0) (.i ((v 3).int + 1))).int = _
    rw [hT.h31, e4]; rfl
  · change (I.f2 33 (v 0) (v 3)).int = _
    rw [hB.h33, e5, hd]; rfl
  · change (I.f2 33 (v 0) (.i ((v 3).int + 1))).int = _
    rw [hB.h33, e4]; rfl
theorem hold_app {J : Interp} {a b : Facts} (h : @Holds J (a ++ b)) : @Holds J a ∧ @Holds J b := ⟨fun q hq => h q (List.mem_append.2 (.inl hq)), fun q hq => h q (List.mem_append.2 (.inr hq))⟩
theorem bad_here {v : Nat → D} {x y : Int} {r : List Int} (h : AtRow I v x y r) (hn : ¬ mayRow x y) : (@SX.ev (I.at v) (badT (.var 3))).int = (v 3).int := by
  rw [h.f]; simp only [firstBad]; rw [if_neg hn]
theorem badL_ok [hT : TabI I] [hB : BadI I] : ∀ l ∈ badL, l.Valid I := by
  intro l hl
  simp only [badL, List.mem_cons, List.not_mem_nil, or_false] at hl
  rcases hl with rfl | rfl | rfl | rfl | rfl | rfl | rfl
  · intro v h
    obtain ⟨x, y, r, H⟩ := atRow h
    have := H.b1
    simp only [holds_cons, holds_nil, and_true, tr_lt, decide_eq_true_eq]
    refine ⟨?_, ?_⟩
    · change (v 3).int * 2 + 1 < ((v 0).list.length : Int); omega
    · change (v 3).int * 2 < ((v 0).list.length : Int); omega
  · intro v h
    obtain ⟨h1, h2⟩ := hold_app h
    obtain ⟨x, y, r, H⟩ := atRow h1
    simp only [holds_cons, holds_nil, and_true, may0, xl, xh, yl, yh, tr_lt, tr_eq, decide_eq_true_eq, decide_eq_false_iff_not, H.hx, H.hy, H.m] at h2
    obtain ⟨k0, k1, k2, k3, k4⟩ := h2
    have k1 : (0 : Int) < x := k1
    have k2 : ¬ (4611686018427387903 : Int) < x := k2
    have k3 : ¬ y < 0 := k3
    have k4 : ¬ (4611686018427387903 : Int) < y := k4
    have hmay : mayRow x y := ⟨k1, by omega, by omega, by omega⟩
    simp only [holds_cons, holds_nil, and_true, tr_eq, decide_eq_true_eq, H.m', H.f, H.f']
    refine ⟨?_, ?_⟩
    · have e : mayRows (x :: y :: r) = mayRows r := by
        simp only [mayRows]; rw [decide_eq_true (show 0 < x ∧ x ≤ 4611686018427387903 ∧ 0 ≤ y ∧ y ≤ 4611686018427387903 from hmay), Bool.true_and]
      rw [e] at k0; exact k0
    · simp only [firstBad]; rw [if_pos hmay]
  · intro v h
    obtain ⟨h1, h2⟩ := hold_app h
    obtain ⟨x, y, r, H⟩ := atRow h1
    simp only [holds_cons, holds_nil, and_true, xl, tr_lt, decide_eq_false_iff_not, H.hx] at h2
    have h2 : ¬ (0 : Int) < x := h2
    simp only [holds_cons, holds_nil, and_true, tr_eq, decide_eq_true_eq]
    exact bad_here H fun k => h2 k.1
  · intro v h
    obtain ⟨h1, h2⟩ := hold_app h
    obtain ⟨x, y, r, H⟩ := atRow h1
    simp only [holds_cons, holds_nil, and_true, xh, tr_lt, decide_eq_true_eq, H.hx] at h2
    have h2 : (4611686018427387903 : Int) < x := h2
    simp only [holds_cons, holds_nil, and_true, tr_eq, decide_eq_true_eq]
    exact bad_here H fun k => by have := k.2.1; omega
  · intro v h
    obtain ⟨h1, h2⟩ := hold_app h
    obtain ⟨x, y, r, H⟩ := atRow h1
    simp only [holds_cons, holds_nil, and_true, yl, tr_lt, decide_eq_true_eq, H.hy] at h2
    have h2 : y < 0 := h2
    simp only [holds_cons, holds_nil, and_true, tr_eq, decide_eq_true_eq]
    exact bad_here H fun k => by have := k.2.2.1; omega
  · intro v h
    obtain ⟨h1, h2⟩ := hold_app h
    obtain ⟨x, y, r, H⟩ := atRow h1
    simp only [holds_cons, holds_nil, and_true, yh, tr_lt, decide_eq_true_eq, H.hy] at h2
    have h2 : (4611686018427387903 : Int) < y := h2
    simp only [holds_cons, holds_nil, and_true, tr_eq, decide_eq_true_eq]
    exact bad_here H fun k => by have := k.2.2.2; omega
  · intro v h
    simp only [holds_cons, holds_nil, and_true, more, c2, tr_lt, tr_eq, decide_eq_true_eq, decide_eq_false_iff_not] at h ⊢
    obtain ⟨h0, h1, h2⟩ := h
    have h0 : ¬ (v 3).int < 0 := h0
    have h1 : ¬ (v 3).int < (v 2).int := h1
    have h2 : ((v 0).list.length : Int) = (v 2).int * 2 := h2
    have e : (@SX.ev (I.at v) (mayT (.var 3))).int = 1 := by
      change (I.f2 31 (v 0) (v 3)).int = _
      rw [hT.h31, List.drop_eq_nil_of_le (by omega)]; rfl
    rw [e]; change ¬ (1 : Int) = 0; decide
noncomputable def treeBad : ST := .br more (.lem 0 (.br xl (.br xh (.lem 3 .leaf) (.br yl (.lem 4 .leaf) (.br yh (.lem 5 .leaf) (.lem 1 .leaf)))) (.lem 2 .leaf))) (.no 6)
theorem lBad_ok [TabI I] [BadI I] : LGood tb Tryz.prog I lBad :=
  lcon_good (d := 60) (l := []) (lps := []) tb_ok (fun _ h => by cases h) (fun _ h => by cases h) (L := lemL badL) (fun v => lemL_ok badL_ok v) (t := treeBad) (m := 5) (fun ds => by kernel_rfl)
noncomputable def some0 : Facts := [(.a2 .lt (.var 2) (.lit 0), false), (.a2 .lt (.lit 200) (.var 2), false), (.a2 .lt (.var 1) (.lit 0), false), c2, (.a2 .eq (mayT (.lit 0)) (.lit 0), true)]
noncomputable def cIdxB : Con := ⟨59, [.slv 0 (.var 1) (.var 2) none 2, .fn 24 [] []], [.win .i64 (.var 1) (.var 0)], some0, .si .i64 (badT (.lit 0)), [(0, .win .i64 (.var 1) (.var 0))], 1⟩
theorem cIdxB_ok [TabI I] [BadI I] : ConGood (fun _ => none) tb Tryz.prog I cIdxB := con_loopsM (d := 60) (l := []) (lps := [lBad]) (L := noLem) (t := .leaf) tb_ok (fun _ h => by cases h) (List.forall_mem_cons.2 ⟨lBad_ok, fun _ h => by cases h⟩) (fun v => @noLem_ok (I.at v)) (by kernel_rfl)
noncomputable def someL : List Lem := [⟨[], [(.a2 .lt (badT (.lit 0)) (.lit 0), false)]⟩]
theorem someL_ok [hB : BadI I] : ∀ l ∈ someL, l.Valid I := by
  intro l hl
  simp only [someL, List.mem_cons, List.not_mem_nil, or_false] at hl
  subst hl
  intro v h
  simp only [holds_cons, holds_nil, and_true, tr_lt, decide_eq_false_iff_not]
  have e : (@SX.ev (I.at v) (badT (.lit 0))).int = firstBad (v 0).list 0 := by
    change (I.f2 33 (v 0) (.i 0)).int = _
    rw [hB.h33]; rfl
  rw [e]
  have := firstBad_le (v 0).list 0
  change ¬ firstBad (v 0).list 0 < 0
  omega
noncomputable def cHasB : Con := ⟨23, [.slv 0 (.var 1) (.var 2) none 2, .fn 24 [] []], [.win .i64 (.var 1) (.var 0)], some0, .lit (.bool true), [(0, .win .i64 (.var 1) (.var 0))], 1⟩
theorem cHasB_ok [TabI I] [BadI I] : ConGood (fun _ => none) tb Tryz.prog I cHasB := con_casesM (d := 60) (l := [cIdxB]) (L := lemL someL) (t := .lem 0 .leaf) tb_ok (List.forall_mem_cons.2 ⟨cIdxB_ok, fun _ h => by cases h⟩) (fun v => lemL_ok someL_ok v) (by kernel_rfl)
noncomputable def cTableX : Con := ⟨8, [.slv 0 (.var 1) (.var 2) none 2], [.win .i64 (.var 1) (.var 0)], some0, .tup [.lit (.slice none 0 0), .lit (.int .i64 2)], [(0, .win .i64 (.var 1) (.var 0))], 1⟩
theorem cTableX_ok [TabI I] [BadI I] : ConGood (fun _ => none) tb Tryz.prog I cTableX := con_goodM (d := 60) (l := [cHasB]) tb_ok (List.forall_mem_cons.2 ⟨cHasB_ok, fun _ h => by cases h⟩) (by kernel_rfl)
end
end Go.Proofs.YtempojknmnmffaaGreat.Sy
