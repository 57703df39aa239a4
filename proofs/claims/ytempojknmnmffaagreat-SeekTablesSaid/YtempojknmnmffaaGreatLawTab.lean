/- SeekTables on symbols: its own loop, and the law in its three cases. -/
import Derived.Test.YtempojknmnmffaaGreatRefTab
set_option linter.unusedVariables false
set_option linter.unusedSimpArgs false
set_option maxRecDepth 100000
namespace Go.Proofs.YtempojknmnmffaaGreat.Sy
open Go Go.Proofs.YtempojknmnmffaaGreat.Eng Go.Proofs
section
variable {I : Interp}
noncomputable def okT (b i : SX) : SX := .a2 .mul b (mayT i)
noncomputable def okV : SX := okT (.var 4) (.var 3)
noncomputable def yesL : List Lem := [
  ⟨g0, [(.a2 .lt (.a2 .add at2 (.lit 1)) (.a1 .len (.var 0)), true), (.a2 .lt at2 (.a1 .len (.var 0)), true)]⟩,
  ⟨g0 ++ [(.var 4, true), (.a2 .lt (.lit 1) (.var 4), false), (.a2 .lt (.var 4) (.lit 0), false), (xl, true), (xh, false), (yl, false), (yh, false)], [(.a2 .eq okV (okT (.lit 1) n3), true)]⟩,
  ⟨g0 ++ [(xl, false)], [(.a2 .eq okV (okT (.lit 0) n3), true)]⟩,
  ⟨g0 ++ [(xh, true)], [(.a2 .eq okV (okT (.lit 0) n3), true)]⟩,
  ⟨g0 ++ [(yl, true)], [(.a2 .eq okV (okT (.lit 0) n3), true)]⟩,
  ⟨g0 ++ [(yh, true)], [(.a2 .eq okV (okT (.lit 0) n3), true)]⟩,
  ⟨g0 ++ [(.var 4, false)], [(.a2 .eq okV (okT (.lit 0) n3), true)]⟩,
  ⟨[(.a2 .lt (.var 3) (.lit 0), false), (more, false), c2], [(.a2 .eq okV (.var 4), true)]⟩]
noncomputable def lYes : LCon := ⟨3, [false, true, false, true, true, true], 53,
  [(0, .slv 0 (.var 1) (.var 2) none 2), (3, .sb (.var 4)), (4, .si .i64 (.var 3))],
  (3, .sb okV) :: (4, .any) :: anyW (List.range' 11 14),
  [.win .i64 (.var 1) (.var 0)], [], [(.a2 .lt (.var 3) (.lit 0), false), (.a2 .lt (.var 2) (.var 3), false), (.a2 .lt (.lit 200) (.var 2), false), (.a2 .lt (.var 1) (.lit 0), false), c2, (.a2 .lt (.lit 1) (.var 4), false), (.a2 .lt (.var 4) (.lit 0), false)], .ext 0, [(0, .win .i64 (.var 1) (.var 0))], 400, .a2 .sub (.var 2) (.var 3)⟩
theorem may_int {v : Nat → D} {x y : Int} {r : List Int} : (if mayRows (x :: y :: r) then (1 : Int) else 0) = if mayRow x y then (if mayRows r then 1 else 0) else 0 := by
  have e : mayRows (x :: y :: r) = (decide (0 < x ∧ x ≤ 4611686018427387903 ∧ 0 ≤ y ∧ y ≤ 4611686018427387903) && mayRows r) := rfl
  by_cases h : mayRow x y
  · have e2 : mayRows (x :: y :: r) = mayRows r := by rw [e, decide_eq_true (show 0 < x ∧ x ≤ 4611686018427387903 ∧ 0 ≤ y ∧ y ≤ 4611686018427387903 from h), Bool.true_and]
    rw [if_pos h, e2]
  · have e2 : mayRows (x :: y :: r) = false := by rw [e, decide_eq_false (show ¬ (0 < x ∧ x ≤ 4611686018427387903 ∧ 0 ≤ y ∧ y ≤ 4611686018427387903) from h), Bool.false_and]
    rw [if_neg h, e2]; rfl
theorem okT_ev {v : Nat → D} (b i : SX) : (@SX.ev (I.at v) (okT b i)).int = (@SX.ev (I.at v) b).int * (@SX.ev (I.at v) (mayT i)).int := rfl
theorem no_here {v : Nat → D} {x y : Int} {r : List Int} (h : AtRow I v x y r) (hn : ¬ mayRow x y) : (@SX.ev (I.at v) okV).int = (@SX.ev (I.at v) (okT (.lit 0) n3)).int := by
  unfold okV
  rw [okT_ev, okT_ev, h.m, may_int (v := v), if_neg hn, Int.mul_zero]
  exact (Int.zero_mul _).symm
theorem yesL_ok [hT : TabI I] [hB : BadI I] : ∀ l ∈ yesL, l.Valid I := by
  intro l hl
  simp only [yesL, List.mem_cons, List.not_mem_nil, or_false] at hl
  rcases hl with rfl | rfl | rfl | rfl | rfl | rfl | rfl | rfl
  · intro v h
    obtain ⟨x, y, r, H⟩ := atRow h
    have := H.b1
    simp only [holds_cons, holds_nil, and_true, tr_lt, decide_eq_true_eq]
    refine ⟨?_, ?_⟩
    · change (v 3).int * 2 + 1 < ((v 0).list.length : Int); omega
    · change (v 3).int * 2 < ((v 0).list.length : Int); omega
  · intro v h
    obtain ⟨h1, h2⟩ := hold_app h
    obtain ⟨x, y, r, H⟩ := atRow h1
    simp only [holds_cons, holds_nil, and_true, xl, xh, yl, yh, tr_lt, tr_eq, decide_eq_true_eq, decide_eq_false_iff_not, H.hx, H.hy] at h2
    obtain ⟨k0, k5, k6, k1, k2, k3, k4⟩ := h2
    have k1 : (0 : Int) < x := k1
    have k2 : ¬ (4611686018427387903 : Int) < x := k2
    have k3 : ¬ y < 0 := k3
    have k4 : ¬ (4611686018427387903 : Int) < y := k4
    have k5 : ¬ (1 : Int) < (v 4).int := k5
    have k6 : ¬ (v 4).int < 0 := k6
    have k0 : ((v 4).int != 0) = true := k0
    have k0 : (v 4).int ≠ 0 := by simpa using k0
    have hmay : mayRow x y := ⟨k1, by omega, by omega, by omega⟩
    simp only [holds_cons, holds_nil, and_true, tr_eq, decide_eq_true_eq]
    unfold okV
    rw [okT_ev, okT_ev, H.m, H.m', may_int (v := v), if_pos hmay]
    have e : (@SX.ev (I.at v) (.var 4)).int = 1 := by change (v 4).int = 1; omega
    rw [e]; rfl
  · intro v h
    obtain ⟨h1, h2⟩ := hold_app h
    obtain ⟨x, y, r, H⟩ := atRow h1
    simp only [holds_cons, holds_nil, and_true, xl, tr_lt, decide_eq_false_iff_not, H.hx] at h2
    have h2 : ¬ (0 : Int) < x := h2
    simp only [holds_cons, holds_nil, and_true, tr_eq, decide_eq_true_eq]
    exact no_here H fun k => h2 k.1
  · intro v h
    obtain ⟨h1, h2⟩ := hold_app h
    obtain ⟨x, y, r, H⟩ := atRow h1
    simp only [holds_cons, holds_nil, and_true, xh, tr_lt, decide_eq_true_eq, H.hx] at h2
    have h2 : (4611686018427387903 : Int) < x := h2
    simp only [holds_cons, holds_nil, and_true, tr_eq, decide_eq_true_eq]
    exact no_here H fun k => by have := k.2.1; omega
  · intro v h
    obtain ⟨h1, h2⟩ := hold_app h
    obtain ⟨x, y, r, H⟩ := atRow h1
    simp only [holds_cons, holds_nil, and_true, yl, tr_lt, decide_eq_true_eq, H.hy] at h2
    have h2 : y < 0 := h2
    simp only [holds_cons, holds_nil, and_true, tr_eq, decide_eq_true_eq]
    exact no_here H fun k => by have := k.2.2.1; omega
  · intro v h
    obtain ⟨h1, h2⟩ := hold_app h
    obtain ⟨x, y, r, H⟩ := atRow h1
    simp only [holds_cons, holds_nil, and_true, yh, tr_lt, decide_eq_true_eq, H.hy] at h2
    have h2 : (4611686018427387903 : Int) < y := h2
    simp only [holds_cons, holds_nil, and_true, tr_eq, decide_eq_true_eq]
    exact no_here H fun k => by have := k.2.2.2; omega
  · intro v h
    obtain ⟨h1, h2⟩ := hold_app h
    simp only [holds_cons, holds_nil, and_true] at h2
    have h2 : ((v 4).int != 0) = false := h2
    have h2 : (v 4).int = 0 := by simpa using h2
    simp only [holds_cons, holds_nil, and_true, tr_eq, decide_eq_true_eq]
    unfold okV
    rw [okT_ev, okT_ev]
    have e : (@SX.ev (I.at v) (.var 4)).int = 0 := h2
    rw [e, Int.zero_mul]; exact (Int.zero_mul _).symm
  · intro v h
    simp only [holds_cons, holds_nil, and_true, more, c2, tr_lt, tr_eq, decide_eq_true_eq, decide_eq_false_iff_not] at h ⊢
    obtain ⟨h0, h1, h2⟩ := h
    have h0 : ¬ (v 3).int < 0 := h0
    have h1 : ¬ (v 3).int < (v 2).int := h1
    have h2 : ((v 0).list.length : Int) = (v 2).int * 2 := h2
    have e : (@SX.ev (I.at v) (mayT (.var 3))).int = 1 := by
      change (I.f2 31 (v 0) (v 3)).int = _
      rw [hT.h31, List.drop_eq_nil_of_le (by omega)]; rfl
    unfold okV
    rw [okT_ev, e, Int.mul_one]
noncomputable def treeYes : ST := .br more (.lem 0 (.br (.var 4) (.br xl (.br xh (.lem 3 .leaf) (.br yl (.lem 4 .leaf) (.br yh (.lem 5 .leaf) (.lem 1 .leaf)))) (.lem 2 .leaf)) (.lem 6 .leaf))) (.lem 7 .leaf)
theorem lYes_ok [TabI I] [BadI I] : LGood tb Tryz.prog I lYes :=
  lcon_good (d := 60) (l := []) (lps := []) tb_ok (fun _ h => by cases h) (fun _ h => by cases h) (L := lemL yesL) (fun v => lemL_ok yesL_ok v) (t := treeYes) (m := 7) (fun ds => by kernel_rfl)
end
end Go.Proofs.YtempojknmnmffaaGreat.Sy
