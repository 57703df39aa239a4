/- Which windows a header may have: the program and the reference decide it alike, for every number. No condition. -/
import Derived.Test.YtapnpdingakdcaaGreatWinV
import Derived.Test.YtapnpdingakdcaaGreatWinM
import Derived.Test.YtapnpdingakdcaaGreatWinN
set_option linter.unusedVariables false
set_option maxRecDepth 100000
namespace Go.Proofs.YtapnpdingakdcaaGreat
open Go Go.Proofs.YtapnpdingakdcaaGreat.Eng Go.Proofs
theorem allM : (pairs.all fun q => runs (cls 11 q)) = true := (all_app runsM0 (all_app runsM1 (all_app runsM2 (all_app runsM3 (all_app runsM4 (all_app runsM5 (all_app runsM6 (all_app runsM7 (all_app runsM8 runsM9)))))))))
theorem outM : (runs (out 11 low false) && runs (out 11 mid false) && runs (out 11 least true) && runs (out 11 high false)) = true := by kernel_rfl
/-- each pair begins where the one before it ends -/
noncomputable def chained : Int → List (Int × Int) → Int → Bool
  | a, [], z => ieq a z
  | a, q :: l, z => ieq q.1 a && chained q.2 l z
theorem chained_ok : chained 1024 pairs 134217728 = true := by kernel_rfl
theorem pick : ∀ (l : List (Int × Int)) (a z w : Int), chained a l z = true → a < w → w ≤ z → ∃ q ∈ l, q.1 < w ∧ w ≤ q.2
  | [], a, z, w, h, h1, h2 => by rw [ieq_eq (show ieq a z = true from h)] at h1; omega
  | q :: l, a, z, w, h, h1, h2 => by
    simp only [chained, Bool.and_eq_true] at h
    have e := ieq_eq h.1
    by_cases hw : w ≤ q.2
    · exact ⟨q, List.mem_cons_self .., by omega, hw⟩
    · obtain ⟨r, h3, h4⟩ := pick l q.2 z w h.2 (by omega) h2
      exact ⟨r, List.mem_cons_of_mem _ h3, h4⟩
/-- the window is one that a byte tells -/
noncomputable def okW (w : Int) : Bool := match pairs.find? fun q => decide (q.1 < w ∧ w ≤ q.2) with
  | some q => decide (q.2 = w)
  | none => decide (w = 1024)
theorem pairs_low : (pairs.all fun q => ilt 1023 q.2 && !(ilt 134217728 q.2)) = true := by kernel_rfl
theorem okW_range {w : Int} (h : okW w = true) : 1024 ≤ w ∧ w ≤ 134217728 := by
  unfold okW at h
  split at h
  · rename_i q hq
    have h1 := List.all_eq_true.1 pairs_low q (List.mem_of_find?_eq_some hq)
    have h2 := of_decide_eq_true h
    simp only [Bool.and_eq_true, Bool.not_eq_true', ilt_eq, decide_eq_true_eq, decide_eq_false_iff_not] at h1
    omega
  · have := of_decide_eq_true h; omega
/-- the contract: whether a header is valid is a function of its window -/
noncomputable def cH (f : Nat) : Con := ⟨f, [hd], [], [], .sb (.a1 (.u 0) (.var 0)), [], 100000⟩
/-- what the symbols mean -/
@[reducible] noncomputable def mean (v : Nat → D) : Interp := ⟨v, fun _ d => D.ofB (okW d.int), fun _ _ _ => .i 0, fun _ _ _ _ => .i 0⟩
theorem lt_t [Interp] {x y : SX} (h : x.ev.int < y.ev.int) : (SX.a2 .lt x y).ev.tr = true := (D.tr_ofB _).trans (decide_eq_true h)
theorem lt_f [Interp] {x y : SX} (h : ¬ x.ev.int < y.ev.int) : (SX.a2 .lt x y).ev.tr = false := (D.tr_ofB _).trans (decide_eq_false h)
theorem eq_t [Interp] {x y : SX} (h : x.ev.int = y.ev.int) : (SX.a2 .eq x y).ev.tr = true := (D.tr_ofB _).trans (decide_eq_true h)
theorem eq_f [Interp] {x y : SX} (h : ¬ x.ev.int = y.ev.int) : (SX.a2 .eq x y).ev.tr = false := (D.tr_ofB _).trans (decide_eq_false h)
theorem holds0 [Interp] : Holds [] := fun _ h => by cases h
theorem holdsC [Interp] {e : SX} {b : Bool} {l : Facts} (h : e.ev.tr = b) (k : Holds l) : Holds ((e, b) :: l) := List.forall_mem_cons.2 ⟨h, k⟩
theorem holdsA [Interp] {l m : Facts} (h : Holds l) (k : Holds m) : Holds (l ++ m) := fun q hq => (List.mem_append.1 hq).elim (h q) (k q)
theorem cH_ok {E : Nat → Option Value} {u : Nat → D} {f : Nat} (h1 : (pairs.all fun q => runs (cls f q)) = true) (h2 : (runs (out f low false) && runs (out f mid false) && runs (out f least true) && runs (out f high false)) = true) : ConGood E tb Tryz.prog (mean u) (cH f) := by
  refine ConGood.of fun v _ => ?_
  simp only [Bool.and_eq_true] at h2
  cases hf : pairs.find? fun q => decide (q.1 < (v 0).int ∧ (v 0).int ≤ q.2) with
  | some q =>
    have hm := List.mem_of_find?_eq_some hf
    have hq : q.1 < (v 0).int ∧ (v 0).int ≤ q.2 := by have := List.find?_some hf; simpa only [decide_eq_true_eq] using this
    refine ⟨cls f q, runs_ok (List.all_eq_true.1 h1 q hm), rfl, rfl, rfl, rfl, rfl, ?_, fun κ x hx => ?_⟩
    · exact @holdsC ((mean u).at v) _ _ _ (@lt_t ((mean u).at v) (.lit q.1) (.var 0) hq.1) (@holdsC ((mean u).at v) _ _ _ (@lt_f ((mean u).at v) (.lit q.2) (.var 0) (show ¬ q.2 < (v 0).int by omega)) (@holds0 ((mean u).at v)))
    · have e : (@SX.ev ((mean u).at v) (.a1 (.u 0) (.var 0))).tr = (@SX.ev ((mean u).at v) (.a2 .eq (.lit q.2) (.var 0))).tr := by
        change (D.ofB (okW (v 0).int)).tr = (D.ofB (decide (q.2 = (v 0).int))).tr
        unfold okW
        rw [hf]
      cases hx with
      | sb => rw [← e]; exact @V.sb ((mean u).at v) _ _
  | none =>
    have hn : okW (v 0).int = decide ((v 0).int = 1024) := by unfold okW; rw [hf]
    have hno : ¬ (1024 < (v 0).int ∧ (v 0).int ≤ 134217728) := fun hc => by
      obtain ⟨q, h3, h4⟩ := pick pairs 1024 134217728 (v 0).int chained_ok hc.1 hc.2
      have := List.find?_eq_none.1 hf q h3
      simp only [decide_eq_true_eq] at this
      exact this h4
    have fin : ∀ b, decide ((v 0).int = 1024) = b → ∀ κ x, @V ((mean u).at v) κ (.lit (.bool b)) x → @V ((mean u).at v) κ (.sb (.a1 (.u 0) (.var 0))) x := fun b hb κ x hx => by
      cases hx
      have e : (@SX.ev ((mean u).at v) (.a1 (.u 0) (.var 0))).tr = b := by
        change (D.ofB (okW (v 0).int)).tr = b
        rw [hn, hb]; exact D.tr_ofB b
      have := @V.sb ((mean u).at v) κ (.a1 (.u 0) (.var 0))
      rw [e] at this; exact this
    by_cases c1 : (v 0).int < 0
    · exact ⟨out f low false, runs_ok h2.1.1.1, rfl, rfl, rfl, rfl, rfl, @holdsC ((mean u).at v) _ _ _ (@lt_t ((mean u).at v) (.var 0) (.lit 0) c1) (@holds0 ((mean u).at v)), fin false (decide_eq_false (by omega))⟩
    · by_cases c2 : 1024 < (v 0).int
      · exact ⟨out f high false, runs_ok h2.2, rfl, rfl, rfl, rfl, rfl, @holdsC ((mean u).at v) _ _ _ (@lt_t ((mean u).at v) (.lit 134217728) (.var 0) (show (134217728 : Int) < (v 0).int by omega)) (@holds0 ((mean u).at v)), fin false (decide_eq_false (by omega))⟩
      · by_cases c3 : (v 0).int < 1024
        · exact ⟨out f mid false, runs_ok h2.1.1.2, rfl, rfl, rfl, rfl, rfl, @holdsC ((mean u).at v) _ _ _ (@lt_f ((mean u).at v) (.var 0) (.lit 0) c1) (@holdsC ((mean u).at v) _ _ _ (@lt_t ((mean u).at v) (.var 0) (.lit 1024) c3) (@holds0 ((mean u).at v))), fin false (decide_eq_false (by omega))⟩
        · exact ⟨out f least true, runs_ok h2.1.2, rfl, rfl, rfl, rfl, rfl, @holdsC ((mean u).at v) _ _ _ (@lt_t ((mean u).at v) (.lit 1023) (.var 0) (show (1023 : Int) < (v 0).int by omega)) (@holdsC ((mean u).at v) _ _ _ (@lt_t ((mean u).at v) (.var 0) (.lit 1025) (show (v 0).int < 1025 by omega)) (@holds0 ((mean u).at v))), fin true (decide_eq_true (by omega))⟩
end Go.Proofs.YtapnpdingakdcaaGreat
