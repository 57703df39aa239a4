/- The rows of a seek table, read by the reference. -/
import Derived.Test.YtiemogegdoogaaaGreatRdRows
set_option linter.unusedVariables false
set_option linter.unusedSimpArgs false
set_option maxRecDepth 100000
namespace Go.Proofs.YtiemogegdoogaaaGreat.Sy
open Go Go.Proofs.YtiemogegdoogaaaGreat.Eng Go.Proofs
section
variable {I : Interp}
/-! 0: the bytes, 1: at, 2, 3: the slice, 4, 5: the row that it is a part of, 6: the rows so far, 7: i, 8: many, 9: size, 10: all -/
noncomputable def rt0 (n : Nat) : SX := stU n (.var 7) (.var 8) (.var 1) (.lit 0) (.var 9) (.var 10)
noncomputable def rt1 (n : Nat) : SX := stU n (.a2 .add (.var 7) (.lit 1)) (.var 8) (np P1) (.lit 0) (.a2 .sub (.var 9) (nv (.var 1))) (.a2 .add (.var 10) (nv P1))
noncomputable def moreR : SX := .a2 .lt (.var 7) (.var 8)
noncomputable def rowF : Facts := [(.a2 .lt (.var 7) (.lit 0), false), (.a2 .lt (.var 8) (.var 7), false), (.a2 .lt (.lit 4000) (.var 8), false), (.a2 .lt (.var 9) (.lit 0), false), (.a2 .lt (.lit 4000) (.var 9), false), (.a2 .lt (.var 10) (.lit 0), false), (.a2 .lt mostN (.var 10), false), (.a2 .eq (.a1 .len (.var 6)) (.a2 .mul (.var 7) (.lit 2)), true)] ++ atF ++ winF
noncomputable def rowIn : List (Nat × AVal) := [(0, .slv 0 (.var 2) (.var 3) none 1), (1, .si .i64 (.var 8)), (2, .si .i64 (.var 9)), (8, .slv 1 (.lit 0) (.var 7) none 2), (9, .si .i64 (.var 1)), (10, .si .i64 (.var 10)), (11, .si .i64 (.var 7))]
noncomputable def rowO : List PObj := [winO, .seq .i64 (.var 6) 35]
noncomputable def lRow : LCon := ⟨20, [false, true, false, true, true, true], 86, rowIn,
  [(8, .slv 1 (.lit 0) (.var 8) none 2), (2, .si .i64 (rt0 43)), (9, .si .i64 (rt0 42)), (10, .any), (11, .any), (6, .any), (7, .any)] ++ anyWs (List.range' 12 65),
  rowO, [1], (.a2 .eq (rt0 40) (.lit 1), true) :: rowF, .ext 0, [(0, winO), (1, .seq .i64 (.a2 .app (.var 6) (rt0 41)) 35)], 2, .a2 .sub (.var 8) (.var 7)⟩
noncomputable def headR : Facts := [(moreR, true), (.a2 .lt (.var 7) (.lit 0), false)]
noncomputable def rowL : List Lem := [numL (.var 1), numL P1,
  ⟨headR ++ [(.a2 .eq (rt0 40) (.lit 1), true)], stepT 0 (.var 1) (.var 9) (.var 10) rt0 rt1⟩,
  ⟨[(moreR, false)], [(.a2 .eq (rt0 40) (.lit 1), true), (.a2 .same (rt0 41) (.str []), true), (.a2 .eq (rt0 42) (.var 1), true), (.a2 .eq (rt0 43) (.var 9), true)]⟩,
  ⟨headR ++ ((.a2 .eq (rt0 40) (.lit 0), true) :: goodAt (.var 1) (.var 9) (.var 10)), stepT 1 (.var 1) (.var 9) (.var 10) rt0 rt1⟩,
  ⟨(ok1 (.var 1), false) :: subF (at1 (.var 1)) curF, [(.a2 .eq P1 (.var 1), true)]⟩]
theorem next_row [VarI I] {v : Nat → D} (h : @Holds (I.at v) headR) : Next I v (.var 1) (.var 9) (.var 10) rt0 rt1 := by
  simp only [headR, moreR, holds_cons, holds_nil, and_true, tr_lt', decide_eq_true_eq, decide_eq_false_iff_not] at h
  obtain ⟨h1, h2⟩ := h
  have h1 : (v 7).int < (v 8).int := h1
  have h2 : ¬ (v 7).int < 0 := h2
  have e1 : ((v 8).int - (v 7).int).toNat = ((v 8).int - ((v 7).int + 1)).toNat + 1 := by omega
  refine ⟨((v 8).int - ((v 7).int + 1)).toNat, _, _, fun n => rfl, fun n => rfl, ?_, ?_⟩
  · change rowsF (v 0) ((v 8).int - (v 7).int).toNat (v 1) ((v 9).int - 0) (v 10).int = _
    rw [e1, Int.sub_zero]; rfl
  · have a1 : numAt (v 0) 2 (numAt (v 0) 2 (v 1)) = @SX.ev (I.at v) (np P1) := by rw [np_ev]; unfold P1; rw [np_ev]; rfl
    have a2 : (numAt (v 0) 0 (v 1)).int = (@SX.ev (I.at v) (nv (.var 1))).int := by rw [nv_ev]; rfl
    have a3 : (numAt (v 0) 0 (numAt (v 0) 2 (v 1))).int = (@SX.ev (I.at v) (nv P1)).int := by rw [nv_ev]; unfold P1; rw [np_ev]; rfl
    change rowsF (v 0) ((v 8).int - ((v 7).int + 1)).toNat (@SX.ev (I.at v) (np P1)) (((v 9).int - (@SX.ev (I.at v) (nv (.var 1))).int) - 0) ((v 10).int + (@SX.ev (I.at v) (nv P1)).int) = rowsF (v 0) _ (numAt (v 0) 2 (numAt (v 0) 2 (v 1))) ((v 9).int - (numAt (v 0) 0 (v 1)).int) ((v 10).int + (numAt (v 0) 0 (numAt (v 0) 2 (v 1))).int)
    rw [a1, a2, a3, Int.sub_zero]
theorem rowL_ok [VarI I] [hR : RowI I] : ∀ l ∈ rowL, l.Valid I := by
  intro l hl
  simp only [rowL, List.mem_cons, List.not_mem_nil, or_false] at hl
  rcases hl with rfl | rfl | rfl | rfl | rfl | rfl
  · exact numL_ok _
  · exact numL_ok _
  · intro v h
    obtain ⟨h1, h2⟩ := hold_app3 h
    simp only [holds_cons, holds_nil, and_true, tr_eq', decide_eq_true_eq] at h2
    exact step_yes (next_row h1) h2
  · intro v h
    simp only [moreR, holds_cons, holds_nil, and_true, tr_lt', tr_eq', decide_eq_true_eq, decide_eq_false_iff_not] at h ⊢
    have h : ¬ (v 7).int < (v 8).int := h
    have e : ∀ n, @SX.ev (I.at v) (rt0 n) = I.f1 n (@SX.ev (I.at v) (prs [.var 0, .var 7, .var 8, .var 1, .lit 0, .var 9, .var 10])) := fun n => rfl
    have hx : rowsD (@SX.ev (I.at v) (prs [.var 0, .var 7, .var 8, .var 1, .lit 0, .var 9, .var 10])) = some ([], v 1, (v 9).int - 0) := by
      change rowsF (v 0) ((v 8).int - (v 7).int).toNat (v 1) ((v 9).int - 0) (v 10).int = _
      rw [show ((v 8).int - (v 7).int).toNat = 0 by omega]; rfl
    refine ⟨?_, tr_same' ?_, ?_, ?_⟩
    · rw [e, hR.h40, hx]; rfl
    · rw [e, hR.h41, hx]; rfl
    · rw [e, hR.h42, hx]; rfl
    · rw [e, hR.h43, hx]; exact Int.sub_zero _
  · intro v h
    obtain ⟨h1, h2⟩ := hold_app3 h
    have h3 := h2 _ (List.mem_cons_self ..)
    have h3 : (@SX.ev (I.at v) (rt0 40)).int = 0 := of_decide_eq_true (tr_eq'.1 h3)
    exact step_no (next_row h1) h3 fun q hq => h2 q (List.mem_cons_of_mem _ hq)
  · intro v h
    have h1 := Lem.sub_ok varNo_ok (at1 (.var 1)) v h
    exact fun q hq => h1 q (by simp only [List.mem_singleton] at hq; subst hq; exact List.mem_map.2 ⟨(.a2 .eq (vtU 10 2 2) (.var 1), true), by simp, rfl⟩)
noncomputable def kRow : List Con := [cGet]
theorem kRow_ok [VarI I] : ∀ c ∈ kRow, ConGood (fun _ => none) tb Tryz.prog I c := List.forall_mem_cons.2 ⟨cGet_ok, fun _ h => by cases h⟩
theorem lRow_ok [VarI I] [RowI I] : LGood tb Tryz.prog I lRow :=
  lcon_good (d := 60) (l := kRow) (lps := []) tb_ok kRow_ok (fun _ h => by cases h) (L := lemL rowL) (fun v => lemL_ok rowL_ok v) (t := .br moreR (.lem 0 (.lem 2 (.lem 1 .leaf))) (.lem 3 .leaf)) (m := 2) (fun ds => by kernel_rfl)
noncomputable def lRowX : LCon := ⟨20, [false, true, false, true, true, true], 86, rowIn,
  [(6, .lit (.slice none 0 0)), (7, .lit (.bool false)), (2, .any), (8, .any), (9, .any), (10, .any), (11, .any)] ++ anyWs (List.range' 12 65),
  rowO, [1], (.a2 .eq (rt0 40) (.lit 0), true) :: rowF, .ret, [(0, winO)], 2, .a2 .sub (.var 8) (.var 7)⟩
noncomputable def treeR (t : ST) : ST := .br (ok1 P1) (.br (.a2 .lt (.lit 0) (nv (.var 1))) (.br (.a2 .lt (.var 9) (nv (.var 1))) .leaf (.br (.a2 .lt (.a2 .sub mostN (.var 10)) (nv P1)) .leaf t)) .leaf) .leaf
theorem lRowX_ok [VarI I] [RowI I] : LGood tb Tryz.prog I lRowX :=
  lcon_good (d := 60) (l := kRow) (lps := []) tb_ok kRow_ok (fun _ h => by cases h) (L := lemL rowL) (fun v => lemL_ok rowL_ok v) (t := .br moreR (.lem 0 (.lem 1 (.br (ok1 (.var 1)) (treeR (.lem 4 .leaf)) (.lem 5 (.br (ok1 P1) .leaf .leaf))))) (.no 3)) (m := 7) (fun ds => by kernel_rfl)
end
end Go.Proofs.YtiemogegdoogaaaGreat.Sy
