/- seek.Table on symbols, whole, where all rows are valid. -/
import Derived.Test.YtempojknmnmffaaGreatTable
import Derived.Test.YtempojknmnmffaaGreatSumCon
set_option linter.unusedVariables false
set_option maxRecDepth 100000
namespace Go.Proofs.YtempojknmnmffaaGreat.Sy
open Go Go.Proofs.YtempojknmnmffaaGreat.Eng Go.Proofs
section
variable {I : Interp}
noncomputable def rows0 : SX := rowsT (.lit 0)
noncomputable def low0 : SX := .a1 (.cv .u32) (.a1 (.u 20) rows0)
noncomputable def tabTail : SX := .a2 .push (.a2 .push (.a2 .push (.a2 .push (putW (putW (putW (.str []) (.var 2)) low0) (.a1 .len rows0)) (.lit 80)) (.lit 77)) (.lit 84)) (.lit 73)
noncomputable def tabAll : SX := .a2 .app (putW (.str [80, 77, 84, 83]) (.a2 .add (.a1 .len rows0) (.lit 16))) (.a2 .app rows0 tabTail)
noncomputable def tabLs : List Lem := [⟨all0, [(.a1 .byt rows0, true), (.a2 .lt (.lit 3600) (.a1 .len rows0), false)]⟩]
noncomputable def cTable : Con := ⟨8, [.slv 0 (.var 1) (.var 2) none 2], [.win .i64 (.var 1) (.var 0)], all0, .tup [.slv 1 (.lit 0) (.a2 .add (.a1 .len rows0) (.lit 24)) none 1, .lit (.int .i64 0)], [(0, .win .i64 (.var 1) (.var 0)), (1, .seq .u8 tabAll 5)], 2⟩
noncomputable def kT : List Con := [cHas, cPutV, cPutW, cSumAll, cClone]
theorem kT_ok [PutI I] [TabI I] [SumI I] : ∀ c ∈ kT, ConGood (fun _ => none) tb Tryz.prog I c := List.forall_mem_cons.2 ⟨cHas_ok, List.forall_mem_cons.2 ⟨cPutV_ok, List.forall_mem_cons.2 ⟨cPutW_ok, List.forall_mem_cons.2 ⟨cSumAll_ok, List.forall_mem_cons.2 ⟨cClone_ok, fun _ h => by cases h⟩⟩⟩⟩⟩
theorem encRows_len : ∀ l : List Int, (encRows l).length ≤ 9 * l.length
  | [] => by simp [encRows]
  | [x] => by simp [encRows]
  | x :: y :: r => by
    have := encRows_len r
    have lx := enc_len 8 x
    have ly := enc_len 8 y
    simp only [encRows, List.length_append, List.length_cons]; omega
theorem encRows_byt : ∀ l : List Int, mayRows l = true → bytB (encRows l) = true
  | [], _ => rfl
  | [x], _ => rfl
  | x :: y :: r, h => by
    simp only [mayRows, Bool.and_eq_true, decide_eq_true_eq] at h
    obtain ⟨⟨a1, a2, a3, a4⟩, a5⟩ := h
    have hr := bytB_iff.1 (encRows_byt r a5)
    refine bytB_iff.2 fun z hz => ?_
    simp only [encRows, List.mem_append] at hz
    rcases hz with hz | hz | hz
    · have := enc_byt 8 x (by omega) (by omega) (.inr trivial) z hz; omega
    · have := enc_byt 8 y (by omega) (by omega) (.inr trivial) z hz; omega
    · exact hr z hz
theorem tabLs_ok [PutI I] [hT : TabI I] [SumI I] : ∀ l ∈ tabLs, l.Valid I := by
  intro l hl
  simp only [tabLs, List.mem_cons, List.not_mem_nil, or_false] at hl
  subst hl
  intro v h
  simp only [all0, holds_cons, holds_nil, and_true, c2, tr_lt, tr_eq, decide_eq_true_eq, decide_eq_false_iff_not] at h ⊢
  obtain ⟨h0, h1, _, h2, h3⟩ := h
  have h1 : ¬ (200 : Int) < (v 2).int := h1
  have h2 : ((v 0).list.length : Int) = (v 2).int * 2 := h2
  have e31 : (@SX.ev (I.at v) (mayT (.lit 0))).int = if mayRows (v 0).list then 1 else 0 := by
    change (I.f2 31 (v 0) (.i 0)).int = _
    rw [hT.h31]; rfl
  have e32 : @SX.ev (I.at v) rows0 = .l (encRows (v 0).list) := by
    change I.f2 32 (v 0) (.i 0) = _
    rw [hT.h32]; rfl
  rw [e31] at h3
  have hm : mayRows (v 0).list = true := by
    cases hm : mayRows (v 0).list with
    | true => rfl
    | false => rw [hm] at h3; simp [SX.ev, D.int] at h3
  have hl := encRows_len (v 0).list
  refine ⟨?_, ?_⟩
  · change (D.ofB (bytB (@SX.ev (I.at v) rows0).list)).tr = true
    rw [D.tr_ofB, e32]; exact encRows_byt _ hm
  · change ¬ (3600 : Int) < ((@SX.ev (I.at v) rows0).list.length : Int)
    rw [e32]; change ¬ (3600 : Int) < ((encRows (v 0).list).length : Int)
    omega
theorem cTable_ok [PutI I] [TabI I] [SumI I] : ConGood (fun _ => none) tb Tryz.prog I cTable := con_loopsM (d := 60) (l := kT) (lps := [lTab]) (L := lemL tabLs) (t := .lem 0 .leaf) tb_ok kT_ok (List.forall_mem_cons.2 ⟨lTab_ok, fun _ h => by cases h⟩) (fun v => lemL_ok tabLs_ok v) (by kernel_rfl)
end
end Go.Proofs.YtempojknmnmffaaGreat.Sy
