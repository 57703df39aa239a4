/- SeekParses on symbols. -/
import Derived.Test.YtiemogegdoogaaaGreatRdRows2
import Derived.Test.YtiemogegdoogaaaGreatSumPart
import Derived.Test.YtiemogegdoogaaaGreatHead
set_option linter.unusedVariables false
set_option linter.unusedSimpArgs false
set_option maxRecDepth 100000
namespace Go.Proofs.YtiemogegdoogaaaGreat.Sy
open Go Go.Proofs.YtiemogegdoogaaaGreat.Eng Go.Proofs
section
variable {I : Interp}
/-! two lists of rows that are the same -/
noncomputable def samF : Facts := [(.a2 .lt (.var 2) (.lit 0), false), (.a2 .lt (.var 1) (.var 2), false), (.a2 .lt (.lit 4000) (.var 1), false), (.a2 .eq (.a1 .len (.var 0)) (.a2 .mul (.var 1) (.lit 2)), true)]
noncomputable def samO : List PObj := [.seq .i64 (.var 0) 35, .seq .i64 (.var 0) 35]
noncomputable def lSam : LCon := ⟨8, [false, true, false, true, true], 26,
  [(0, .slv 0 (.lit 0) (.var 1) none 2), (1, .slv 1 (.lit 0) (.var 1) none 2), (5, .si .i64 (.var 2))],
  [(4, .any), (5, .any)] ++ anyWs (List.range' 11 15), samO, [], samF, .ext 0, [(0, .seq .i64 (.var 0) 35), (1, .seq .i64 (.var 0) 35)], 2, .a2 .sub (.var 1) (.var 2)⟩
noncomputable def samL : List Lem := [⟨[(.a2 .lt (.var 2) (.lit 0), false), (.a2 .lt (.var 2) (.var 1), true), (.a2 .eq (.a1 .len (.var 0)) (.a2 .mul (.var 1) (.lit 2)), true)], [(.a2 .lt (.a2 .add (.a2 .mul (.var 2) (.lit 2)) (.lit 1)) (.a1 .len (.var 0)), true), (.a2 .lt (.a2 .mul (.var 2) (.lit 2)) (.a1 .len (.var 0)), true)]⟩]
theorem samL_ok : ∀ l ∈ samL, l.Valid I := by
  intro l hl
  simp only [samL, List.mem_cons, List.not_mem_nil, or_false] at hl
  subst hl
  intro v h
  simp only [holds_cons, holds_nil, and_true, tr_lt', tr_eq', decide_eq_true_eq, decide_eq_false_iff_not] at h ⊢
  obtain ⟨h0, h1, h2⟩ := h
  have h0 : ¬ (v 2).int < 0 := h0
  have h1 : (v 2).int < (v 1).int := h1
  have h2 : ((v 0).list.length : Int) = (v 1).int * 2 := h2
  refine ⟨?_, ?_⟩
  · change (v 2).int * 2 + 1 < ((v 0).list.length : Int); omega
  · change (v 2).int * 2 < ((v 0).list.length : Int); omega
theorem lSam_ok : LGood tb Tryz.prog I lSam :=
  lcon_good (d := 60) (l := []) (lps := []) tb_ok (fun _ h => by cases h) (fun _ h => by cases h) (L := lemL samL) (fun v => lemL_ok samL_ok v) (t := .br (.a2 .lt (.var 2) (.var 1)) (.lem 0 .leaf) .leaf) (m := 2) (fun ds => by kernel_rfl)
end
end Go.Proofs.YtiemogegdoogaaaGreat.Sy
