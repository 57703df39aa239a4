/- A call of PatchHeads returns true, whatever the header and the bytes, and turns nothing that was there. No condition beyond the cells of what came in. -/
import Derived.Test.YtgmhnjicaihmmaaGreatHeads3
import Derived.Test.YtgmhnjicaihmmaaGreatCons
set_option linter.unusedVariables false
set_option maxRecDepth 100000
namespace Go.Proofs.YtgmhnjicaihmmaaGreat
open Go Go.Proofs.YtgmhnjicaihmmaaGreat.Eng Go.Proofs
theorem cKw_ok {I : Interp} : ConGood (fun _ => none) tb Tryz.prog I Sy.cKw := con_goodM (d := 80) (l := cs38) tb_ok cs38_ok (by kernel_rfl)
theorem patchHeads_walk (a0 : Int) (a1 : Int) (a2 : Int) (a3 : Option Addr) (len3 cap3 : Nat) (z3 : List Int) (w : World) (w0 : (Lit.int .u32 a0).wf = true) (_w1 : (Lit.int .i64 a1).wf = true) (_w2 : (Lit.int .i64 a2).wf = true)
    (h : (a3 = none ∧ len3 = 0 ∧ cap3 = 0 ∧ z3 = []) ∨ ∃ x, a3 = some x ∧ len3 ≤ cap3 ∧ cap3 ≤ maxLen ∧ z3.length = cap3 ∧ (∀ i, i < z3.length → w.cell? (x.add i) = some (.int .u8 (z3.getD i 0))) ∧ ∀ n ∈ z3, (Lit.int .u8 n).wf = true) :
    Calls Tryz.prog 3 #[.int .u32 a0, .int .i64 a1, .int .i64 a2, .slice a3 len3 cap3] w fun e w' => e = .returned (.bool true) ∧ RowKit.Below w.heap.size w w' := by
  have h0 : 0 ≤ a0 ∧ a0 ≤ 4294967295 := by
    have h1 : (decide (IntKind.u32.min ≤ a0) && decide (a0 ≤ IntKind.u32.max)) = true := w0
    simp only [Bool.and_eq_true, decide_eq_true_eq] at h1
    exact h1
  exact Sy.heads_any (fun _ => cKw_ok) a0 a1 a2 h0 a3 len3 cap3 z3 w h
end Go.Proofs.YtgmhnjicaihmmaaGreat
