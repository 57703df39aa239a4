/- A call of PatchBases returns true, whatever the bytes and the lengths, and turns nothing that was there. No condition beyond the cells of what came in. -/
import Derived.Test.YtgmhnjicaihmmaaGreatBases3
import Derived.Test.YtgmhnjicaihmmaaGreatCons
set_option linter.unusedVariables false
set_option maxRecDepth 100000
namespace Go.Proofs.YtgmhnjicaihmmaaGreat
open Go Go.Proofs.YtgmhnjicaihmmaaGreat.Eng Go.Proofs
theorem cKb_ok {I : Interp} : ConGood (fun _ => none) tb Tryz.prog I Sy.cKw := con_goodM (d := 80) (l := cs38) tb_ok cs38_ok (by kernel_rfl)
theorem patchBases_walk (a0 : Option Addr) (len0 cap0 : Nat) (z0 : List Int) (a1 : Int) (a2 : Int) (w : World)
    (h : (a0 = none ∧ len0 = 0 ∧ cap0 = 0 ∧ z0 = []) ∨ ∃ x, a0 = some x ∧ len0 ≤ cap0 ∧ cap0 ≤ maxLen ∧ z0.length = cap0 ∧ (∀ i, i < z0.length → w.cell? (x.add i) = some (.int .u8 (z0.getD i 0))) ∧ ∀ n ∈ z0, (Lit.int .u8 n).wf = true) (_w1 : (Lit.int .i64 a1).wf = true) (_w2 : (Lit.int .i64 a2).wf = true) :
    Calls Tryz.prog 4 #[.slice a0 len0 cap0, .int .i64 a1, .int .i64 a2] w fun e w' => e = .returned (.bool true) ∧ RowKit.Below w.heap.size w w' :=
  Sy.bases_any (fun _ => cKb_ok) a1 a2 a0 len0 cap0 z0 w h
end Go.Proofs.YtgmhnjicaihmmaaGreat
