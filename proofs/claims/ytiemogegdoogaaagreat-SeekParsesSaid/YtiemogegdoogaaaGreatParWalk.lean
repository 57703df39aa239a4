/- A call of SeekParses returns true, whatever the bytes, and turns nothing that was there. No condition beyond the cells of what came in. -/
import Derived.Test.YtiemogegdoogaaaGreatParse4
import Derived.Test.YtiemogegdoogaaaGreatCons
set_option linter.unusedVariables false
set_option maxRecDepth 100000
namespace Go.Proofs.YtiemogegdoogaaaGreat
open Go Go.Proofs.YtiemogegdoogaaaGreat.Eng Go.Proofs
theorem cKp_ok {I : Interp} : ConGood (fun _ => none) tb Tryz.prog I Sy.cKp := con_goodM (d := 80) (l := cs73) tb_ok cs73_ok (by kernel_rfl)
theorem seekParses_walk (a0 : Option Addr) (len0 cap0 : Nat) (z0 : List Int) (w : World)
    (h : (a0 = none ∧ len0 = 0 ∧ cap0 = 0 ∧ z0 = []) ∨ ∃ x, a0 = some x ∧ len0 ≤ cap0 ∧ cap0 ≤ maxLen ∧ z0.length = cap0 ∧ (∀ i, i < z0.length → w.cell? (x.add i) = some (.int .u8 (z0.getD i 0))) ∧ ∀ n ∈ z0, (Lit.int .u8 n).wf = true) :
    Calls Tryz.prog 3 #[.slice a0 len0 cap0] w fun e w' => e = .returned (.bool true) ∧ RowKit.Below w.heap.size w w' :=
  Sy.parses_any (fun _ => cKp_ok) a0 len0 cap0 z0 w h
end Go.Proofs.YtiemogegdoogaaaGreat
