/- A call of SeekTables returns true, whatever the rows, and turns nothing that was there. No condition beyond the cells of what came in. -/
import Derived.Test.YtempojknmnmffaaGreatLawTab3
import Derived.Test.YtempojknmnmffaaGreatCons
set_option linter.unusedVariables false
set_option maxRecDepth 100000
namespace Go.Proofs.YtempojknmnmffaaGreat
open Go Go.Proofs.YtempojknmnmffaaGreat.Eng Go.Proofs
theorem cKn_ok {I : Interp} : ConGood (fun _ => none) tb Tryz.prog I Sy.cKn := con_goodM (d := 80) (l := cs73) tb_ok cs73_ok (by kernel_rfl)
theorem seekTables_walk (a0 : Option Addr) (len0 cap0 : Nat) (z0 : List Int) (w : World)
    (h : (a0 = none ∧ len0 = 0 ∧ cap0 = 0 ∧ z0 = []) ∨ ∃ x, a0 = some x ∧ len0 ≤ cap0 ∧ cap0 ≤ maxLen ∧ z0.length = cap0 * 2 ∧ ∀ i, i < z0.length → w.cell? (x.add i) = some (.int .i64 (z0.getD i 0))) :
    Calls Tryz.prog 3 #[.slice a0 len0 cap0] w fun e w' => e = .returned (.bool true) ∧ RowKit.Below w.heap.size w w' :=
  Sy.tables_any (fun _ => cKn_ok) a0 len0 cap0 z0 w h
end Go.Proofs.YtempojknmnmffaaGreat
