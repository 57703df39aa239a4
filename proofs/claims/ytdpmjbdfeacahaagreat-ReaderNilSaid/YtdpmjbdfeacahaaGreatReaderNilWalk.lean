/- A call of ReaderNil returns true, whatever the value that it gets, and turns nothing that was there: the evaluator runs it with the argument left open. No condition. -/
import Derived.Test.YtdpmjbdfeacahaaGreatTabs
namespace Go.Proofs.YtdpmjbdfeacahaaGreat
open Go Go.Proofs.YtdpmjbdfeacahaaGreat.Eng Go.Proofs
theorem readerNil_run (v : Value) : litR (evN tb Tryz.prog 60 8 [.lit v] .leaf 0) = some (.bool true) := by kernel_rfl
theorem readerNil_walk {p : Prop} (a0 : Option Addr) (len0 cap0 : Nat) (_z0 : List Int) (w : World) (_w0 : p) :
    Calls Tryz.prog 8 #[.slice a0 len0 cap0] w fun e w' => e = .returned (.bool true) ∧ RowKit.Below w.heap.size w w' :=
  law_lit tb_ok (vs := [.slice a0 len0 cap0]) (readerNil_run _)
end Go.Proofs.YtdpmjbdfeacahaaGreat
