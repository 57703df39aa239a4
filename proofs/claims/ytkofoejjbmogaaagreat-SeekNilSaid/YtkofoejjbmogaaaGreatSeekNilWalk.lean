/- A call of SeekNil returns true, whatever the two numbers, and turns nothing that was there: what known returns is known, and the law is run in the five cases that the numbers leave. No condition. -/
import Derived.Test.YtkofoejjbmogaaaGreatCons2
set_option linter.unusedVariables false
set_option maxRecDepth 100000
namespace Go.Proofs.YtkofoejjbmogaaaGreat
open Go Go.Proofs.YtkofoejjbmogaaaGreat.Eng Go.Proofs
noncomputable def vars (a b : Int) : Nat → D
  | 0 => .i a
  | _ => .i b
noncomputable def cases : ST := .br (.a2 .lt (.var 0) (.lit 0)) .leaf (.br (.a2 .lt (.var 1) (.lit 0)) .leaf (.br (.a2 .lt (.lit 0) (.var 0)) .leaf (.br (.a2 .lt (.a2 .sub (.lit 0) (.var 0)) (.var 1)) .leaf .leaf)))
noncomputable def consK : List Con := [c73]
theorem consK_ok {E : Nat → Option Value} {I : Interp} : ∀ c ∈ consK, ConGood E tb Tryz.prog I c := List.forall_mem_cons.2 ⟨c73_ok, fun _ h => by cases h⟩
theorem seekNil_run : allT noLem (fun fs => isTrue (callF (tb.knows fs) Tryz.prog (evR (tb.knows fs) Tryz.prog consK 60) 3 [.si .i64 (.var 0), .si .i64 (.var 1)] .leaf 0)) cases [] = true := by kernel_rfl
theorem seekNil_walk {p q : Prop} (a0 b0 : Int) (_w0 : p) (_w1 : q) (w : World) :
    Calls Tryz.prog 3 #[.int .i64 a0, .int .i64 b0] w fun e w' => e = .returned (.bool true) ∧ RowKit.Below w.heap.size w w' := by
  letI I : Interp := Interp.void.at (vars a0 b0)
  exact law_cases (E := fun _ => none) (I := I) tb_ok consK_ok noLem_ok (vs := [.int .i64 a0, .int .i64 b0]) (.cons .si (.cons .si .nil)) (fun _ h => by cases h) seekNil_run
end Go.Proofs.YtkofoejjbmogaaaGreat
