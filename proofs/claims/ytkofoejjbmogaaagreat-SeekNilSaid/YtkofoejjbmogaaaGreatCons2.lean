/- Calls on given arguments come to given results, each proved by a run of its own, on those before it. No condition. -/
import Derived.Test.YtkofoejjbmogaaaGreatCons
set_option linter.unusedVariables false
set_option maxRecDepth 100000
namespace Go.Proofs.YtkofoejjbmogaaaGreat
open Go Go.Proofs.YtkofoejjbmogaaaGreat.Eng Go.Proofs
noncomputable def c51 : Con :=
  ⟨482, [(.slc 0 0 103 103), (.slu 1 0 2 1)], [(.row [(.lit (.int .i64 0)), (.lit (.int .i64 0)), (.lit (.int .i64 0)), (.lit (.int .i64 0)), (.lit
  (.int .i64 0)), (.lit (.int .i64 0)), (.lit (.int .i64 0)), (.lit (.int .i64 0)), (.lit (.int .i64 0)), (.lit (.int .i64 0)), (.lit (.int .i64 0)),
  (.lit (.int .i64 0)), (.lit (.int .i64 0)), (.lit (.int .i64 0)), (.lit (.int .i64 0)), (.lit (.int .i64 0)), (.lit (.int .i64 0)), (.lit (.int .i64
  0)), (.lit (.int .i64 0)), (.lit (.int .i64 0)), (.lit (.int .i64 0)), (.lit (.int .i64 0)), (.lit (.int .i64 0)), (.lit (.int .i64 0)), (.lit (.int
  .i64 0)), (.lit (.int .i64 0)), (.lit (.int .i64 0)), (.lit (.int .i64 0)), (.lit (.int .i64 0)), (.lit (.int .i64 0)), (.lit (.int .i64 0)), (.lit
  (.int .i64 0)), (.lit (.int .i64 0)), (.lit (.int .i64 0)), (.lit (.int .i64 0)), (.lit (.int .i64 0)), (.lit (.int .i64 0)), (.lit (.int .i64 0)),
  (.lit (.int .i64 0)), (.lit (.int .i64 0)), (.lit (.int .i64 0)), (.lit (.int .i64 0)), (.lit (.int .i64 0)), (.lit (.int .i64 0)), (.lit (.int .i64
  0)), (.lit (.int .i64 0)), (.lit (.int .i64 0)), (.lit (.int .i64 0)), (.lit (.int .i64 0)), (.lit (.int .i64 0)), (.lit (.int .i64 0)), (.lit (.int
  .i64 0)), (.lit (.int .i64 0)), (.lit (.int .i64 0)), (.lit (.int .i64 0)), (.lit (.int .i64 0)), (.lit (.int .i64 0)), (.lit (.int .i64 0)), (.lit
  (.int .i64 0)), (.lit (.int .i64 0)), (.lit (.int .i64 0)), (.lit (.int .i64 0)), (.lit (.int .i64 0)), (.lit (.int .i64 0)), (.lit (.int .i64 0)),
  (.lit (.int .i64 0)), (.lit (.int .i64 0)), (.lit (.int .i64 0)), (.lit (.int .i64 0)), (.lit (.int .i64 0)), (.lit (.int .i64 0)), (.lit (.int .i64
  0)), (.lit (.int .i64 0)), (.lit (.int .i64 0)), (.lit (.int .i64 0)), (.lit (.int .i64 0)), (.lit (.int .i64 0)), (.lit (.int .i64 0)), (.lit (.int
  .i64 0)), (.lit (.int .i64 0)), (.lit (.int .i64 0)), (.lit (.int .i64 0)), (.lit (.int .i64 0)), (.lit (.int .i64 0)), (.lit (.int .i64 0)), (.lit
  (.int .i64 0)), (.lit (.int .i64 0)), (.lit (.int .i64 0)), (.lit (.int .i64 0)), (.lit (.int .i64 0)), (.lit (.int .i64 0)), (.lit (.int .i64 0)),
  (.lit (.int .i64 0)), (.lit (.int .i64 0)), (.lit (.int .i64 0)), (.lit (.int .i64 0)), (.lit (.int .i64 0)), (.lit (.int .i64 0)), (.lit (.int .i64
  0)), (.lit (.int .i64 0)), (.lit (.int .i64 0)), (.lit (.int .i64 1)), (.lit (.int .i64 1)), (.lit (.int .i64 0)), (.lit (.int .i64 0)), (.lit (.int
  .i64 0)), (.lit (.int .i64 0)), (.lit (.int .i64 0)), (.lit (.int .i64 0)), (.lit (.int .i64 0)), (.lit (.int .i64 0)), (.lit (.int .i64 0)), (.lit
  (.int .i64 0)), (.lit (.int .i64 0)), (.lit (.int .i64 0)), (.lit (.int .i64 0)), (.lit (.int .i64 0)), (.lit (.int .i64 0)), (.lit (.int .i64 0)),
  (.lit (.int .i64 0)), (.lit (.int .i64 0)), (.lit (.int .i64 0)), (.lit (.int .i64 0)), (.lit (.int .i64 0)), (.lit (.int .i64 0)), (.lit (.int .i64
  0)), (.lit (.int .i64 0)), (.lit (.int .i64 0)), (.lit (.int .i64 0)), (.lit (.int .i64 0)), (.lit (.int .i64 0)), (.lit (.int .i64 0)), (.lit (.int
  .i64 0)), (.lit (.int .i64 0)), (.lit (.int .i64 0)), (.lit (.int .i64 0)), (.lit (.int .i64 0)), (.lit (.int .i64 0)), (.lit (.int .i64 0)), (.lit
  (.int .i64 0)), (.lit (.int .i64 0)), (.lit (.int .i64 0)), (.lit (.int .i64 0)), (.lit (.int .i64 0)), (.lit (.int .i64 0)), (.lit (.int .i64 0)),
  (.lit (.int .i64 0)), (.lit (.int .i64 0)), (.lit (.int .i64 0)), (.lit (.int .i64 0)), (.lit (.int .i64 0)), (.lit (.int .i64 0)), (.lit (.int .i64
  0)), (.lit (.int .i64 0)), (.lit (.int .i64 0)), (.lit (.int .i64 0)), (.lit (.int .i64 0)), (.lit (.int .i64 0)), (.lit (.int .i64 0)), (.lit (.int
  .i64 0)), (.lit (.int .i64 0)), (.lit (.int .i64 0)), (.lit (.int .i64 0)), (.lit (.int .i64 0)), (.lit (.int .i64 0)), (.lit (.int .i64 0)), (.lit
  (.int .i64 0)), (.lit (.int .i64 0)), (.lit (.int .i64 0)), (.lit (.int .i64 0)), (.lit (.int .i64 0)), (.lit (.int .i64 0)), (.lit (.int .i64 0)),
  (.lit (.int .i64 0)), (.lit (.int .i64 0)), (.lit (.int .i64 0)), (.lit (.int .i64 0)), (.lit (.int .i64 0)), (.lit (.int .i64 0)), (.lit (.int .i64
  0)), (.lit (.int .i64 0)), (.lit (.int .i64 0)), (.lit (.int .i64 0)), (.lit (.int .i64 0)), (.lit (.int .i64 0)), (.lit (.int .i64 0)), (.lit (.int
  .i64 0)), (.lit (.int .i64 0)), (.lit (.int .i64 0)), (.lit (.int .i64 0)), (.lit (.int .i64 0)), (.lit (.int .i64 0)), (.lit (.int .i64 0)), (.lit
  (.int .i64 0)), (.lit (.int .i64 0)), (.lit (.int .i64 0)), (.lit (.int .i64 0)), (.lit (.int .i64 0)), (.lit (.int .i64 0)), (.lit (.int .i64 0)),
  (.lit (.int .i64 0)), (.lit (.int .i64 0)), (.lit (.int .i64 0)), (.lit (.int .i64 0)), (.lit (.int .i64 0)), (.lit (.int .i64 0)), (.lit (.int .i64
  0)), (.lit (.int .i64 0)), (.lit (.int .i64 0)), (.lit (.int .i64 0)), (.lit (.int .i64 0)), (.lit (.int .i64 0)), (.lit (.int .i64 0)), (.lit (.int
  .i64 0)), (.lit (.int .i64 0)), (.lit (.int .i64 0)), (.lit (.int .i64 0)), (.lit (.int .i64 0)), (.lit (.int .i64 0)), (.lit (.int .i64 0)), (.lit
  (.int .i64 0)), (.lit (.int .i64 0)), (.lit (.int .i64 0)), (.lit (.int .i64 0)), (.lit (.int .i64 0)), (.lit (.int .i64 0)), (.lit (.int .i64 0)),
  (.lit (.int .i64 0)), (.lit (.int .i64 0)), (.lit (.int .i64 0)), (.lit (.int .i64 0)), (.lit (.int .i64 0)), (.lit (.int .i64 0)), (.lit (.int .i64
  0)), (.lit (.int .i64 0)), (.lit (.int .i64 0)), (.lit (.int .i64 0)), (.lit (.int .i64 0)), (.lit (.int .i64 0)), (.lit (.int .i64 0)), (.lit (.int
  .i64 0)), (.lit (.int .i64 0)), (.lit (.int .i64 0)), (.lit (.int .i64 0)), (.lit (.int .i64 0)), (.lit (.int .i64 0)), (.lit (.int .i64 0)), (.lit
  (.int .i64 0)), (.lit (.int .i64 0)), (.lit (.int .i64 0)), (.lit (.int .i64 0)), (.lit (.int .i64 0)), (.lit (.int .i64 0)), (.lit (.int .i64 0)),
  (.lit (.int .i64 0)), (.lit (.int .i64 0))] 3 .false), (.row [(.lit (.int .u8 101)), (.lit (.int .u8 102))] 5 .true)], [], (.tup [(.lit (.slice .none
  0 0)), (.lit (.int .i64 11))]), [(0, (.row [(.lit (.int .i64 0)), (.lit (.int .i64 0)), (.lit (.int .i64 0)), (.lit (.int .i64 0)), (.lit (.int .i64
  0)), (.lit (.int .i64 0)), (.lit (.int .i64 0)), (.lit (.int .i64 0)), (.lit (.int .i64 0)), (.lit (.int .i64 0)), (.lit (.int .i64 0)), (.lit (.int
  .i64 0)), (.lit (.int .i64 0)), (.lit (.int .i64 0)), (.lit (.int .i64 0)), (.lit (.int .i64 0)), (.lit (.int .i64 0)), (.lit (.int .i64 0)), (.lit
  (.int .i64 0)), (.lit (.int .i64 0)), (.lit (.int .i64 0)), (.lit (.int .i64 0)), (.lit (.int .i64 0)), (.lit (.int .i64 0)), (.lit (.int .i64 0)),
  (.lit (.int .i64 0)), (.lit (.int .i64 0)), (.lit (.int .i64 0)), (.lit (.int .i64 0)), (.lit (.int .i64 0)), (.lit (.int .i64 0)), (.lit (.int .i64
  0)), (.lit (.int .i64 0)), (.lit (.int .i64 0)), (.lit (.int .i64 0)), (.lit (.int .i64 0)), (.lit (.int .i64 0)), (.lit (.int .i64 0)), (.lit (.int
  .i64 0)), (.lit (.int .i64 0)), (.lit (.int .i64 0)), (.lit (.int .i64 0)), (.lit (.int .i64 0)), (.lit (.int .i64 0)), (.lit (.int .i64 0)), (.lit
  (.int .i64 0)), (.lit (.int .i64 0)), (.lit (.int .i64 0)), (.lit (.int .i64 0)), (.lit (.int .i64 0)), (.lit (.int .i64 0)), (.lit (.int .i64 0)),
  (.lit (.int .i64 0)), (.lit (.int .i64 0)), (.lit (.int .i64 0)), (.lit (.int .i64 0)), (.lit (.int .i64 0)), (.lit (.int .i64 0)), (.lit (.int .i64
  0)), (.lit (.int .i64 0)), (.lit (.int .i64 0)), (.lit (.int .i64 0)), (.lit (.int .i64 0)), (.lit (.int .i64 0)), (.lit (.int .i64 0)), (.lit (.int
  .i64 0)), (.lit (.int .i64 0)), (.lit (.int .i64 0)), (.lit (.int .i64 0)), (.lit (.int .i64 0)), (.lit (.int .i64 0)), (.lit (.int .i64 0)), (.lit
  (.int .i64 0)), (.lit (.int .i64 0)), (.lit (.int .i64 0)), (.lit (.int .i64 0)), (.lit (.int .i64 0)), (.lit (.int .i64 0)), (.lit (.int .i64 0)),
  (.lit (.int .i64 0)), (.lit (.int .i64 0)), (.lit (.int .i64 0)), (.lit (.int .i64 0)), (.lit (.int .i64 0)), (.lit (.int .i64 0)), (.lit (.int .i64
  0)), (.lit (.int .i64 0)), (.lit (.int .i64 0)), (.lit (.int .i64 0)), (.lit (.int .i64 0)), (.lit (.int .i64 0)), (.lit (.int .i64 0)), (.lit (.int
  .i64 0)), (.lit (.int .i64 0)), (.lit (.int .i64 0)), (.lit (.int .i64 0)), (.lit (.int .i64 0)), (.lit (.int .i64 0)), (.lit (.int .i64 0)), (.lit
  (.int .i64 0)), (.lit (.int .i64 0)), (.lit (.int .i64 1)), (.lit (.int .i64 1)), (.lit (.int .i64 0)), (.lit (.int .i64 0)), (.lit (.int .i64 0)),
  (.lit (.int .i64 0)), (.lit (.int .i64 0)), (.lit (.int .i64 0)), (.lit (.int .i64 0)), (.lit (.int .i64 0)), (.lit (.int .i64 0)), (.lit (.int .i64
  0)), (.lit (.int .i64 0)), (.lit (.int .i64 0)), (.lit (.int .i64 0)), (.lit (.int .i64 0)), (.lit (.int .i64 0)), (.lit (.int .i64 0)), (.lit (.int
  .i64 0)), (.lit (.int .i64 0)), (.lit (.int .i64 0)), (.lit (.int .i64 0)), (.lit (.int .i64 0)), (.lit (.int .i64 0)), (.lit (.int .i64 0)), (.lit
  (.int .i64 0)), (.lit (.int .i64 0)), (.lit (.int .i64 0)), (.lit (.int .i64 0)), (.lit (.int .i64 0)), (.lit (.int .i64 0)), (.lit (.int .i64 0)),
  (.lit (.int .i64 0)), (.lit (.int .i64 0)), (.lit (.int .i64 0)), (.lit (.int .i64 0)), (.lit (.int .i64 0)), (.lit (.int .i64 0)), (.lit (.int .i64
  0)), (.lit (.int .i64 0)), (.lit (.int .i64 0)), (.lit (.int .i64 0)), (.lit (.int .i64 0)), (.lit (.int .i64 0)), (.lit (.int .i64 0)), (.lit (.int
  .i64 0)), (.lit (.int .i64 0)), (.lit (.int .i64 0)), (.lit (.int .i64 0)), (.lit (.int .i64 0)), (.lit (.int .i64 0)), (.lit (.int .i64 0)), (.lit
  (.int .i64 0)), (.lit (.int .i64 0)), (.lit (.int .i64 0)), (.lit (.int .i64 0)), (.lit (.int .i64 0)), (.lit (.int .i64 0)), (.lit (.int .i64 0)),
  (.lit (.int .i64 0)), (.lit (.int .i64 0)), (.lit (.int .i64 0)), (.lit (.int .i64 0)), (.lit (.int .i64 0)), (.lit (.int .i64 0)), (.lit (.int .i64
  0)), (.lit (.int .i64 0)), (.lit (.int .i64 0)), (.lit (.int .i64 0)), (.lit (.int .i64 0)), (.lit (.int .i64 0)), (.lit (.int .i64 0)), (.lit (.int
  .i64 0)), (.lit (.int .i64 0)), (.lit (.int .i64 0)), (.lit (.int .i64 0)), (.lit (.int .i64 0)), (.lit (.int .i64 0)), (.lit (.int .i64 0)), (.lit
  (.int .i64 0)), (.lit (.int .i64 0)), (.lit (.int .i64 0)), (.lit (.int .i64 0)), (.lit (.int .i64 0)), (.lit (.int .i64 0)), (.lit (.int .i64 0)),
  (.lit (.int .i64 0)), (.lit (.int .i64 0)), (.lit (.int .i64 0)), (.lit (.int .i64 0)), (.lit (.int .i64 0)), (.lit (.int .i64 0)), (.lit (.int .i64
  0)), (.lit (.int .i64 0)), (.lit (.int .i64 0)), (.lit (.int .i64 0)), (.lit (.int .i64 0)), (.lit (.int .i64 0)), (.lit (.int .i64 0)), (.lit (.int
  .i64 0)), (.lit (.int .i64 0)), (.lit (.int .i64 0)), (.lit (.int .i64 0)), (.lit (.int .i64 0)), (.lit (.int .i64 0)), (.lit (.int .i64 0)), (.lit
  (.int .i64 0)), (.lit (.int .i64 0)), (.lit (.int .i64 0)), (.lit (.int .i64 0)), (.lit (.int .i64 0)), (.lit (.int .i64 0)), (.lit (.int .i64 0)),
  (.lit (.int .i64 0)), (.lit (.int .i64 0)), (.lit (.int .i64 0)), (.lit (.int .i64 0)), (.lit (.int .i64 0)), (.lit (.int .i64 0)), (.lit (.int .i64
  0)), (.lit (.int .i64 0)), (.lit (.int .i64 0)), (.lit (.int .i64 0)), (.lit (.int .i64 0)), (.lit (.int .i64 0)), (.lit (.int .i64 0)), (.lit (.int
  .i64 0)), (.lit (.int .i64 0)), (.lit (.int .i64 0)), (.lit (.int .i64 0)), (.lit (.int .i64 0)), (.lit (.int .i64 0)), (.lit (.int .i64 0)), (.lit
  (.int .i64 0)), (.lit (.int .i64 0)), (.lit (.int .i64 0)), (.lit (.int .i64 0)), (.lit (.int .i64 0)), (.lit (.int .i64 0)), (.lit (.int .i64 0)),
  (.lit (.int .i64 0)), (.lit (.int .i64 0)), (.lit (.int .i64 0)), (.lit (.int .i64 0)), (.lit (.int .i64 0)), (.lit (.int .i64 0)), (.lit (.int .i64
  0)), (.lit (.int .i64 0)), (.lit (.int .i64 0)), (.lit (.int .i64 0)), (.lit (.int .i64 0)), (.lit (.int .i64 0)), (.lit (.int .i64 0)), (.lit (.int
  .i64 0)), (.lit (.int .i64 0))] 3 .false)), (1, (.row [(.lit (.int .u8 101)), (.lit (.int .u8 102))] 5 .true))], 5388⟩
noncomputable def cs51 : List Con := c51 :: cs50
theorem c51_ok {E : Nat → Option Value} {I : Interp} : ConGood E tb Tryz.prog I c51 := con_goodR (d := 80) tb_ok cs50_ok (by kernel_rfl)
theorem cs51_ok {E : Nat → Option Value} {I : Interp} : ∀ c ∈ cs51, ConGood E tb Tryz.prog I c := List.forall_mem_cons.2 ⟨c51_ok, cs50_ok⟩
noncomputable def c52 : Con :=
  ⟨440, [(.slc 0 0 103 103), (.slu 1 0 2 1), (.lit (.bool .true)), (.lit (.bool .false))], [(.row [(.lit (.int .i64 0)), (.lit (.int .i64 0)), (.lit
  (.int .i64 0)), (.lit (.int .i64 0)), (.lit (.int .i64 0)), (.lit (.int .i64 0)), (.lit (.int .i64 0)), (.lit (.int .i64 0)), (.lit (.int .i64 0)),
  (.lit (.int .i64 0)), (.lit (.int .i64 0)), (.lit (.int .i64 0)), (.lit (.int .i64 0)), (.lit (.int .i64 0)), (.lit (.int .i64 0)), (.lit (.int .i64
  0)), (.lit (.int .i64 0)), (.lit (.int .i64 0)), (.lit (.int .i64 0)), (.lit (.int .i64 0)), (.lit (.int .i64 0)), (.lit (.int .i64 0)), (.lit (.int
  .i64 0)), (.lit (.int .i64 0)), (.lit (.int .i64 0)), (.lit (.int .i64 0)), (.lit (.int .i64 0)), (.lit (.int .i64 0)), (.lit (.int .i64 0)), (.lit
  (.int .i64 0)), (.lit (.int .i64 0)), (.lit (.int .i64 0)), (.lit (.int .i64 0)), (.lit (.int .i64 0)), (.lit (.int .i64 0)), (.lit (.int .i64 0)),
  (.lit (.int .i64 0)), (.lit (.int .i64 0)), (.lit (.int .i64 0)), (.lit (.int .i64 0)), (.lit (.int .i64 0)), (.lit (.int .i64 0)), (.lit (.int .i64
  0)), (.lit (.int .i64 0)), (.lit (.int .i64 0)), (.lit (.int .i64 0)), (.lit (.int .i64 0)), (.lit (.int .i64 0)), (.lit (.int .i64 0)), (.lit (.int
  .i64 0)), (.lit (.int .i64 0)), (.lit (.int .i64 0)), (.lit (.int .i64 0)), (.lit (.int .i64 0)), (.lit (.int .i64 0)), (.lit (.int .i64 0)), (.lit
  (.int .i64 0)), (.lit (.int .i64 0)), (.lit (.int .i64 0)), (.lit (.int .i64 0)), (.lit (.int .i64 0)), (.lit (.int .i64 0)), (.lit (.int .i64 0)),
  (.lit (.int .i64 0)), (.lit (.int .i64 0)), (.lit (.int .i64 0)), (.lit (.int .i64 0)), (.lit (.int .i64 0)), (.lit (.int .i64 0)), (.lit (.int .i64
  0)), (.lit (.int .i64 0)), (.lit (.int .i64 0)), (.lit (.int .i64 0)), (.lit (.int .i64 0)), (.lit (.int .i64 0)), (.lit (.int .i64 0)), (.lit (.int
  .i64 0)), (.lit (.int .i64 0)), (.lit (.int .i64 0)), (.lit (.int .i64 0)), (.lit (.int .i64 0)), (.lit (.int .i64 0)), (.lit (.int .i64 0)), (.lit
  (.int .i64 0)), (.lit (.int .i64 0)), (.lit (.int .i64 0)), (.lit (.int .i64 0)), (.lit (.int .i64 0)), (.lit (.int .i64 0)), (.lit (.int .i64 0)),
  (.lit (.int .i64 0)), (.lit (.int .i64 0)), (.lit (.int .i64 0)), (.lit (.int .i64 0)), (.lit (.int .i64 0)), (.lit (.int .i64 0)), (.lit (.int .i64
  0)), (.lit (.int .i64 0)), (.lit (.int .i64 0)), (.lit (.int .i64 0)), (.lit (.int .i64 0)), (.lit (.int .i64 1)), (.lit (.int .i64 1)), (.lit (.int
  .i64 0)), (.lit (.int .i64 0)), (.lit (.int .i64 0)), (.lit (.int .i64 0)), (.lit (.int .i64 0)), (.lit (.int .i64 0)), (.lit (.int .i64 0)), (.lit
  (.int .i64 0)), (.lit (.int .i64 0)), (.lit (.int .i64 0)), (.lit (.int .i64 0)), (.lit (.int .i64 0)), (.lit (.int .i64 0)), (.lit (.int .i64 0)),
  (.lit (.int .i64 0)), (.lit (.int .i64 0)), (.lit (.int .i64 0)), (.lit (.int .i64 0)), (.lit (.int .i64 0)), (.lit (.int .i64 0)), (.lit (.int .i64
  0)), (.lit (.int .i64 0)), (.lit (.int .i64 0)), (.lit (.int .i64 0)), (.lit (.int .i64 0)), (.lit (.int .i64 0)), (.lit (.int .i64 0)), (.lit (.int
  .i64 0)), (.lit (.int .i64 0)), (.lit (.int .i64 0)), (.lit (.int .i64 0)), (.lit (.int .i64 0)), (.lit (.int .i64 0)), (.lit (.int .i64 0)), (.lit
  (.int .i64 0)), (.lit (.int .i64 0)), (.lit (.int .i64 0)), (.lit (.int .i64 0)), (.lit (.int .i64 0)), (.lit (.int .i64 0)), (.lit (.int .i64 0)),
  (.lit (.int .i64 0)), (.lit (.int .i64 0)), (.lit (.int .i64 0)), (.lit (.int .i64 0)), (.lit (.int .i64 0)), (.lit (.int .i64 0)), (.lit (.int .i64
  0)), (.lit (.int .i64 0)), (.lit (.int .i64 0)), (.lit (.int .i64 0)), (.lit (.int .i64 0)), (.lit (.int .i64 0)), (.lit (.int .i64 0)), (.lit (.int
  .i64 0)), (.lit (.int .i64 0)), (.lit (.int .i64 0)), (.lit (.int .i64 0)), (.lit (.int .i64 0)), (.lit (.int .i64 0)), (.lit (.int .i64 0)), (.lit
  (.int .i64 0)), (.lit (.int .i64 0)), (.lit (.int .i64 0)), (.lit (.int .i64 0)), (.lit (.int .i64 0)), (.lit (.int .i64 0)), (.lit (.int .i64 0)),
  (.lit (.int .i64 0)), (.lit (.int .i64 0)), (.lit (.int .i64 0)), (.lit (.int .i64 0)), (.lit (.int .i64 0)), (.lit (.int .i64 0)), (.lit (.int .i64
  0)), (.lit (.int .i64 0)), (.lit (.int .i64 0)), (.lit (.int .i64 0)), (.lit (.int .i64 0)), (.lit (.int .i64 0)), (.lit (.int .i64 0)), (.lit (.int
  .i64 0)), (.lit (.int .i64 0)), (.lit (.int .i64 0)), (.lit (.int .i64 0)), (.lit (.int .i64 0)), (.lit (.int .i64 0)), (.lit (.int .i64 0)), (.lit
  (.int .i64 0)), (.lit (.int .i64 0)), (.lit (.int .i64 0)), (.lit (.int .i64 0)), (.lit (.int .i64 0)), (.lit (.int .i64 0)), (.lit (.int .i64 0)),
  (.lit (.int .i64 0)), (.lit (.int .i64 0)), (.lit (.int .i64 0)), (.lit (.int .i64 0)), (.lit (.int .i64 0)), (.lit (.int .i64 0)), (.lit (.int .i64
  0)), (.lit (.int .i64 0)), (.lit (.int .i64 0)), (.lit (.int .i64 0)), (.lit (.int .i64 0)), (.lit (.int .i64 0)), (.lit (.int .i64 0)), (.lit (.int
  .i64 0)), (.lit (.int .i64 0)), (.lit (.int .i64 0)), (.lit (.int .i64 0)), (.lit (.int .i64 0)), (.lit (.int .i64 0)), (.lit (.int .i64 0)), (.lit
  (.int .i64 0)), (.lit (.int .i64 0)), (.lit (.int .i64 0)), (.lit (.int .i64 0)), (.lit (.int .i64 0)), (.lit (.int .i64 0)), (.lit (.int .i64 0)),
  (.lit (.int .i64 0)), (.lit (.int .i64 0)), (.lit (.int .i64 0)), (.lit (.int .i64 0)), (.lit (.int .i64 0)), (.lit (.int .i64 0)), (.lit (.int .i64
  0)), (.lit (.int .i64 0)), (.lit (.int .i64 0)), (.lit (.int .i64 0)), (.lit (.int .i64 0)), (.lit (.int .i64 0)), (.lit (.int .i64 0)), (.lit (.int
  .i64 0)), (.lit (.int .i64 0)), (.lit (.int .i64 0)), (.lit (.int .i64 0)), (.lit (.int .i64 0)), (.lit (.int .i64 0)), (.lit (.int .i64 0)), (.lit
  (.int .i64 0)), (.lit (.int .i64 0)), (.lit (.int .i64 0)), (.lit (.int .i64 0)), (.lit (.int .i64 0)), (.lit (.int .i64 0)), (.lit (.int .i64 0)),
  (.lit (.int .i64 0)), (.lit (.int .i64 0)), (.lit (.int .i64 0)), (.lit (.int .i64 0))] 3 .false), (.row [(.lit (.int .u8 101)), (.lit (.int .u8
  102))] 5 .true)], [], (.tup [(.lit (.slice .none 0 0)), (.lit (.int .i64 11))]), [(0, (.row [(.lit (.int .i64 0)), (.lit (.int .i64 0)), (.lit (.int
  .i64 0)), (.lit (.int .i64 0)), (.lit (.int .i64 0)), (.lit (.int .i64 0)), (.lit (.int .i64 0)), (.lit (.int .i64 0)), (.lit (.int .i64 0)), (.lit
  (.int .i64 0)), (.lit (.int .i64 0)), (.lit (.int .i64 0)), (.lit (.int .i64 0)), (.lit (.int .i64 0)), (.lit (.int .i64 0)), (.lit (.int .i64 0)),
  (.lit (.int .i64 0)), (.lit (.int .i64 0)), (.lit (.int .i64 0)), (.lit (.int .i64 0)), (.lit (.int .i64 0)), (.lit (.int .i64 0)), (.lit (.int .i64
  0)), (.lit (.int .i64 0)), (.lit (.int .i64 0)), (.lit (.int .i64 0)), (.lit (.int .i64 0)), (.lit (.int .i64 0)), (.lit (.int .i64 0)), (.lit (.int
  .i64 0)), (.lit (.int .i64 0)), (.lit (.int .i64 0)), (.lit (.int .i64 0)), (.lit (.int .i64 0)), (.lit (.int .i64 0)), (.lit (.int .i64 0)), (.lit
  (.int .i64 0)), (.lit (.int .i64 0)), (.lit (.int .i64 0)), (.lit (.int .i64 0)), (.lit (.int .i64 0)), (.lit (.int .i64 0)), (.lit (.int .i64 0)),
  (.lit (.int .i64 0)), (.lit (.int .i64 0)), (.lit (.int .i64 0)), (.lit (.int .i64 0)), (.lit (.int .i64 0)), (.lit (.int .i64 0)), (.lit (.int .i64
  0)), (.lit (.int .i64 0)), (.lit (.int .i64 0)), (.lit (.int .i64 0)), (.lit (.int .i64 0)), (.lit (.int .i64 0)), (.lit (.int .i64 0)), (.lit (.int
  .i64 0)), (.lit (.int .i64 0)), (.lit (.int .i64 0)), (.lit (.int .i64 0)), (.lit (.int .i64 0)), (.lit (.int .i64 0)), (.lit (.int .i64 0)), (.lit
  (.int .i64 0)), (.lit (.int .i64 0)), (.lit (.int .i64 0)), (.lit (.int .i64 0)), (.lit (.int .i64 0)), (.lit (.int .i64 0)), (.lit (.int .i64 0)),
  (.lit (.int .i64 0)), (.lit (.int .i64 0)), (.lit (.int .i64 0)), (.lit (.int .i64 0)), (.lit (.int .i64 0)), (.lit (.int .i64 0)), (.lit (.int .i64
  0)), (.lit (.int .i64 0)), (.lit (.int .i64 0)), (.lit (.int .i64 0)), (.lit (.int .i64 0)), (.lit (.int .i64 0)), (.lit (.int .i64 0)), (.lit (.int
  .i64 0)), (.lit (.int .i64 0)), (.lit (.int .i64 0)), (.lit (.int .i64 0)), (.lit (.int .i64 0)), (.lit (.int .i64 0)), (.lit (.int .i64 0)), (.lit
  (.int .i64 0)), (.lit (.int .i64 0)), (.lit (.int .i64 0)), (.lit (.int .i64 0)), (.lit (.int .i64 0)), (.lit (.int .i64 0)), (.lit (.int .i64 0)),
  (.lit (.int .i64 0)), (.lit (.int .i64 0)), (.lit (.int .i64 0)), (.lit (.int .i64 0)), (.lit (.int .i64 1)), (.lit (.int .i64 1)), (.lit (.int .i64
  0)), (.lit (.int .i64 0)), (.lit (.int .i64 0)), (.lit (.int .i64 0)), (.lit (.int .i64 0)), (.lit (.int .i64 0)), (.lit (.int .i64 0)), (.lit (.int
  .i64 0)), (.lit (.int .i64 0)), (.lit (.int .i64 0)), (.lit (.int .i64 0)), (.lit (.int .i64 0)), (.lit (.int .i64 0)), (.lit (.int .i64 0)), (.lit
  (.int .i64 0)), (.lit (.int .i64 0)), (.lit (.int .i64 0)), (.lit (.int .i64 0)), (.lit (.int .i64 0)), (.lit (.int .i64 0)), (.lit (.int .i64 0)),
  (.lit (.int .i64 0)), (.lit (.int .i64 0)), (.lit (.int .i64 0)), (.lit (.int .i64 0)), (.lit (.int .i64 0)), (.lit (.int .i64 0)), (.lit (.int .i64
  0)), (.lit (.int .i64 0)), (.lit (.int .i64 0)), (.lit (.int .i64 0)), (.lit (.int .i64 0)), (.lit (.int .i64 0)), (.lit (.int .i64 0)), (.lit (.int
  .i64 0)), (.lit (.int .i64 0)), (.lit (.int .i64 0)), (.lit (.int .i64 0)), (.lit (.int .i64 0)), (.lit (.int .i64 0)), (.lit (.int .i64 0)), (.lit
  (.int .i64 0)), (.lit (.int .i64 0)), (.lit (.int .i64 0)), (.lit (.int .i64 0)), (.lit (.int .i64 0)), (.lit (.int .i64 0)), (.lit (.int .i64 0)),
  (.lit (.int .i64 0)), (.lit (.int .i64 0)), (.lit (.int .i64 0)), (.lit (.int .i64 0)), (.lit (.int .i64 0)), (.lit (.int .i64 0)), (.lit (.int .i64
  0)), (.lit (.int .i64 0)), (.lit (.int .i64 0)), (.lit (.int .i64 0)), (.lit (.int .i64 0)), (.lit (.int .i64 0)), (.lit (.int .i64 0)), (.lit (.int
  .i64 0)), (.lit (.int .i64 0)), (.lit (.int .i64 0)), (.lit (.int .i64 0)), (.lit (.int .i64 0)), (.lit (.int .i64 0)), (.lit (.int .i64 0)), (.lit
  (.int .i64 0)), (.lit (.int .i64 0)), (.lit (.int .i64 0)), (.lit (.int .i64 0)), (.lit (.int .i64 0)), (.lit (.int .i64 0)), (.lit (.int .i64 0)),
  (.lit (.int .i64 0)), (.lit (.int .i64 0)), (.lit (.int .i64 0)), (.lit (.int .i64 0)), (.lit (.int .i64 0)), (.lit (.int .i64 0)), (.lit (.int .i64
  0)), (.lit (.int .i64 0)), (.lit (.int .i64 0)), (.lit (.int .i64 0)), (.lit (.int .i64 0)), (.lit (.int .i64 0)), (.lit (.int .i64 0)), (.lit (.int
  .i64 0)), (.lit (.int .i64 0)), (.lit (.int .i64 0)), (.lit (.int .i64 0)), (.lit (.int .i64 0)), (.lit (.int .i64 0)), (.lit (.int .i64 0)), (.lit
  (.int .i64 0)), (.lit (.int .i64 0)), (.lit (.int .i64 0)), (.lit (.int .i64 0)), (.lit (.int .i64 0)), (.lit (.int .i64 0)), (.lit (.int .i64 0)),
  (.lit (.int .i64 0)), (.lit (.int .i64 0)), (.lit (.int .i64 0)), (.lit (.int .i64 0)), (.lit (.int .i64 0)), (.lit (.int .i64 0)), (.lit (.int .i64
  0)), (.lit (.int .i64 0)), (.lit (.int .i64 0)), (.lit (.int .i64 0)), (.lit (.int .i64 0)), (.lit (.int .i64 0)), (.lit (.int .i64 0)), (.lit (.int
  .i64 0)), (.lit (.int .i64 0)), (.lit (.int .i64 0)), (.lit (.int .i64 0)), (.lit (.int .i64 0)), (.lit (.int .i64 0)), (.lit (.int .i64 0)), (.lit
  (.int .i64 0)), (.lit (.int .i64 0)), (.lit (.int .i64 0)), (.lit (.int .i64 0)), (.lit (.int .i64 0)), (.lit (.int .i64 0)), (.lit (.int .i64 0)),
  (.lit (.int .i64 0)), (.lit (.int .i64 0)), (.lit (.int .i64 0)), (.lit (.int .i64 0)), (.lit (.int .i64 0)), (.lit (.int .i64 0)), (.lit (.int .i64
  0)), (.lit (.int .i64 0)), (.lit (.int .i64 0)), (.lit (.int .i64 0)), (.lit (.int .i64 0)), (.lit (.int .i64 0)), (.lit (.int .i64 0)), (.lit (.int
  .i64 0)), (.lit (.int .i64 0)), (.lit (.int .i64 0)), (.lit (.int .i64 0)), (.lit (.int .i64 0)), (.lit (.int .i64 0)), (.lit (.int .i64 0)), (.lit
  (.int .i64 0)), (.lit (.int .i64 0)), (.lit (.int .i64 0)), (.lit (.int .i64 0))] 3 .false)), (1, (.row [(.lit (.int .u8 101)), (.lit (.int .u8 102))]
  5 .true))], 11181⟩
noncomputable def cs52 : List Con := c52 :: cs51
theorem c52_ok {E : Nat → Option Value} {I : Interp} : ConGood E tb Tryz.prog I c52 := con_goodR (d := 80) tb_ok cs51_ok (by kernel_rfl)
theorem cs52_ok {E : Nat → Option Value} {I : Interp} : ∀ c ∈ cs52, ConGood E tb Tryz.prog I c := List.forall_mem_cons.2 ⟨c52_ok, cs51_ok⟩
noncomputable def c53 : Con :=
  ⟨440, [(.lit (.slice .none 0 0)), (.slu 0 0 2 1), (.lit (.bool .true)), (.lit (.bool .true))], [(.row [(.lit (.int .u8 101)), (.lit (.int .u8 102))] 5
  .true)], [], (.tup [(.lit (.slice .none 0 0)), (.lit (.int .i64 12))]), [(0, (.row [(.lit (.int .u8 101)), (.lit (.int .u8 102))] 5 .true))], 157⟩
noncomputable def cs53 : List Con := c53 :: cs52
theorem c53_ok {E : Nat → Option Value} {I : Interp} : ConGood E tb Tryz.prog I c53 := con_goodR (d := 80) tb_ok cs52_ok (by kernel_rfl)
theorem cs53_ok {E : Nat → Option Value} {I : Interp} : ∀ c ∈ cs53, ConGood E tb Tryz.prog I c := List.forall_mem_cons.2 ⟨c53_ok, cs52_ok⟩
noncomputable def c54 : Con :=
  ⟨393, [(.lit (.slice .none 0 0)), (.slu 0 0 2 1)], [(.row [(.lit (.int .u8 101)), (.lit (.int .u8 102))] 5 .true)], [], (.slu 67783 0 2 5), [(0, (.row
  [(.lit (.int .u8 101)), (.lit (.int .u8 102))] 5 .true)), (154, (.row [(.lit (.int .u8 0)), (.lit (.int .u8 2)), (.lit (.int .u8 101)), (.lit (.int
  .u8 102))] 5 .true)), (12315, (.row [(.lit (.int .i64 0)), (.lit (.int .i64 0)), (.lit (.int .i64 0)), (.lit (.int .i64 0)), (.lit (.int .i64 0)),
  (.lit (.int .i64 0)), (.lit (.int .i64 0)), (.lit (.int .i64 0)), (.lit (.int .i64 0)), (.lit (.int .i64 0)), (.lit (.int .i64 0)), (.lit (.int .i64
  0)), (.lit (.int .i64 0)), (.lit (.int .i64 0)), (.lit (.int .i64 0)), (.lit (.int .i64 0)), (.lit (.int .i64 0)), (.lit (.int .i64 0)), (.lit (.int
  .i64 0)), (.lit (.int .i64 0)), (.lit (.int .i64 0)), (.lit (.int .i64 0)), (.lit (.int .i64 0)), (.lit (.int .i64 0)), (.lit (.int .i64 0)), (.lit
  (.int .i64 0)), (.lit (.int .i64 0)), (.lit (.int .i64 0)), (.lit (.int .i64 0)), (.lit (.int .i64 0)), (.lit (.int .i64 0)), (.lit (.int .i64 0)),
  (.lit (.int .i64 0)), (.lit (.int .i64 0)), (.lit (.int .i64 0)), (.lit (.int .i64 0)), (.lit (.int .i64 0)), (.lit (.int .i64 0)), (.lit (.int .i64
  0)), (.lit (.int .i64 0)), (.lit (.int .i64 0)), (.lit (.int .i64 0)), (.lit (.int .i64 0)), (.lit (.int .i64 0)), (.lit (.int .i64 0)), (.lit (.int
  .i64 0)), (.lit (.int .i64 0)), (.lit (.int .i64 0)), (.lit (.int .i64 0)), (.lit (.int .i64 0)), (.lit (.int .i64 0)), (.lit (.int .i64 0)), (.lit
  (.int .i64 0)), (.lit (.int .i64 0)), (.lit (.int .i64 0)), (.lit (.int .i64 0)), (.lit (.int .i64 0)), (.lit (.int .i64 0)), (.lit (.int .i64 0)),
  (.lit (.int .i64 0)), (.lit (.int .i64 0)), (.lit (.int .i64 0)), (.lit (.int .i64 0)), (.lit (.int .i64 0)), (.lit (.int .i64 0)), (.lit (.int .i64
  0)), (.lit (.int .i64 0)), (.lit (.int .i64 0)), (.lit (.int .i64 0)), (.lit (.int .i64 0)), (.lit (.int .i64 0)), (.lit (.int .i64 0)), (.lit (.int
  .i64 0)), (.lit (.int .i64 0)), (.lit (.int .i64 0)), (.lit (.int .i64 0)), (.lit (.int .i64 0)), (.lit (.int .i64 0)), (.lit (.int .i64 0)), (.lit
  (.int .i64 0)), (.lit (.int .i64 0)), (.lit (.int .i64 0)), (.lit (.int .i64 0)), (.lit (.int .i64 0)), (.lit (.int .i64 0)), (.lit (.int .i64 0)),
  (.lit (.int .i64 0)), (.lit (.int .i64 0)), (.lit (.int .i64 0)), (.lit (.int .i64 0)), (.lit (.int .i64 0)), (.lit (.int .i64 0)), (.lit (.int .i64
  0)), (.lit (.int .i64 0)), (.lit (.int .i64 0)), (.lit (.int .i64 0)), (.lit (.int .i64 0)), (.lit (.int .i64 0)), (.lit (.int .i64 0)), (.lit (.int
  .i64 0)), (.lit (.int .i64 0)), (.lit (.int .i64 1)), (.lit (.int .i64 1)), (.lit (.int .i64 0)), (.lit (.int .i64 0)), (.lit (.int .i64 0)), (.lit
  (.int .i64 0)), (.lit (.int .i64 0)), (.lit (.int .i64 0)), (.lit (.int .i64 0)), (.lit (.int .i64 0)), (.lit (.int .i64 0)), (.lit (.int .i64 0)),
  (.lit (.int .i64 0)), (.lit (.int .i64 0)), (.lit (.int .i64 0)), (.lit (.int .i64 0)), (.lit (.int .i64 0)), (.lit (.int .i64 0)), (.lit (.int .i64
  0)), (.lit (.int .i64 0)), (.lit (.int .i64 0)), (.lit (.int .i64 0)), (.lit (.int .i64 0)), (.lit (.int .i64 0)), (.lit (.int .i64 0)), (.lit (.int
  .i64 0)), (.lit (.int .i64 0)), (.lit (.int .i64 0)), (.lit (.int .i64 0)), (.lit (.int .i64 0)), (.lit (.int .i64 0)), (.lit (.int .i64 0)), (.lit
  (.int .i64 0)), (.lit (.int .i64 0)), (.lit (.int .i64 0)), (.lit (.int .i64 0)), (.lit (.int .i64 0)), (.lit (.int .i64 0)), (.lit (.int .i64 0)),
  (.lit (.int .i64 0)), (.lit (.int .i64 0)), (.lit (.int .i64 0)), (.lit (.int .i64 0)), (.lit (.int .i64 0)), (.lit (.int .i64 0)), (.lit (.int .i64
  0)), (.lit (.int .i64 0)), (.lit (.int .i64 0)), (.lit (.int .i64 0)), (.lit (.int .i64 0)), (.lit (.int .i64 0)), (.lit (.int .i64 0)), (.lit (.int
  .i64 0)), (.lit (.int .i64 0)), (.lit (.int .i64 0)), (.lit (.int .i64 0)), (.lit (.int .i64 0)), (.lit (.int .i64 0)), (.lit (.int .i64 0)), (.lit
  (.int .i64 0)), (.lit (.int .i64 0)), (.lit (.int .i64 0)), (.lit (.int .i64 0)), (.lit (.int .i64 0)), (.lit (.int .i64 0)), (.lit (.int .i64 0)),
  (.lit (.int .i64 0)), (.lit (.int .i64 0)), (.lit (.int .i64 0)), (.lit (.int .i64 0)), (.lit (.int .i64 0)), (.lit (.int .i64 0)), (.lit (.int .i64
  0)), (.lit (.int .i64 0)), (.lit (.int .i64 0)), (.lit (.int .i64 0)), (.lit (.int .i64 0)), (.lit (.int .i64 0)), (.lit (.int .i64 0)), (.lit (.int
  .i64 0)), (.lit (.int .i64 0)), (.lit (.int .i64 0)), (.lit (.int .i64 0)), (.lit (.int .i64 0)), (.lit (.int .i64 0)), (.lit (.int .i64 0)), (.lit
  (.int .i64 0)), (.lit (.int .i64 0)), (.lit (.int .i64 0)), (.lit (.int .i64 0)), (.lit (.int .i64 0)), (.lit (.int .i64 0)), (.lit (.int .i64 0)),
  (.lit (.int .i64 0)), (.lit (.int .i64 0)), (.lit (.int .i64 0)), (.lit (.int .i64 0)), (.lit (.int .i64 0)), (.lit (.int .i64 0)), (.lit (.int .i64
  0)), (.lit (.int .i64 0)), (.lit (.int .i64 0)), (.lit (.int .i64 0)), (.lit (.int .i64 0)), (.lit (.int .i64 0)), (.lit (.int .i64 0)), (.lit (.int
  .i64 0)), (.lit (.int .i64 0)), (.lit (.int .i64 0)), (.lit (.int .i64 0)), (.lit (.int .i64 0)), (.lit (.int .i64 0)), (.lit (.int .i64 0)), (.lit
  (.int .i64 0)), (.lit (.int .i64 0)), (.lit (.int .i64 0)), (.lit (.int .i64 0)), (.lit (.int .i64 0)), (.lit (.int .i64 0)), (.lit (.int .i64 0)),
  (.lit (.int .i64 0)), (.lit (.int .i64 0)), (.lit (.int .i64 0)), (.lit (.int .i64 0)), (.lit (.int .i64 0)), (.lit (.int .i64 0)), (.lit (.int .i64
  0)), (.lit (.int .i64 0)), (.lit (.int .i64 0)), (.lit (.int .i64 0)), (.lit (.int .i64 0)), (.lit (.int .i64 0)), (.lit (.int .i64 0)), (.lit (.int
  .i64 0)), (.lit (.int .i64 0)), (.lit (.int .i64 0)), (.lit (.int .i64 0)), (.lit (.int .i64 0)), (.lit (.int .i64 0)), (.lit (.int .i64 0)), (.lit
  (.int .i64 0)), (.lit (.int .i64 0)), (.lit (.int .i64 0)), (.lit (.int .i64 0)), (.lit (.int .i64 0)), (.lit (.int .i64 0)), (.lit (.int .i64 0)),
  (.lit (.int .i64 0)), (.lit (.int .i64 0)), (.lit (.int .i64 0)), (.lit (.int .i64 0)), (.lit (.int .i64 0)), (.lit (.int .i64 0)), (.lit (.int .i64
  0)), (.lit (.int .i64 0))] 3 .false)), (67752, (.row [(.lit (.int .u8 2)), (.lit (.int .u8 2)), (.lit (.int .u8 8)), (.lit (.int .u8 102)), (.lit
  (.int .u8 1)), (.lit (.int .u8 245)), (.lit (.int .u8 3)), (.lit (.int .u8 2)), (.lit (.int .u8 99)), (.lit (.int .u8 57)), (.lit (.int .u8 5))] 5
  .true)), (67783, (.row [(.lit (.int .i64 0)), (.lit (.bool .false)), (.lit (.int .i64 2)), (.slu 154 0 4 1), (.lit (.slice .none 0 0)), (.lit (.int
  .i64 2)), (.lit (.bool .false)), (.lit (.int .i64 2)), (.slu 67752 0 11 1), (.slc 12315 0 103 103)] 513 .true))], 79341⟩
noncomputable def cs54 : List Con := c54 :: cs53
theorem c54_ok {E : Nat → Option Value} {I : Interp} : ConGood E tb Tryz.prog I c54 := con_goodR (d := 80) tb_ok cs53_ok (by kernel_rfl)
theorem cs54_ok {E : Nat → Option Value} {I : Interp} : ∀ c ∈ cs54, ConGood E tb Tryz.prog I c := List.forall_mem_cons.2 ⟨c54_ok, cs53_ok⟩
noncomputable def c55 : Con :=
  ⟨347, [(.lit (.slice .none 0 0)), (.slu 0 0 2 1)], [(.row [(.lit (.int .u8 101)), (.lit (.int .u8 102))] 5 .true)], [], (.tup [(.slu 159 0 4 1), (.lit
  (.slice .none 0 0))]), [(0, (.row [(.lit (.int .u8 101)), (.lit (.int .u8 102))] 5 .true)), (159, (.row [(.lit (.int .u8 0)), (.lit (.int .u8 2)),
  (.lit (.int .u8 101)), (.lit (.int .u8 102))] 5 .true))], 79406⟩
noncomputable def cs55 : List Con := c55 :: cs54
theorem c55_ok {E : Nat → Option Value} {I : Interp} : ConGood E tb Tryz.prog I c55 := con_goodR (d := 80) tb_ok cs54_ok (by kernel_rfl)
theorem cs55_ok {E : Nat → Option Value} {I : Interp} : ∀ c ∈ cs55, ConGood E tb Tryz.prog I c := List.forall_mem_cons.2 ⟨c55_ok, cs54_ok⟩
noncomputable def c56 : Con :=
  ⟨236, [(.agg [(.lit (.slice .none 0 0)), (.lit (.int .i64 0)), (.lit (.slice .none 0 0)), (.lit (.int .i64 0)), (.lit (.slice .none 0 0)), (.lit (.int
  .i64 0)), (.lit (.slice .none 0 0)), (.lit (.int .i64 1)), (.lit (.int .i64 4)), (.lit (.int .i64 8))]), (.lit (.slice .none 0 0)), (.lit (.slice
  .none 0 0)), (.slc 0 4 2 2), (.lit (.int .i64 1024)), (.lit (.bool .true))], [(.row [(.lit (.int .u8 97)), (.lit (.int .u8 98)), (.lit (.int .u8 99)),
  (.lit (.int .u8 100)), (.lit (.int .u8 101)), (.lit (.int .u8 102))] 5 .false)], [], (.tup [(.slu 301 0 5 1), (.agg [(.lit (.slice .none 0 0)), (.lit
  (.int .i64 0)), (.lit (.slice .none 0 0)), (.lit (.int .i64 0)), (.lit (.slice .none 0 0)), (.lit (.int .i64 0)), (.lit (.slice .none 0 0)), (.lit
  (.int .i64 1)), (.lit (.int .i64 4)), (.lit (.int .i64 8))]), (.lit (.int .i64 0))]), [(0, (.row [(.lit (.int .u8 97)), (.lit (.int .u8 98)), (.lit
  (.int .u8 99)), (.lit (.int .u8 100)), (.lit (.int .u8 101)), (.lit (.int .u8 102))] 5 .false)), (301, (.row [(.lit (.int .u8 17)), (.lit (.int .u8
  0)), (.lit (.int .u8 0)), (.lit (.int .u8 101)), (.lit (.int .u8 102))] 5 .true))], 80251⟩
noncomputable def cs56 : List Con := c56 :: cs55
theorem c56_ok {E : Nat → Option Value} {I : Interp} : ConGood E tb Tryz.prog I c56 := con_goodR (d := 80) tb_ok cs55_ok (by kernel_rfl)
theorem cs56_ok {E : Nat → Option Value} {I : Interp} : ∀ c ∈ cs56, ConGood E tb Tryz.prog I c := List.forall_mem_cons.2 ⟨c56_ok, cs55_ok⟩
noncomputable def c57 : Con :=
  ⟨204, [(.agg [(.lit (.slice .none 0 0)), (.lit (.int .i64 0)), (.lit (.slice .none 0 0)), (.lit (.int .i64 0)), (.lit (.slice .none 0 0)), (.lit (.int
  .i64 0)), (.lit (.slice .none 0 0)), (.lit (.int .i64 1)), (.lit (.int .i64 4)), (.lit (.int .i64 8))]), (.lit (.slice .none 0 0)), (.agg [(.lit (.int
  .i64 1024)), (.lit (.int .i64 0)), (.lit (.int .i64 0)), (.lit (.bool .false)), (.lit (.bool .false)), (.lit (.int .i64 4))]), (.slc 0 4 2 2), (.lit
  (.bool .true))], [(.row [(.lit (.int .u8 97)), (.lit (.int .u8 98)), (.lit (.int .u8 99)), (.lit (.int .u8 100)), (.lit (.int .u8 101)), (.lit (.int
  .u8 102))] 5 .false)], [], (.agg [(.slu 346 0 5 1), (.lit (.slice .none 0 0)), (.lit (.int .i64 0)), (.lit (.slice .none 0 0)), (.lit (.int .i64 0)),
  (.lit (.slice .none 0 0)), (.lit (.int .i64 0)), (.lit (.slice .none 0 0)), (.lit (.int .i64 1)), (.lit (.int .i64 4)), (.lit (.int .i64 8))]), [(0,
  (.row [(.lit (.int .u8 97)), (.lit (.int .u8 98)), (.lit (.int .u8 99)), (.lit (.int .u8 100)), (.lit (.int .u8 101)), (.lit (.int .u8 102))] 5
  .false)), (346, (.row [(.lit (.int .u8 17)), (.lit (.int .u8 0)), (.lit (.int .u8 0)), (.lit (.int .u8 101)), (.lit (.int .u8 102))] 5 .true))],
  80302⟩
noncomputable def cs57 : List Con := c57 :: cs56
theorem c57_ok {E : Nat → Option Value} {I : Interp} : ConGood E tb Tryz.prog I c57 := con_goodR (d := 80) tb_ok cs56_ok (by kernel_rfl)
theorem cs57_ok {E : Nat → Option Value} {I : Interp} : ∀ c ∈ cs57, ConGood E tb Tryz.prog I c := List.forall_mem_cons.2 ⟨c57_ok, cs56_ok⟩
noncomputable def c58 : Con :=
  ⟨205, [(.slc 0 4 2 2), (.lit (.int .i64 1024))], [(.row [(.lit (.int .u8 97)), (.lit (.int .u8 98)), (.lit (.int .u8 99)), (.lit (.int .u8 100)),
  (.lit (.int .u8 101)), (.lit (.int .u8 102))] 5 .false)], [], (.lit (.slice .none 0 0)), [(0, (.row [(.lit (.int .u8 97)), (.lit (.int .u8 98)), (.lit
  (.int .u8 99)), (.lit (.int .u8 100)), (.lit (.int .u8 101)), (.lit (.int .u8 102))] 5 .false))], 14480⟩
noncomputable def cs58 : List Con := c58 :: cs57
theorem c58_ok {E : Nat → Option Value} {I : Interp} : ConGood E tb Tryz.prog I c58 := con_goodR (d := 80) tb_ok cs57_ok (by kernel_rfl)
theorem cs58_ok {E : Nat → Option Value} {I : Interp} : ∀ c ∈ cs58, ConGood E tb Tryz.prog I c := List.forall_mem_cons.2 ⟨c58_ok, cs57_ok⟩
noncomputable def c59 : Con :=
  ⟨149, [(.agg [(.lit (.slice .none 0 0)), (.lit (.int .i64 0)), (.lit (.slice .none 0 0)), (.lit (.int .i64 0)), (.lit (.slice .none 0 0)), (.lit (.int
  .i64 0)), (.lit (.slice .none 0 0)), (.lit (.int .i64 1)), (.lit (.int .i64 4)), (.lit (.int .i64 8))]), (.lit (.slice .none 0 0)), (.agg [(.lit (.int
  .i64 1024)), (.lit (.int .i64 0)), (.lit (.int .i64 0)), (.lit (.bool .false)), (.lit (.bool .false)), (.lit (.int .i64 4))]), (.slc 0 4 2 2), (.lit
  (.bool .true))], [(.row [(.lit (.int .u8 97)), (.lit (.int .u8 98)), (.lit (.int .u8 99)), (.lit (.int .u8 100)), (.lit (.int .u8 101)), (.lit (.int
  .u8 102))] 5 .false)], [], (.tup [(.slu 95038 0 5 1), (.agg [(.lit (.slice .none 0 0)), (.lit (.int .i64 0)), (.lit (.slice .none 0 0)), (.lit (.int
  .i64 0)), (.lit (.slice .none 0 0)), (.lit (.int .i64 0)), (.lit (.slice .none 0 0)), (.lit (.int .i64 1)), (.lit (.int .i64 4)), (.lit (.int .i64
  8))]), (.lit (.int .i64 0))]), [(0, (.row [(.lit (.int .u8 97)), (.lit (.int .u8 98)), (.lit (.int .u8 99)), (.lit (.int .u8 100)), (.lit (.int .u8
  101)), (.lit (.int .u8 102))] 5 .false)), (95038, (.row [(.lit (.int .u8 17)), (.lit (.int .u8 0)), (.lit (.int .u8 0)), (.lit (.int .u8 101)), (.lit
  (.int .u8 102))] 5 .true))], 95154⟩
noncomputable def cs59 : List Con := c59 :: cs58
theorem c59_ok {E : Nat → Option Value} {I : Interp} : ConGood E tb Tryz.prog I c59 := con_goodR (d := 80) tb_ok cs58_ok (by kernel_rfl)
theorem cs59_ok {E : Nat → Option Value} {I : Interp} : ∀ c ∈ cs59, ConGood E tb Tryz.prog I c := List.forall_mem_cons.2 ⟨c59_ok, cs58_ok⟩
noncomputable def c60 : Con :=
  ⟨67, [(.lit (.pointer .none)), (.agg [(.lit (.int .i64 1024)), (.lit (.int .i64 0)), (.lit (.int .i64 0)), (.lit (.bool .false)), (.lit (.bool
  .false)), (.lit (.int .i64 4))]), (.slc 0 4 2 2)], [(.row [(.lit (.int .u8 97)), (.lit (.int .u8 98)), (.lit (.int .u8 99)), (.lit (.int .u8 100)),
  (.lit (.int .u8 101)), (.lit (.int .u8 102))] 5 .false)], [], (.tup [(.slu 164 0 11 1), (.lit (.int .i64 0))]), [(0, (.row [(.lit (.int .u8 97)),
  (.lit (.int .u8 98)), (.lit (.int .u8 99)), (.lit (.int .u8 100)), (.lit (.int .u8 101)), (.lit (.int .u8 102))] 5 .false)), (164, (.row [(.lit (.int
  .u8 80)), (.lit (.int .u8 77)), (.lit (.int .u8 84)), (.lit (.int .u8 30)), (.lit (.int .u8 0)), (.lit (.int .u8 0)), (.lit (.int .u8 17)), (.lit
  (.int .u8 0)), (.lit (.int .u8 0)), (.lit (.int .u8 101)), (.lit (.int .u8 102))] 5 .true))], 95556⟩
noncomputable def cs60 : List Con := c60 :: cs59
theorem c60_ok {E : Nat → Option Value} {I : Interp} : ConGood E tb Tryz.prog I c60 := con_goodR (d := 80) tb_ok cs59_ok (by kernel_rfl)
theorem cs60_ok {E : Nat → Option Value} {I : Interp} : ∀ c ∈ cs60, ConGood E tb Tryz.prog I c := List.forall_mem_cons.2 ⟨c60_ok, cs59_ok⟩
noncomputable def c61 : Con :=
  ⟨20, [(.slu 0 0 20 1)], [(.row [(.lit (.int .u8 13)), (.lit (.int .u8 4)), (.lit (.int .u8 11)), (.lit (.int .u8 2)), (.lit (.int .u8 2)), (.lit (.int
  .u8 0)), (.lit (.int .u8 0)), (.lit (.int .u8 0)), (.lit (.int .u8 25)), (.lit (.int .u8 127)), (.lit (.int .u8 136)), (.lit (.int .u8 126)), (.lit
  (.int .u8 4)), (.lit (.int .u8 0)), (.lit (.int .u8 0)), (.lit (.int .u8 0)), (.lit (.int .u8 80)), (.lit (.int .u8 77)), (.lit (.int .u8 84)), (.lit
  (.int .u8 73))] 5 .true)], [], (.tup [(.slu 154 0 28 1), (.lit (.int .i64 0))]), [(0, (.row [(.lit (.int .u8 13)), (.lit (.int .u8 4)), (.lit (.int
  .u8 11)), (.lit (.int .u8 2)), (.lit (.int .u8 2)), (.lit (.int .u8 0)), (.lit (.int .u8 0)), (.lit (.int .u8 0)), (.lit (.int .u8 25)), (.lit (.int
  .u8 127)), (.lit (.int .u8 136)), (.lit (.int .u8 126)), (.lit (.int .u8 4)), (.lit (.int .u8 0)), (.lit (.int .u8 0)), (.lit (.int .u8 0)), (.lit
  (.int .u8 80)), (.lit (.int .u8 77)), (.lit (.int .u8 84)), (.lit (.int .u8 73))] 5 .true)), (154, (.row [(.lit (.int .u8 80)), (.lit (.int .u8 77)),
  (.lit (.int .u8 84)), (.lit (.int .u8 83)), (.lit (.int .u8 20)), (.lit (.int .u8 0)), (.lit (.int .u8 0)), (.lit (.int .u8 0)), (.lit (.int .u8 13)),
  (.lit (.int .u8 4)), (.lit (.int .u8 11)), (.lit (.int .u8 2)), (.lit (.int .u8 2)), (.lit (.int .u8 0)), (.lit (.int .u8 0)), (.lit (.int .u8 0)),
  (.lit (.int .u8 25)), (.lit (.int .u8 127)), (.lit (.int .u8 136)), (.lit (.int .u8 126)), (.lit (.int .u8 4)), (.lit (.int .u8 0)), (.lit (.int .u8
  0)), (.lit (.int .u8 0)), (.lit (.int .u8 80)), (.lit (.int .u8 77)), (.lit (.int .u8 84)), (.lit (.int .u8 73))] 5 .true))], 163⟩
noncomputable def cs61 : List Con := c61 :: cs60
theorem c61_ok {E : Nat → Option Value} {I : Interp} : ConGood E tb Tryz.prog I c61 := con_goodR (d := 80) tb_ok cs60_ok (by kernel_rfl)
theorem cs61_ok {E : Nat → Option Value} {I : Interp} : ∀ c ∈ cs61, ConGood E tb Tryz.prog I c := List.forall_mem_cons.2 ⟨c61_ok, cs60_ok⟩
noncomputable def c62 : Con :=
  ⟨8, [(.slu 0 0 2 2)], [(.row [(.lit (.int .i64 13)), (.lit (.int .i64 4)), (.lit (.int .i64 11)), (.lit (.int .i64 2))] 43 .true)], [], (.tup [(.slu
  1049 0 28 1), (.lit (.int .i64 0))]), [(0, (.row [(.lit (.int .i64 13)), (.lit (.int .i64 4)), (.lit (.int .i64 11)), (.lit (.int .i64 2))] 43
  .true)), (1049, (.row [(.lit (.int .u8 80)), (.lit (.int .u8 77)), (.lit (.int .u8 84)), (.lit (.int .u8 83)), (.lit (.int .u8 20)), (.lit (.int .u8
  0)), (.lit (.int .u8 0)), (.lit (.int .u8 0)), (.lit (.int .u8 13)), (.lit (.int .u8 4)), (.lit (.int .u8 11)), (.lit (.int .u8 2)), (.lit (.int .u8
  2)), (.lit (.int .u8 0)), (.lit (.int .u8 0)), (.lit (.int .u8 0)), (.lit (.int .u8 25)), (.lit (.int .u8 127)), (.lit (.int .u8 136)), (.lit (.int
  .u8 126)), (.lit (.int .u8 4)), (.lit (.int .u8 0)), (.lit (.int .u8 0)), (.lit (.int .u8 0)), (.lit (.int .u8 80)), (.lit (.int .u8 77)), (.lit (.int
  .u8 84)), (.lit (.int .u8 73))] 5 .true))], 1062⟩
noncomputable def cs62 : List Con := c62 :: cs61
theorem c62_ok {E : Nat → Option Value} {I : Interp} : ConGood E tb Tryz.prog I c62 := con_goodR (d := 80) tb_ok cs61_ok (by kernel_rfl)
theorem cs62_ok {E : Nat → Option Value} {I : Interp} : ∀ c ∈ cs62, ConGood E tb Tryz.prog I c := List.forall_mem_cons.2 ⟨c62_ok, cs61_ok⟩
noncomputable def c63 : Con :=
  ⟨34, [(.lit (.pointer .none)), (.agg [(.lit (.int .i64 1024)), (.lit (.int .i64 0)), (.lit (.int .i64 0)), (.lit (.bool .false)), (.lit (.bool
  .false)), (.lit (.int .i64 4))]), (.slc 0 0 6 6)], [(.row [(.lit (.int .u8 97)), (.lit (.int .u8 98)), (.lit (.int .u8 99)), (.lit (.int .u8 100)),
  (.lit (.int .u8 101)), (.lit (.int .u8 102))] 5 .false)], [], (.tup [(.slu 267400 0 52 1), (.lit (.int .i64 0))]), [(0, (.row [(.lit (.int .u8 97)),
  (.lit (.int .u8 98)), (.lit (.int .u8 99)), (.lit (.int .u8 100)), (.lit (.int .u8 101)), (.lit (.int .u8 102))] 5 .false)), (267400, (.row [(.lit
  (.int .u8 80)), (.lit (.int .u8 77)), (.lit (.int .u8 84)), (.lit (.int .u8 30)), (.lit (.int .u8 0)), (.lit (.int .u8 0)), (.lit (.int .u8 33)),
  (.lit (.int .u8 0)), (.lit (.int .u8 0)), (.lit (.int .u8 97)), (.lit (.int .u8 98)), (.lit (.int .u8 99)), (.lit (.int .u8 100)), (.lit (.int .u8
  80)), (.lit (.int .u8 77)), (.lit (.int .u8 84)), (.lit (.int .u8 30)), (.lit (.int .u8 0)), (.lit (.int .u8 0)), (.lit (.int .u8 17)), (.lit (.int
  .u8 0)), (.lit (.int .u8 0)), (.lit (.int .u8 101)), (.lit (.int .u8 102)), (.lit (.int .u8 80)), (.lit (.int .u8 77)), (.lit (.int .u8 84)), (.lit
  (.int .u8 83)), (.lit (.int .u8 20)), (.lit (.int .u8 0)), (.lit (.int .u8 0)), (.lit (.int .u8 0)), (.lit (.int .u8 13)), (.lit (.int .u8 4)), (.lit
  (.int .u8 11)), (.lit (.int .u8 2)), (.lit (.int .u8 2)), (.lit (.int .u8 0)), (.lit (.int .u8 0)), (.lit (.int .u8 0)), (.lit (.int .u8 25)), (.lit
  (.int .u8 127)), (.lit (.int .u8 136)), (.lit (.int .u8 126)), (.lit (.int .u8 4)), (.lit (.int .u8 0)), (.lit (.int .u8 0)), (.lit (.int .u8 0)),
  (.lit (.int .u8 80)), (.lit (.int .u8 77)), (.lit (.int .u8 84)), (.lit (.int .u8 73))] 5 .true))], 267403⟩
noncomputable def cs63 : List Con := c63 :: cs62
theorem c63_ok {E : Nat → Option Value} {I : Interp} : ConGood E tb Tryz.prog I c63 := con_goodR (d := 80) tb_ok cs62_ok (by kernel_rfl)
theorem cs63_ok {E : Nat → Option Value} {I : Interp} : ∀ c ∈ cs63, ConGood E tb Tryz.prog I c := List.forall_mem_cons.2 ⟨c63_ok, cs62_ok⟩
noncomputable def c64 : Con :=
  ⟨33, [(.slu 0 0 52 1)], [(.row [(.lit (.int .u8 80)), (.lit (.int .u8 77)), (.lit (.int .u8 84)), (.lit (.int .u8 30)), (.lit (.int .u8 0)), (.lit
  (.int .u8 0)), (.lit (.int .u8 33)), (.lit (.int .u8 0)), (.lit (.int .u8 0)), (.lit (.int .u8 97)), (.lit (.int .u8 98)), (.lit (.int .u8 99)), (.lit
  (.int .u8 100)), (.lit (.int .u8 80)), (.lit (.int .u8 77)), (.lit (.int .u8 84)), (.lit (.int .u8 30)), (.lit (.int .u8 0)), (.lit (.int .u8 0)),
  (.lit (.int .u8 17)), (.lit (.int .u8 0)), (.lit (.int .u8 0)), (.lit (.int .u8 101)), (.lit (.int .u8 102)), (.lit (.int .u8 80)), (.lit (.int .u8
  77)), (.lit (.int .u8 84)), (.lit (.int .u8 83)), (.lit (.int .u8 20)), (.lit (.int .u8 0)), (.lit (.int .u8 0)), (.lit (.int .u8 0)), (.lit (.int .u8
  13)), (.lit (.int .u8 4)), (.lit (.int .u8 11)), (.lit (.int .u8 2)), (.lit (.int .u8 2)), (.lit (.int .u8 0)), (.lit (.int .u8 0)), (.lit (.int .u8
  0)), (.lit (.int .u8 25)), (.lit (.int .u8 127)), (.lit (.int .u8 136)), (.lit (.int .u8 126)), (.lit (.int .u8 4)), (.lit (.int .u8 0)), (.lit (.int
  .u8 0)), (.lit (.int .u8 0)), (.lit (.int .u8 80)), (.lit (.int .u8 77)), (.lit (.int .u8 84)), (.lit (.int .u8 73))] 5 .true)], [], (.tup [(.slu 2729
  0 2 2), (.lit (.int .i64 0))]), [(0, (.row [(.lit (.int .u8 80)), (.lit (.int .u8 77)), (.lit (.int .u8 84)), (.lit (.int .u8 30)), (.lit (.int .u8
  0)), (.lit (.int .u8 0)), (.lit (.int .u8 33)), (.lit (.int .u8 0)), (.lit (.int .u8 0)), (.lit (.int .u8 97)), (.lit (.int .u8 98)), (.lit (.int .u8
  99)), (.lit (.int .u8 100)), (.lit (.int .u8 80)), (.lit (.int .u8 77)), (.lit (.int .u8 84)), (.lit (.int .u8 30)), (.lit (.int .u8 0)), (.lit (.int
  .u8 0)), (.lit (.int .u8 17)), (.lit (.int .u8 0)), (.lit (.int .u8 0)), (.lit (.int .u8 101)), (.lit (.int .u8 102)), (.lit (.int .u8 80)), (.lit
  (.int .u8 77)), (.lit (.int .u8 84)), (.lit (.int .u8 83)), (.lit (.int .u8 20)), (.lit (.int .u8 0)), (.lit (.int .u8 0)), (.lit (.int .u8 0)), (.lit
  (.int .u8 13)), (.lit (.int .u8 4)), (.lit (.int .u8 11)), (.lit (.int .u8 2)), (.lit (.int .u8 2)), (.lit (.int .u8 0)), (.lit (.int .u8 0)), (.lit
  (.int .u8 0)), (.lit (.int .u8 25)), (.lit (.int .u8 127)), (.lit (.int .u8 136)), (.lit (.int .u8 126)), (.lit (.int .u8 4)), (.lit (.int .u8 0)),
  (.lit (.int .u8 0)), (.lit (.int .u8 0)), (.lit (.int .u8 80)), (.lit (.int .u8 77)), (.lit (.int .u8 84)), (.lit (.int .u8 73))] 5 .true)), (2729,
  (.row [(.lit (.int .i64 13)), (.lit (.int .i64 4)), (.lit (.int .i64 11)), (.lit (.int .i64 2))] 43 .true))], 2764⟩
noncomputable def cs64 : List Con := c64 :: cs63
theorem c64_ok {E : Nat → Option Value} {I : Interp} : ConGood E tb Tryz.prog I c64 := con_goodR (d := 80) tb_ok cs63_ok (by kernel_rfl)
theorem cs64_ok {E : Nat → Option Value} {I : Interp} : ∀ c ∈ cs64, ConGood E tb Tryz.prog I c := List.forall_mem_cons.2 ⟨c64_ok, cs63_ok⟩
noncomputable def c65 : Con :=
  ⟨35, [(.slu 0 0 52 1), (.lit (.int .i64 1024)), (.lit (.slice .none 0 0))], [(.row [(.lit (.int .u8 80)), (.lit (.int .u8 77)), (.lit (.int .u8 84)),
  (.lit (.int .u8 30)), (.lit (.int .u8 0)), (.lit (.int .u8 0)), (.lit (.int .u8 33)), (.lit (.int .u8 0)), (.lit (.int .u8 0)), (.lit (.int .u8 97)),
  (.lit (.int .u8 98)), (.lit (.int .u8 99)), (.lit (.int .u8 100)), (.lit (.int .u8 80)), (.lit (.int .u8 77)), (.lit (.int .u8 84)), (.lit (.int .u8
  30)), (.lit (.int .u8 0)), (.lit (.int .u8 0)), (.lit (.int .u8 17)), (.lit (.int .u8 0)), (.lit (.int .u8 0)), (.lit (.int .u8 101)), (.lit (.int .u8
  102)), (.lit (.int .u8 80)), (.lit (.int .u8 77)), (.lit (.int .u8 84)), (.lit (.int .u8 83)), (.lit (.int .u8 20)), (.lit (.int .u8 0)), (.lit (.int
  .u8 0)), (.lit (.int .u8 0)), (.lit (.int .u8 13)), (.lit (.int .u8 4)), (.lit (.int .u8 11)), (.lit (.int .u8 2)), (.lit (.int .u8 2)), (.lit (.int
  .u8 0)), (.lit (.int .u8 0)), (.lit (.int .u8 0)), (.lit (.int .u8 25)), (.lit (.int .u8 127)), (.lit (.int .u8 136)), (.lit (.int .u8 126)), (.lit
  (.int .u8 4)), (.lit (.int .u8 0)), (.lit (.int .u8 0)), (.lit (.int .u8 0)), (.lit (.int .u8 80)), (.lit (.int .u8 77)), (.lit (.int .u8 84)), (.lit
  (.int .u8 73))] 5 .true)], [], (.tup [(.ptr 2802 0), (.lit (.int .i64 0))]), [(0, (.row [(.lit (.int .u8 80)), (.lit (.int .u8 77)), (.lit (.int .u8
  84)), (.lit (.int .u8 30)), (.lit (.int .u8 0)), (.lit (.int .u8 0)), (.lit (.int .u8 33)), (.lit (.int .u8 0)), (.lit (.int .u8 0)), (.lit (.int .u8
  97)), (.lit (.int .u8 98)), (.lit (.int .u8 99)), (.lit (.int .u8 100)), (.lit (.int .u8 80)), (.lit (.int .u8 77)), (.lit (.int .u8 84)), (.lit (.int
  .u8 30)), (.lit (.int .u8 0)), (.lit (.int .u8 0)), (.lit (.int .u8 17)), (.lit (.int .u8 0)), (.lit (.int .u8 0)), (.lit (.int .u8 101)), (.lit (.int
  .u8 102)), (.lit (.int .u8 80)), (.lit (.int .u8 77)), (.lit (.int .u8 84)), (.lit (.int .u8 83)), (.lit (.int .u8 20)), (.lit (.int .u8 0)), (.lit
  (.int .u8 0)), (.lit (.int .u8 0)), (.lit (.int .u8 13)), (.lit (.int .u8 4)), (.lit (.int .u8 11)), (.lit (.int .u8 2)), (.lit (.int .u8 2)), (.lit
  (.int .u8 0)), (.lit (.int .u8 0)), (.lit (.int .u8 0)), (.lit (.int .u8 25)), (.lit (.int .u8 127)), (.lit (.int .u8 136)), (.lit (.int .u8 126)),
  (.lit (.int .u8 4)), (.lit (.int .u8 0)), (.lit (.int .u8 0)), (.lit (.int .u8 0)), (.lit (.int .u8 80)), (.lit (.int .u8 77)), (.lit (.int .u8 84)),
  (.lit (.int .u8 73))] 5 .true)), (2749, (.row [(.lit (.int .i64 13)), (.lit (.int .i64 4)), (.lit (.int .i64 11)), (.lit (.int .i64 2))] 43 .true)),
  (2797, (.row [(.lit (.int .u8 80)), (.lit (.int .u8 77)), (.lit (.int .u8 84)), (.lit (.int .u8 30)), (.lit (.int .u8 0)), (.lit (.int .u8 0)), (.lit
  (.int .u8 33)), (.lit (.int .u8 0)), (.lit (.int .u8 0)), (.lit (.int .u8 97)), (.lit (.int .u8 98)), (.lit (.int .u8 99)), (.lit (.int .u8 100)),
  (.lit (.int .u8 80)), (.lit (.int .u8 77)), (.lit (.int .u8 84)), (.lit (.int .u8 30)), (.lit (.int .u8 0)), (.lit (.int .u8 0)), (.lit (.int .u8
  17)), (.lit (.int .u8 0)), (.lit (.int .u8 0)), (.lit (.int .u8 101)), (.lit (.int .u8 102)), (.lit (.int .u8 80)), (.lit (.int .u8 77)), (.lit (.int
  .u8 84)), (.lit (.int .u8 83)), (.lit (.int .u8 20)), (.lit (.int .u8 0)), (.lit (.int .u8 0)), (.lit (.int .u8 0)), (.lit (.int .u8 13)), (.lit (.int
  .u8 4)), (.lit (.int .u8 11)), (.lit (.int .u8 2)), (.lit (.int .u8 2)), (.lit (.int .u8 0)), (.lit (.int .u8 0)), (.lit (.int .u8 0)), (.lit (.int
  .u8 25)), (.lit (.int .u8 127)), (.lit (.int .u8 136)), (.lit (.int .u8 126)), (.lit (.int .u8 4)), (.lit (.int .u8 0)), (.lit (.int .u8 0)), (.lit
  (.int .u8 0)), (.lit (.int .u8 80)), (.lit (.int .u8 77)), (.lit (.int .u8 84)), (.lit (.int .u8 73))] 5 .true)), (2802, (.row [(.slu 2797 0 52 1),
  (.slu 2749 0 2 2), (.lit (.int .i64 6)), (.lit (.int .i64 1024)), (.lit (.slice .none 0 0)), (.lit (.bool .true))] 27 .false))], 2849⟩
noncomputable def cs65 : List Con := c65 :: cs64
theorem c65_ok {E : Nat → Option Value} {I : Interp} : ConGood E tb Tryz.prog I c65 := con_goodR (d := 80) tb_ok cs64_ok (by kernel_rfl)
theorem cs65_ok {E : Nat → Option Value} {I : Interp} : ∀ c ∈ cs65, ConGood E tb Tryz.prog I c := List.forall_mem_cons.2 ⟨c65_ok, cs64_ok⟩
noncomputable def c66 : Con :=
  ⟨58, [(.ptr 0 0), (.agg [(.lit (.slice .none 0 0)), (.lit (.int .i64 0)), (.lit (.slice .none 0 0)), (.lit (.int .i64 0)), (.lit (.slice .none 0 0)),
  (.lit (.int .i64 0)), (.lit (.slice .none 0 0)), (.lit (.int .i64 1)), (.lit (.int .i64 4)), (.lit (.int .i64 8))]), (.ptr 1 0), (.lit (.int .i64
  1024))], [(.row [(.slu 2 0 13 1), (.lit (.int .i64 6))] 102 .false), (.row [(.lit (.slice .none 0 0)), (.lit (.int .i64 1024)), (.lit (.int .i64 0))]
  160 .false), (.row [(.lit (.int .u8 80)), (.lit (.int .u8 77)), (.lit (.int .u8 84)), (.lit (.int .u8 30)), (.lit (.int .u8 0)), (.lit (.int .u8 0)),
  (.lit (.int .u8 33)), (.lit (.int .u8 0)), (.lit (.int .u8 0)), (.lit (.int .u8 97)), (.lit (.int .u8 98)), (.lit (.int .u8 99)), (.lit (.int .u8
  100))] 5 .true)], [], (.tup [(.slu 429 0 4 1), (.lit (.bool .true)), (.agg [(.lit (.slice .none 0 0)), (.lit (.int .i64 0)), (.lit (.slice .none 0
  0)), (.lit (.int .i64 0)), (.lit (.slice .none 0 0)), (.lit (.int .i64 0)), (.lit (.slice .none 0 0)), (.lit (.int .i64 1)), (.lit (.int .i64 4)),
  (.lit (.int .i64 8))]), (.lit (.int .i64 0))]), [(0, (.row [(.slu 2 0 13 1), (.lit (.int .i64 13))] 102 .false)), (1, (.row [(.slu 484 0 4 1), (.lit
  (.int .i64 1024)), (.lit (.int .i64 4))] 160 .false)), (2, (.row [(.lit (.int .u8 80)), (.lit (.int .u8 77)), (.lit (.int .u8 84)), (.lit (.int .u8
  30)), (.lit (.int .u8 0)), (.lit (.int .u8 0)), (.lit (.int .u8 33)), (.lit (.int .u8 0)), (.lit (.int .u8 0)), (.lit (.int .u8 97)), (.lit (.int .u8
  98)), (.lit (.int .u8 99)), (.lit (.int .u8 100))] 5 .true)), (429, (.row [(.lit (.int .u8 97)), (.lit (.int .u8 98)), (.lit (.int .u8 99)), (.lit
  (.int .u8 100))] 5 .true)), (484, (.row [(.lit (.int .u8 97)), (.lit (.int .u8 98)), (.lit (.int .u8 99)), (.lit (.int .u8 100))] 5 .true))], 529⟩
noncomputable def cs66 : List Con := c66 :: cs65
theorem c66_ok {E : Nat → Option Value} {I : Interp} : ConGood E tb Tryz.prog I c66 := con_goodR (d := 80) tb_ok cs65_ok (by kernel_rfl)
theorem cs66_ok {E : Nat → Option Value} {I : Interp} : ∀ c ∈ cs66, ConGood E tb Tryz.prog I c := List.forall_mem_cons.2 ⟨c66_ok, cs65_ok⟩
noncomputable def c67 : Con :=
  ⟨9, [(.slu 0 0 13 1), (.lit (.int .i64 1024)), (.lit (.int .i64 4)), (.lit (.slice .none 0 0))], [(.row [(.lit (.int .u8 80)), (.lit (.int .u8 77)),
  (.lit (.int .u8 84)), (.lit (.int .u8 30)), (.lit (.int .u8 0)), (.lit (.int .u8 0)), (.lit (.int .u8 33)), (.lit (.int .u8 0)), (.lit (.int .u8 0)),
  (.lit (.int .u8 97)), (.lit (.int .u8 98)), (.lit (.int .u8 99)), (.lit (.int .u8 100)), (.lit (.int .u8 80)), (.lit (.int .u8 77)), (.lit (.int .u8
  84)), (.lit (.int .u8 30)), (.lit (.int .u8 0)), (.lit (.int .u8 0)), (.lit (.int .u8 17)), (.lit (.int .u8 0)), (.lit (.int .u8 0)), (.lit (.int .u8
  101)), (.lit (.int .u8 102)), (.lit (.int .u8 80)), (.lit (.int .u8 77)), (.lit (.int .u8 84)), (.lit (.int .u8 83)), (.lit (.int .u8 20)), (.lit
  (.int .u8 0)), (.lit (.int .u8 0)), (.lit (.int .u8 0)), (.lit (.int .u8 13)), (.lit (.int .u8 4)), (.lit (.int .u8 11)), (.lit (.int .u8 2)), (.lit
  (.int .u8 2)), (.lit (.int .u8 0)), (.lit (.int .u8 0)), (.lit (.int .u8 0)), (.lit (.int .u8 25)), (.lit (.int .u8 127)), (.lit (.int .u8 136)),
  (.lit (.int .u8 126)), (.lit (.int .u8 4)), (.lit (.int .u8 0)), (.lit (.int .u8 0)), (.lit (.int .u8 0)), (.lit (.int .u8 80)), (.lit (.int .u8 77)),
  (.lit (.int .u8 84)), (.lit (.int .u8 73))] 5 .true)], [], (.tup [(.slu 1494 0 4 1), (.lit (.int .i64 0))]), [(0, (.row [(.lit (.int .u8 80)), (.lit
  (.int .u8 77)), (.lit (.int .u8 84)), (.lit (.int .u8 30)), (.lit (.int .u8 0)), (.lit (.int .u8 0)), (.lit (.int .u8 33)), (.lit (.int .u8 0)), (.lit
  (.int .u8 0)), (.lit (.int .u8 97)), (.lit (.int .u8 98)), (.lit (.int .u8 99)), (.lit (.int .u8 100)), (.lit (.int .u8 80)), (.lit (.int .u8 77)),
  (.lit (.int .u8 84)), (.lit (.int .u8 30)), (.lit (.int .u8 0)), (.lit (.int .u8 0)), (.lit (.int .u8 17)), (.lit (.int .u8 0)), (.lit (.int .u8 0)),
  (.lit (.int .u8 101)), (.lit (.int .u8 102)), (.lit (.int .u8 80)), (.lit (.int .u8 77)), (.lit (.int .u8 84)), (.lit (.int .u8 83)), (.lit (.int .u8
  20)), (.lit (.int .u8 0)), (.lit (.int .u8 0)), (.lit (.int .u8 0)), (.lit (.int .u8 13)), (.lit (.int .u8 4)), (.lit (.int .u8 11)), (.lit (.int .u8
  2)), (.lit (.int .u8 2)), (.lit (.int .u8 0)), (.lit (.int .u8 0)), (.lit (.int .u8 0)), (.lit (.int .u8 25)), (.lit (.int .u8 127)), (.lit (.int .u8
  136)), (.lit (.int .u8 126)), (.lit (.int .u8 4)), (.lit (.int .u8 0)), (.lit (.int .u8 0)), (.lit (.int .u8 0)), (.lit (.int .u8 80)), (.lit (.int
  .u8 77)), (.lit (.int .u8 84)), (.lit (.int .u8 73))] 5 .true)), (1494, (.row [(.lit (.int .u8 97)), (.lit (.int .u8 98)), (.lit (.int .u8 99)), (.lit
  (.int .u8 100))] 5 .true))], 1558⟩
noncomputable def cs67 : List Con := c67 :: cs66
theorem c67_ok {E : Nat → Option Value} {I : Interp} : ConGood E tb Tryz.prog I c67 := con_goodR (d := 80) tb_ok cs66_ok (by kernel_rfl)
theorem cs67_ok {E : Nat → Option Value} {I : Interp} : ∀ c ∈ cs67, ConGood E tb Tryz.prog I c := List.forall_mem_cons.2 ⟨c67_ok, cs66_ok⟩
noncomputable def c68 : Con :=
  ⟨58, [(.ptr 0 0), (.agg [(.lit (.slice .none 0 0)), (.lit (.int .i64 0)), (.lit (.slice .none 0 0)), (.lit (.int .i64 0)), (.lit (.slice .none 0 0)),
  (.lit (.int .i64 0)), (.lit (.slice .none 0 0)), (.lit (.int .i64 1)), (.lit (.int .i64 4)), (.lit (.int .i64 8))]), (.ptr 1 0), (.lit (.int .i64
  1024))], [(.row [(.slu 2 0 11 1), (.lit (.int .i64 6))] 102 .false), (.row [(.lit (.slice .none 0 0)), (.lit (.int .i64 1024)), (.lit (.int .i64 0))]
  160 .false), (.row [(.lit (.int .u8 80)), (.lit (.int .u8 77)), (.lit (.int .u8 84)), (.lit (.int .u8 30)), (.lit (.int .u8 0)), (.lit (.int .u8 0)),
  (.lit (.int .u8 17)), (.lit (.int .u8 0)), (.lit (.int .u8 0)), (.lit (.int .u8 101)), (.lit (.int .u8 102))] 5 .true)], [], (.tup [(.slu 429 0 2 1),
  (.lit (.bool .true)), (.agg [(.lit (.slice .none 0 0)), (.lit (.int .i64 0)), (.lit (.slice .none 0 0)), (.lit (.int .i64 0)), (.lit (.slice .none 0
  0)), (.lit (.int .i64 0)), (.lit (.slice .none 0 0)), (.lit (.int .i64 1)), (.lit (.int .i64 4)), (.lit (.int .i64 8))]), (.lit (.int .i64 0))]), [(0,
  (.row [(.slu 2 0 11 1), (.lit (.int .i64 11))] 102 .false)), (1, (.row [(.slu 484 0 2 1), (.lit (.int .i64 1024)), (.lit (.int .i64 2))] 160 .false)),
  (2, (.row [(.lit (.int .u8 80)), (.lit (.int .u8 77)), (.lit (.int .u8 84)), (.lit (.int .u8 30)), (.lit (.int .u8 0)), (.lit (.int .u8 0)), (.lit
  (.int .u8 17)), (.lit (.int .u8 0)), (.lit (.int .u8 0)), (.lit (.int .u8 101)), (.lit (.int .u8 102))] 5 .true)), (429, (.row [(.lit (.int .u8 101)),
  (.lit (.int .u8 102))] 5 .true)), (484, (.row [(.lit (.int .u8 101)), (.lit (.int .u8 102))] 5 .true))], 529⟩
noncomputable def cs68 : List Con := c68 :: cs67
theorem c68_ok {E : Nat → Option Value} {I : Interp} : ConGood E tb Tryz.prog I c68 := con_goodR (d := 80) tb_ok cs67_ok (by kernel_rfl)
theorem cs68_ok {E : Nat → Option Value} {I : Interp} : ∀ c ∈ cs68, ConGood E tb Tryz.prog I c := List.forall_mem_cons.2 ⟨c68_ok, cs67_ok⟩
noncomputable def c69 : Con :=
  ⟨9, [(.slu 0 13 11 1), (.lit (.int .i64 1024)), (.lit (.int .i64 2)), (.lit (.slice .none 0 0))], [(.row [(.lit (.int .u8 80)), (.lit (.int .u8 77)),
  (.lit (.int .u8 84)), (.lit (.int .u8 30)), (.lit (.int .u8 0)), (.lit (.int .u8 0)), (.lit (.int .u8 33)), (.lit (.int .u8 0)), (.lit (.int .u8 0)),
  (.lit (.int .u8 97)), (.lit (.int .u8 98)), (.lit (.int .u8 99)), (.lit (.int .u8 100)), (.lit (.int .u8 80)), (.lit (.int .u8 77)), (.lit (.int .u8
  84)), (.lit (.int .u8 30)), (.lit (.int .u8 0)), (.lit (.int .u8 0)), (.lit (.int .u8 17)), (.lit (.int .u8 0)), (.lit (.int .u8 0)), (.lit (.int .u8
  101)), (.lit (.int .u8 102)), (.lit (.int .u8 80)), (.lit (.int .u8 77)), (.lit (.int .u8 84)), (.lit (.int .u8 83)), (.lit (.int .u8 20)), (.lit
  (.int .u8 0)), (.lit (.int .u8 0)), (.lit (.int .u8 0)), (.lit (.int .u8 13)), (.lit (.int .u8 4)), (.lit (.int .u8 11)), (.lit (.int .u8 2)), (.lit
  (.int .u8 2)), (.lit (.int .u8 0)), (.lit (.int .u8 0)), (.lit (.int .u8 0)), (.lit (.int .u8 25)), (.lit (.int .u8 127)), (.lit (.int .u8 136)),
  (.lit (.int .u8 126)), (.lit (.int .u8 4)), (.lit (.int .u8 0)), (.lit (.int .u8 0)), (.lit (.int .u8 0)), (.lit (.int .u8 80)), (.lit (.int .u8 77)),
  (.lit (.int .u8 84)), (.lit (.int .u8 73))] 5 .true)], [], (.tup [(.slu 1494 0 2 1), (.lit (.int .i64 0))]), [(0, (.row [(.lit (.int .u8 80)), (.lit
  (.int .u8 77)), (.lit (.int .u8 84)), (.lit (.int .u8 30)), (.lit (.int .u8 0)), (.lit (.int .u8 0)), (.lit (.int .u8 33)), (.lit (.int .u8 0)), (.lit
  (.int .u8 0)), (.lit (.int .u8 97)), (.lit (.int .u8 98)), (.lit (.int .u8 99)), (.lit (.int .u8 100)), (.lit (.int .u8 80)), (.lit (.int .u8 77)),
  (.lit (.int .u8 84)), (.lit (.int .u8 30)), (.lit (.int .u8 0)), (.lit (.int .u8 0)), (.lit (.int .u8 17)), (.lit (.int .u8 0)), (.lit (.int .u8 0)),
  (.lit (.int .u8 101)), (.lit (.int .u8 102)), (.lit (.int .u8 80)), (.lit (.int .u8 77)), (.lit (.int .u8 84)), (.lit (.int .u8 83)), (.lit (.int .u8
  20)), (.lit (.int .u8 0)), (.lit (.int .u8 0)), (.lit (.int .u8 0)), (.lit (.int .u8 13)), (.lit (.int .u8 4)), (.lit (.int .u8 11)), (.lit (.int .u8
  2)), (.lit (.int .u8 2)), (.lit (.int .u8 0)), (.lit (.int .u8 0)), (.lit (.int .u8 0)), (.lit (.int .u8 25)), (.lit (.int .u8 127)), (.lit (.int .u8
  136)), (.lit (.int .u8 126)), (.lit (.int .u8 4)), (.lit (.int .u8 0)), (.lit (.int .u8 0)), (.lit (.int .u8 0)), (.lit (.int .u8 80)), (.lit (.int
  .u8 77)), (.lit (.int .u8 84)), (.lit (.int .u8 73))] 5 .true)), (1494, (.row [(.lit (.int .u8 101)), (.lit (.int .u8 102))] 5 .true))], 1558⟩
noncomputable def cs69 : List Con := c69 :: cs68
theorem c69_ok {E : Nat → Option Value} {I : Interp} : ConGood E tb Tryz.prog I c69 := con_goodR (d := 80) tb_ok cs68_ok (by kernel_rfl)
theorem cs69_ok {E : Nat → Option Value} {I : Interp} : ∀ c ∈ cs69, ConGood E tb Tryz.prog I c := List.forall_mem_cons.2 ⟨c69_ok, cs68_ok⟩
noncomputable def c70 : Con :=
  ⟨4, [(.ptr 0 0), (.lit (.int .i64 3)), (.lit (.int .i64 2))], [(.row [(.slu 1 0 52 1), (.slu 2 0 2 2), (.lit (.int .i64 6)), (.lit (.int .i64 1024)),
  (.lit (.slice .none 0 0)), (.lit (.bool .true))] 27 .false), (.row [(.lit (.int .u8 80)), (.lit (.int .u8 77)), (.lit (.int .u8 84)), (.lit (.int .u8
  30)), (.lit (.int .u8 0)), (.lit (.int .u8 0)), (.lit (.int .u8 33)), (.lit (.int .u8 0)), (.lit (.int .u8 0)), (.lit (.int .u8 97)), (.lit (.int .u8
  98)), (.lit (.int .u8 99)), (.lit (.int .u8 100)), (.lit (.int .u8 80)), (.lit (.int .u8 77)), (.lit (.int .u8 84)), (.lit (.int .u8 30)), (.lit (.int
  .u8 0)), (.lit (.int .u8 0)), (.lit (.int .u8 17)), (.lit (.int .u8 0)), (.lit (.int .u8 0)), (.lit (.int .u8 101)), (.lit (.int .u8 102)), (.lit
  (.int .u8 80)), (.lit (.int .u8 77)), (.lit (.int .u8 84)), (.lit (.int .u8 83)), (.lit (.int .u8 20)), (.lit (.int .u8 0)), (.lit (.int .u8 0)),
  (.lit (.int .u8 0)), (.lit (.int .u8 13)), (.lit (.int .u8 4)), (.lit (.int .u8 11)), (.lit (.int .u8 2)), (.lit (.int .u8 2)), (.lit (.int .u8 0)),
  (.lit (.int .u8 0)), (.lit (.int .u8 0)), (.lit (.int .u8 25)), (.lit (.int .u8 127)), (.lit (.int .u8 136)), (.lit (.int .u8 126)), (.lit (.int .u8
  4)), (.lit (.int .u8 0)), (.lit (.int .u8 0)), (.lit (.int .u8 0)), (.lit (.int .u8 80)), (.lit (.int .u8 77)), (.lit (.int .u8 84)), (.lit (.int .u8
  73))] 5 .true), (.row [(.lit (.int .i64 13)), (.lit (.int .i64 4)), (.lit (.int .i64 11)), (.lit (.int .i64 2))] 43 .true)], [], (.tup [(.slu 3546 0 2
  1), (.lit (.int .i64 0))]), [(0, (.row [(.slu 1 0 52 1), (.slu 2 0 2 2), (.lit (.int .i64 6)), (.lit (.int .i64 1024)), (.lit (.slice .none 0 0)),
  (.lit (.bool .true))] 27 .false)), (1, (.row [(.lit (.int .u8 80)), (.lit (.int .u8 77)), (.lit (.int .u8 84)), (.lit (.int .u8 30)), (.lit (.int .u8
  0)), (.lit (.int .u8 0)), (.lit (.int .u8 33)), (.lit (.int .u8 0)), (.lit (.int .u8 0)), (.lit (.int .u8 97)), (.lit (.int .u8 98)), (.lit (.int .u8
  99)), (.lit (.int .u8 100)), (.lit (.int .u8 80)), (.lit (.int .u8 77)), (.lit (.int .u8 84)), (.lit (.int .u8 30)), (.lit (.int .u8 0)), (.lit (.int
  .u8 0)), (.lit (.int .u8 17)), (.lit (.int .u8 0)), (.lit (.int .u8 0)), (.lit (.int .u8 101)), (.lit (.int .u8 102)), (.lit (.int .u8 80)), (.lit
  (.int .u8 77)), (.lit (.int .u8 84)), (.lit (.int .u8 83)), (.lit (.int .u8 20)), (.lit (.int .u8 0)), (.lit (.int .u8 0)), (.lit (.int .u8 0)), (.lit
  (.int .u8 13)), (.lit (.int .u8 4)), (.lit (.int .u8 11)), (.lit (.int .u8 2)), (.lit (.int .u8 2)), (.lit (.int .u8 0)), (.lit (.int .u8 0)), (.lit
  (.int .u8 0)), (.lit (.int .u8 25)), (.lit (.int .u8 127)), (.lit (.int .u8 136)), (.lit (.int .u8 126)), (.lit (.int .u8 4)), (.lit (.int .u8 0)),
  (.lit (.int .u8 0)), (.lit (.int .u8 0)), (.lit (.int .u8 80)), (.lit (.int .u8 77)), (.lit (.int .u8 84)), (.lit (.int .u8 73))] 5 .true)), (2, (.row
  [(.lit (.int .i64 13)), (.lit (.int .i64 4)), (.lit (.int .i64 11)), (.lit (.int .i64 2))] 43 .true)), (3546, (.row [(.lit (.int .u8 100)), (.lit
  (.int .u8 101))] 5 .true))], 3554⟩
noncomputable def cs70 : List Con := c70 :: cs69
theorem c70_ok {E : Nat → Option Value} {I : Interp} : ConGood E tb Tryz.prog I c70 := con_goodR (d := 80) tb_ok cs69_ok (by kernel_rfl)
theorem cs70_ok {E : Nat → Option Value} {I : Interp} : ∀ c ∈ cs70, ConGood E tb Tryz.prog I c := List.forall_mem_cons.2 ⟨c70_ok, cs69_ok⟩
noncomputable def c71 : Con :=
  ⟨4, [(.ptr 0 0), (.lit (.int .i64 5)), (.lit (.int .i64 2))], [(.row [(.slu 1 0 52 1), (.slu 2 0 2 2), (.lit (.int .i64 6)), (.lit (.int .i64 1024)),
  (.lit (.slice .none 0 0)), (.lit (.bool .true))] 27 .false), (.row [(.lit (.int .u8 80)), (.lit (.int .u8 77)), (.lit (.int .u8 84)), (.lit (.int .u8
  30)), (.lit (.int .u8 0)), (.lit (.int .u8 0)), (.lit (.int .u8 33)), (.lit (.int .u8 0)), (.lit (.int .u8 0)), (.lit (.int .u8 97)), (.lit (.int .u8
  98)), (.lit (.int .u8 99)), (.lit (.int .u8 100)), (.lit (.int .u8 80)), (.lit (.int .u8 77)), (.lit (.int .u8 84)), (.lit (.int .u8 30)), (.lit (.int
  .u8 0)), (.lit (.int .u8 0)), (.lit (.int .u8 17)), (.lit (.int .u8 0)), (.lit (.int .u8 0)), (.lit (.int .u8 101)), (.lit (.int .u8 102)), (.lit
  (.int .u8 80)), (.lit (.int .u8 77)), (.lit (.int .u8 84)), (.lit (.int .u8 83)), (.lit (.int .u8 20)), (.lit (.int .u8 0)), (.lit (.int .u8 0)),
  (.lit (.int .u8 0)), (.lit (.int .u8 13)), (.lit (.int .u8 4)), (.lit (.int .u8 11)), (.lit (.int .u8 2)), (.lit (.int .u8 2)), (.lit (.int .u8 0)),
  (.lit (.int .u8 0)), (.lit (.int .u8 0)), (.lit (.int .u8 25)), (.lit (.int .u8 127)), (.lit (.int .u8 136)), (.lit (.int .u8 126)), (.lit (.int .u8
  4)), (.lit (.int .u8 0)), (.lit (.int .u8 0)), (.lit (.int .u8 0)), (.lit (.int .u8 80)), (.lit (.int .u8 77)), (.lit (.int .u8 84)), (.lit (.int .u8
  73))] 5 .true), (.row [(.lit (.int .i64 13)), (.lit (.int .i64 4)), (.lit (.int .i64 11)), (.lit (.int .i64 2))] 43 .true)], [], (.tup [(.lit (.slice
  .none 0 0)), (.lit (.int .i64 21))]), [(0, (.row [(.slu 1 0 52 1), (.slu 2 0 2 2), (.lit (.int .i64 6)), (.lit (.int .i64 1024)), (.lit (.slice .none
  0 0)), (.lit (.bool .true))] 27 .false)), (1, (.row [(.lit (.int .u8 80)), (.lit (.int .u8 77)), (.lit (.int .u8 84)), (.lit (.int .u8 30)), (.lit
  (.int .u8 0)), (.lit (.int .u8 0)), (.lit (.int .u8 33)), (.lit (.int .u8 0)), (.lit (.int .u8 0)), (.lit (.int .u8 97)), (.lit (.int .u8 98)), (.lit
  (.int .u8 99)), (.lit (.int .u8 100)), (.lit (.int .u8 80)), (.lit (.int .u8 77)), (.lit (.int .u8 84)), (.lit (.int .u8 30)), (.lit (.int .u8 0)),
  (.lit (.int .u8 0)), (.lit (.int .u8 17)), (.lit (.int .u8 0)), (.lit (.int .u8 0)), (.lit (.int .u8 101)), (.lit (.int .u8 102)), (.lit (.int .u8
  80)), (.lit (.int .u8 77)), (.lit (.int .u8 84)), (.lit (.int .u8 83)), (.lit (.int .u8 20)), (.lit (.int .u8 0)), (.lit (.int .u8 0)), (.lit (.int
  .u8 0)), (.lit (.int .u8 13)), (.lit (.int .u8 4)), (.lit (.int .u8 11)), (.lit (.int .u8 2)), (.lit (.int .u8 2)), (.lit (.int .u8 0)), (.lit (.int
  .u8 0)), (.lit (.int .u8 0)), (.lit (.int .u8 25)), (.lit (.int .u8 127)), (.lit (.int .u8 136)), (.lit (.int .u8 126)), (.lit (.int .u8 4)), (.lit
  (.int .u8 0)), (.lit (.int .u8 0)), (.lit (.int .u8 0)), (.lit (.int .u8 80)), (.lit (.int .u8 77)), (.lit (.int .u8 84)), (.lit (.int .u8 73))] 5
  .true)), (2, (.row [(.lit (.int .i64 13)), (.lit (.int .i64 4)), (.lit (.int .i64 11)), (.lit (.int .i64 2))] 43 .true))], 48⟩
noncomputable def cs71 : List Con := c71 :: cs70
theorem c71_ok {E : Nat → Option Value} {I : Interp} : ConGood E tb Tryz.prog I c71 := con_goodR (d := 80) tb_ok cs70_ok (by kernel_rfl)
theorem cs71_ok {E : Nat → Option Value} {I : Interp} : ∀ c ∈ cs71, ConGood E tb Tryz.prog I c := List.forall_mem_cons.2 ⟨c71_ok, cs70_ok⟩
noncomputable def c72 : Con :=
  ⟨7, [(.ptr 0 0), (.lit (.int .i64 3)), (.lit (.int .i64 2))], [(.row [(.slu 1 0 52 1), (.slu 2 0 2 2), (.lit (.int .i64 6)), (.lit (.int .i64 1024)),
  (.lit (.slice .none 0 0)), (.lit (.bool .true))] 27 .false), (.row [(.lit (.int .u8 80)), (.lit (.int .u8 77)), (.lit (.int .u8 84)), (.lit (.int .u8
  30)), (.lit (.int .u8 0)), (.lit (.int .u8 0)), (.lit (.int .u8 33)), (.lit (.int .u8 0)), (.lit (.int .u8 0)), (.lit (.int .u8 97)), (.lit (.int .u8
  98)), (.lit (.int .u8 99)), (.lit (.int .u8 100)), (.lit (.int .u8 80)), (.lit (.int .u8 77)), (.lit (.int .u8 84)), (.lit (.int .u8 30)), (.lit (.int
  .u8 0)), (.lit (.int .u8 0)), (.lit (.int .u8 17)), (.lit (.int .u8 0)), (.lit (.int .u8 0)), (.lit (.int .u8 101)), (.lit (.int .u8 102)), (.lit
  (.int .u8 80)), (.lit (.int .u8 77)), (.lit (.int .u8 84)), (.lit (.int .u8 83)), (.lit (.int .u8 20)), (.lit (.int .u8 0)), (.lit (.int .u8 0)),
  (.lit (.int .u8 0)), (.lit (.int .u8 13)), (.lit (.int .u8 4)), (.lit (.int .u8 11)), (.lit (.int .u8 2)), (.lit (.int .u8 2)), (.lit (.int .u8 0)),
  (.lit (.int .u8 0)), (.lit (.int .u8 0)), (.lit (.int .u8 25)), (.lit (.int .u8 127)), (.lit (.int .u8 136)), (.lit (.int .u8 126)), (.lit (.int .u8
  4)), (.lit (.int .u8 0)), (.lit (.int .u8 0)), (.lit (.int .u8 0)), (.lit (.int .u8 80)), (.lit (.int .u8 77)), (.lit (.int .u8 84)), (.lit (.int .u8
  73))] 5 .true), (.row [(.lit (.int .i64 13)), (.lit (.int .i64 4)), (.lit (.int .i64 11)), (.lit (.int .i64 2))] 43 .true)], [], (.slu 186 0 2 1),
  [(0, (.row [(.slu 1 0 52 1), (.slu 2 0 2 2), (.lit (.int .i64 6)), (.lit (.int .i64 1024)), (.lit (.slice .none 0 0)), (.lit (.bool .true))] 27
  .false)), (1, (.row [(.lit (.int .u8 80)), (.lit (.int .u8 77)), (.lit (.int .u8 84)), (.lit (.int .u8 30)), (.lit (.int .u8 0)), (.lit (.int .u8 0)),
  (.lit (.int .u8 33)), (.lit (.int .u8 0)), (.lit (.int .u8 0)), (.lit (.int .u8 97)), (.lit (.int .u8 98)), (.lit (.int .u8 99)), (.lit (.int .u8
  100)), (.lit (.int .u8 80)), (.lit (.int .u8 77)), (.lit (.int .u8 84)), (.lit (.int .u8 30)), (.lit (.int .u8 0)), (.lit (.int .u8 0)), (.lit (.int
  .u8 17)), (.lit (.int .u8 0)), (.lit (.int .u8 0)), (.lit (.int .u8 101)), (.lit (.int .u8 102)), (.lit (.int .u8 80)), (.lit (.int .u8 77)), (.lit
  (.int .u8 84)), (.lit (.int .u8 83)), (.lit (.int .u8 20)), (.lit (.int .u8 0)), (.lit (.int .u8 0)), (.lit (.int .u8 0)), (.lit (.int .u8 13)), (.lit
  (.int .u8 4)), (.lit (.int .u8 11)), (.lit (.int .u8 2)), (.lit (.int .u8 2)), (.lit (.int .u8 0)), (.lit (.int .u8 0)), (.lit (.int .u8 0)), (.lit
  (.int .u8 25)), (.lit (.int .u8 127)), (.lit (.int .u8 136)), (.lit (.int .u8 126)), (.lit (.int .u8 4)), (.lit (.int .u8 0)), (.lit (.int .u8 0)),
  (.lit (.int .u8 0)), (.lit (.int .u8 80)), (.lit (.int .u8 77)), (.lit (.int .u8 84)), (.lit (.int .u8 73))] 5 .true)), (2, (.row [(.lit (.int .i64
  13)), (.lit (.int .i64 4)), (.lit (.int .i64 11)), (.lit (.int .i64 2))] 43 .true)), (186, (.row [(.lit (.int .i64 0)), (.lit (.int .i64 1))] 3
  .true))], 222⟩
noncomputable def cs72 : List Con := c72 :: cs71
theorem c72_ok {E : Nat → Option Value} {I : Interp} : ConGood E tb Tryz.prog I c72 := con_goodR (d := 80) tb_ok cs71_ok (by kernel_rfl)
theorem cs72_ok {E : Nat → Option Value} {I : Interp} : ∀ c ∈ cs72, ConGood E tb Tryz.prog I c := List.forall_mem_cons.2 ⟨c72_ok, cs71_ok⟩
noncomputable def c73 : Con :=
  ⟨10, [], [], [], (.lit (.bool .true)), [], 275052⟩
noncomputable def cs73 : List Con := c73 :: cs72
theorem c73_ok {E : Nat → Option Value} {I : Interp} : ConGood E tb Tryz.prog I c73 := con_goodR (d := 80) tb_ok cs72_ok (by kernel_rfl)
theorem cs73_ok {E : Nat → Option Value} {I : Interp} : ∀ c ∈ cs73, ConGood E tb Tryz.prog I c := List.forall_mem_cons.2 ⟨c73_ok, cs72_ok⟩
end Go.Proofs.YtkofoejjbmogaaaGreat
