/- What 53 calls of the encoder return on given arguments, and what then lies in memory: each is found by a run of the evaluator, on those before it; the last is the call of known. No condition. -/
import Derived.Test.YtphmfjgllccgbaaGreatTabs
set_option linter.unusedVariables false
set_option maxRecDepth 100000
namespace Go.Proofs.YtphmfjgllccgbaaGreat
open Go Go.Proofs.YtphmfjgllccgbaaGreat.Eng Go.Proofs
noncomputable def cs0 : List Con := []
theorem cs0_ok {E : Nat → Option Value} {I : Interp} : ∀ c ∈ cs0, ConGood E tb Tryz.prog I c := fun _ h => by cases h
noncomputable def c1 : Con :=
  ⟨10, [(.lit (.pointer .none)), (.agg [(.lit (.int .i64 1024)), (.lit (.int .i64 0)), (.lit (.int .i64 0)), (.lit (.bool .false)), (.lit (.bool
  .false)), (.lit (.int .i64 0))])], [], [], (.tup [(.ptr 141 0), (.lit (.int .i64 0))]), [(141, (.row [(.lit (.slice .none 0 0)), (.lit (.int .i64 0)),
  (.lit (.slice .none 0 0)), (.lit (.int .i64 0)), (.lit (.slice .none 0 0)), (.lit (.int .i64 0)), (.lit (.slice .none 0 0)), (.lit (.int .i64 0)),
  (.lit (.int .i64 0)), (.lit (.int .i64 0)), (.lit (.slice .none 0 0)), (.lit (.slice .none 0 0)), (.lit (.int .u64 0)), (.lit (.int .i64 0)), (.lit
  (.int .u8 0)), (.lit (.int .u8 0)), (.lit (.int .u8 0)), (.lit (.int .u8 0)), (.lit (.int .u8 0)), (.lit (.int .u8 0)), (.lit (.int .u8 0)), (.lit
  (.int .u8 0)), (.lit (.int .i64 0)), (.lit (.pointer .none)), (.lit (.int .i64 1024)), (.lit (.int .i64 0)), (.lit (.int .i64 0)), (.lit (.bool
  .false)), (.lit (.bool .false)), (.lit (.int .i64 0)), (.lit (.bool .true)), (.lit (.bool .false)), (.lit (.bool .false)), (.lit (.bool .false)),
  (.lit (.int .i64 0)), (.lit (.int .i64 0))] 42 .false))], 148⟩
noncomputable def cs1 : List Con := c1 :: cs0
theorem c1_ok {E : Nat → Option Value} {I : Interp} : ConGood E tb Tryz.prog I c1 := con_goodR (d := 80) tb_ok cs0_ok (by kernel_rfl)
theorem cs1_ok {E : Nat → Option Value} {I : Interp} : ∀ c ∈ cs1, ConGood E tb Tryz.prog I c := List.forall_mem_cons.2 ⟨c1_ok, cs0_ok⟩
noncomputable def c2 : Con :=
  ⟨25, [(.agg [(.lit (.int .i64 1024)), (.lit (.int .i64 (-1))), (.lit (.int .u32 0)), (.lit (.bool .false))])], [], [], (.tup [(.slu 166 0 6 1), (.lit
  (.int .i64 0))]), [(166, (.row [(.lit (.int .u8 80)), (.lit (.int .u8 77)), (.lit (.int .u8 84)), (.lit (.int .u8 30)), (.lit (.int .u8 0)), (.lit
  (.int .u8 0))] 5 .true))], 177⟩
noncomputable def cs2 : List Con := c2 :: cs1
theorem c2_ok {E : Nat → Option Value} {I : Interp} : ConGood E tb Tryz.prog I c2 := con_goodR (d := 80) tb_ok cs1_ok (by kernel_rfl)
theorem cs2_ok {E : Nat → Option Value} {I : Interp} : ∀ c ∈ cs2, ConGood E tb Tryz.prog I c := List.forall_mem_cons.2 ⟨c2_ok, cs1_ok⟩
noncomputable def c3 : Con :=
  ⟨5, [(.ptr 0 0), (.slc 1 0 3 3)], [(.row [(.lit (.slice .none 0 0)), (.lit (.int .i64 0)), (.lit (.slice .none 0 0)), (.lit (.int .i64 0)), (.lit
  (.slice .none 0 0)), (.lit (.int .i64 0)), (.lit (.slice .none 0 0)), (.lit (.int .i64 0)), (.lit (.int .i64 0)), (.lit (.int .i64 0)), (.lit (.slice
  .none 0 0)), (.lit (.slice .none 0 0)), (.lit (.int .u64 0)), (.lit (.int .i64 0)), (.lit (.int .u8 0)), (.lit (.int .u8 0)), (.lit (.int .u8 0)),
  (.lit (.int .u8 0)), (.lit (.int .u8 0)), (.lit (.int .u8 0)), (.lit (.int .u8 0)), (.lit (.int .u8 0)), (.lit (.int .i64 0)), (.lit (.pointer
  .none)), (.lit (.int .i64 1024)), (.lit (.int .i64 0)), (.lit (.int .i64 0)), (.lit (.bool .false)), (.lit (.bool .false)), (.lit (.int .i64 0)),
  (.lit (.bool .true)), (.lit (.bool .false)), (.lit (.bool .false)), (.lit (.bool .false)), (.lit (.int .i64 0)), (.lit (.int .i64 0))] 42 .false),
  (.row [(.lit (.int .u8 97)), (.lit (.int .u8 98)), (.lit (.int .u8 99))] 5 .false)], [], (.tup [(.slu 281 0 6 1), (.lit (.int .i64 0))]), [(0, (.row
  [(.lit (.slice .none 0 0)), (.lit (.int .i64 0)), (.lit (.slice .none 0 0)), (.lit (.int .i64 0)), (.lit (.slice .none 0 0)), (.lit (.int .i64 0)),
  (.lit (.slice .none 0 0)), (.lit (.int .i64 1)), (.lit (.int .i64 4)), (.lit (.int .i64 8)), (.lit (.slice .none 0 0)), (.slu 305 0 3 1), (.lit (.int
  .u64 0)), (.lit (.int .i64 3)), (.lit (.int .u8 97)), (.lit (.int .u8 98)), (.lit (.int .u8 99)), (.lit (.int .u8 0)), (.lit (.int .u8 0)), (.lit
  (.int .u8 0)), (.lit (.int .u8 0)), (.lit (.int .u8 0)), (.lit (.int .i64 3)), (.lit (.pointer .none)), (.lit (.int .i64 1024)), (.lit (.int .i64 0)),
  (.lit (.int .i64 0)), (.lit (.bool .false)), (.lit (.bool .false)), (.lit (.int .i64 0)), (.lit (.bool .true)), (.lit (.bool .true)), (.lit (.bool
  .true)), (.lit (.bool .false)), (.lit (.int .i64 3)), (.lit (.int .i64 6))] 42 .false)), (1, (.row [(.lit (.int .u8 97)), (.lit (.int .u8 98)), (.lit
  (.int .u8 99))] 5 .false)), (281, (.row [(.lit (.int .u8 80)), (.lit (.int .u8 77)), (.lit (.int .u8 84)), (.lit (.int .u8 30)), (.lit (.int .u8 0)),
  (.lit (.int .u8 0))] 5 .true)), (305, (.row [(.lit (.int .u8 97)), (.lit (.int .u8 98)), (.lit (.int .u8 99))] 5 .true))], 510⟩
noncomputable def cs3 : List Con := c3 :: cs2
theorem c3_ok {E : Nat → Option Value} {I : Interp} : ConGood E tb Tryz.prog I c3 := con_goodR (d := 80) tb_ok cs2_ok (by kernel_rfl)
theorem cs3_ok {E : Nat → Option Value} {I : Interp} : ∀ c ∈ cs3, ConGood E tb Tryz.prog I c := List.forall_mem_cons.2 ⟨c3_ok, cs2_ok⟩
noncomputable def c4 : Con :=
  ⟨71, [(.lit (.slice .none 0 0)), (.agg [(.lit (.int .i64 1024)), (.lit (.int .i64 0)), (.lit (.int .i64 0)), (.lit (.bool .false)), (.lit (.bool
  .false)), (.lit (.int .i64 0))]), (.slu 0 0 3 1)], [(.row [(.lit (.int .u8 97)), (.lit (.int .u8 98)), (.lit (.int .u8 99))] 5 .true)], [], (.lit
  (.slice .none 0 0)), [(0, (.row [(.lit (.int .u8 97)), (.lit (.int .u8 98)), (.lit (.int .u8 99))] 5 .true))], 22⟩
noncomputable def cs4 : List Con := c4 :: cs3
theorem c4_ok {E : Nat → Option Value} {I : Interp} : ConGood E tb Tryz.prog I c4 := con_goodR (d := 80) tb_ok cs3_ok (by kernel_rfl)
theorem cs4_ok {E : Nat → Option Value} {I : Interp} : ∀ c ∈ cs4, ConGood E tb Tryz.prog I c := List.forall_mem_cons.2 ⟨c4_ok, cs3_ok⟩
noncomputable def c5 : Con :=
  ⟨181, [(.slc 0 0 1 1)], [(.row [(.slu 1 0 3 1)] 22 .false), (.row [(.lit (.int .u8 97)), (.lit (.int .u8 98)), (.lit (.int .u8 99))] 5 .true)], [],
  (.slc 3 0 256 256), [(0, (.row [(.slu 1 0 3 1)] 22 .false)), (1, (.row [(.lit (.int .u8 97)), (.lit (.int .u8 98)), (.lit (.int .u8 99))] 5 .true)),
  (3, (.row [(.lit (.int .i64 0)), (.lit (.int .i64 0)), (.lit (.int .i64 0)), (.lit (.int .i64 0)), (.lit (.int .i64 0)), (.lit (.int .i64 0)), (.lit
  (.int .i64 0)), (.lit (.int .i64 0)), (.lit (.int .i64 0)), (.lit (.int .i64 0)), (.lit (.int .i64 0)), (.lit (.int .i64 0)), (.lit (.int .i64 0)),
  (.lit (.int .i64 0)), (.lit (.int .i64 0)), (.lit (.int .i64 0)), (.lit (.int .i64 0)), (.lit (.int .i64 0)), (.lit (.int .i64 0)), (.lit (.int .i64
  0)), (.lit (.int .i64 0)), (.lit (.int .i64 0)), (.lit (.int .i64 0)), (.lit (.int .i64 0)), (.lit (.int .i64 0)), (.lit (.int .i64 0)), (.lit (.int
  .i64 0)), (.lit (.int .i64 0)), (.lit (.int .i64 0)), (.lit (.int .i64 0)), (.lit (.int .i64 0)), (.lit (.int .i64 0)), (.lit (.int .i64 0)), (.lit
  (.int .i64 0)), (.lit (.int .i64 0)), (.lit (.int .i64 0)), (.lit (.int .i64 0)), (.lit (.int .i64 0)), (.lit (.int .i64 0)), (.lit (.int .i64 0)),
  (.lit (.int .i64 0)), (.lit (.int .i64 0)), (.lit (.int .i64 0)), (.lit (.int .i64 0)), (.lit (.int .i64 0)), (.lit (.int .i64 0)), (.lit (.int .i64
  0)), (.lit (.int .i64 0)), (.lit (.int .i64 0)), (.lit (.int .i64 0)), (.lit (.int .i64 0)), (.lit (.int .i64 0)), (.lit (.int .i64 0)), (.lit (.int
  .i64 0)), (.lit (.int .i64 0)), (.lit (.int .i64 0)), (.lit (.int .i64 0)), (.lit (.int .i64 0)), (.lit (.int .i64 0)), (.lit (.int .i64 0)), (.lit
  (.int .i64 0)), (.lit (.int .i64 0)), (.lit (.int .i64 0)), (.lit (.int .i64 0)), (.lit (.int .i64 0)), (.lit (.int .i64 0)), (.lit (.int .i64 0)),
  (.lit (.int .i64 0)), (.lit (.int .i64 0)), (.lit (.int .i64 0)), (.lit (.int .i64 0)), (.lit (.int .i64 0)), (.lit (.int .i64 0)), (.lit (.int .i64
  0)), (.lit (.int .i64 0)), (.lit (.int .i64 0)), (.lit (.int .i64 0)), (.lit (.int .i64 0)), (.lit (.int .i64 0)), (.lit (.int .i64 0)), (.lit (.int
  .i64 0)), (.lit (.int .i64 0)), (.lit (.int .i64 0)), (.lit (.int .i64 0)), (.lit (.int .i64 0)), (.lit (.int .i64 0)), (.lit (.int .i64 0)), (.lit
  (.int .i64 0)), (.lit (.int .i64 0)), (.lit (.int .i64 0)), (.lit (.int .i64 0)), (.lit (.int .i64 0)), (.lit (.int .i64 0)), (.lit (.int .i64 0)),
  (.lit (.int .i64 0)), (.lit (.int .i64 0)), (.lit (.int .i64 0)), (.lit (.int .i64 1)), (.lit (.int .i64 1)), (.lit (.int .i64 1)), (.lit (.int .i64
  0)), (.lit (.int .i64 0)), (.lit (.int .i64 0)), (.lit (.int .i64 0)), (.lit (.int .i64 0)), (.lit (.int .i64 0)), (.lit (.int .i64 0)), (.lit (.int
  .i64 0)), (.lit (.int .i64 0)), (.lit (.int .i64 0)), (.lit (.int .i64 0)), (.lit (.int .i64 0)), (.lit (.int .i64 0)), (.lit (.int .i64 0)), (.lit
  (.int .i64 0)), (.lit (.int .i64 0)), (.lit (.int .i64 0)), (.lit (.int .i64 0)), (.lit (.int .i64 0)), (.lit (.int .i64 0)), (.lit (.int .i64 0)),
  (.lit (.int .i64 0)), (.lit (.int .i64 0)), (.lit (.int .i64 0)), (.lit (.int .i64 0)), (.lit (.int .i64 0)), (.lit (.int .i64 0)), (.lit (.int .i64
  0)), (.lit (.int .i64 0)), (.lit (.int .i64 0)), (.lit (.int .i64 0)), (.lit (.int .i64 0)), (.lit (.int .i64 0)), (.lit (.int .i64 0)), (.lit (.int
  .i64 0)), (.lit (.int .i64 0)), (.lit (.int .i64 0)), (.lit (.int .i64 0)), (.lit (.int .i64 0)), (.lit (.int .i64 0)), (.lit (.int .i64 0)), (.lit
  (.int .i64 0)), (.lit (.int .i64 0)), (.lit (.int .i64 0)), (.lit (.int .i64 0)), (.lit (.int .i64 0)), (.lit (.int .i64 0)), (.lit (.int .i64 0)),
  (.lit (.int .i64 0)), (.lit (.int .i64 0)), (.lit (.int .i64 0)), (.lit (.int .i64 0)), (.lit (.int .i64 0)), (.lit (.int .i64 0)), (.lit (.int .i64
  0)), (.lit (.int .i64 0)), (.lit (.int .i64 0)), (.lit (.int .i64 0)), (.lit (.int .i64 0)), (.lit (.int .i64 0)), (.lit (.int .i64 0)), (.lit (.int
  .i64 0)), (.lit (.int .i64 0)), (.lit (.int .i64 0)), (.lit (.int .i64 0)), (.lit (.int .i64 0)), (.lit (.int .i64 0)), (.lit (.int .i64 0)), (.lit
  (.int .i64 0)), (.lit (.int .i64 0)), (.lit (.int .i64 0)), (.lit (.int .i64 0)), (.lit (.int .i64 0)), (.lit (.int .i64 0)), (.lit (.int .i64 0)),
  (.lit (.int .i64 0)), (.lit (.int .i64 0)), (.lit (.int .i64 0)), (.lit (.int .i64 0)), (.lit (.int .i64 0)), (.lit (.int .i64 0)), (.lit (.int .i64
  0)), (.lit (.int .i64 0)), (.lit (.int .i64 0)), (.lit (.int .i64 0)), (.lit (.int .i64 0)), (.lit (.int .i64 0)), (.lit (.int .i64 0)), (.lit (.int
  .i64 0)), (.lit (.int .i64 0)), (.lit (.int .i64 0)), (.lit (.int .i64 0)), (.lit (.int .i64 0)), (.lit (.int .i64 0)), (.lit (.int .i64 0)), (.lit
  (.int .i64 0)), (.lit (.int .i64 0)), (.lit (.int .i64 0)), (.lit (.int .i64 0)), (.lit (.int .i64 0)), (.lit (.int .i64 0)), (.lit (.int .i64 0)),
  (.lit (.int .i64 0)), (.lit (.int .i64 0)), (.lit (.int .i64 0)), (.lit (.int .i64 0)), (.lit (.int .i64 0)), (.lit (.int .i64 0)), (.lit (.int .i64
  0)), (.lit (.int .i64 0)), (.lit (.int .i64 0)), (.lit (.int .i64 0)), (.lit (.int .i64 0)), (.lit (.int .i64 0)), (.lit (.int .i64 0)), (.lit (.int
  .i64 0)), (.lit (.int .i64 0)), (.lit (.int .i64 0)), (.lit (.int .i64 0)), (.lit (.int .i64 0)), (.lit (.int .i64 0)), (.lit (.int .i64 0)), (.lit
  (.int .i64 0)), (.lit (.int .i64 0)), (.lit (.int .i64 0)), (.lit (.int .i64 0)), (.lit (.int .i64 0)), (.lit (.int .i64 0)), (.lit (.int .i64 0)),
  (.lit (.int .i64 0)), (.lit (.int .i64 0)), (.lit (.int .i64 0)), (.lit (.int .i64 0)), (.lit (.int .i64 0)), (.lit (.int .i64 0)), (.lit (.int .i64
  0)), (.lit (.int .i64 0)), (.lit (.int .i64 0)), (.lit (.int .i64 0)), (.lit (.int .i64 0)), (.lit (.int .i64 0)), (.lit (.int .i64 0)), (.lit (.int
  .i64 0)), (.lit (.int .i64 0)), (.lit (.int .i64 0)), (.lit (.int .i64 0)), (.lit (.int .i64 0)), (.lit (.int .i64 0)), (.lit (.int .i64 0)), (.lit
  (.int .i64 0)), (.lit (.int .i64 0)), (.lit (.int .i64 0)), (.lit (.int .i64 0)), (.lit (.int .i64 0)), (.lit (.int .i64 0)), (.lit (.int .i64 0))]
  164 .false))], 62⟩
noncomputable def cs5 : List Con := c5 :: cs4
theorem c5_ok {E : Nat → Option Value} {I : Interp} : ConGood E tb Tryz.prog I c5 := con_goodR (d := 80) tb_ok cs4_ok (by kernel_rfl)
theorem cs5_ok {E : Nat → Option Value} {I : Interp} : ∀ c ∈ cs5, ConGood E tb Tryz.prog I c := List.forall_mem_cons.2 ⟨c5_ok, cs4_ok⟩
noncomputable def c6 : Con :=
  ⟨202, [(.slc 0 0 256 256), (.lit (.int .i64 11))], [(.row [(.lit (.int .i64 0)), (.lit (.int .i64 0)), (.lit (.int .i64 0)), (.lit (.int .i64 0)),
  (.lit (.int .i64 0)), (.lit (.int .i64 0)), (.lit (.int .i64 0)), (.lit (.int .i64 0)), (.lit (.int .i64 0)), (.lit (.int .i64 0)), (.lit (.int .i64
  0)), (.lit (.int .i64 0)), (.lit (.int .i64 0)), (.lit (.int .i64 0)), (.lit (.int .i64 0)), (.lit (.int .i64 0)), (.lit (.int .i64 0)), (.lit (.int
  .i64 0)), (.lit (.int .i64 0)), (.lit (.int .i64 0)), (.lit (.int .i64 0)), (.lit (.int .i64 0)), (.lit (.int .i64 0)), (.lit (.int .i64 0)), (.lit
  (.int .i64 0)), (.lit (.int .i64 0)), (.lit (.int .i64 0)), (.lit (.int .i64 0)), (.lit (.int .i64 0)), (.lit (.int .i64 0)), (.lit (.int .i64 0)),
  (.lit (.int .i64 0)), (.lit (.int .i64 0)), (.lit (.int .i64 0)), (.lit (.int .i64 0)), (.lit (.int .i64 0)), (.lit (.int .i64 0)), (.lit (.int .i64
  0)), (.lit (.int .i64 0)), (.lit (.int .i64 0)), (.lit (.int .i64 0)), (.lit (.int .i64 0)), (.lit (.int .i64 0)), (.lit (.int .i64 0)), (.lit (.int
  .i64 0)), (.lit (.int .i64 0)), (.lit (.int .i64 0)), (.lit (.int .i64 0)), (.lit (.int .i64 0)), (.lit (.int .i64 0)), (.lit (.int .i64 0)), (.lit
  (.int .i64 0)), (.lit (.int .i64 0)), (.lit (.int .i64 0)), (.lit (.int .i64 0)), (.lit (.int .i64 0)), (.lit (.int .i64 0)), (.lit (.int .i64 0)),
  (.lit (.int .i64 0)), (.lit (.int .i64 0)), (.lit (.int .i64 0)), (.lit (.int .i64 0)), (.lit (.int .i64 0)), (.lit (.int .i64 0)), (.lit (.int .i64
  0)), (.lit (.int .i64 0)), (.lit (.int .i64 0)), (.lit (.int .i64 0)), (.lit (.int .i64 0)), (.lit (.int .i64 0)), (.lit (.int .i64 0)), (.lit (.int
  .i64 0)), (.lit (.int .i64 0)), (.lit (.int .i64 0)), (.lit (.int .i64 0)), (.lit (.int .i64 0)), (.lit (.int .i64 0)), (.lit (.int .i64 0)), (.lit
  (.int .i64 0)), (.lit (.int .i64 0)), (.lit (.int .i64 0)), (.lit (.int .i64 0)), (.lit (.int .i64 0)), (.lit (.int .i64 0)), (.lit (.int .i64 0)),
  (.lit (.int .i64 0)), (.lit (.int .i64 0)), (.lit (.int .i64 0)), (.lit (.int .i64 0)), (.lit (.int .i64 0)), (.lit (.int .i64 0)), (.lit (.int .i64
  0)), (.lit (.int .i64 0)), (.lit (.int .i64 0)), (.lit (.int .i64 0)), (.lit (.int .i64 0)), (.lit (.int .i64 0)), (.lit (.int .i64 1)), (.lit (.int
  .i64 1)), (.lit (.int .i64 1)), (.lit (.int .i64 0)), (.lit (.int .i64 0)), (.lit (.int .i64 0)), (.lit (.int .i64 0)), (.lit (.int .i64 0)), (.lit
  (.int .i64 0)), (.lit (.int .i64 0)), (.lit (.int .i64 0)), (.lit (.int .i64 0)), (.lit (.int .i64 0)), (.lit (.int .i64 0)), (.lit (.int .i64 0)),
  (.lit (.int .i64 0)), (.lit (.int .i64 0)), (.lit (.int .i64 0)), (.lit (.int .i64 0)), (.lit (.int .i64 0)), (.lit (.int .i64 0)), (.lit (.int .i64
  0)), (.lit (.int .i64 0)), (.lit (.int .i64 0)), (.lit (.int .i64 0)), (.lit (.int .i64 0)), (.lit (.int .i64 0)), (.lit (.int .i64 0)), (.lit (.int
  .i64 0)), (.lit (.int .i64 0)), (.lit (.int .i64 0)), (.lit (.int .i64 0)), (.lit (.int .i64 0)), (.lit (.int .i64 0)), (.lit (.int .i64 0)), (.lit
  (.int .i64 0)), (.lit (.int .i64 0)), (.lit (.int .i64 0)), (.lit (.int .i64 0)), (.lit (.int .i64 0)), (.lit (.int .i64 0)), (.lit (.int .i64 0)),
  (.lit (.int .i64 0)), (.lit (.int .i64 0)), (.lit (.int .i64 0)), (.lit (.int .i64 0)), (.lit (.int .i64 0)), (.lit (.int .i64 0)), (.lit (.int .i64
  0)), (.lit (.int .i64 0)), (.lit (.int .i64 0)), (.lit (.int .i64 0)), (.lit (.int .i64 0)), (.lit (.int .i64 0)), (.lit (.int .i64 0)), (.lit (.int
  .i64 0)), (.lit (.int .i64 0)), (.lit (.int .i64 0)), (.lit (.int .i64 0)), (.lit (.int .i64 0)), (.lit (.int .i64 0)), (.lit (.int .i64 0)), (.lit
  (.int .i64 0)), (.lit (.int .i64 0)), (.lit (.int .i64 0)), (.lit (.int .i64 0)), (.lit (.int .i64 0)), (.lit (.int .i64 0)), (.lit (.int .i64 0)),
  (.lit (.int .i64 0)), (.lit (.int .i64 0)), (.lit (.int .i64 0)), (.lit (.int .i64 0)), (.lit (.int .i64 0)), (.lit (.int .i64 0)), (.lit (.int .i64
  0)), (.lit (.int .i64 0)), (.lit (.int .i64 0)), (.lit (.int .i64 0)), (.lit (.int .i64 0)), (.lit (.int .i64 0)), (.lit (.int .i64 0)), (.lit (.int
  .i64 0)), (.lit (.int .i64 0)), (.lit (.int .i64 0)), (.lit (.int .i64 0)), (.lit (.int .i64 0)), (.lit (.int .i64 0)), (.lit (.int .i64 0)), (.lit
  (.int .i64 0)), (.lit (.int .i64 0)), (.lit (.int .i64 0)), (.lit (.int .i64 0)), (.lit (.int .i64 0)), (.lit (.int .i64 0)), (.lit (.int .i64 0)),
  (.lit (.int .i64 0)), (.lit (.int .i64 0)), (.lit (.int .i64 0)), (.lit (.int .i64 0)), (.lit (.int .i64 0)), (.lit (.int .i64 0)), (.lit (.int .i64
  0)), (.lit (.int .i64 0)), (.lit (.int .i64 0)), (.lit (.int .i64 0)), (.lit (.int .i64 0)), (.lit (.int .i64 0)), (.lit (.int .i64 0)), (.lit (.int
  .i64 0)), (.lit (.int .i64 0)), (.lit (.int .i64 0)), (.lit (.int .i64 0)), (.lit (.int .i64 0)), (.lit (.int .i64 0)), (.lit (.int .i64 0)), (.lit
  (.int .i64 0)), (.lit (.int .i64 0)), (.lit (.int .i64 0)), (.lit (.int .i64 0)), (.lit (.int .i64 0)), (.lit (.int .i64 0)), (.lit (.int .i64 0)),
  (.lit (.int .i64 0)), (.lit (.int .i64 0)), (.lit (.int .i64 0)), (.lit (.int .i64 0)), (.lit (.int .i64 0)), (.lit (.int .i64 0)), (.lit (.int .i64
  0)), (.lit (.int .i64 0)), (.lit (.int .i64 0)), (.lit (.int .i64 0)), (.lit (.int .i64 0)), (.lit (.int .i64 0)), (.lit (.int .i64 0)), (.lit (.int
  .i64 0)), (.lit (.int .i64 0)), (.lit (.int .i64 0)), (.lit (.int .i64 0)), (.lit (.int .i64 0)), (.lit (.int .i64 0)), (.lit (.int .i64 0)), (.lit
  (.int .i64 0)), (.lit (.int .i64 0)), (.lit (.int .i64 0)), (.lit (.int .i64 0)), (.lit (.int .i64 0)), (.lit (.int .i64 0)), (.lit (.int .i64 0)),
  (.lit (.int .i64 0)), (.lit (.int .i64 0)), (.lit (.int .i64 0)), (.lit (.int .i64 0)), (.lit (.int .i64 0)), (.lit (.int .i64 0)), (.lit (.int .i64
  0)), (.lit (.int .i64 0)), (.lit (.int .i64 0))] 164 .false)], [], (.tup [(.slc 13168 0 256 256), (.lit (.int .i64 0))]), [(0, (.row [(.lit (.int .i64
  0)), (.lit (.int .i64 0)), (.lit (.int .i64 0)), (.lit (.int .i64 0)), (.lit (.int .i64 0)), (.lit (.int .i64 0)), (.lit (.int .i64 0)), (.lit (.int
  .i64 0)), (.lit (.int .i64 0)), (.lit (.int .i64 0)), (.lit (.int .i64 0)), (.lit (.int .i64 0)), (.lit (.int .i64 0)), (.lit (.int .i64 0)), (.lit
  (.int .i64 0)), (.lit (.int .i64 0)), (.lit (.int .i64 0)), (.lit (.int .i64 0)), (.lit (.int .i64 0)), (.lit (.int .i64 0)), (.lit (.int .i64 0)),
  (.lit (.int .i64 0)), (.lit (.int .i64 0)), (.lit (.int .i64 0)), (.lit (.int .i64 0)), (.lit (.int .i64 0)), (.lit (.int .i64 0)), (.lit (.int .i64
  0)), (.lit (.int .i64 0)), (.lit (.int .i64 0)), (.lit (.int .i64 0)), (.lit (.int .i64 0)), (.lit (.int .i64 0)), (.lit (.int .i64 0)), (.lit (.int
  .i64 0)), (.lit (.int .i64 0)), (.lit (.int .i64 0)), (.lit (.int .i64 0)), (.lit (.int .i64 0)), (.lit (.int .i64 0)), (.lit (.int .i64 0)), (.lit
  (.int .i64 0)), (.lit (.int .i64 0)), (.lit (.int .i64 0)), (.lit (.int .i64 0)), (.lit (.int .i64 0)), (.lit (.int .i64 0)), (.lit (.int .i64 0)),
  (.lit (.int .i64 0)), (.lit (.int .i64 0)), (.lit (.int .i64 0)), (.lit (.int .i64 0)), (.lit (.int .i64 0)), (.lit (.int .i64 0)), (.lit (.int .i64
  0)), (.lit (.int .i64 0)), (.lit (.int .i64 0)), (.lit (.int .i64 0)), (.lit (.int .i64 0)), (.lit (.int .i64 0)), (.lit (.int .i64 0)), (.lit (.int
  .i64 0)), (.lit (.int .i64 0)), (.lit (.int .i64 0)), (.lit (.int .i64 0)), (.lit (.int .i64 0)), (.lit (.int .i64 0)), (.lit (.int .i64 0)), (.lit
  (.int .i64 0)), (.lit (.int .i64 0)), (.lit (.int .i64 0)), (.lit (.int .i64 0)), (.lit (.int .i64 0)), (.lit (.int .i64 0)), (.lit (.int .i64 0)),
  (.lit (.int .i64 0)), (.lit (.int .i64 0)), (.lit (.int .i64 0)), (.lit (.int .i64 0)), (.lit (.int .i64 0)), (.lit (.int .i64 0)), (.lit (.int .i64
  0)), (.lit (.int .i64 0)), (.lit (.int .i64 0)), (.lit (.int .i64 0)), (.lit (.int .i64 0)), (.lit (.int .i64 0)), (.lit (.int .i64 0)), (.lit (.int
  .i64 0)), (.lit (.int .i64 0)), (.lit (.int .i64 0)), (.lit (.int .i64 0)), (.lit (.int .i64 0)), (.lit (.int .i64 0)), (.lit (.int .i64 0)), (.lit
  (.int .i64 0)), (.lit (.int .i64 0)), (.lit (.int .i64 1)), (.lit (.int .i64 1)), (.lit (.int .i64 1)), (.lit (.int .i64 0)), (.lit (.int .i64 0)),
  (.lit (.int .i64 0)), (.lit (.int .i64 0)), (.lit (.int .i64 0)), (.lit (.int .i64 0)), (.lit (.int .i64 0)), (.lit (.int .i64 0)), (.lit (.int .i64
  0)), (.lit (.int .i64 0)), (.lit (.int .i64 0)), (.lit (.int .i64 0)), (.lit (.int .i64 0)), (.lit (.int .i64 0)), (.lit (.int .i64 0)), (.lit (.int
  .i64 0)), (.lit (.int .i64 0)), (.lit (.int .i64 0)), (.lit (.int .i64 0)), (.lit (.int .i64 0)), (.lit (.int .i64 0)), (.lit (.int .i64 0)), (.lit
  (.int .i64 0)), (.lit (.int .i64 0)), (.lit (.int .i64 0)), (.lit (.int .i64 0)), (.lit (.int .i64 0)), (.lit (.int .i64 0)), (.lit (.int .i64 0)),
  (.lit (.int .i64 0)), (.lit (.int .i64 0)), (.lit (.int .i64 0)), (.lit (.int .i64 0)), (.lit (.int .i64 0)), (.lit (.int .i64 0)), (.lit (.int .i64
  0)), (.lit (.int .i64 0)), (.lit (.int .i64 0)), (.lit (.int .i64 0)), (.lit (.int .i64 0)), (.lit (.int .i64 0)), (.lit (.int .i64 0)), (.lit (.int
  .i64 0)), (.lit (.int .i64 0)), (.lit (.int .i64 0)), (.lit (.int .i64 0)), (.lit (.int .i64 0)), (.lit (.int .i64 0)), (.lit (.int .i64 0)), (.lit
  (.int .i64 0)), (.lit (.int .i64 0)), (.lit (.int .i64 0)), (.lit (.int .i64 0)), (.lit (.int .i64 0)), (.lit (.int .i64 0)), (.lit (.int .i64 0)),
  (.lit (.int .i64 0)), (.lit (.int .i64 0)), (.lit (.int .i64 0)), (.lit (.int .i64 0)), (.lit (.int .i64 0)), (.lit (.int .i64 0)), (.lit (.int .i64
  0)), (.lit (.int .i64 0)), (.lit (.int .i64 0)), (.lit (.int .i64 0)), (.lit (.int .i64 0)), (.lit (.int .i64 0)), (.lit (.int .i64 0)), (.lit (.int
  .i64 0)), (.lit (.int .i64 0)), (.lit (.int .i64 0)), (.lit (.int .i64 0)), (.lit (.int .i64 0)), (.lit (.int .i64 0)), (.lit (.int .i64 0)), (.lit
  (.int .i64 0)), (.lit (.int .i64 0)), (.lit (.int .i64 0)), (.lit (.int .i64 0)), (.lit (.int .i64 0)), (.lit (.int .i64 0)), (.lit (.int .i64 0)),
  (.lit (.int .i64 0)), (.lit (.int .i64 0)), (.lit (.int .i64 0)), (.lit (.int .i64 0)), (.lit (.int .i64 0)), (.lit (.int .i64 0)), (.lit (.int .i64
  0)), (.lit (.int .i64 0)), (.lit (.int .i64 0)), (.lit (.int .i64 0)), (.lit (.int .i64 0)), (.lit (.int .i64 0)), (.lit (.int .i64 0)), (.lit (.int
  .i64 0)), (.lit (.int .i64 0)), (.lit (.int .i64 0)), (.lit (.int .i64 0)), (.lit (.int .i64 0)), (.lit (.int .i64 0)), (.lit (.int .i64 0)), (.lit
  (.int .i64 0)), (.lit (.int .i64 0)), (.lit (.int .i64 0)), (.lit (.int .i64 0)), (.lit (.int .i64 0)), (.lit (.int .i64 0)), (.lit (.int .i64 0)),
  (.lit (.int .i64 0)), (.lit (.int .i64 0)), (.lit (.int .i64 0)), (.lit (.int .i64 0)), (.lit (.int .i64 0)), (.lit (.int .i64 0)), (.lit (.int .i64
  0)), (.lit (.int .i64 0)), (.lit (.int .i64 0)), (.lit (.int .i64 0)), (.lit (.int .i64 0)), (.lit (.int .i64 0)), (.lit (.int .i64 0)), (.lit (.int
  .i64 0)), (.lit (.int .i64 0)), (.lit (.int .i64 0)), (.lit (.int .i64 0)), (.lit (.int .i64 0)), (.lit (.int .i64 0)), (.lit (.int .i64 0)), (.lit
  (.int .i64 0)), (.lit (.int .i64 0)), (.lit (.int .i64 0)), (.lit (.int .i64 0)), (.lit (.int .i64 0)), (.lit (.int .i64 0)), (.lit (.int .i64 0)),
  (.lit (.int .i64 0)), (.lit (.int .i64 0)), (.lit (.int .i64 0)), (.lit (.int .i64 0)), (.lit (.int .i64 0)), (.lit (.int .i64 0)), (.lit (.int .i64
  0)), (.lit (.int .i64 0)), (.lit (.int .i64 0)), (.lit (.int .i64 0)), (.lit (.int .i64 0)), (.lit (.int .i64 0)), (.lit (.int .i64 0)), (.lit (.int
  .i64 0)), (.lit (.int .i64 0)), (.lit (.int .i64 0)), (.lit (.int .i64 0)), (.lit (.int .i64 0)), (.lit (.int .i64 0))] 164 .false)), (13168, (.row
  [(.lit (.int .i64 0)), (.lit (.int .i64 0)), (.lit (.int .i64 0)), (.lit (.int .i64 0)), (.lit (.int .i64 0)), (.lit (.int .i64 0)), (.lit (.int .i64
  0)), (.lit (.int .i64 0)), (.lit (.int .i64 0)), (.lit (.int .i64 0)), (.lit (.int .i64 0)), (.lit (.int .i64 0)), (.lit (.int .i64 0)), (.lit (.int
  .i64 0)), (.lit (.int .i64 0)), (.lit (.int .i64 0)), (.lit (.int .i64 0)), (.lit (.int .i64 0)), (.lit (.int .i64 0)), (.lit (.int .i64 0)), (.lit
  (.int .i64 0)), (.lit (.int .i64 0)), (.lit (.int .i64 0)), (.lit (.int .i64 0)), (.lit (.int .i64 0)), (.lit (.int .i64 0)), (.lit (.int .i64 0)),
  (.lit (.int .i64 0)), (.lit (.int .i64 0)), (.lit (.int .i64 0)), (.lit (.int .i64 0)), (.lit (.int .i64 0)), (.lit (.int .i64 0)), (.lit (.int .i64
  0)), (.lit (.int .i64 0)), (.lit (.int .i64 0)), (.lit (.int .i64 0)), (.lit (.int .i64 0)), (.lit (.int .i64 0)), (.lit (.int .i64 0)), (.lit (.int
  .i64 0)), (.lit (.int .i64 0)), (.lit (.int .i64 0)), (.lit (.int .i64 0)), (.lit (.int .i64 0)), (.lit (.int .i64 0)), (.lit (.int .i64 0)), (.lit
  (.int .i64 0)), (.lit (.int .i64 0)), (.lit (.int .i64 0)), (.lit (.int .i64 0)), (.lit (.int .i64 0)), (.lit (.int .i64 0)), (.lit (.int .i64 0)),
  (.lit (.int .i64 0)), (.lit (.int .i64 0)), (.lit (.int .i64 0)), (.lit (.int .i64 0)), (.lit (.int .i64 0)), (.lit (.int .i64 0)), (.lit (.int .i64
  0)), (.lit (.int .i64 0)), (.lit (.int .i64 0)), (.lit (.int .i64 0)), (.lit (.int .i64 0)), (.lit (.int .i64 0)), (.lit (.int .i64 0)), (.lit (.int
  .i64 0)), (.lit (.int .i64 0)), (.lit (.int .i64 0)), (.lit (.int .i64 0)), (.lit (.int .i64 0)), (.lit (.int .i64 0)), (.lit (.int .i64 0)), (.lit
  (.int .i64 0)), (.lit (.int .i64 0)), (.lit (.int .i64 0)), (.lit (.int .i64 0)), (.lit (.int .i64 0)), (.lit (.int .i64 0)), (.lit (.int .i64 0)),
  (.lit (.int .i64 0)), (.lit (.int .i64 0)), (.lit (.int .i64 0)), (.lit (.int .i64 0)), (.lit (.int .i64 0)), (.lit (.int .i64 0)), (.lit (.int .i64
  0)), (.lit (.int .i64 0)), (.lit (.int .i64 0)), (.lit (.int .i64 0)), (.lit (.int .i64 0)), (.lit (.int .i64 0)), (.lit (.int .i64 0)), (.lit (.int
  .i64 0)), (.lit (.int .i64 0)), (.lit (.int .i64 0)), (.lit (.int .i64 2)), (.lit (.int .i64 2)), (.lit (.int .i64 1)), (.lit (.int .i64 0)), (.lit
  (.int .i64 0)), (.lit (.int .i64 0)), (.lit (.int .i64 0)), (.lit (.int .i64 0)), (.lit (.int .i64 0)), (.lit (.int .i64 0)), (.lit (.int .i64 0)),
  (.lit (.int .i64 0)), (.lit (.int .i64 0)), (.lit (.int .i64 0)), (.lit (.int .i64 0)), (.lit (.int .i64 0)), (.lit (.int .i64 0)), (.lit (.int .i64
  0)), (.lit (.int .i64 0)), (.lit (.int .i64 0)), (.lit (.int .i64 0)), (.lit (.int .i64 0)), (.lit (.int .i64 0)), (.lit (.int .i64 0)), (.lit (.int
  .i64 0)), (.lit (.int .i64 0)), (.lit (.int .i64 0)), (.lit (.int .i64 0)), (.lit (.int .i64 0)), (.lit (.int .i64 0)), (.lit (.int .i64 0)), (.lit
  (.int .i64 0)), (.lit (.int .i64 0)), (.lit (.int .i64 0)), (.lit (.int .i64 0)), (.lit (.int .i64 0)), (.lit (.int .i64 0)), (.lit (.int .i64 0)),
  (.lit (.int .i64 0)), (.lit (.int .i64 0)), (.lit (.int .i64 0)), (.lit (.int .i64 0)), (.lit (.int .i64 0)), (.lit (.int .i64 0)), (.lit (.int .i64
  0)), (.lit (.int .i64 0)), (.lit (.int .i64 0)), (.lit (.int .i64 0)), (.lit (.int .i64 0)), (.lit (.int .i64 0)), (.lit (.int .i64 0)), (.lit (.int
  .i64 0)), (.lit (.int .i64 0)), (.lit (.int .i64 0)), (.lit (.int .i64 0)), (.lit (.int .i64 0)), (.lit (.int .i64 0)), (.lit (.int .i64 0)), (.lit
  (.int .i64 0)), (.lit (.int .i64 0)), (.lit (.int .i64 0)), (.lit (.int .i64 0)), (.lit (.int .i64 0)), (.lit (.int .i64 0)), (.lit (.int .i64 0)),
  (.lit (.int .i64 0)), (.lit (.int .i64 0)), (.lit (.int .i64 0)), (.lit (.int .i64 0)), (.lit (.int .i64 0)), (.lit (.int .i64 0)), (.lit (.int .i64
  0)), (.lit (.int .i64 0)), (.lit (.int .i64 0)), (.lit (.int .i64 0)), (.lit (.int .i64 0)), (.lit (.int .i64 0)), (.lit (.int .i64 0)), (.lit (.int
  .i64 0)), (.lit (.int .i64 0)), (.lit (.int .i64 0)), (.lit (.int .i64 0)), (.lit (.int .i64 0)), (.lit (.int .i64 0)), (.lit (.int .i64 0)), (.lit
  (.int .i64 0)), (.lit (.int .i64 0)), (.lit (.int .i64 0)), (.lit (.int .i64 0)), (.lit (.int .i64 0)), (.lit (.int .i64 0)), (.lit (.int .i64 0)),
  (.lit (.int .i64 0)), (.lit (.int .i64 0)), (.lit (.int .i64 0)), (.lit (.int .i64 0)), (.lit (.int .i64 0)), (.lit (.int .i64 0)), (.lit (.int .i64
  0)), (.lit (.int .i64 0)), (.lit (.int .i64 0)), (.lit (.int .i64 0)), (.lit (.int .i64 0)), (.lit (.int .i64 0)), (.lit (.int .i64 0)), (.lit (.int
  .i64 0)), (.lit (.int .i64 0)), (.lit (.int .i64 0)), (.lit (.int .i64 0)), (.lit (.int .i64 0)), (.lit (.int .i64 0)), (.lit (.int .i64 0)), (.lit
  (.int .i64 0)), (.lit (.int .i64 0)), (.lit (.int .i64 0)), (.lit (.int .i64 0)), (.lit (.int .i64 0)), (.lit (.int .i64 0)), (.lit (.int .i64 0)),
  (.lit (.int .i64 0)), (.lit (.int .i64 0)), (.lit (.int .i64 0)), (.lit (.int .i64 0)), (.lit (.int .i64 0)), (.lit (.int .i64 0)), (.lit (.int .i64
  0)), (.lit (.int .i64 0)), (.lit (.int .i64 0)), (.lit (.int .i64 0)), (.lit (.int .i64 0)), (.lit (.int .i64 0)), (.lit (.int .i64 0)), (.lit (.int
  .i64 0)), (.lit (.int .i64 0)), (.lit (.int .i64 0)), (.lit (.int .i64 0)), (.lit (.int .i64 0)), (.lit (.int .i64 0)), (.lit (.int .i64 0)), (.lit
  (.int .i64 0)), (.lit (.int .i64 0)), (.lit (.int .i64 0)), (.lit (.int .i64 0)), (.lit (.int .i64 0)), (.lit (.int .i64 0)), (.lit (.int .i64 0)),
  (.lit (.int .i64 0)), (.lit (.int .i64 0)), (.lit (.int .i64 0)), (.lit (.int .i64 0)), (.lit (.int .i64 0)), (.lit (.int .i64 0)), (.lit (.int .i64
  0)), (.lit (.int .i64 0)), (.lit (.int .i64 0)), (.lit (.int .i64 0)), (.lit (.int .i64 0)), (.lit (.int .i64 0)), (.lit (.int .i64 0))] 3 .false))],
  13298⟩
noncomputable def cs6 : List Con := c6 :: cs5
theorem c6_ok {E : Nat → Option Value} {I : Interp} : ConGood E tb Tryz.prog I c6 := con_goodR (d := 80) tb_ok cs5_ok (by kernel_rfl)
theorem cs6_ok {E : Nat → Option Value} {I : Interp} : ∀ c ∈ cs6, ConGood E tb Tryz.prog I c := List.forall_mem_cons.2 ⟨c6_ok, cs5_ok⟩
noncomputable def c7 : Con :=
  ⟨156, [(.slu 0 0 3 1)], [(.row [(.lit (.int .u8 97)), (.lit (.int .u8 98)), (.lit (.int .u8 99))] 5 .true)], [], (.tup [(.slc 13238 0 100 100), (.lit
  (.int .i64 0))]), [(0, (.row [(.lit (.int .u8 97)), (.lit (.int .u8 98)), (.lit (.int .u8 99))] 5 .true)), (13238, (.row [(.lit (.int .i64 0)), (.lit
  (.int .i64 0)), (.lit (.int .i64 0)), (.lit (.int .i64 0)), (.lit (.int .i64 0)), (.lit (.int .i64 0)), (.lit (.int .i64 0)), (.lit (.int .i64 0)),
  (.lit (.int .i64 0)), (.lit (.int .i64 0)), (.lit (.int .i64 0)), (.lit (.int .i64 0)), (.lit (.int .i64 0)), (.lit (.int .i64 0)), (.lit (.int .i64
  0)), (.lit (.int .i64 0)), (.lit (.int .i64 0)), (.lit (.int .i64 0)), (.lit (.int .i64 0)), (.lit (.int .i64 0)), (.lit (.int .i64 0)), (.lit (.int
  .i64 0)), (.lit (.int .i64 0)), (.lit (.int .i64 0)), (.lit (.int .i64 0)), (.lit (.int .i64 0)), (.lit (.int .i64 0)), (.lit (.int .i64 0)), (.lit
  (.int .i64 0)), (.lit (.int .i64 0)), (.lit (.int .i64 0)), (.lit (.int .i64 0)), (.lit (.int .i64 0)), (.lit (.int .i64 0)), (.lit (.int .i64 0)),
  (.lit (.int .i64 0)), (.lit (.int .i64 0)), (.lit (.int .i64 0)), (.lit (.int .i64 0)), (.lit (.int .i64 0)), (.lit (.int .i64 0)), (.lit (.int .i64
  0)), (.lit (.int .i64 0)), (.lit (.int .i64 0)), (.lit (.int .i64 0)), (.lit (.int .i64 0)), (.lit (.int .i64 0)), (.lit (.int .i64 0)), (.lit (.int
  .i64 0)), (.lit (.int .i64 0)), (.lit (.int .i64 0)), (.lit (.int .i64 0)), (.lit (.int .i64 0)), (.lit (.int .i64 0)), (.lit (.int .i64 0)), (.lit
  (.int .i64 0)), (.lit (.int .i64 0)), (.lit (.int .i64 0)), (.lit (.int .i64 0)), (.lit (.int .i64 0)), (.lit (.int .i64 0)), (.lit (.int .i64 0)),
  (.lit (.int .i64 0)), (.lit (.int .i64 0)), (.lit (.int .i64 0)), (.lit (.int .i64 0)), (.lit (.int .i64 0)), (.lit (.int .i64 0)), (.lit (.int .i64
  0)), (.lit (.int .i64 0)), (.lit (.int .i64 0)), (.lit (.int .i64 0)), (.lit (.int .i64 0)), (.lit (.int .i64 0)), (.lit (.int .i64 0)), (.lit (.int
  .i64 0)), (.lit (.int .i64 0)), (.lit (.int .i64 0)), (.lit (.int .i64 0)), (.lit (.int .i64 0)), (.lit (.int .i64 0)), (.lit (.int .i64 0)), (.lit
  (.int .i64 0)), (.lit (.int .i64 0)), (.lit (.int .i64 0)), (.lit (.int .i64 0)), (.lit (.int .i64 0)), (.lit (.int .i64 0)), (.lit (.int .i64 0)),
  (.lit (.int .i64 0)), (.lit (.int .i64 0)), (.lit (.int .i64 0)), (.lit (.int .i64 0)), (.lit (.int .i64 0)), (.lit (.int .i64 0)), (.lit (.int .i64
  0)), (.lit (.int .i64 0)), (.lit (.int .i64 2)), (.lit (.int .i64 2)), (.lit (.int .i64 1)), (.lit (.int .i64 0)), (.lit (.int .i64 0)), (.lit (.int
  .i64 0)), (.lit (.int .i64 0)), (.lit (.int .i64 0)), (.lit (.int .i64 0)), (.lit (.int .i64 0)), (.lit (.int .i64 0)), (.lit (.int .i64 0)), (.lit
  (.int .i64 0)), (.lit (.int .i64 0)), (.lit (.int .i64 0)), (.lit (.int .i64 0)), (.lit (.int .i64 0)), (.lit (.int .i64 0)), (.lit (.int .i64 0)),
  (.lit (.int .i64 0)), (.lit (.int .i64 0)), (.lit (.int .i64 0)), (.lit (.int .i64 0)), (.lit (.int .i64 0)), (.lit (.int .i64 0)), (.lit (.int .i64
  0)), (.lit (.int .i64 0)), (.lit (.int .i64 0)), (.lit (.int .i64 0)), (.lit (.int .i64 0)), (.lit (.int .i64 0)), (.lit (.int .i64 0)), (.lit (.int
  .i64 0)), (.lit (.int .i64 0)), (.lit (.int .i64 0)), (.lit (.int .i64 0)), (.lit (.int .i64 0)), (.lit (.int .i64 0)), (.lit (.int .i64 0)), (.lit
  (.int .i64 0)), (.lit (.int .i64 0)), (.lit (.int .i64 0)), (.lit (.int .i64 0)), (.lit (.int .i64 0)), (.lit (.int .i64 0)), (.lit (.int .i64 0)),
  (.lit (.int .i64 0)), (.lit (.int .i64 0)), (.lit (.int .i64 0)), (.lit (.int .i64 0)), (.lit (.int .i64 0)), (.lit (.int .i64 0)), (.lit (.int .i64
  0)), (.lit (.int .i64 0)), (.lit (.int .i64 0)), (.lit (.int .i64 0)), (.lit (.int .i64 0)), (.lit (.int .i64 0)), (.lit (.int .i64 0)), (.lit (.int
  .i64 0)), (.lit (.int .i64 0)), (.lit (.int .i64 0)), (.lit (.int .i64 0)), (.lit (.int .i64 0)), (.lit (.int .i64 0)), (.lit (.int .i64 0)), (.lit
  (.int .i64 0)), (.lit (.int .i64 0)), (.lit (.int .i64 0)), (.lit (.int .i64 0)), (.lit (.int .i64 0)), (.lit (.int .i64 0)), (.lit (.int .i64 0)),
  (.lit (.int .i64 0)), (.lit (.int .i64 0)), (.lit (.int .i64 0)), (.lit (.int .i64 0)), (.lit (.int .i64 0)), (.lit (.int .i64 0)), (.lit (.int .i64
  0)), (.lit (.int .i64 0)), (.lit (.int .i64 0)), (.lit (.int .i64 0)), (.lit (.int .i64 0)), (.lit (.int .i64 0)), (.lit (.int .i64 0)), (.lit (.int
  .i64 0)), (.lit (.int .i64 0)), (.lit (.int .i64 0)), (.lit (.int .i64 0)), (.lit (.int .i64 0)), (.lit (.int .i64 0)), (.lit (.int .i64 0)), (.lit
  (.int .i64 0)), (.lit (.int .i64 0)), (.lit (.int .i64 0)), (.lit (.int .i64 0)), (.lit (.int .i64 0)), (.lit (.int .i64 0)), (.lit (.int .i64 0)),
  (.lit (.int .i64 0)), (.lit (.int .i64 0)), (.lit (.int .i64 0)), (.lit (.int .i64 0)), (.lit (.int .i64 0)), (.lit (.int .i64 0)), (.lit (.int .i64
  0)), (.lit (.int .i64 0)), (.lit (.int .i64 0)), (.lit (.int .i64 0)), (.lit (.int .i64 0)), (.lit (.int .i64 0)), (.lit (.int .i64 0)), (.lit (.int
  .i64 0)), (.lit (.int .i64 0)), (.lit (.int .i64 0)), (.lit (.int .i64 0)), (.lit (.int .i64 0)), (.lit (.int .i64 0)), (.lit (.int .i64 0)), (.lit
  (.int .i64 0)), (.lit (.int .i64 0)), (.lit (.int .i64 0)), (.lit (.int .i64 0)), (.lit (.int .i64 0)), (.lit (.int .i64 0)), (.lit (.int .i64 0)),
  (.lit (.int .i64 0)), (.lit (.int .i64 0)), (.lit (.int .i64 0)), (.lit (.int .i64 0)), (.lit (.int .i64 0)), (.lit (.int .i64 0)), (.lit (.int .i64
  0)), (.lit (.int .i64 0)), (.lit (.int .i64 0)), (.lit (.int .i64 0)), (.lit (.int .i64 0)), (.lit (.int .i64 0)), (.lit (.int .i64 0)), (.lit (.int
  .i64 0)), (.lit (.int .i64 0)), (.lit (.int .i64 0)), (.lit (.int .i64 0)), (.lit (.int .i64 0)), (.lit (.int .i64 0)), (.lit (.int .i64 0)), (.lit
  (.int .i64 0)), (.lit (.int .i64 0)), (.lit (.int .i64 0)), (.lit (.int .i64 0)), (.lit (.int .i64 0)), (.lit (.int .i64 0)), (.lit (.int .i64 0)),
  (.lit (.int .i64 0)), (.lit (.int .i64 0)), (.lit (.int .i64 0)), (.lit (.int .i64 0)), (.lit (.int .i64 0))] 3 .false))], 14809⟩
noncomputable def cs7 : List Con := c7 :: cs6
theorem c7_ok {E : Nat → Option Value} {I : Interp} : ConGood E tb Tryz.prog I c7 := con_goodR (d := 80) tb_ok cs6_ok (by kernel_rfl)
theorem cs7_ok {E : Nat → Option Value} {I : Interp} : ∀ c ∈ cs7, ConGood E tb Tryz.prog I c := List.forall_mem_cons.2 ⟨c7_ok, cs6_ok⟩
noncomputable def c8 : Con :=
  ⟨205, [(.slc 0 0 100 100), (.slu 1 0 3 1)], [(.row [(.lit (.int .i64 0)), (.lit (.int .i64 0)), (.lit (.int .i64 0)), (.lit (.int .i64 0)), (.lit
  (.int .i64 0)), (.lit (.int .i64 0)), (.lit (.int .i64 0)), (.lit (.int .i64 0)), (.lit (.int .i64 0)), (.lit (.int .i64 0)), (.lit (.int .i64 0)),
  (.lit (.int .i64 0)), (.lit (.int .i64 0)), (.lit (.int .i64 0)), (.lit (.int .i64 0)), (.lit (.int .i64 0)), (.lit (.int .i64 0)), (.lit (.int .i64
  0)), (.lit (.int .i64 0)), (.lit (.int .i64 0)), (.lit (.int .i64 0)), (.lit (.int .i64 0)), (.lit (.int .i64 0)), (.lit (.int .i64 0)), (.lit (.int
  .i64 0)), (.lit (.int .i64 0)), (.lit (.int .i64 0)), (.lit (.int .i64 0)), (.lit (.int .i64 0)), (.lit (.int .i64 0)), (.lit (.int .i64 0)), (.lit
  (.int .i64 0)), (.lit (.int .i64 0)), (.lit (.int .i64 0)), (.lit (.int .i64 0)), (.lit (.int .i64 0)), (.lit (.int .i64 0)), (.lit (.int .i64 0)),
  (.lit (.int .i64 0)), (.lit (.int .i64 0)), (.lit (.int .i64 0)), (.lit (.int .i64 0)), (.lit (.int .i64 0)), (.lit (.int .i64 0)), (.lit (.int .i64
  0)), (.lit (.int .i64 0)), (.lit (.int .i64 0)), (.lit (.int .i64 0)), (.lit (.int .i64 0)), (.lit (.int .i64 0)), (.lit (.int .i64 0)), (.lit (.int
  .i64 0)), (.lit (.int .i64 0)), (.lit (.int .i64 0)), (.lit (.int .i64 0)), (.lit (.int .i64 0)), (.lit (.int .i64 0)), (.lit (.int .i64 0)), (.lit
  (.int .i64 0)), (.lit (.int .i64 0)), (.lit (.int .i64 0)), (.lit (.int .i64 0)), (.lit (.int .i64 0)), (.lit (.int .i64 0)), (.lit (.int .i64 0)),
  (.lit (.int .i64 0)), (.lit (.int .i64 0)), (.lit (.int .i64 0)), (.lit (.int .i64 0)), (.lit (.int .i64 0)), (.lit (.int .i64 0)), (.lit (.int .i64
  0)), (.lit (.int .i64 0)), (.lit (.int .i64 0)), (.lit (.int .i64 0)), (.lit (.int .i64 0)), (.lit (.int .i64 0)), (.lit (.int .i64 0)), (.lit (.int
  .i64 0)), (.lit (.int .i64 0)), (.lit (.int .i64 0)), (.lit (.int .i64 0)), (.lit (.int .i64 0)), (.lit (.int .i64 0)), (.lit (.int .i64 0)), (.lit
  (.int .i64 0)), (.lit (.int .i64 0)), (.lit (.int .i64 0)), (.lit (.int .i64 0)), (.lit (.int .i64 0)), (.lit (.int .i64 0)), (.lit (.int .i64 0)),
  (.lit (.int .i64 0)), (.lit (.int .i64 0)), (.lit (.int .i64 0)), (.lit (.int .i64 0)), (.lit (.int .i64 0)), (.lit (.int .i64 2)), (.lit (.int .i64
  2)), (.lit (.int .i64 1)), (.lit (.int .i64 0)), (.lit (.int .i64 0)), (.lit (.int .i64 0)), (.lit (.int .i64 0)), (.lit (.int .i64 0)), (.lit (.int
  .i64 0)), (.lit (.int .i64 0)), (.lit (.int .i64 0)), (.lit (.int .i64 0)), (.lit (.int .i64 0)), (.lit (.int .i64 0)), (.lit (.int .i64 0)), (.lit
  (.int .i64 0)), (.lit (.int .i64 0)), (.lit (.int .i64 0)), (.lit (.int .i64 0)), (.lit (.int .i64 0)), (.lit (.int .i64 0)), (.lit (.int .i64 0)),
  (.lit (.int .i64 0)), (.lit (.int .i64 0)), (.lit (.int .i64 0)), (.lit (.int .i64 0)), (.lit (.int .i64 0)), (.lit (.int .i64 0)), (.lit (.int .i64
  0)), (.lit (.int .i64 0)), (.lit (.int .i64 0)), (.lit (.int .i64 0)), (.lit (.int .i64 0)), (.lit (.int .i64 0)), (.lit (.int .i64 0)), (.lit (.int
  .i64 0)), (.lit (.int .i64 0)), (.lit (.int .i64 0)), (.lit (.int .i64 0)), (.lit (.int .i64 0)), (.lit (.int .i64 0)), (.lit (.int .i64 0)), (.lit
  (.int .i64 0)), (.lit (.int .i64 0)), (.lit (.int .i64 0)), (.lit (.int .i64 0)), (.lit (.int .i64 0)), (.lit (.int .i64 0)), (.lit (.int .i64 0)),
  (.lit (.int .i64 0)), (.lit (.int .i64 0)), (.lit (.int .i64 0)), (.lit (.int .i64 0)), (.lit (.int .i64 0)), (.lit (.int .i64 0)), (.lit (.int .i64
  0)), (.lit (.int .i64 0)), (.lit (.int .i64 0)), (.lit (.int .i64 0)), (.lit (.int .i64 0)), (.lit (.int .i64 0)), (.lit (.int .i64 0)), (.lit (.int
  .i64 0)), (.lit (.int .i64 0)), (.lit (.int .i64 0)), (.lit (.int .i64 0)), (.lit (.int .i64 0)), (.lit (.int .i64 0)), (.lit (.int .i64 0)), (.lit
  (.int .i64 0)), (.lit (.int .i64 0)), (.lit (.int .i64 0)), (.lit (.int .i64 0)), (.lit (.int .i64 0)), (.lit (.int .i64 0)), (.lit (.int .i64 0)),
  (.lit (.int .i64 0)), (.lit (.int .i64 0)), (.lit (.int .i64 0)), (.lit (.int .i64 0)), (.lit (.int .i64 0)), (.lit (.int .i64 0)), (.lit (.int .i64
  0)), (.lit (.int .i64 0)), (.lit (.int .i64 0)), (.lit (.int .i64 0)), (.lit (.int .i64 0)), (.lit (.int .i64 0)), (.lit (.int .i64 0)), (.lit (.int
  .i64 0)), (.lit (.int .i64 0)), (.lit (.int .i64 0)), (.lit (.int .i64 0)), (.lit (.int .i64 0)), (.lit (.int .i64 0)), (.lit (.int .i64 0)), (.lit
  (.int .i64 0)), (.lit (.int .i64 0)), (.lit (.int .i64 0)), (.lit (.int .i64 0)), (.lit (.int .i64 0)), (.lit (.int .i64 0)), (.lit (.int .i64 0)),
  (.lit (.int .i64 0)), (.lit (.int .i64 0)), (.lit (.int .i64 0)), (.lit (.int .i64 0)), (.lit (.int .i64 0)), (.lit (.int .i64 0)), (.lit (.int .i64
  0)), (.lit (.int .i64 0)), (.lit (.int .i64 0)), (.lit (.int .i64 0)), (.lit (.int .i64 0)), (.lit (.int .i64 0)), (.lit (.int .i64 0)), (.lit (.int
  .i64 0)), (.lit (.int .i64 0)), (.lit (.int .i64 0)), (.lit (.int .i64 0)), (.lit (.int .i64 0)), (.lit (.int .i64 0)), (.lit (.int .i64 0)), (.lit
  (.int .i64 0)), (.lit (.int .i64 0)), (.lit (.int .i64 0)), (.lit (.int .i64 0)), (.lit (.int .i64 0)), (.lit (.int .i64 0)), (.lit (.int .i64 0)),
  (.lit (.int .i64 0)), (.lit (.int .i64 0)), (.lit (.int .i64 0)), (.lit (.int .i64 0)), (.lit (.int .i64 0)), (.lit (.int .i64 0)), (.lit (.int .i64
  0)), (.lit (.int .i64 0)), (.lit (.int .i64 0)), (.lit (.int .i64 0)), (.lit (.int .i64 0)), (.lit (.int .i64 0)), (.lit (.int .i64 0)), (.lit (.int
  .i64 0)), (.lit (.int .i64 0)), (.lit (.int .i64 0)), (.lit (.int .i64 0)), (.lit (.int .i64 0)), (.lit (.int .i64 0)), (.lit (.int .i64 0)), (.lit
  (.int .i64 0)), (.lit (.int .i64 0)), (.lit (.int .i64 0)), (.lit (.int .i64 0)), (.lit (.int .i64 0)), (.lit (.int .i64 0)), (.lit (.int .i64 0)),
  (.lit (.int .i64 0)), (.lit (.int .i64 0))] 3 .false), (.row [(.lit (.int .u8 97)), (.lit (.int .u8 98)), (.lit (.int .u8 99))] 5 .true)], [], (.tup
  [(.slu 5768 0 1 1), (.lit (.int .i64 0))]), [(0, (.row [(.lit (.int .i64 0)), (.lit (.int .i64 0)), (.lit (.int .i64 0)), (.lit (.int .i64 0)), (.lit
  (.int .i64 0)), (.lit (.int .i64 0)), (.lit (.int .i64 0)), (.lit (.int .i64 0)), (.lit (.int .i64 0)), (.lit (.int .i64 0)), (.lit (.int .i64 0)),
  (.lit (.int .i64 0)), (.lit (.int .i64 0)), (.lit (.int .i64 0)), (.lit (.int .i64 0)), (.lit (.int .i64 0)), (.lit (.int .i64 0)), (.lit (.int .i64
  0)), (.lit (.int .i64 0)), (.lit (.int .i64 0)), (.lit (.int .i64 0)), (.lit (.int .i64 0)), (.lit (.int .i64 0)), (.lit (.int .i64 0)), (.lit (.int
  .i64 0)), (.lit (.int .i64 0)), (.lit (.int .i64 0)), (.lit (.int .i64 0)), (.lit (.int .i64 0)), (.lit (.int .i64 0)), (.lit (.int .i64 0)), (.lit
  (.int .i64 0)), (.lit (.int .i64 0)), (.lit (.int .i64 0)), (.lit (.int .i64 0)), (.lit (.int .i64 0)), (.lit (.int .i64 0)), (.lit (.int .i64 0)),
  (.lit (.int .i64 0)), (.lit (.int .i64 0)), (.lit (.int .i64 0)), (.lit (.int .i64 0)), (.lit (.int .i64 0)), (.lit (.int .i64 0)), (.lit (.int .i64
  0)), (.lit (.int .i64 0)), (.lit (.int .i64 0)), (.lit (.int .i64 0)), (.lit (.int .i64 0)), (.lit (.int .i64 0)), (.lit (.int .i64 0)), (.lit (.int
  .i64 0)), (.lit (.int .i64 0)), (.lit (.int .i64 0)), (.lit (.int .i64 0)), (.lit (.int .i64 0)), (.lit (.int .i64 0)), (.lit (.int .i64 0)), (.lit
  (.int .i64 0)), (.lit (.int .i64 0)), (.lit (.int .i64 0)), (.lit (.int .i64 0)), (.lit (.int .i64 0)), (.lit (.int .i64 0)), (.lit (.int .i64 0)),
  (.lit (.int .i64 0)), (.lit (.int .i64 0)), (.lit (.int .i64 0)), (.lit (.int .i64 0)), (.lit (.int .i64 0)), (.lit (.int .i64 0)), (.lit (.int .i64
  0)), (.lit (.int .i64 0)), (.lit (.int .i64 0)), (.lit (.int .i64 0)), (.lit (.int .i64 0)), (.lit (.int .i64 0)), (.lit (.int .i64 0)), (.lit (.int
  .i64 0)), (.lit (.int .i64 0)), (.lit (.int .i64 0)), (.lit (.int .i64 0)), (.lit (.int .i64 0)), (.lit (.int .i64 0)), (.lit (.int .i64 0)), (.lit
  (.int .i64 0)), (.lit (.int .i64 0)), (.lit (.int .i64 0)), (.lit (.int .i64 0)), (.lit (.int .i64 0)), (.lit (.int .i64 0)), (.lit (.int .i64 0)),
  (.lit (.int .i64 0)), (.lit (.int .i64 0)), (.lit (.int .i64 0)), (.lit (.int .i64 0)), (.lit (.int .i64 0)), (.lit (.int .i64 2)), (.lit (.int .i64
  2)), (.lit (.int .i64 1)), (.lit (.int .i64 0)), (.lit (.int .i64 0)), (.lit (.int .i64 0)), (.lit (.int .i64 0)), (.lit (.int .i64 0)), (.lit (.int
  .i64 0)), (.lit (.int .i64 0)), (.lit (.int .i64 0)), (.lit (.int .i64 0)), (.lit (.int .i64 0)), (.lit (.int .i64 0)), (.lit (.int .i64 0)), (.lit
  (.int .i64 0)), (.lit (.int .i64 0)), (.lit (.int .i64 0)), (.lit (.int .i64 0)), (.lit (.int .i64 0)), (.lit (.int .i64 0)), (.lit (.int .i64 0)),
  (.lit (.int .i64 0)), (.lit (.int .i64 0)), (.lit (.int .i64 0)), (.lit (.int .i64 0)), (.lit (.int .i64 0)), (.lit (.int .i64 0)), (.lit (.int .i64
  0)), (.lit (.int .i64 0)), (.lit (.int .i64 0)), (.lit (.int .i64 0)), (.lit (.int .i64 0)), (.lit (.int .i64 0)), (.lit (.int .i64 0)), (.lit (.int
  .i64 0)), (.lit (.int .i64 0)), (.lit (.int .i64 0)), (.lit (.int .i64 0)), (.lit (.int .i64 0)), (.lit (.int .i64 0)), (.lit (.int .i64 0)), (.lit
  (.int .i64 0)), (.lit (.int .i64 0)), (.lit (.int .i64 0)), (.lit (.int .i64 0)), (.lit (.int .i64 0)), (.lit (.int .i64 0)), (.lit (.int .i64 0)),
  (.lit (.int .i64 0)), (.lit (.int .i64 0)), (.lit (.int .i64 0)), (.lit (.int .i64 0)), (.lit (.int .i64 0)), (.lit (.int .i64 0)), (.lit (.int .i64
  0)), (.lit (.int .i64 0)), (.lit (.int .i64 0)), (.lit (.int .i64 0)), (.lit (.int .i64 0)), (.lit (.int .i64 0)), (.lit (.int .i64 0)), (.lit (.int
  .i64 0)), (.lit (.int .i64 0)), (.lit (.int .i64 0)), (.lit (.int .i64 0)), (.lit (.int .i64 0)), (.lit (.int .i64 0)), (.lit (.int .i64 0)), (.lit
  (.int .i64 0)), (.lit (.int .i64 0)), (.lit (.int .i64 0)), (.lit (.int .i64 0)), (.lit (.int .i64 0)), (.lit (.int .i64 0)), (.lit (.int .i64 0)),
  (.lit (.int .i64 0)), (.lit (.int .i64 0)), (.lit (.int .i64 0)), (.lit (.int .i64 0)), (.lit (.int .i64 0)), (.lit (.int .i64 0)), (.lit (.int .i64
  0)), (.lit (.int .i64 0)), (.lit (.int .i64 0)), (.lit (.int .i64 0)), (.lit (.int .i64 0)), (.lit (.int .i64 0)), (.lit (.int .i64 0)), (.lit (.int
  .i64 0)), (.lit (.int .i64 0)), (.lit (.int .i64 0)), (.lit (.int .i64 0)), (.lit (.int .i64 0)), (.lit (.int .i64 0)), (.lit (.int .i64 0)), (.lit
  (.int .i64 0)), (.lit (.int .i64 0)), (.lit (.int .i64 0)), (.lit (.int .i64 0)), (.lit (.int .i64 0)), (.lit (.int .i64 0)), (.lit (.int .i64 0)),
  (.lit (.int .i64 0)), (.lit (.int .i64 0)), (.lit (.int .i64 0)), (.lit (.int .i64 0)), (.lit (.int .i64 0)), (.lit (.int .i64 0)), (.lit (.int .i64
  0)), (.lit (.int .i64 0)), (.lit (.int .i64 0)), (.lit (.int .i64 0)), (.lit (.int .i64 0)), (.lit (.int .i64 0)), (.lit (.int .i64 0)), (.lit (.int
  .i64 0)), (.lit (.int .i64 0)), (.lit (.int .i64 0)), (.lit (.int .i64 0)), (.lit (.int .i64 0)), (.lit (.int .i64 0)), (.lit (.int .i64 0)), (.lit
  (.int .i64 0)), (.lit (.int .i64 0)), (.lit (.int .i64 0)), (.lit (.int .i64 0)), (.lit (.int .i64 0)), (.lit (.int .i64 0)), (.lit (.int .i64 0)),
  (.lit (.int .i64 0)), (.lit (.int .i64 0)), (.lit (.int .i64 0)), (.lit (.int .i64 0)), (.lit (.int .i64 0)), (.lit (.int .i64 0)), (.lit (.int .i64
  0)), (.lit (.int .i64 0)), (.lit (.int .i64 0)), (.lit (.int .i64 0)), (.lit (.int .i64 0)), (.lit (.int .i64 0)), (.lit (.int .i64 0)), (.lit (.int
  .i64 0)), (.lit (.int .i64 0)), (.lit (.int .i64 0)), (.lit (.int .i64 0)), (.lit (.int .i64 0)), (.lit (.int .i64 0)), (.lit (.int .i64 0)), (.lit
  (.int .i64 0)), (.lit (.int .i64 0)), (.lit (.int .i64 0)), (.lit (.int .i64 0)), (.lit (.int .i64 0)), (.lit (.int .i64 0)), (.lit (.int .i64 0)),
  (.lit (.int .i64 0)), (.lit (.int .i64 0))] 3 .false)), (1, (.row [(.lit (.int .u8 97)), (.lit (.int .u8 98)), (.lit (.int .u8 99))] 5 .true)), (5768,
  (.row [(.lit (.int .u8 54))] 5 .true))], 5778⟩
noncomputable def cs8 : List Con := c8 :: cs7
theorem c8_ok {E : Nat → Option Value} {I : Interp} : ConGood E tb Tryz.prog I c8 := con_goodR (d := 80) tb_ok cs7_ok (by kernel_rfl)
theorem cs8_ok {E : Nat → Option Value} {I : Interp} : ∀ c ∈ cs8, ConGood E tb Tryz.prog I c := List.forall_mem_cons.2 ⟨c8_ok, cs7_ok⟩
noncomputable def c9 : Con :=
  ⟨286, [(.slc 0 0 12 12), (.lit (.int .i64 6))], [(.row [(.lit (.int .i64 97)), (.lit (.int .i64 2)), (.lit (.int .i64 0)), (.lit (.int .i64 0)), (.lit
  (.int .i64 0)), (.lit (.int .i64 0)), (.lit (.int .i64 0)), (.lit (.int .i64 0)), (.lit (.int .i64 0)), (.lit (.int .i64 0)), (.lit (.int .i64 0)),
  (.lit (.int .i64 0))] 3 .false)], [], (.tup [(.agg [(.lit (.int .i64 6)), (.slc 295 0 2 12)]), (.lit (.int .i64 0))]), [(0, (.row [(.lit (.int .i64
  97)), (.lit (.int .i64 2)), (.lit (.int .i64 0)), (.lit (.int .i64 0)), (.lit (.int .i64 0)), (.lit (.int .i64 0)), (.lit (.int .i64 0)), (.lit (.int
  .i64 0)), (.lit (.int .i64 0)), (.lit (.int .i64 0)), (.lit (.int .i64 0)), (.lit (.int .i64 0))] 3 .false)), (295, (.row [(.lit (.int .i64 63)),
  (.lit (.int .i64 1)), (.lit (.int .i64 0)), (.lit (.int .i64 0)), (.lit (.int .i64 0)), (.lit (.int .i64 0)), (.lit (.int .i64 0)), (.lit (.int .i64
  0)), (.lit (.int .i64 0)), (.lit (.int .i64 0)), (.lit (.int .i64 0)), (.lit (.int .i64 0))] 3 .false))], 931⟩
noncomputable def cs9 : List Con := c9 :: cs8
theorem c9_ok {E : Nat → Option Value} {I : Interp} : ConGood E tb Tryz.prog I c9 := con_goodR (d := 80) tb_ok cs8_ok (by kernel_rfl)
theorem cs9_ok {E : Nat → Option Value} {I : Interp} : ∀ c ∈ cs9, ConGood E tb Tryz.prog I c := List.forall_mem_cons.2 ⟨c9_ok, cs8_ok⟩
noncomputable def c10 : Con :=
  ⟨301, [(.agg [(.lit (.int .i64 6)), (.slc 0 0 2 12)])], [(.row [(.lit (.int .i64 63)), (.lit (.int .i64 1)), (.lit (.int .i64 0)), (.lit (.int .i64
  0)), (.lit (.int .i64 0)), (.lit (.int .i64 0)), (.lit (.int .i64 0)), (.lit (.int .i64 0)), (.lit (.int .i64 0)), (.lit (.int .i64 0)), (.lit (.int
  .i64 0)), (.lit (.int .i64 0))] 3 .false)], [], (.tup [(.slc 3738 0 64 64), (.lit (.int .i64 0))]), [(0, (.row [(.lit (.int .i64 63)), (.lit (.int
  .i64 1)), (.lit (.int .i64 0)), (.lit (.int .i64 0)), (.lit (.int .i64 0)), (.lit (.int .i64 0)), (.lit (.int .i64 0)), (.lit (.int .i64 0)), (.lit
  (.int .i64 0)), (.lit (.int .i64 0)), (.lit (.int .i64 0)), (.lit (.int .i64 0))] 3 .false)), (3738, (.row [(.lit (.int .i64 0)), (.lit (.int .i64
  0)), (.lit (.int .i64 0)), (.lit (.int .i64 0)), (.lit (.int .i64 0)), (.lit (.int .i64 0)), (.lit (.int .i64 0)), (.lit (.int .i64 0)), (.lit (.int
  .i64 0)), (.lit (.int .i64 0)), (.lit (.int .i64 0)), (.lit (.int .i64 0)), (.lit (.int .i64 0)), (.lit (.int .i64 0)), (.lit (.int .i64 0)), (.lit
  (.int .i64 0)), (.lit (.int .i64 0)), (.lit (.int .i64 0)), (.lit (.int .i64 0)), (.lit (.int .i64 0)), (.lit (.int .i64 0)), (.lit (.int .i64 1)),
  (.lit (.int .i64 0)), (.lit (.int .i64 0)), (.lit (.int .i64 0)), (.lit (.int .i64 0)), (.lit (.int .i64 0)), (.lit (.int .i64 0)), (.lit (.int .i64
  0)), (.lit (.int .i64 0)), (.lit (.int .i64 0)), (.lit (.int .i64 0)), (.lit (.int .i64 0)), (.lit (.int .i64 0)), (.lit (.int .i64 0)), (.lit (.int
  .i64 0)), (.lit (.int .i64 0)), (.lit (.int .i64 0)), (.lit (.int .i64 0)), (.lit (.int .i64 0)), (.lit (.int .i64 0)), (.lit (.int .i64 0)), (.lit
  (.int .i64 0)), (.lit (.int .i64 0)), (.lit (.int .i64 0)), (.lit (.int .i64 0)), (.lit (.int .i64 0)), (.lit (.int .i64 0)), (.lit (.int .i64 0)),
  (.lit (.int .i64 0)), (.lit (.int .i64 0)), (.lit (.int .i64 0)), (.lit (.int .i64 0)), (.lit (.int .i64 0)), (.lit (.int .i64 0)), (.lit (.int .i64
  0)), (.lit (.int .i64 0)), (.lit (.int .i64 0)), (.lit (.int .i64 0)), (.lit (.int .i64 0)), (.lit (.int .i64 0)), (.lit (.int .i64 0)), (.lit (.int
  .i64 0)), (.lit (.int .i64 0))] 3 .false))], 4515⟩
noncomputable def cs10 : List Con := c10 :: cs9
theorem c10_ok {E : Nat → Option Value} {I : Interp} : ConGood E tb Tryz.prog I c10 := con_goodR (d := 80) tb_ok cs9_ok (by kernel_rfl)
theorem cs10_ok {E : Nat → Option Value} {I : Interp} : ∀ c ∈ cs10, ConGood E tb Tryz.prog I c := List.forall_mem_cons.2 ⟨c10_ok, cs9_ok⟩
noncomputable def c11 : Con :=
  ⟨222, [(.agg [(.lit (.int .i64 6)), (.slc 0 0 2 12)])], [(.row [(.lit (.int .i64 63)), (.lit (.int .i64 1)), (.lit (.int .i64 0)), (.lit (.int .i64
  0)), (.lit (.int .i64 0)), (.lit (.int .i64 0)), (.lit (.int .i64 0)), (.lit (.int .i64 0)), (.lit (.int .i64 0)), (.lit (.int .i64 0)), (.lit (.int
  .i64 0)), (.lit (.int .i64 0))] 3 .false)], [], (.tup [(.slu 8884 0 64 3), (.lit (.int .i64 0))]), [(0, (.row [(.lit (.int .i64 63)), (.lit (.int .i64
  1)), (.lit (.int .i64 0)), (.lit (.int .i64 0)), (.lit (.int .i64 0)), (.lit (.int .i64 0)), (.lit (.int .i64 0)), (.lit (.int .i64 0)), (.lit (.int
  .i64 0)), (.lit (.int .i64 0)), (.lit (.int .i64 0)), (.lit (.int .i64 0))] 3 .false)), (8884, (.row [(.lit (.int .i64 0)), (.lit (.int .i64 1)),
  (.lit (.int .i64 62)), (.lit (.int .i64 0)), (.lit (.int .i64 0)), (.lit (.int .i64 0)), (.lit (.int .i64 0)), (.lit (.int .i64 0)), (.lit (.int .i64
  1)), (.lit (.int .i64 0)), (.lit (.int .i64 0)), (.lit (.int .i64 2)), (.lit (.int .i64 0)), (.lit (.int .i64 0)), (.lit (.int .i64 3)), (.lit (.int
  .i64 0)), (.lit (.int .i64 0)), (.lit (.int .i64 4)), (.lit (.int .i64 0)), (.lit (.int .i64 0)), (.lit (.int .i64 5)), (.lit (.int .i64 0)), (.lit
  (.int .i64 0)), (.lit (.int .i64 6)), (.lit (.int .i64 0)), (.lit (.int .i64 0)), (.lit (.int .i64 7)), (.lit (.int .i64 0)), (.lit (.int .i64 0)),
  (.lit (.int .i64 8)), (.lit (.int .i64 0)), (.lit (.int .i64 0)), (.lit (.int .i64 9)), (.lit (.int .i64 0)), (.lit (.int .i64 0)), (.lit (.int .i64
  10)), (.lit (.int .i64 0)), (.lit (.int .i64 0)), (.lit (.int .i64 11)), (.lit (.int .i64 0)), (.lit (.int .i64 0)), (.lit (.int .i64 12)), (.lit
  (.int .i64 0)), (.lit (.int .i64 0)), (.lit (.int .i64 13)), (.lit (.int .i64 0)), (.lit (.int .i64 0)), (.lit (.int .i64 14)), (.lit (.int .i64 0)),
  (.lit (.int .i64 0)), (.lit (.int .i64 15)), (.lit (.int .i64 0)), (.lit (.int .i64 0)), (.lit (.int .i64 16)), (.lit (.int .i64 0)), (.lit (.int .i64
  0)), (.lit (.int .i64 17)), (.lit (.int .i64 0)), (.lit (.int .i64 0)), (.lit (.int .i64 18)), (.lit (.int .i64 0)), (.lit (.int .i64 0)), (.lit (.int
  .i64 19)), (.lit (.int .i64 1)), (.lit (.int .i64 6)), (.lit (.int .i64 0)), (.lit (.int .i64 0)), (.lit (.int .i64 0)), (.lit (.int .i64 20)), (.lit
  (.int .i64 0)), (.lit (.int .i64 0)), (.lit (.int .i64 21)), (.lit (.int .i64 0)), (.lit (.int .i64 0)), (.lit (.int .i64 22)), (.lit (.int .i64 0)),
  (.lit (.int .i64 0)), (.lit (.int .i64 23)), (.lit (.int .i64 0)), (.lit (.int .i64 0)), (.lit (.int .i64 24)), (.lit (.int .i64 0)), (.lit (.int .i64
  0)), (.lit (.int .i64 25)), (.lit (.int .i64 0)), (.lit (.int .i64 0)), (.lit (.int .i64 26)), (.lit (.int .i64 0)), (.lit (.int .i64 0)), (.lit (.int
  .i64 27)), (.lit (.int .i64 0)), (.lit (.int .i64 0)), (.lit (.int .i64 28)), (.lit (.int .i64 0)), (.lit (.int .i64 0)), (.lit (.int .i64 29)), (.lit
  (.int .i64 0)), (.lit (.int .i64 0)), (.lit (.int .i64 30)), (.lit (.int .i64 0)), (.lit (.int .i64 0)), (.lit (.int .i64 31)), (.lit (.int .i64 0)),
  (.lit (.int .i64 0)), (.lit (.int .i64 32)), (.lit (.int .i64 0)), (.lit (.int .i64 0)), (.lit (.int .i64 33)), (.lit (.int .i64 0)), (.lit (.int .i64
  0)), (.lit (.int .i64 34)), (.lit (.int .i64 0)), (.lit (.int .i64 0)), (.lit (.int .i64 35)), (.lit (.int .i64 0)), (.lit (.int .i64 0)), (.lit (.int
  .i64 36)), (.lit (.int .i64 0)), (.lit (.int .i64 0)), (.lit (.int .i64 37)), (.lit (.int .i64 0)), (.lit (.int .i64 0)), (.lit (.int .i64 38)), (.lit
  (.int .i64 0)), (.lit (.int .i64 0)), (.lit (.int .i64 39)), (.lit (.int .i64 0)), (.lit (.int .i64 0)), (.lit (.int .i64 40)), (.lit (.int .i64 0)),
  (.lit (.int .i64 0)), (.lit (.int .i64 41)), (.lit (.int .i64 0)), (.lit (.int .i64 0)), (.lit (.int .i64 42)), (.lit (.int .i64 0)), (.lit (.int .i64
  0)), (.lit (.int .i64 43)), (.lit (.int .i64 0)), (.lit (.int .i64 0)), (.lit (.int .i64 44)), (.lit (.int .i64 0)), (.lit (.int .i64 0)), (.lit (.int
  .i64 45)), (.lit (.int .i64 0)), (.lit (.int .i64 0)), (.lit (.int .i64 46)), (.lit (.int .i64 0)), (.lit (.int .i64 0)), (.lit (.int .i64 47)), (.lit
  (.int .i64 0)), (.lit (.int .i64 0)), (.lit (.int .i64 48)), (.lit (.int .i64 0)), (.lit (.int .i64 0)), (.lit (.int .i64 49)), (.lit (.int .i64 0)),
  (.lit (.int .i64 0)), (.lit (.int .i64 50)), (.lit (.int .i64 0)), (.lit (.int .i64 0)), (.lit (.int .i64 51)), (.lit (.int .i64 0)), (.lit (.int .i64
  0)), (.lit (.int .i64 52)), (.lit (.int .i64 0)), (.lit (.int .i64 0)), (.lit (.int .i64 53)), (.lit (.int .i64 0)), (.lit (.int .i64 0)), (.lit (.int
  .i64 54)), (.lit (.int .i64 0)), (.lit (.int .i64 0)), (.lit (.int .i64 55)), (.lit (.int .i64 0)), (.lit (.int .i64 0)), (.lit (.int .i64 56)), (.lit
  (.int .i64 0)), (.lit (.int .i64 0)), (.lit (.int .i64 57)), (.lit (.int .i64 0)), (.lit (.int .i64 0)), (.lit (.int .i64 58)), (.lit (.int .i64 0)),
  (.lit (.int .i64 0)), (.lit (.int .i64 59)), (.lit (.int .i64 0)), (.lit (.int .i64 0)), (.lit (.int .i64 60)), (.lit (.int .i64 0)), (.lit (.int .i64
  0)), (.lit (.int .i64 61))] 446 .true))], 8892⟩
noncomputable def cs11 : List Con := c11 :: cs10
theorem c11_ok {E : Nat → Option Value} {I : Interp} : ConGood E tb Tryz.prog I c11 := con_goodR (d := 80) tb_ok cs10_ok (by kernel_rfl)
theorem cs11_ok {E : Nat → Option Value} {I : Interp} : ∀ c ∈ cs11, ConGood E tb Tryz.prog I c := List.forall_mem_cons.2 ⟨c11_ok, cs10_ok⟩
noncomputable def c12 : Con :=
  ⟨223, [(.agg [(.lit (.int .i64 6)), (.slc 0 0 2 12)]), (.lit (.int .i64 0))], [(.row [(.lit (.int .i64 63)), (.lit (.int .i64 1)), (.lit (.int .i64
  0)), (.lit (.int .i64 0)), (.lit (.int .i64 0)), (.lit (.int .i64 0)), (.lit (.int .i64 0)), (.lit (.int .i64 0)), (.lit (.int .i64 0)), (.lit (.int
  .i64 0)), (.lit (.int .i64 0)), (.lit (.int .i64 0))] 3 .false)], [], (.tup [(.slu 5545 0 63 1), (.lit (.int .i64 0))]), [(0, (.row [(.lit (.int .i64
  63)), (.lit (.int .i64 1)), (.lit (.int .i64 0)), (.lit (.int .i64 0)), (.lit (.int .i64 0)), (.lit (.int .i64 0)), (.lit (.int .i64 0)), (.lit (.int
  .i64 0)), (.lit (.int .i64 0)), (.lit (.int .i64 0)), (.lit (.int .i64 0)), (.lit (.int .i64 0))] 3 .false)), (5545, (.row [(.lit (.int .i64 0)),
  (.lit (.int .i64 1)), (.lit (.int .i64 2)), (.lit (.int .i64 3)), (.lit (.int .i64 4)), (.lit (.int .i64 5)), (.lit (.int .i64 6)), (.lit (.int .i64
  7)), (.lit (.int .i64 8)), (.lit (.int .i64 9)), (.lit (.int .i64 10)), (.lit (.int .i64 11)), (.lit (.int .i64 12)), (.lit (.int .i64 13)), (.lit
  (.int .i64 14)), (.lit (.int .i64 15)), (.lit (.int .i64 16)), (.lit (.int .i64 17)), (.lit (.int .i64 18)), (.lit (.int .i64 19)), (.lit (.int .i64
  20)), (.lit (.int .i64 22)), (.lit (.int .i64 23)), (.lit (.int .i64 24)), (.lit (.int .i64 25)), (.lit (.int .i64 26)), (.lit (.int .i64 27)), (.lit
  (.int .i64 28)), (.lit (.int .i64 29)), (.lit (.int .i64 30)), (.lit (.int .i64 31)), (.lit (.int .i64 32)), (.lit (.int .i64 33)), (.lit (.int .i64
  34)), (.lit (.int .i64 35)), (.lit (.int .i64 36)), (.lit (.int .i64 37)), (.lit (.int .i64 38)), (.lit (.int .i64 39)), (.lit (.int .i64 40)), (.lit
  (.int .i64 41)), (.lit (.int .i64 42)), (.lit (.int .i64 43)), (.lit (.int .i64 44)), (.lit (.int .i64 45)), (.lit (.int .i64 46)), (.lit (.int .i64
  47)), (.lit (.int .i64 48)), (.lit (.int .i64 49)), (.lit (.int .i64 50)), (.lit (.int .i64 51)), (.lit (.int .i64 52)), (.lit (.int .i64 53)), (.lit
  (.int .i64 54)), (.lit (.int .i64 55)), (.lit (.int .i64 56)), (.lit (.int .i64 57)), (.lit (.int .i64 58)), (.lit (.int .i64 59)), (.lit (.int .i64
  60)), (.lit (.int .i64 61)), (.lit (.int .i64 62)), (.lit (.int .i64 63))] 3 .true))], 5553⟩
noncomputable def cs12 : List Con := c12 :: cs11
theorem c12_ok {E : Nat → Option Value} {I : Interp} : ConGood E tb Tryz.prog I c12 := con_goodR (d := 80) tb_ok cs11_ok (by kernel_rfl)
theorem cs12_ok {E : Nat → Option Value} {I : Interp} : ∀ c ∈ cs12, ConGood E tb Tryz.prog I c := List.forall_mem_cons.2 ⟨c12_ok, cs11_ok⟩
noncomputable def c13 : Con :=
  ⟨223, [(.agg [(.lit (.int .i64 6)), (.slc 0 0 2 12)]), (.lit (.int .i64 1))], [(.row [(.lit (.int .i64 63)), (.lit (.int .i64 1)), (.lit (.int .i64
  0)), (.lit (.int .i64 0)), (.lit (.int .i64 0)), (.lit (.int .i64 0)), (.lit (.int .i64 0)), (.lit (.int .i64 0)), (.lit (.int .i64 0)), (.lit (.int
  .i64 0)), (.lit (.int .i64 0)), (.lit (.int .i64 0))] 3 .false)], [], (.tup [(.slu 4773 0 1 1), (.lit (.int .i64 0))]), [(0, (.row [(.lit (.int .i64
  63)), (.lit (.int .i64 1)), (.lit (.int .i64 0)), (.lit (.int .i64 0)), (.lit (.int .i64 0)), (.lit (.int .i64 0)), (.lit (.int .i64 0)), (.lit (.int
  .i64 0)), (.lit (.int .i64 0)), (.lit (.int .i64 0)), (.lit (.int .i64 0)), (.lit (.int .i64 0))] 3 .false)), (4773, (.row [(.lit (.int .i64 21))] 3
  .true))], 5243⟩
noncomputable def cs13 : List Con := c13 :: cs12
theorem c13_ok {E : Nat → Option Value} {I : Interp} : ConGood E tb Tryz.prog I c13 := con_goodR (d := 80) tb_ok cs12_ok (by kernel_rfl)
theorem cs13_ok {E : Nat → Option Value} {I : Interp} : ∀ c ∈ cs13, ConGood E tb Tryz.prog I c := List.forall_mem_cons.2 ⟨c13_ok, cs12_ok⟩
noncomputable def c14 : Con :=
  ⟨165, [(.agg [(.lit (.int .i64 6)), (.slc 0 0 2 12)])], [(.row [(.lit (.int .i64 63)), (.lit (.int .i64 1)), (.lit (.int .i64 0)), (.lit (.int .i64
  0)), (.lit (.int .i64 0)), (.lit (.int .i64 0)), (.lit (.int .i64 0)), (.lit (.int .i64 0)), (.lit (.int .i64 0)), (.lit (.int .i64 0)), (.lit (.int
  .i64 0)), (.lit (.int .i64 0))] 3 .false)], [], (.tup [(.ptr 8905 0), (.lit (.int .i64 0))]), [(0, (.row [(.lit (.int .i64 63)), (.lit (.int .i64 1)),
  (.lit (.int .i64 0)), (.lit (.int .i64 0)), (.lit (.int .i64 0)), (.lit (.int .i64 0)), (.lit (.int .i64 0)), (.lit (.int .i64 0)), (.lit (.int .i64
  0)), (.lit (.int .i64 0)), (.lit (.int .i64 0)), (.lit (.int .i64 0))] 3 .false)), (8888, (.row [(.lit (.int .i64 0)), (.lit (.int .i64 1)), (.lit
  (.int .i64 62)), (.lit (.int .i64 0)), (.lit (.int .i64 0)), (.lit (.int .i64 0)), (.lit (.int .i64 0)), (.lit (.int .i64 0)), (.lit (.int .i64 1)),
  (.lit (.int .i64 0)), (.lit (.int .i64 0)), (.lit (.int .i64 2)), (.lit (.int .i64 0)), (.lit (.int .i64 0)), (.lit (.int .i64 3)), (.lit (.int .i64
  0)), (.lit (.int .i64 0)), (.lit (.int .i64 4)), (.lit (.int .i64 0)), (.lit (.int .i64 0)), (.lit (.int .i64 5)), (.lit (.int .i64 0)), (.lit (.int
  .i64 0)), (.lit (.int .i64 6)), (.lit (.int .i64 0)), (.lit (.int .i64 0)), (.lit (.int .i64 7)), (.lit (.int .i64 0)), (.lit (.int .i64 0)), (.lit
  (.int .i64 8)), (.lit (.int .i64 0)), (.lit (.int .i64 0)), (.lit (.int .i64 9)), (.lit (.int .i64 0)), (.lit (.int .i64 0)), (.lit (.int .i64 10)),
  (.lit (.int .i64 0)), (.lit (.int .i64 0)), (.lit (.int .i64 11)), (.lit (.int .i64 0)), (.lit (.int .i64 0)), (.lit (.int .i64 12)), (.lit (.int .i64
  0)), (.lit (.int .i64 0)), (.lit (.int .i64 13)), (.lit (.int .i64 0)), (.lit (.int .i64 0)), (.lit (.int .i64 14)), (.lit (.int .i64 0)), (.lit (.int
  .i64 0)), (.lit (.int .i64 15)), (.lit (.int .i64 0)), (.lit (.int .i64 0)), (.lit (.int .i64 16)), (.lit (.int .i64 0)), (.lit (.int .i64 0)), (.lit
  (.int .i64 17)), (.lit (.int .i64 0)), (.lit (.int .i64 0)), (.lit (.int .i64 18)), (.lit (.int .i64 0)), (.lit (.int .i64 0)), (.lit (.int .i64 19)),
  (.lit (.int .i64 1)), (.lit (.int .i64 6)), (.lit (.int .i64 0)), (.lit (.int .i64 0)), (.lit (.int .i64 0)), (.lit (.int .i64 20)), (.lit (.int .i64
  0)), (.lit (.int .i64 0)), (.lit (.int .i64 21)), (.lit (.int .i64 0)), (.lit (.int .i64 0)), (.lit (.int .i64 22)), (.lit (.int .i64 0)), (.lit (.int
  .i64 0)), (.lit (.int .i64 23)), (.lit (.int .i64 0)), (.lit (.int .i64 0)), (.lit (.int .i64 24)), (.lit (.int .i64 0)), (.lit (.int .i64 0)), (.lit
  (.int .i64 25)), (.lit (.int .i64 0)), (.lit (.int .i64 0)), (.lit (.int .i64 26)), (.lit (.int .i64 0)), (.lit (.int .i64 0)), (.lit (.int .i64 27)),
  (.lit (.int .i64 0)), (.lit (.int .i64 0)), (.lit (.int .i64 28)), (.lit (.int .i64 0)), (.lit (.int .i64 0)), (.lit (.int .i64 29)), (.lit (.int .i64
  0)), (.lit (.int .i64 0)), (.lit (.int .i64 30)), (.lit (.int .i64 0)), (.lit (.int .i64 0)), (.lit (.int .i64 31)), (.lit (.int .i64 0)), (.lit (.int
  .i64 0)), (.lit (.int .i64 32)), (.lit (.int .i64 0)), (.lit (.int .i64 0)), (.lit (.int .i64 33)), (.lit (.int .i64 0)), (.lit (.int .i64 0)), (.lit
  (.int .i64 34)), (.lit (.int .i64 0)), (.lit (.int .i64 0)), (.lit (.int .i64 35)), (.lit (.int .i64 0)), (.lit (.int .i64 0)), (.lit (.int .i64 36)),
  (.lit (.int .i64 0)), (.lit (.int .i64 0)), (.lit (.int .i64 37)), (.lit (.int .i64 0)), (.lit (.int .i64 0)), (.lit (.int .i64 38)), (.lit (.int .i64
  0)), (.lit (.int .i64 0)), (.lit (.int .i64 39)), (.lit (.int .i64 0)), (.lit (.int .i64 0)), (.lit (.int .i64 40)), (.lit (.int .i64 0)), (.lit (.int
  .i64 0)), (.lit (.int .i64 41)), (.lit (.int .i64 0)), (.lit (.int .i64 0)), (.lit (.int .i64 42)), (.lit (.int .i64 0)), (.lit (.int .i64 0)), (.lit
  (.int .i64 43)), (.lit (.int .i64 0)), (.lit (.int .i64 0)), (.lit (.int .i64 44)), (.lit (.int .i64 0)), (.lit (.int .i64 0)), (.lit (.int .i64 45)),
  (.lit (.int .i64 0)), (.lit (.int .i64 0)), (.lit (.int .i64 46)), (.lit (.int .i64 0)), (.lit (.int .i64 0)), (.lit (.int .i64 47)), (.lit (.int .i64
  0)), (.lit (.int .i64 0)), (.lit (.int .i64 48)), (.lit (.int .i64 0)), (.lit (.int .i64 0)), (.lit (.int .i64 49)), (.lit (.int .i64 0)), (.lit (.int
  .i64 0)), (.lit (.int .i64 50)), (.lit (.int .i64 0)), (.lit (.int .i64 0)), (.lit (.int .i64 51)), (.lit (.int .i64 0)), (.lit (.int .i64 0)), (.lit
  (.int .i64 52)), (.lit (.int .i64 0)), (.lit (.int .i64 0)), (.lit (.int .i64 53)), (.lit (.int .i64 0)), (.lit (.int .i64 0)), (.lit (.int .i64 54)),
  (.lit (.int .i64 0)), (.lit (.int .i64 0)), (.lit (.int .i64 55)), (.lit (.int .i64 0)), (.lit (.int .i64 0)), (.lit (.int .i64 56)), (.lit (.int .i64
  0)), (.lit (.int .i64 0)), (.lit (.int .i64 57)), (.lit (.int .i64 0)), (.lit (.int .i64 0)), (.lit (.int .i64 58)), (.lit (.int .i64 0)), (.lit (.int
  .i64 0)), (.lit (.int .i64 59)), (.lit (.int .i64 0)), (.lit (.int .i64 0)), (.lit (.int .i64 60)), (.lit (.int .i64 0)), (.lit (.int .i64 0)), (.lit
  (.int .i64 61))] 446 .true)), (8905, (.row [(.slu 8888 0 64 3), (.slu 19745 0 2 1)] 360 .false)), (14460, (.row [(.lit (.int .i64 0)), (.lit (.int
  .i64 1)), (.lit (.int .i64 2)), (.lit (.int .i64 3)), (.lit (.int .i64 4)), (.lit (.int .i64 5)), (.lit (.int .i64 6)), (.lit (.int .i64 7)), (.lit
  (.int .i64 8)), (.lit (.int .i64 9)), (.lit (.int .i64 10)), (.lit (.int .i64 11)), (.lit (.int .i64 12)), (.lit (.int .i64 13)), (.lit (.int .i64
  14)), (.lit (.int .i64 15)), (.lit (.int .i64 16)), (.lit (.int .i64 17)), (.lit (.int .i64 18)), (.lit (.int .i64 19)), (.lit (.int .i64 20)), (.lit
  (.int .i64 22)), (.lit (.int .i64 23)), (.lit (.int .i64 24)), (.lit (.int .i64 25)), (.lit (.int .i64 26)), (.lit (.int .i64 27)), (.lit (.int .i64
  28)), (.lit (.int .i64 29)), (.lit (.int .i64 30)), (.lit (.int .i64 31)), (.lit (.int .i64 32)), (.lit (.int .i64 33)), (.lit (.int .i64 34)), (.lit
  (.int .i64 35)), (.lit (.int .i64 36)), (.lit (.int .i64 37)), (.lit (.int .i64 38)), (.lit (.int .i64 39)), (.lit (.int .i64 40)), (.lit (.int .i64
  41)), (.lit (.int .i64 42)), (.lit (.int .i64 43)), (.lit (.int .i64 44)), (.lit (.int .i64 45)), (.lit (.int .i64 46)), (.lit (.int .i64 47)), (.lit
  (.int .i64 48)), (.lit (.int .i64 49)), (.lit (.int .i64 50)), (.lit (.int .i64 51)), (.lit (.int .i64 52)), (.lit (.int .i64 53)), (.lit (.int .i64
  54)), (.lit (.int .i64 55)), (.lit (.int .i64 56)), (.lit (.int .i64 57)), (.lit (.int .i64 58)), (.lit (.int .i64 59)), (.lit (.int .i64 60)), (.lit
  (.int .i64 61)), (.lit (.int .i64 62)), (.lit (.int .i64 63))] 3 .true)), (19263, (.row [(.lit (.int .i64 21))] 3 .true)), (19745, (.row [(.slu 14460
  0 63 1), (.slu 19263 0 1 1)] 25 .true))], 19755⟩
noncomputable def cs14 : List Con := c14 :: cs13
theorem c14_ok {E : Nat → Option Value} {I : Interp} : ConGood E tb Tryz.prog I c14 := con_goodR (d := 80) tb_ok cs13_ok (by kernel_rfl)
theorem cs14_ok {E : Nat → Option Value} {I : Interp} : ∀ c ∈ cs14, ConGood E tb Tryz.prog I c := List.forall_mem_cons.2 ⟨c14_ok, cs13_ok⟩
noncomputable def c15 : Con :=
  ⟨207, [(.slc 0 0 100 100)], [(.row [(.lit (.int .i64 0)), (.lit (.int .i64 0)), (.lit (.int .i64 0)), (.lit (.int .i64 0)), (.lit (.int .i64 0)),
  (.lit (.int .i64 0)), (.lit (.int .i64 0)), (.lit (.int .i64 0)), (.lit (.int .i64 0)), (.lit (.int .i64 0)), (.lit (.int .i64 0)), (.lit (.int .i64
  0)), (.lit (.int .i64 0)), (.lit (.int .i64 0)), (.lit (.int .i64 0)), (.lit (.int .i64 0)), (.lit (.int .i64 0)), (.lit (.int .i64 0)), (.lit (.int
  .i64 0)), (.lit (.int .i64 0)), (.lit (.int .i64 0)), (.lit (.int .i64 0)), (.lit (.int .i64 0)), (.lit (.int .i64 0)), (.lit (.int .i64 0)), (.lit
  (.int .i64 0)), (.lit (.int .i64 0)), (.lit (.int .i64 0)), (.lit (.int .i64 0)), (.lit (.int .i64 0)), (.lit (.int .i64 0)), (.lit (.int .i64 0)),
  (.lit (.int .i64 0)), (.lit (.int .i64 0)), (.lit (.int .i64 0)), (.lit (.int .i64 0)), (.lit (.int .i64 0)), (.lit (.int .i64 0)), (.lit (.int .i64
  0)), (.lit (.int .i64 0)), (.lit (.int .i64 0)), (.lit (.int .i64 0)), (.lit (.int .i64 0)), (.lit (.int .i64 0)), (.lit (.int .i64 0)), (.lit (.int
  .i64 0)), (.lit (.int .i64 0)), (.lit (.int .i64 0)), (.lit (.int .i64 0)), (.lit (.int .i64 0)), (.lit (.int .i64 0)), (.lit (.int .i64 0)), (.lit
  (.int .i64 0)), (.lit (.int .i64 0)), (.lit (.int .i64 0)), (.lit (.int .i64 0)), (.lit (.int .i64 0)), (.lit (.int .i64 0)), (.lit (.int .i64 0)),
  (.lit (.int .i64 0)), (.lit (.int .i64 0)), (.lit (.int .i64 0)), (.lit (.int .i64 0)), (.lit (.int .i64 0)), (.lit (.int .i64 0)), (.lit (.int .i64
  0)), (.lit (.int .i64 0)), (.lit (.int .i64 0)), (.lit (.int .i64 0)), (.lit (.int .i64 0)), (.lit (.int .i64 0)), (.lit (.int .i64 0)), (.lit (.int
  .i64 0)), (.lit (.int .i64 0)), (.lit (.int .i64 0)), (.lit (.int .i64 0)), (.lit (.int .i64 0)), (.lit (.int .i64 0)), (.lit (.int .i64 0)), (.lit
  (.int .i64 0)), (.lit (.int .i64 0)), (.lit (.int .i64 0)), (.lit (.int .i64 0)), (.lit (.int .i64 0)), (.lit (.int .i64 0)), (.lit (.int .i64 0)),
  (.lit (.int .i64 0)), (.lit (.int .i64 0)), (.lit (.int .i64 0)), (.lit (.int .i64 0)), (.lit (.int .i64 0)), (.lit (.int .i64 0)), (.lit (.int .i64
  0)), (.lit (.int .i64 0)), (.lit (.int .i64 0)), (.lit (.int .i64 0)), (.lit (.int .i64 0)), (.lit (.int .i64 2)), (.lit (.int .i64 2)), (.lit (.int
  .i64 1)), (.lit (.int .i64 0)), (.lit (.int .i64 0)), (.lit (.int .i64 0)), (.lit (.int .i64 0)), (.lit (.int .i64 0)), (.lit (.int .i64 0)), (.lit
  (.int .i64 0)), (.lit (.int .i64 0)), (.lit (.int .i64 0)), (.lit (.int .i64 0)), (.lit (.int .i64 0)), (.lit (.int .i64 0)), (.lit (.int .i64 0)),
  (.lit (.int .i64 0)), (.lit (.int .i64 0)), (.lit (.int .i64 0)), (.lit (.int .i64 0)), (.lit (.int .i64 0)), (.lit (.int .i64 0)), (.lit (.int .i64
  0)), (.lit (.int .i64 0)), (.lit (.int .i64 0)), (.lit (.int .i64 0)), (.lit (.int .i64 0)), (.lit (.int .i64 0)), (.lit (.int .i64 0)), (.lit (.int
  .i64 0)), (.lit (.int .i64 0)), (.lit (.int .i64 0)), (.lit (.int .i64 0)), (.lit (.int .i64 0)), (.lit (.int .i64 0)), (.lit (.int .i64 0)), (.lit
  (.int .i64 0)), (.lit (.int .i64 0)), (.lit (.int .i64 0)), (.lit (.int .i64 0)), (.lit (.int .i64 0)), (.lit (.int .i64 0)), (.lit (.int .i64 0)),
  (.lit (.int .i64 0)), (.lit (.int .i64 0)), (.lit (.int .i64 0)), (.lit (.int .i64 0)), (.lit (.int .i64 0)), (.lit (.int .i64 0)), (.lit (.int .i64
  0)), (.lit (.int .i64 0)), (.lit (.int .i64 0)), (.lit (.int .i64 0)), (.lit (.int .i64 0)), (.lit (.int .i64 0)), (.lit (.int .i64 0)), (.lit (.int
  .i64 0)), (.lit (.int .i64 0)), (.lit (.int .i64 0)), (.lit (.int .i64 0)), (.lit (.int .i64 0)), (.lit (.int .i64 0)), (.lit (.int .i64 0)), (.lit
  (.int .i64 0)), (.lit (.int .i64 0)), (.lit (.int .i64 0)), (.lit (.int .i64 0)), (.lit (.int .i64 0)), (.lit (.int .i64 0)), (.lit (.int .i64 0)),
  (.lit (.int .i64 0)), (.lit (.int .i64 0)), (.lit (.int .i64 0)), (.lit (.int .i64 0)), (.lit (.int .i64 0)), (.lit (.int .i64 0)), (.lit (.int .i64
  0)), (.lit (.int .i64 0)), (.lit (.int .i64 0)), (.lit (.int .i64 0)), (.lit (.int .i64 0)), (.lit (.int .i64 0)), (.lit (.int .i64 0)), (.lit (.int
  .i64 0)), (.lit (.int .i64 0)), (.lit (.int .i64 0)), (.lit (.int .i64 0)), (.lit (.int .i64 0)), (.lit (.int .i64 0)), (.lit (.int .i64 0)), (.lit
  (.int .i64 0)), (.lit (.int .i64 0)), (.lit (.int .i64 0)), (.lit (.int .i64 0)), (.lit (.int .i64 0)), (.lit (.int .i64 0)), (.lit (.int .i64 0)),
  (.lit (.int .i64 0)), (.lit (.int .i64 0)), (.lit (.int .i64 0)), (.lit (.int .i64 0)), (.lit (.int .i64 0)), (.lit (.int .i64 0)), (.lit (.int .i64
  0)), (.lit (.int .i64 0)), (.lit (.int .i64 0)), (.lit (.int .i64 0)), (.lit (.int .i64 0)), (.lit (.int .i64 0)), (.lit (.int .i64 0)), (.lit (.int
  .i64 0)), (.lit (.int .i64 0)), (.lit (.int .i64 0)), (.lit (.int .i64 0)), (.lit (.int .i64 0)), (.lit (.int .i64 0)), (.lit (.int .i64 0)), (.lit
  (.int .i64 0)), (.lit (.int .i64 0)), (.lit (.int .i64 0)), (.lit (.int .i64 0)), (.lit (.int .i64 0)), (.lit (.int .i64 0)), (.lit (.int .i64 0)),
  (.lit (.int .i64 0)), (.lit (.int .i64 0)), (.lit (.int .i64 0)), (.lit (.int .i64 0)), (.lit (.int .i64 0)), (.lit (.int .i64 0)), (.lit (.int .i64
  0)), (.lit (.int .i64 0)), (.lit (.int .i64 0)), (.lit (.int .i64 0)), (.lit (.int .i64 0)), (.lit (.int .i64 0)), (.lit (.int .i64 0)), (.lit (.int
  .i64 0)), (.lit (.int .i64 0)), (.lit (.int .i64 0)), (.lit (.int .i64 0)), (.lit (.int .i64 0)), (.lit (.int .i64 0)), (.lit (.int .i64 0)), (.lit
  (.int .i64 0)), (.lit (.int .i64 0)), (.lit (.int .i64 0)), (.lit (.int .i64 0)), (.lit (.int .i64 0)), (.lit (.int .i64 0)), (.lit (.int .i64 0)),
  (.lit (.int .i64 0)), (.lit (.int .i64 0)), (.lit (.int .i64 0)), (.lit (.int .i64 0)), (.lit (.int .i64 0)), (.lit (.int .i64 0)), (.lit (.int .i64
  0)), (.lit (.int .i64 0))] 3 .false)], [], (.tup [(.slu 47648 0 7 1), (.lit (.int .i64 0))]), [(0, (.row [(.lit (.int .i64 0)), (.lit (.int .i64 0)),
  (.lit (.int .i64 0)), (.lit (.int .i64 0)), (.lit (.int .i64 0)), (.lit (.int .i64 0)), (.lit (.int .i64 0)), (.lit (.int .i64 0)), (.lit (.int .i64
  0)), (.lit (.int .i64 0)), (.lit (.int .i64 0)), (.lit (.int .i64 0)), (.lit (.int .i64 0)), (.lit (.int .i64 0)), (.lit (.int .i64 0)), (.lit (.int
  .i64 0)), (.lit (.int .i64 0)), (.lit (.int .i64 0)), (.lit (.int .i64 0)), (.lit (.int .i64 0)), (.lit (.int .i64 0)), (.lit (.int .i64 0)), (.lit
  (.int .i64 0)), (.lit (.int .i64 0)), (.lit (.int .i64 0)), (.lit (.int .i64 0)), (.lit (.int .i64 0)), (.lit (.int .i64 0)), (.lit (.int .i64 0)),
  (.lit (.int .i64 0)), (.lit (.int .i64 0)), (.lit (.int .i64 0)), (.lit (.int .i64 0)), (.lit (.int .i64 0)), (.lit (.int .i64 0)), (.lit (.int .i64
  0)), (.lit (.int .i64 0)), (.lit (.int .i64 0)), (.lit (.int .i64 0)), (.lit (.int .i64 0)), (.lit (.int .i64 0)), (.lit (.int .i64 0)), (.lit (.int
  .i64 0)), (.lit (.int .i64 0)), (.lit (.int .i64 0)), (.lit (.int .i64 0)), (.lit (.int .i64 0)), (.lit (.int .i64 0)), (.lit (.int .i64 0)), (.lit
  (.int .i64 0)), (.lit (.int .i64 0)), (.lit (.int .i64 0)), (.lit (.int .i64 0)), (.lit (.int .i64 0)), (.lit (.int .i64 0)), (.lit (.int .i64 0)),
  (.lit (.int .i64 0)), (.lit (.int .i64 0)), (.lit (.int .i64 0)), (.lit (.int .i64 0)), (.lit (.int .i64 0)), (.lit (.int .i64 0)), (.lit (.int .i64
  0)), (.lit (.int .i64 0)), (.lit (.int .i64 0)), (.lit (.int .i64 0)), (.lit (.int .i64 0)), (.lit (.int .i64 0)), (.lit (.int .i64 0)), (.lit (.int
  .i64 0)), (.lit (.int .i64 0)), (.lit (.int .i64 0)), (.lit (.int .i64 0)), (.lit (.int .i64 0)), (.lit (.int .i64 0)), (.lit (.int .i64 0)), (.lit
  (.int .i64 0)), (.lit (.int .i64 0)), (.lit (.int .i64 0)), (.lit (.int .i64 0)), (.lit (.int .i64 0)), (.lit (.int .i64 0)), (.lit (.int .i64 0)),
  (.lit (.int .i64 0)), (.lit (.int .i64 0)), (.lit (.int .i64 0)), (.lit (.int .i64 0)), (.lit (.int .i64 0)), (.lit (.int .i64 0)), (.lit (.int .i64
  0)), (.lit (.int .i64 0)), (.lit (.int .i64 0)), (.lit (.int .i64 0)), (.lit (.int .i64 0)), (.lit (.int .i64 0)), (.lit (.int .i64 0)), (.lit (.int
  .i64 0)), (.lit (.int .i64 2)), (.lit (.int .i64 2)), (.lit (.int .i64 1)), (.lit (.int .i64 0)), (.lit (.int .i64 0)), (.lit (.int .i64 0)), (.lit
  (.int .i64 0)), (.lit (.int .i64 0)), (.lit (.int .i64 0)), (.lit (.int .i64 0)), (.lit (.int .i64 0)), (.lit (.int .i64 0)), (.lit (.int .i64 0)),
  (.lit (.int .i64 0)), (.lit (.int .i64 0)), (.lit (.int .i64 0)), (.lit (.int .i64 0)), (.lit (.int .i64 0)), (.lit (.int .i64 0)), (.lit (.int .i64
  0)), (.lit (.int .i64 0)), (.lit (.int .i64 0)), (.lit (.int .i64 0)), (.lit (.int .i64 0)), (.lit (.int .i64 0)), (.lit (.int .i64 0)), (.lit (.int
  .i64 0)), (.lit (.int .i64 0)), (.lit (.int .i64 0)), (.lit (.int .i64 0)), (.lit (.int .i64 0)), (.lit (.int .i64 0)), (.lit (.int .i64 0)), (.lit
  (.int .i64 0)), (.lit (.int .i64 0)), (.lit (.int .i64 0)), (.lit (.int .i64 0)), (.lit (.int .i64 0)), (.lit (.int .i64 0)), (.lit (.int .i64 0)),
  (.lit (.int .i64 0)), (.lit (.int .i64 0)), (.lit (.int .i64 0)), (.lit (.int .i64 0)), (.lit (.int .i64 0)), (.lit (.int .i64 0)), (.lit (.int .i64
  0)), (.lit (.int .i64 0)), (.lit (.int .i64 0)), (.lit (.int .i64 0)), (.lit (.int .i64 0)), (.lit (.int .i64 0)), (.lit (.int .i64 0)), (.lit (.int
  .i64 0)), (.lit (.int .i64 0)), (.lit (.int .i64 0)), (.lit (.int .i64 0)), (.lit (.int .i64 0)), (.lit (.int .i64 0)), (.lit (.int .i64 0)), (.lit
  (.int .i64 0)), (.lit (.int .i64 0)), (.lit (.int .i64 0)), (.lit (.int .i64 0)), (.lit (.int .i64 0)), (.lit (.int .i64 0)), (.lit (.int .i64 0)),
  (.lit (.int .i64 0)), (.lit (.int .i64 0)), (.lit (.int .i64 0)), (.lit (.int .i64 0)), (.lit (.int .i64 0)), (.lit (.int .i64 0)), (.lit (.int .i64
  0)), (.lit (.int .i64 0)), (.lit (.int .i64 0)), (.lit (.int .i64 0)), (.lit (.int .i64 0)), (.lit (.int .i64 0)), (.lit (.int .i64 0)), (.lit (.int
  .i64 0)), (.lit (.int .i64 0)), (.lit (.int .i64 0)), (.lit (.int .i64 0)), (.lit (.int .i64 0)), (.lit (.int .i64 0)), (.lit (.int .i64 0)), (.lit
  (.int .i64 0)), (.lit (.int .i64 0)), (.lit (.int .i64 0)), (.lit (.int .i64 0)), (.lit (.int .i64 0)), (.lit (.int .i64 0)), (.lit (.int .i64 0)),
  (.lit (.int .i64 0)), (.lit (.int .i64 0)), (.lit (.int .i64 0)), (.lit (.int .i64 0)), (.lit (.int .i64 0)), (.lit (.int .i64 0)), (.lit (.int .i64
  0)), (.lit (.int .i64 0)), (.lit (.int .i64 0)), (.lit (.int .i64 0)), (.lit (.int .i64 0)), (.lit (.int .i64 0)), (.lit (.int .i64 0)), (.lit (.int
  .i64 0)), (.lit (.int .i64 0)), (.lit (.int .i64 0)), (.lit (.int .i64 0)), (.lit (.int .i64 0)), (.lit (.int .i64 0)), (.lit (.int .i64 0)), (.lit
  (.int .i64 0)), (.lit (.int .i64 0)), (.lit (.int .i64 0)), (.lit (.int .i64 0)), (.lit (.int .i64 0)), (.lit (.int .i64 0)), (.lit (.int .i64 0)),
  (.lit (.int .i64 0)), (.lit (.int .i64 0)), (.lit (.int .i64 0)), (.lit (.int .i64 0)), (.lit (.int .i64 0)), (.lit (.int .i64 0)), (.lit (.int .i64
  0)), (.lit (.int .i64 0)), (.lit (.int .i64 0)), (.lit (.int .i64 0)), (.lit (.int .i64 0)), (.lit (.int .i64 0)), (.lit (.int .i64 0)), (.lit (.int
  .i64 0)), (.lit (.int .i64 0)), (.lit (.int .i64 0)), (.lit (.int .i64 0)), (.lit (.int .i64 0)), (.lit (.int .i64 0)), (.lit (.int .i64 0)), (.lit
  (.int .i64 0)), (.lit (.int .i64 0)), (.lit (.int .i64 0)), (.lit (.int .i64 0)), (.lit (.int .i64 0)), (.lit (.int .i64 0)), (.lit (.int .i64 0)),
  (.lit (.int .i64 0)), (.lit (.int .i64 0)), (.lit (.int .i64 0)), (.lit (.int .i64 0)), (.lit (.int .i64 0)), (.lit (.int .i64 0)), (.lit (.int .i64
  0)), (.lit (.int .i64 0)), (.lit (.int .i64 0)), (.lit (.int .i64 0)), (.lit (.int .i64 0))] 3 .false)), (47648, (.row [(.lit (.int .u8 99)), (.lit
  (.int .u8 1)), (.lit (.int .u8 245)), (.lit (.int .u8 27)), (.lit (.int .u8 2)), (.lit (.int .u8 131)), (.lit (.int .u8 98))] 5 .true))], 47661⟩
noncomputable def cs15 : List Con := c15 :: cs14
theorem c15_ok {E : Nat → Option Value} {I : Interp} : ConGood E tb Tryz.prog I c15 := con_goodR (d := 80) tb_ok cs14_ok (by kernel_rfl)
theorem cs15_ok {E : Nat → Option Value} {I : Interp} : ∀ c ∈ cs15, ConGood E tb Tryz.prog I c := List.forall_mem_cons.2 ⟨c15_ok, cs14_ok⟩
noncomputable def c16 : Con :=
  ⟨157, [(.slc 0 0 100 100), (.slu 1 0 3 1), (.lit (.bool .false)), (.lit (.bool .false))], [(.row [(.lit (.int .i64 0)), (.lit (.int .i64 0)), (.lit
  (.int .i64 0)), (.lit (.int .i64 0)), (.lit (.int .i64 0)), (.lit (.int .i64 0)), (.lit (.int .i64 0)), (.lit (.int .i64 0)), (.lit (.int .i64 0)),
  (.lit (.int .i64 0)), (.lit (.int .i64 0)), (.lit (.int .i64 0)), (.lit (.int .i64 0)), (.lit (.int .i64 0)), (.lit (.int .i64 0)), (.lit (.int .i64
  0)), (.lit (.int .i64 0)), (.lit (.int .i64 0)), (.lit (.int .i64 0)), (.lit (.int .i64 0)), (.lit (.int .i64 0)), (.lit (.int .i64 0)), (.lit (.int
  .i64 0)), (.lit (.int .i64 0)), (.lit (.int .i64 0)), (.lit (.int .i64 0)), (.lit (.int .i64 0)), (.lit (.int .i64 0)), (.lit (.int .i64 0)), (.lit
  (.int .i64 0)), (.lit (.int .i64 0)), (.lit (.int .i64 0)), (.lit (.int .i64 0)), (.lit (.int .i64 0)), (.lit (.int .i64 0)), (.lit (.int .i64 0)),
  (.lit (.int .i64 0)), (.lit (.int .i64 0)), (.lit (.int .i64 0)), (.lit (.int .i64 0)), (.lit (.int .i64 0)), (.lit (.int .i64 0)), (.lit (.int .i64
  0)), (.lit (.int .i64 0)), (.lit (.int .i64 0)), (.lit (.int .i64 0)), (.lit (.int .i64 0)), (.lit (.int .i64 0)), (.lit (.int .i64 0)), (.lit (.int
  .i64 0)), (.lit (.int .i64 0)), (.lit (.int .i64 0)), (.lit (.int .i64 0)), (.lit (.int .i64 0)), (.lit (.int .i64 0)), (.lit (.int .i64 0)), (.lit
  (.int .i64 0)), (.lit (.int .i64 0)), (.lit (.int .i64 0)), (.lit (.int .i64 0)), (.lit (.int .i64 0)), (.lit (.int .i64 0)), (.lit (.int .i64 0)),
  (.lit (.int .i64 0)), (.lit (.int .i64 0)), (.lit (.int .i64 0)), (.lit (.int .i64 0)), (.lit (.int .i64 0)), (.lit (.int .i64 0)), (.lit (.int .i64
  0)), (.lit (.int .i64 0)), (.lit (.int .i64 0)), (.lit (.int .i64 0)), (.lit (.int .i64 0)), (.lit (.int .i64 0)), (.lit (.int .i64 0)), (.lit (.int
  .i64 0)), (.lit (.int .i64 0)), (.lit (.int .i64 0)), (.lit (.int .i64 0)), (.lit (.int .i64 0)), (.lit (.int .i64 0)), (.lit (.int .i64 0)), (.lit
  (.int .i64 0)), (.lit (.int .i64 0)), (.lit (.int .i64 0)), (.lit (.int .i64 0)), (.lit (.int .i64 0)), (.lit (.int .i64 0)), (.lit (.int .i64 0)),
  (.lit (.int .i64 0)), (.lit (.int .i64 0)), (.lit (.int .i64 0)), (.lit (.int .i64 0)), (.lit (.int .i64 0)), (.lit (.int .i64 0)), (.lit (.int .i64
  0)), (.lit (.int .i64 2)), (.lit (.int .i64 2)), (.lit (.int .i64 1)), (.lit (.int .i64 0)), (.lit (.int .i64 0)), (.lit (.int .i64 0)), (.lit (.int
  .i64 0)), (.lit (.int .i64 0)), (.lit (.int .i64 0)), (.lit (.int .i64 0)), (.lit (.int .i64 0)), (.lit (.int .i64 0)), (.lit (.int .i64 0)), (.lit
  (.int .i64 0)), (.lit (.int .i64 0)), (.lit (.int .i64 0)), (.lit (.int .i64 0)), (.lit (.int .i64 0)), (.lit (.int .i64 0)), (.lit (.int .i64 0)),
  (.lit (.int .i64 0)), (.lit (.int .i64 0)), (.lit (.int .i64 0)), (.lit (.int .i64 0)), (.lit (.int .i64 0)), (.lit (.int .i64 0)), (.lit (.int .i64
  0)), (.lit (.int .i64 0)), (.lit (.int .i64 0)), (.lit (.int .i64 0)), (.lit (.int .i64 0)), (.lit (.int .i64 0)), (.lit (.int .i64 0)), (.lit (.int
  .i64 0)), (.lit (.int .i64 0)), (.lit (.int .i64 0)), (.lit (.int .i64 0)), (.lit (.int .i64 0)), (.lit (.int .i64 0)), (.lit (.int .i64 0)), (.lit
  (.int .i64 0)), (.lit (.int .i64 0)), (.lit (.int .i64 0)), (.lit (.int .i64 0)), (.lit (.int .i64 0)), (.lit (.int .i64 0)), (.lit (.int .i64 0)),
  (.lit (.int .i64 0)), (.lit (.int .i64 0)), (.lit (.int .i64 0)), (.lit (.int .i64 0)), (.lit (.int .i64 0)), (.lit (.int .i64 0)), (.lit (.int .i64
  0)), (.lit (.int .i64 0)), (.lit (.int .i64 0)), (.lit (.int .i64 0)), (.lit (.int .i64 0)), (.lit (.int .i64 0)), (.lit (.int .i64 0)), (.lit (.int
  .i64 0)), (.lit (.int .i64 0)), (.lit (.int .i64 0)), (.lit (.int .i64 0)), (.lit (.int .i64 0)), (.lit (.int .i64 0)), (.lit (.int .i64 0)), (.lit
  (.int .i64 0)), (.lit (.int .i64 0)), (.lit (.int .i64 0)), (.lit (.int .i64 0)), (.lit (.int .i64 0)), (.lit (.int .i64 0)), (.lit (.int .i64 0)),
  (.lit (.int .i64 0)), (.lit (.int .i64 0)), (.lit (.int .i64 0)), (.lit (.int .i64 0)), (.lit (.int .i64 0)), (.lit (.int .i64 0)), (.lit (.int .i64
  0)), (.lit (.int .i64 0)), (.lit (.int .i64 0)), (.lit (.int .i64 0)), (.lit (.int .i64 0)), (.lit (.int .i64 0)), (.lit (.int .i64 0)), (.lit (.int
  .i64 0)), (.lit (.int .i64 0)), (.lit (.int .i64 0)), (.lit (.int .i64 0)), (.lit (.int .i64 0)), (.lit (.int .i64 0)), (.lit (.int .i64 0)), (.lit
  (.int .i64 0)), (.lit (.int .i64 0)), (.lit (.int .i64 0)), (.lit (.int .i64 0)), (.lit (.int .i64 0)), (.lit (.int .i64 0)), (.lit (.int .i64 0)),
  (.lit (.int .i64 0)), (.lit (.int .i64 0)), (.lit (.int .i64 0)), (.lit (.int .i64 0)), (.lit (.int .i64 0)), (.lit (.int .i64 0)), (.lit (.int .i64
  0)), (.lit (.int .i64 0)), (.lit (.int .i64 0)), (.lit (.int .i64 0)), (.lit (.int .i64 0)), (.lit (.int .i64 0)), (.lit (.int .i64 0)), (.lit (.int
  .i64 0)), (.lit (.int .i64 0)), (.lit (.int .i64 0)), (.lit (.int .i64 0)), (.lit (.int .i64 0)), (.lit (.int .i64 0)), (.lit (.int .i64 0)), (.lit
  (.int .i64 0)), (.lit (.int .i64 0)), (.lit (.int .i64 0)), (.lit (.int .i64 0)), (.lit (.int .i64 0)), (.lit (.int .i64 0)), (.lit (.int .i64 0)),
  (.lit (.int .i64 0)), (.lit (.int .i64 0)), (.lit (.int .i64 0)), (.lit (.int .i64 0)), (.lit (.int .i64 0)), (.lit (.int .i64 0)), (.lit (.int .i64
  0)), (.lit (.int .i64 0)), (.lit (.int .i64 0)), (.lit (.int .i64 0)), (.lit (.int .i64 0)), (.lit (.int .i64 0)), (.lit (.int .i64 0)), (.lit (.int
  .i64 0)), (.lit (.int .i64 0)), (.lit (.int .i64 0)), (.lit (.int .i64 0)), (.lit (.int .i64 0)), (.lit (.int .i64 0)), (.lit (.int .i64 0)), (.lit
  (.int .i64 0)), (.lit (.int .i64 0)), (.lit (.int .i64 0)), (.lit (.int .i64 0)), (.lit (.int .i64 0)), (.lit (.int .i64 0)), (.lit (.int .i64 0)),
  (.lit (.int .i64 0)), (.lit (.int .i64 0)), (.lit (.int .i64 0)), (.lit (.int .i64 0))] 3 .false), (.row [(.lit (.int .u8 97)), (.lit (.int .u8 98)),
  (.lit (.int .u8 99))] 5 .true)], [], (.tup [(.slu 53715 0 11 1), (.lit (.int .i64 0))]), [(0, (.row [(.lit (.int .i64 0)), (.lit (.int .i64 0)), (.lit
  (.int .i64 0)), (.lit (.int .i64 0)), (.lit (.int .i64 0)), (.lit (.int .i64 0)), (.lit (.int .i64 0)), (.lit (.int .i64 0)), (.lit (.int .i64 0)),
  (.lit (.int .i64 0)), (.lit (.int .i64 0)), (.lit (.int .i64 0)), (.lit (.int .i64 0)), (.lit (.int .i64 0)), (.lit (.int .i64 0)), (.lit (.int .i64
  0)), (.lit (.int .i64 0)), (.lit (.int .i64 0)), (.lit (.int .i64 0)), (.lit (.int .i64 0)), (.lit (.int .i64 0)), (.lit (.int .i64 0)), (.lit (.int
  .i64 0)), (.lit (.int .i64 0)), (.lit (.int .i64 0)), (.lit (.int .i64 0)), (.lit (.int .i64 0)), (.lit (.int .i64 0)), (.lit (.int .i64 0)), (.lit
  (.int .i64 0)), (.lit (.int .i64 0)), (.lit (.int .i64 0)), (.lit (.int .i64 0)), (.lit (.int .i64 0)), (.lit (.int .i64 0)), (.lit (.int .i64 0)),
  (.lit (.int .i64 0)), (.lit (.int .i64 0)), (.lit (.int .i64 0)), (.lit (.int .i64 0)), (.lit (.int .i64 0)), (.lit (.int .i64 0)), (.lit (.int .i64
  0)), (.lit (.int .i64 0)), (.lit (.int .i64 0)), (.lit (.int .i64 0)), (.lit (.int .i64 0)), (.lit (.int .i64 0)), (.lit (.int .i64 0)), (.lit (.int
  .i64 0)), (.lit (.int .i64 0)), (.lit (.int .i64 0)), (.lit (.int .i64 0)), (.lit (.int .i64 0)), (.lit (.int .i64 0)), (.lit (.int .i64 0)), (.lit
  (.int .i64 0)), (.lit (.int .i64 0)), (.lit (.int .i64 0)), (.lit (.int .i64 0)), (.lit (.int .i64 0)), (.lit (.int .i64 0)), (.lit (.int .i64 0)),
  (.lit (.int .i64 0)), (.lit (.int .i64 0)), (.lit (.int .i64 0)), (.lit (.int .i64 0)), (.lit (.int .i64 0)), (.lit (.int .i64 0)), (.lit (.int .i64
  0)), (.lit (.int .i64 0)), (.lit (.int .i64 0)), (.lit (.int .i64 0)), (.lit (.int .i64 0)), (.lit (.int .i64 0)), (.lit (.int .i64 0)), (.lit (.int
  .i64 0)), (.lit (.int .i64 0)), (.lit (.int .i64 0)), (.lit (.int .i64 0)), (.lit (.int .i64 0)), (.lit (.int .i64 0)), (.lit (.int .i64 0)), (.lit
  (.int .i64 0)), (.lit (.int .i64 0)), (.lit (.int .i64 0)), (.lit (.int .i64 0)), (.lit (.int .i64 0)), (.lit (.int .i64 0)), (.lit (.int .i64 0)),
  (.lit (.int .i64 0)), (.lit (.int .i64 0)), (.lit (.int .i64 0)), (.lit (.int .i64 0)), (.lit (.int .i64 0)), (.lit (.int .i64 0)), (.lit (.int .i64
  0)), (.lit (.int .i64 2)), (.lit (.int .i64 2)), (.lit (.int .i64 1)), (.lit (.int .i64 0)), (.lit (.int .i64 0)), (.lit (.int .i64 0)), (.lit (.int
  .i64 0)), (.lit (.int .i64 0)), (.lit (.int .i64 0)), (.lit (.int .i64 0)), (.lit (.int .i64 0)), (.lit (.int .i64 0)), (.lit (.int .i64 0)), (.lit
  (.int .i64 0)), (.lit (.int .i64 0)), (.lit (.int .i64 0)), (.lit (.int .i64 0)), (.lit (.int .i64 0)), (.lit (.int .i64 0)), (.lit (.int .i64 0)),
  (.lit (.int .i64 0)), (.lit (.int .i64 0)), (.lit (.int .i64 0)), (.lit (.int .i64 0)), (.lit (.int .i64 0)), (.lit (.int .i64 0)), (.lit (.int .i64
  0)), (.lit (.int .i64 0)), (.lit (.int .i64 0)), (.lit (.int .i64 0)), (.lit (.int .i64 0)), (.lit (.int .i64 0)), (.lit (.int .i64 0)), (.lit (.int
  .i64 0)), (.lit (.int .i64 0)), (.lit (.int .i64 0)), (.lit (.int .i64 0)), (.lit (.int .i64 0)), (.lit (.int .i64 0)), (.lit (.int .i64 0)), (.lit
  (.int .i64 0)), (.lit (.int .i64 0)), (.lit (.int .i64 0)), (.lit (.int .i64 0)), (.lit (.int .i64 0)), (.lit (.int .i64 0)), (.lit (.int .i64 0)),
  (.lit (.int .i64 0)), (.lit (.int .i64 0)), (.lit (.int .i64 0)), (.lit (.int .i64 0)), (.lit (.int .i64 0)), (.lit (.int .i64 0)), (.lit (.int .i64
  0)), (.lit (.int .i64 0)), (.lit (.int .i64 0)), (.lit (.int .i64 0)), (.lit (.int .i64 0)), (.lit (.int .i64 0)), (.lit (.int .i64 0)), (.lit (.int
  .i64 0)), (.lit (.int .i64 0)), (.lit (.int .i64 0)), (.lit (.int .i64 0)), (.lit (.int .i64 0)), (.lit (.int .i64 0)), (.lit (.int .i64 0)), (.lit
  (.int .i64 0)), (.lit (.int .i64 0)), (.lit (.int .i64 0)), (.lit (.int .i64 0)), (.lit (.int .i64 0)), (.lit (.int .i64 0)), (.lit (.int .i64 0)),
  (.lit (.int .i64 0)), (.lit (.int .i64 0)), (.lit (.int .i64 0)), (.lit (.int .i64 0)), (.lit (.int .i64 0)), (.lit (.int .i64 0)), (.lit (.int .i64
  0)), (.lit (.int .i64 0)), (.lit (.int .i64 0)), (.lit (.int .i64 0)), (.lit (.int .i64 0)), (.lit (.int .i64 0)), (.lit (.int .i64 0)), (.lit (.int
  .i64 0)), (.lit (.int .i64 0)), (.lit (.int .i64 0)), (.lit (.int .i64 0)), (.lit (.int .i64 0)), (.lit (.int .i64 0)), (.lit (.int .i64 0)), (.lit
  (.int .i64 0)), (.lit (.int .i64 0)), (.lit (.int .i64 0)), (.lit (.int .i64 0)), (.lit (.int .i64 0)), (.lit (.int .i64 0)), (.lit (.int .i64 0)),
  (.lit (.int .i64 0)), (.lit (.int .i64 0)), (.lit (.int .i64 0)), (.lit (.int .i64 0)), (.lit (.int .i64 0)), (.lit (.int .i64 0)), (.lit (.int .i64
  0)), (.lit (.int .i64 0)), (.lit (.int .i64 0)), (.lit (.int .i64 0)), (.lit (.int .i64 0)), (.lit (.int .i64 0)), (.lit (.int .i64 0)), (.lit (.int
  .i64 0)), (.lit (.int .i64 0)), (.lit (.int .i64 0)), (.lit (.int .i64 0)), (.lit (.int .i64 0)), (.lit (.int .i64 0)), (.lit (.int .i64 0)), (.lit
  (.int .i64 0)), (.lit (.int .i64 0)), (.lit (.int .i64 0)), (.lit (.int .i64 0)), (.lit (.int .i64 0)), (.lit (.int .i64 0)), (.lit (.int .i64 0)),
  (.lit (.int .i64 0)), (.lit (.int .i64 0)), (.lit (.int .i64 0)), (.lit (.int .i64 0)), (.lit (.int .i64 0)), (.lit (.int .i64 0)), (.lit (.int .i64
  0)), (.lit (.int .i64 0)), (.lit (.int .i64 0)), (.lit (.int .i64 0)), (.lit (.int .i64 0)), (.lit (.int .i64 0)), (.lit (.int .i64 0)), (.lit (.int
  .i64 0)), (.lit (.int .i64 0)), (.lit (.int .i64 0)), (.lit (.int .i64 0)), (.lit (.int .i64 0)), (.lit (.int .i64 0)), (.lit (.int .i64 0)), (.lit
  (.int .i64 0)), (.lit (.int .i64 0)), (.lit (.int .i64 0)), (.lit (.int .i64 0)), (.lit (.int .i64 0)), (.lit (.int .i64 0)), (.lit (.int .i64 0)),
  (.lit (.int .i64 0)), (.lit (.int .i64 0)), (.lit (.int .i64 0)), (.lit (.int .i64 0))] 3 .false)), (1, (.row [(.lit (.int .u8 97)), (.lit (.int .u8
  98)), (.lit (.int .u8 99))] 5 .true)), (53715, (.row [(.lit (.int .u8 2)), (.lit (.int .u8 3)), (.lit (.int .u8 8)), (.lit (.int .u8 99)), (.lit (.int
  .u8 1)), (.lit (.int .u8 245)), (.lit (.int .u8 27)), (.lit (.int .u8 2)), (.lit (.int .u8 131)), (.lit (.int .u8 98)), (.lit (.int .u8 54))] 5
  .true))], 53722⟩
noncomputable def cs16 : List Con := c16 :: cs15
theorem c16_ok {E : Nat → Option Value} {I : Interp} : ConGood E tb Tryz.prog I c16 := con_goodR (d := 80) tb_ok cs15_ok (by kernel_rfl)
theorem cs16_ok {E : Nat → Option Value} {I : Interp} : ∀ c ∈ cs16, ConGood E tb Tryz.prog I c := List.forall_mem_cons.2 ⟨c16_ok, cs15_ok⟩
noncomputable def c17 : Con :=
  ⟨205, [(.lit (.slice .none 0 0)), (.slu 0 0 3 1)], [(.row [(.lit (.int .u8 97)), (.lit (.int .u8 98)), (.lit (.int .u8 99))] 5 .true)], [], (.tup
  [(.lit (.slice .none 0 0)), (.lit (.int .i64 12))]), [(0, (.row [(.lit (.int .u8 97)), (.lit (.int .u8 98)), (.lit (.int .u8 99))] 5 .true))], 109⟩
noncomputable def cs17 : List Con := c17 :: cs16
theorem c17_ok {E : Nat → Option Value} {I : Interp} : ConGood E tb Tryz.prog I c17 := con_goodR (d := 80) tb_ok cs16_ok (by kernel_rfl)
theorem cs17_ok {E : Nat → Option Value} {I : Interp} : ∀ c ∈ cs17, ConGood E tb Tryz.prog I c := List.forall_mem_cons.2 ⟨c17_ok, cs16_ok⟩
noncomputable def c18 : Con :=
  ⟨157, [(.lit (.slice .none 0 0)), (.slu 0 0 3 1), (.lit (.bool .false)), (.lit (.bool .true))], [(.row [(.lit (.int .u8 97)), (.lit (.int .u8 98)),
  (.lit (.int .u8 99))] 5 .true)], [], (.tup [(.lit (.slice .none 0 0)), (.lit (.int .i64 12))]), [(0, (.row [(.lit (.int .u8 97)), (.lit (.int .u8
  98)), (.lit (.int .u8 99))] 5 .true))], 156⟩
noncomputable def cs18 : List Con := c18 :: cs17
theorem c18_ok {E : Nat → Option Value} {I : Interp} : ConGood E tb Tryz.prog I c18 := con_goodR (d := 80) tb_ok cs17_ok (by kernel_rfl)
theorem cs18_ok {E : Nat → Option Value} {I : Interp} : ∀ c ∈ cs18, ConGood E tb Tryz.prog I c := List.forall_mem_cons.2 ⟨c18_ok, cs17_ok⟩
noncomputable def c19 : Con :=
  ⟨206, [(.slc 0 0 100 100), (.slu 1 0 3 1)], [(.row [(.lit (.int .i64 0)), (.lit (.int .i64 0)), (.lit (.int .i64 0)), (.lit (.int .i64 0)), (.lit
  (.int .i64 0)), (.lit (.int .i64 0)), (.lit (.int .i64 0)), (.lit (.int .i64 0)), (.lit (.int .i64 0)), (.lit (.int .i64 0)), (.lit (.int .i64 0)),
  (.lit (.int .i64 0)), (.lit (.int .i64 0)), (.lit (.int .i64 0)), (.lit (.int .i64 0)), (.lit (.int .i64 0)), (.lit (.int .i64 0)), (.lit (.int .i64
  0)), (.lit (.int .i64 0)), (.lit (.int .i64 0)), (.lit (.int .i64 0)), (.lit (.int .i64 0)), (.lit (.int .i64 0)), (.lit (.int .i64 0)), (.lit (.int
  .i64 0)), (.lit (.int .i64 0)), (.lit (.int .i64 0)), (.lit (.int .i64 0)), (.lit (.int .i64 0)), (.lit (.int .i64 0)), (.lit (.int .i64 0)), (.lit
  (.int .i64 0)), (.lit (.int .i64 0)), (.lit (.int .i64 0)), (.lit (.int .i64 0)), (.lit (.int .i64 0)), (.lit (.int .i64 0)), (.lit (.int .i64 0)),
  (.lit (.int .i64 0)), (.lit (.int .i64 0)), (.lit (.int .i64 0)), (.lit (.int .i64 0)), (.lit (.int .i64 0)), (.lit (.int .i64 0)), (.lit (.int .i64
  0)), (.lit (.int .i64 0)), (.lit (.int .i64 0)), (.lit (.int .i64 0)), (.lit (.int .i64 0)), (.lit (.int .i64 0)), (.lit (.int .i64 0)), (.lit (.int
  .i64 0)), (.lit (.int .i64 0)), (.lit (.int .i64 0)), (.lit (.int .i64 0)), (.lit (.int .i64 0)), (.lit (.int .i64 0)), (.lit (.int .i64 0)), (.lit
  (.int .i64 0)), (.lit (.int .i64 0)), (.lit (.int .i64 0)), (.lit (.int .i64 0)), (.lit (.int .i64 0)), (.lit (.int .i64 0)), (.lit (.int .i64 0)),
  (.lit (.int .i64 0)), (.lit (.int .i64 0)), (.lit (.int .i64 0)), (.lit (.int .i64 0)), (.lit (.int .i64 0)), (.lit (.int .i64 0)), (.lit (.int .i64
  0)), (.lit (.int .i64 0)), (.lit (.int .i64 0)), (.lit (.int .i64 0)), (.lit (.int .i64 0)), (.lit (.int .i64 0)), (.lit (.int .i64 0)), (.lit (.int
  .i64 0)), (.lit (.int .i64 0)), (.lit (.int .i64 0)), (.lit (.int .i64 0)), (.lit (.int .i64 0)), (.lit (.int .i64 0)), (.lit (.int .i64 0)), (.lit
  (.int .i64 0)), (.lit (.int .i64 0)), (.lit (.int .i64 0)), (.lit (.int .i64 0)), (.lit (.int .i64 0)), (.lit (.int .i64 0)), (.lit (.int .i64 0)),
  (.lit (.int .i64 0)), (.lit (.int .i64 0)), (.lit (.int .i64 0)), (.lit (.int .i64 0)), (.lit (.int .i64 0)), (.lit (.int .i64 2)), (.lit (.int .i64
  2)), (.lit (.int .i64 1)), (.lit (.int .i64 0)), (.lit (.int .i64 0)), (.lit (.int .i64 0)), (.lit (.int .i64 0)), (.lit (.int .i64 0)), (.lit (.int
  .i64 0)), (.lit (.int .i64 0)), (.lit (.int .i64 0)), (.lit (.int .i64 0)), (.lit (.int .i64 0)), (.lit (.int .i64 0)), (.lit (.int .i64 0)), (.lit
  (.int .i64 0)), (.lit (.int .i64 0)), (.lit (.int .i64 0)), (.lit (.int .i64 0)), (.lit (.int .i64 0)), (.lit (.int .i64 0)), (.lit (.int .i64 0)),
  (.lit (.int .i64 0)), (.lit (.int .i64 0)), (.lit (.int .i64 0)), (.lit (.int .i64 0)), (.lit (.int .i64 0)), (.lit (.int .i64 0)), (.lit (.int .i64
  0)), (.lit (.int .i64 0)), (.lit (.int .i64 0)), (.lit (.int .i64 0)), (.lit (.int .i64 0)), (.lit (.int .i64 0)), (.lit (.int .i64 0)), (.lit (.int
  .i64 0)), (.lit (.int .i64 0)), (.lit (.int .i64 0)), (.lit (.int .i64 0)), (.lit (.int .i64 0)), (.lit (.int .i64 0)), (.lit (.int .i64 0)), (.lit
  (.int .i64 0)), (.lit (.int .i64 0)), (.lit (.int .i64 0)), (.lit (.int .i64 0)), (.lit (.int .i64 0)), (.lit (.int .i64 0)), (.lit (.int .i64 0)),
  (.lit (.int .i64 0)), (.lit (.int .i64 0)), (.lit (.int .i64 0)), (.lit (.int .i64 0)), (.lit (.int .i64 0)), (.lit (.int .i64 0)), (.lit (.int .i64
  0)), (.lit (.int .i64 0)), (.lit (.int .i64 0)), (.lit (.int .i64 0)), (.lit (.int .i64 0)), (.lit (.int .i64 0)), (.lit (.int .i64 0)), (.lit (.int
  .i64 0)), (.lit (.int .i64 0)), (.lit (.int .i64 0)), (.lit (.int .i64 0)), (.lit (.int .i64 0)), (.lit (.int .i64 0)), (.lit (.int .i64 0)), (.lit
  (.int .i64 0)), (.lit (.int .i64 0)), (.lit (.int .i64 0)), (.lit (.int .i64 0)), (.lit (.int .i64 0)), (.lit (.int .i64 0)), (.lit (.int .i64 0)),
  (.lit (.int .i64 0)), (.lit (.int .i64 0)), (.lit (.int .i64 0)), (.lit (.int .i64 0)), (.lit (.int .i64 0)), (.lit (.int .i64 0)), (.lit (.int .i64
  0)), (.lit (.int .i64 0)), (.lit (.int .i64 0)), (.lit (.int .i64 0)), (.lit (.int .i64 0)), (.lit (.int .i64 0)), (.lit (.int .i64 0)), (.lit (.int
  .i64 0)), (.lit (.int .i64 0)), (.lit (.int .i64 0)), (.lit (.int .i64 0)), (.lit (.int .i64 0)), (.lit (.int .i64 0)), (.lit (.int .i64 0)), (.lit
  (.int .i64 0)), (.lit (.int .i64 0)), (.lit (.int .i64 0)), (.lit (.int .i64 0)), (.lit (.int .i64 0)), (.lit (.int .i64 0)), (.lit (.int .i64 0)),
  (.lit (.int .i64 0)), (.lit (.int .i64 0)), (.lit (.int .i64 0)), (.lit (.int .i64 0)), (.lit (.int .i64 0)), (.lit (.int .i64 0)), (.lit (.int .i64
  0)), (.lit (.int .i64 0)), (.lit (.int .i64 0)), (.lit (.int .i64 0)), (.lit (.int .i64 0)), (.lit (.int .i64 0)), (.lit (.int .i64 0)), (.lit (.int
  .i64 0)), (.lit (.int .i64 0)), (.lit (.int .i64 0)), (.lit (.int .i64 0)), (.lit (.int .i64 0)), (.lit (.int .i64 0)), (.lit (.int .i64 0)), (.lit
  (.int .i64 0)), (.lit (.int .i64 0)), (.lit (.int .i64 0)), (.lit (.int .i64 0)), (.lit (.int .i64 0)), (.lit (.int .i64 0)), (.lit (.int .i64 0)),
  (.lit (.int .i64 0)), (.lit (.int .i64 0)), (.lit (.int .i64 0)), (.lit (.int .i64 0)), (.lit (.int .i64 0)), (.lit (.int .i64 0)), (.lit (.int .i64
  0)), (.lit (.int .i64 0)), (.lit (.int .i64 0)), (.lit (.int .i64 0)), (.lit (.int .i64 0)), (.lit (.int .i64 0)), (.lit (.int .i64 0)), (.lit (.int
  .i64 0)), (.lit (.int .i64 0)), (.lit (.int .i64 0)), (.lit (.int .i64 0)), (.lit (.int .i64 0)), (.lit (.int .i64 0)), (.lit (.int .i64 0)), (.lit
  (.int .i64 0)), (.lit (.int .i64 0)), (.lit (.int .i64 0)), (.lit (.int .i64 0)), (.lit (.int .i64 0)), (.lit (.int .i64 0)), (.lit (.int .i64 0)),
  (.lit (.int .i64 0)), (.lit (.int .i64 0))] 3 .false), (.row [(.lit (.int .u8 97)), (.lit (.int .u8 98)), (.lit (.int .u8 99))] 5 .true)], [], (.tup
  [(.lit (.slice .none 0 0)), (.lit (.int .i64 11))]), [(0, (.row [(.lit (.int .i64 0)), (.lit (.int .i64 0)), (.lit (.int .i64 0)), (.lit (.int .i64
  0)), (.lit (.int .i64 0)), (.lit (.int .i64 0)), (.lit (.int .i64 0)), (.lit (.int .i64 0)), (.lit (.int .i64 0)), (.lit (.int .i64 0)), (.lit (.int
  .i64 0)), (.lit (.int .i64 0)), (.lit (.int .i64 0)), (.lit (.int .i64 0)), (.lit (.int .i64 0)), (.lit (.int .i64 0)), (.lit (.int .i64 0)), (.lit
  (.int .i64 0)), (.lit (.int .i64 0)), (.lit (.int .i64 0)), (.lit (.int .i64 0)), (.lit (.int .i64 0)), (.lit (.int .i64 0)), (.lit (.int .i64 0)),
  (.lit (.int .i64 0)), (.lit (.int .i64 0)), (.lit (.int .i64 0)), (.lit (.int .i64 0)), (.lit (.int .i64 0)), (.lit (.int .i64 0)), (.lit (.int .i64
  0)), (.lit (.int .i64 0)), (.lit (.int .i64 0)), (.lit (.int .i64 0)), (.lit (.int .i64 0)), (.lit (.int .i64 0)), (.lit (.int .i64 0)), (.lit (.int
  .i64 0)), (.lit (.int .i64 0)), (.lit (.int .i64 0)), (.lit (.int .i64 0)), (.lit (.int .i64 0)), (.lit (.int .i64 0)), (.lit (.int .i64 0)), (.lit
  (.int .i64 0)), (.lit (.int .i64 0)), (.lit (.int .i64 0)), (.lit (.int .i64 0)), (.lit (.int .i64 0)), (.lit (.int .i64 0)), (.lit (.int .i64 0)),
  (.lit (.int .i64 0)), (.lit (.int .i64 0)), (.lit (.int .i64 0)), (.lit (.int .i64 0)), (.lit (.int .i64 0)), (.lit (.int .i64 0)), (.lit (.int .i64
  0)), (.lit (.int .i64 0)), (.lit (.int .i64 0)), (.lit (.int .i64 0)), (.lit (.int .i64 0)), (.lit (.int .i64 0)), (.lit (.int .i64 0)), (.lit (.int
  .i64 0)), (.lit (.int .i64 0)), (.lit (.int .i64 0)), (.lit (.int .i64 0)), (.lit (.int .i64 0)), (.lit (.int .i64 0)), (.lit (.int .i64 0)), (.lit
  (.int .i64 0)), (.lit (.int .i64 0)), (.lit (.int .i64 0)), (.lit (.int .i64 0)), (.lit (.int .i64 0)), (.lit (.int .i64 0)), (.lit (.int .i64 0)),
  (.lit (.int .i64 0)), (.lit (.int .i64 0)), (.lit (.int .i64 0)), (.lit (.int .i64 0)), (.lit (.int .i64 0)), (.lit (.int .i64 0)), (.lit (.int .i64
  0)), (.lit (.int .i64 0)), (.lit (.int .i64 0)), (.lit (.int .i64 0)), (.lit (.int .i64 0)), (.lit (.int .i64 0)), (.lit (.int .i64 0)), (.lit (.int
  .i64 0)), (.lit (.int .i64 0)), (.lit (.int .i64 0)), (.lit (.int .i64 0)), (.lit (.int .i64 0)), (.lit (.int .i64 0)), (.lit (.int .i64 2)), (.lit
  (.int .i64 2)), (.lit (.int .i64 1)), (.lit (.int .i64 0)), (.lit (.int .i64 0)), (.lit (.int .i64 0)), (.lit (.int .i64 0)), (.lit (.int .i64 0)),
  (.lit (.int .i64 0)), (.lit (.int .i64 0)), (.lit (.int .i64 0)), (.lit (.int .i64 0)), (.lit (.int .i64 0)), (.lit (.int .i64 0)), (.lit (.int .i64
  0)), (.lit (.int .i64 0)), (.lit (.int .i64 0)), (.lit (.int .i64 0)), (.lit (.int .i64 0)), (.lit (.int .i64 0)), (.lit (.int .i64 0)), (.lit (.int
  .i64 0)), (.lit (.int .i64 0)), (.lit (.int .i64 0)), (.lit (.int .i64 0)), (.lit (.int .i64 0)), (.lit (.int .i64 0)), (.lit (.int .i64 0)), (.lit
  (.int .i64 0)), (.lit (.int .i64 0)), (.lit (.int .i64 0)), (.lit (.int .i64 0)), (.lit (.int .i64 0)), (.lit (.int .i64 0)), (.lit (.int .i64 0)),
  (.lit (.int .i64 0)), (.lit (.int .i64 0)), (.lit (.int .i64 0)), (.lit (.int .i64 0)), (.lit (.int .i64 0)), (.lit (.int .i64 0)), (.lit (.int .i64
  0)), (.lit (.int .i64 0)), (.lit (.int .i64 0)), (.lit (.int .i64 0)), (.lit (.int .i64 0)), (.lit (.int .i64 0)), (.lit (.int .i64 0)), (.lit (.int
  .i64 0)), (.lit (.int .i64 0)), (.lit (.int .i64 0)), (.lit (.int .i64 0)), (.lit (.int .i64 0)), (.lit (.int .i64 0)), (.lit (.int .i64 0)), (.lit
  (.int .i64 0)), (.lit (.int .i64 0)), (.lit (.int .i64 0)), (.lit (.int .i64 0)), (.lit (.int .i64 0)), (.lit (.int .i64 0)), (.lit (.int .i64 0)),
  (.lit (.int .i64 0)), (.lit (.int .i64 0)), (.lit (.int .i64 0)), (.lit (.int .i64 0)), (.lit (.int .i64 0)), (.lit (.int .i64 0)), (.lit (.int .i64
  0)), (.lit (.int .i64 0)), (.lit (.int .i64 0)), (.lit (.int .i64 0)), (.lit (.int .i64 0)), (.lit (.int .i64 0)), (.lit (.int .i64 0)), (.lit (.int
  .i64 0)), (.lit (.int .i64 0)), (.lit (.int .i64 0)), (.lit (.int .i64 0)), (.lit (.int .i64 0)), (.lit (.int .i64 0)), (.lit (.int .i64 0)), (.lit
  (.int .i64 0)), (.lit (.int .i64 0)), (.lit (.int .i64 0)), (.lit (.int .i64 0)), (.lit (.int .i64 0)), (.lit (.int .i64 0)), (.lit (.int .i64 0)),
  (.lit (.int .i64 0)), (.lit (.int .i64 0)), (.lit (.int .i64 0)), (.lit (.int .i64 0)), (.lit (.int .i64 0)), (.lit (.int .i64 0)), (.lit (.int .i64
  0)), (.lit (.int .i64 0)), (.lit (.int .i64 0)), (.lit (.int .i64 0)), (.lit (.int .i64 0)), (.lit (.int .i64 0)), (.lit (.int .i64 0)), (.lit (.int
  .i64 0)), (.lit (.int .i64 0)), (.lit (.int .i64 0)), (.lit (.int .i64 0)), (.lit (.int .i64 0)), (.lit (.int .i64 0)), (.lit (.int .i64 0)), (.lit
  (.int .i64 0)), (.lit (.int .i64 0)), (.lit (.int .i64 0)), (.lit (.int .i64 0)), (.lit (.int .i64 0)), (.lit (.int .i64 0)), (.lit (.int .i64 0)),
  (.lit (.int .i64 0)), (.lit (.int .i64 0)), (.lit (.int .i64 0)), (.lit (.int .i64 0)), (.lit (.int .i64 0)), (.lit (.int .i64 0)), (.lit (.int .i64
  0)), (.lit (.int .i64 0)), (.lit (.int .i64 0)), (.lit (.int .i64 0)), (.lit (.int .i64 0)), (.lit (.int .i64 0)), (.lit (.int .i64 0)), (.lit (.int
  .i64 0)), (.lit (.int .i64 0)), (.lit (.int .i64 0)), (.lit (.int .i64 0)), (.lit (.int .i64 0)), (.lit (.int .i64 0)), (.lit (.int .i64 0)), (.lit
  (.int .i64 0)), (.lit (.int .i64 0)), (.lit (.int .i64 0)), (.lit (.int .i64 0)), (.lit (.int .i64 0)), (.lit (.int .i64 0)), (.lit (.int .i64 0)),
  (.lit (.int .i64 0)), (.lit (.int .i64 0)), (.lit (.int .i64 0)), (.lit (.int .i64 0)), (.lit (.int .i64 0)), (.lit (.int .i64 0)), (.lit (.int .i64
  0)), (.lit (.int .i64 0)), (.lit (.int .i64 0)), (.lit (.int .i64 0)), (.lit (.int .i64 0)), (.lit (.int .i64 0)), (.lit (.int .i64 0)), (.lit (.int
  .i64 0)), (.lit (.int .i64 0)), (.lit (.int .i64 0))] 3 .false)), (1, (.row [(.lit (.int .u8 97)), (.lit (.int .u8 98)), (.lit (.int .u8 99))] 5
  .true))], 5327⟩
noncomputable def cs19 : List Con := c19 :: cs18
theorem c19_ok {E : Nat → Option Value} {I : Interp} : ConGood E tb Tryz.prog I c19 := con_goodR (d := 80) tb_ok cs18_ok (by kernel_rfl)
theorem cs19_ok {E : Nat → Option Value} {I : Interp} : ∀ c ∈ cs19, ConGood E tb Tryz.prog I c := List.forall_mem_cons.2 ⟨c19_ok, cs18_ok⟩
noncomputable def c20 : Con :=
  ⟨157, [(.slc 0 0 100 100), (.slu 1 0 3 1), (.lit (.bool .true)), (.lit (.bool .false))], [(.row [(.lit (.int .i64 0)), (.lit (.int .i64 0)), (.lit
  (.int .i64 0)), (.lit (.int .i64 0)), (.lit (.int .i64 0)), (.lit (.int .i64 0)), (.lit (.int .i64 0)), (.lit (.int .i64 0)), (.lit (.int .i64 0)),
  (.lit (.int .i64 0)), (.lit (.int .i64 0)), (.lit (.int .i64 0)), (.lit (.int .i64 0)), (.lit (.int .i64 0)), (.lit (.int .i64 0)), (.lit (.int .i64
  0)), (.lit (.int .i64 0)), (.lit (.int .i64 0)), (.lit (.int .i64 0)), (.lit (.int .i64 0)), (.lit (.int .i64 0)), (.lit (.int .i64 0)), (.lit (.int
  .i64 0)), (.lit (.int .i64 0)), (.lit (.int .i64 0)), (.lit (.int .i64 0)), (.lit (.int .i64 0)), (.lit (.int .i64 0)), (.lit (.int .i64 0)), (.lit
  (.int .i64 0)), (.lit (.int .i64 0)), (.lit (.int .i64 0)), (.lit (.int .i64 0)), (.lit (.int .i64 0)), (.lit (.int .i64 0)), (.lit (.int .i64 0)),
  (.lit (.int .i64 0)), (.lit (.int .i64 0)), (.lit (.int .i64 0)), (.lit (.int .i64 0)), (.lit (.int .i64 0)), (.lit (.int .i64 0)), (.lit (.int .i64
  0)), (.lit (.int .i64 0)), (.lit (.int .i64 0)), (.lit (.int .i64 0)), (.lit (.int .i64 0)), (.lit (.int .i64 0)), (.lit (.int .i64 0)), (.lit (.int
  .i64 0)), (.lit (.int .i64 0)), (.lit (.int .i64 0)), (.lit (.int .i64 0)), (.lit (.int .i64 0)), (.lit (.int .i64 0)), (.lit (.int .i64 0)), (.lit
  (.int .i64 0)), (.lit (.int .i64 0)), (.lit (.int .i64 0)), (.lit (.int .i64 0)), (.lit (.int .i64 0)), (.lit (.int .i64 0)), (.lit (.int .i64 0)),
  (.lit (.int .i64 0)), (.lit (.int .i64 0)), (.lit (.int .i64 0)), (.lit (.int .i64 0)), (.lit (.int .i64 0)), (.lit (.int .i64 0)), (.lit (.int .i64
  0)), (.lit (.int .i64 0)), (.lit (.int .i64 0)), (.lit (.int .i64 0)), (.lit (.int .i64 0)), (.lit (.int .i64 0)), (.lit (.int .i64 0)), (.lit (.int
  .i64 0)), (.lit (.int .i64 0)), (.lit (.int .i64 0)), (.lit (.int .i64 0)), (.lit (.int .i64 0)), (.lit (.int .i64 0)), (.lit (.int .i64 0)), (.lit
  (.int .i64 0)), (.lit (.int .i64 0)), (.lit (.int .i64 0)), (.lit (.int .i64 0)), (.lit (.int .i64 0)), (.lit (.int .i64 0)), (.lit (.int .i64 0)),
  (.lit (.int .i64 0)), (.lit (.int .i64 0)), (.lit (.int .i64 0)), (.lit (.int .i64 0)), (.lit (.int .i64 0)), (.lit (.int .i64 0)), (.lit (.int .i64
  0)), (.lit (.int .i64 2)), (.lit (.int .i64 2)), (.lit (.int .i64 1)), (.lit (.int .i64 0)), (.lit (.int .i64 0)), (.lit (.int .i64 0)), (.lit (.int
  .i64 0)), (.lit (.int .i64 0)), (.lit (.int .i64 0)), (.lit (.int .i64 0)), (.lit (.int .i64 0)), (.lit (.int .i64 0)), (.lit (.int .i64 0)), (.lit
  (.int .i64 0)), (.lit (.int .i64 0)), (.lit (.int .i64 0)), (.lit (.int .i64 0)), (.lit (.int .i64 0)), (.lit (.int .i64 0)), (.lit (.int .i64 0)),
  (.lit (.int .i64 0)), (.lit (.int .i64 0)), (.lit (.int .i64 0)), (.lit (.int .i64 0)), (.lit (.int .i64 0)), (.lit (.int .i64 0)), (.lit (.int .i64
  0)), (.lit (.int .i64 0)), (.lit (.int .i64 0)), (.lit (.int .i64 0)), (.lit (.int .i64 0)), (.lit (.int .i64 0)), (.lit (.int .i64 0)), (.lit (.int
  .i64 0)), (.lit (.int .i64 0)), (.lit (.int .i64 0)), (.lit (.int .i64 0)), (.lit (.int .i64 0)), (.lit (.int .i64 0)), (.lit (.int .i64 0)), (.lit
  (.int .i64 0)), (.lit (.int .i64 0)), (.lit (.int .i64 0)), (.lit (.int .i64 0)), (.lit (.int .i64 0)), (.lit (.int .i64 0)), (.lit (.int .i64 0)),
  (.lit (.int .i64 0)), (.lit (.int .i64 0)), (.lit (.int .i64 0)), (.lit (.int .i64 0)), (.lit (.int .i64 0)), (.lit (.int .i64 0)), (.lit (.int .i64
  0)), (.lit (.int .i64 0)), (.lit (.int .i64 0)), (.lit (.int .i64 0)), (.lit (.int .i64 0)), (.lit (.int .i64 0)), (.lit (.int .i64 0)), (.lit (.int
  .i64 0)), (.lit (.int .i64 0)), (.lit (.int .i64 0)), (.lit (.int .i64 0)), (.lit (.int .i64 0)), (.lit (.int .i64 0)), (.lit (.int .i64 0)), (.lit
  (.int .i64 0)), (.lit (.int .i64 0)), (.lit (.int .i64 0)), (.lit (.int .i64 0)), (.lit (.int .i64 0)), (.lit (.int .i64 0)), (.lit (.int .i64 0)),
  (.lit (.int .i64 0)), (.lit (.int .i64 0)), (.lit (.int .i64 0)), (.lit (.int .i64 0)), (.lit (.int .i64 0)), (.lit (.int .i64 0)), (.lit (.int .i64
  0)), (.lit (.int .i64 0)), (.lit (.int .i64 0)), (.lit (.int .i64 0)), (.lit (.int .i64 0)), (.lit (.int .i64 0)), (.lit (.int .i64 0)), (.lit (.int
  .i64 0)), (.lit (.int .i64 0)), (.lit (.int .i64 0)), (.lit (.int .i64 0)), (.lit (.int .i64 0)), (.lit (.int .i64 0)), (.lit (.int .i64 0)), (.lit
  (.int .i64 0)), (.lit (.int .i64 0)), (.lit (.int .i64 0)), (.lit (.int .i64 0)), (.lit (.int .i64 0)), (.lit (.int .i64 0)), (.lit (.int .i64 0)),
  (.lit (.int .i64 0)), (.lit (.int .i64 0)), (.lit (.int .i64 0)), (.lit (.int .i64 0)), (.lit (.int .i64 0)), (.lit (.int .i64 0)), (.lit (.int .i64
  0)), (.lit (.int .i64 0)), (.lit (.int .i64 0)), (.lit (.int .i64 0)), (.lit (.int .i64 0)), (.lit (.int .i64 0)), (.lit (.int .i64 0)), (.lit (.int
  .i64 0)), (.lit (.int .i64 0)), (.lit (.int .i64 0)), (.lit (.int .i64 0)), (.lit (.int .i64 0)), (.lit (.int .i64 0)), (.lit (.int .i64 0)), (.lit
  (.int .i64 0)), (.lit (.int .i64 0)), (.lit (.int .i64 0)), (.lit (.int .i64 0)), (.lit (.int .i64 0)), (.lit (.int .i64 0)), (.lit (.int .i64 0)),
  (.lit (.int .i64 0)), (.lit (.int .i64 0)), (.lit (.int .i64 0)), (.lit (.int .i64 0)), (.lit (.int .i64 0)), (.lit (.int .i64 0)), (.lit (.int .i64
  0)), (.lit (.int .i64 0)), (.lit (.int .i64 0)), (.lit (.int .i64 0)), (.lit (.int .i64 0)), (.lit (.int .i64 0)), (.lit (.int .i64 0)), (.lit (.int
  .i64 0)), (.lit (.int .i64 0)), (.lit (.int .i64 0)), (.lit (.int .i64 0)), (.lit (.int .i64 0)), (.lit (.int .i64 0)), (.lit (.int .i64 0)), (.lit
  (.int .i64 0)), (.lit (.int .i64 0)), (.lit (.int .i64 0)), (.lit (.int .i64 0)), (.lit (.int .i64 0)), (.lit (.int .i64 0)), (.lit (.int .i64 0)),
  (.lit (.int .i64 0)), (.lit (.int .i64 0)), (.lit (.int .i64 0)), (.lit (.int .i64 0))] 3 .false), (.row [(.lit (.int .u8 97)), (.lit (.int .u8 98)),
  (.lit (.int .u8 99))] 5 .true)], [], (.tup [(.lit (.slice .none 0 0)), (.lit (.int .i64 11))]), [(0, (.row [(.lit (.int .i64 0)), (.lit (.int .i64
  0)), (.lit (.int .i64 0)), (.lit (.int .i64 0)), (.lit (.int .i64 0)), (.lit (.int .i64 0)), (.lit (.int .i64 0)), (.lit (.int .i64 0)), (.lit (.int
  .i64 0)), (.lit (.int .i64 0)), (.lit (.int .i64 0)), (.lit (.int .i64 0)), (.lit (.int .i64 0)), (.lit (.int .i64 0)), (.lit (.int .i64 0)), (.lit
  (.int .i64 0)), (.lit (.int .i64 0)), (.lit (.int .i64 0)), (.lit (.int .i64 0)), (.lit (.int .i64 0)), (.lit (.int .i64 0)), (.lit (.int .i64 0)),
  (.lit (.int .i64 0)), (.lit (.int .i64 0)), (.lit (.int .i64 0)), (.lit (.int .i64 0)), (.lit (.int .i64 0)), (.lit (.int .i64 0)), (.lit (.int .i64
  0)), (.lit (.int .i64 0)), (.lit (.int .i64 0)), (.lit (.int .i64 0)), (.lit (.int .i64 0)), (.lit (.int .i64 0)), (.lit (.int .i64 0)), (.lit (.int
  .i64 0)), (.lit (.int .i64 0)), (.lit (.int .i64 0)), (.lit (.int .i64 0)), (.lit (.int .i64 0)), (.lit (.int .i64 0)), (.lit (.int .i64 0)), (.lit
  (.int .i64 0)), (.lit (.int .i64 0)), (.lit (.int .i64 0)), (.lit (.int .i64 0)), (.lit (.int .i64 0)), (.lit (.int .i64 0)), (.lit (.int .i64 0)),
  (.lit (.int .i64 0)), (.lit (.int .i64 0)), (.lit (.int .i64 0)), (.lit (.int .i64 0)), (.lit (.int .i64 0)), (.lit (.int .i64 0)), (.lit (.int .i64
  0)), (.lit (.int .i64 0)), (.lit (.int .i64 0)), (.lit (.int .i64 0)), (.lit (.int .i64 0)), (.lit (.int .i64 0)), (.lit (.int .i64 0)), (.lit (.int
  .i64 0)), (.lit (.int .i64 0)), (.lit (.int .i64 0)), (.lit (.int .i64 0)), (.lit (.int .i64 0)), (.lit (.int .i64 0)), (.lit (.int .i64 0)), (.lit
  (.int .i64 0)), (.lit (.int .i64 0)), (.lit (.int .i64 0)), (.lit (.int .i64 0)), (.lit (.int .i64 0)), (.lit (.int .i64 0)), (.lit (.int .i64 0)),
  (.lit (.int .i64 0)), (.lit (.int .i64 0)), (.lit (.int .i64 0)), (.lit (.int .i64 0)), (.lit (.int .i64 0)), (.lit (.int .i64 0)), (.lit (.int .i64
  0)), (.lit (.int .i64 0)), (.lit (.int .i64 0)), (.lit (.int .i64 0)), (.lit (.int .i64 0)), (.lit (.int .i64 0)), (.lit (.int .i64 0)), (.lit (.int
  .i64 0)), (.lit (.int .i64 0)), (.lit (.int .i64 0)), (.lit (.int .i64 0)), (.lit (.int .i64 0)), (.lit (.int .i64 0)), (.lit (.int .i64 0)), (.lit
  (.int .i64 0)), (.lit (.int .i64 2)), (.lit (.int .i64 2)), (.lit (.int .i64 1)), (.lit (.int .i64 0)), (.lit (.int .i64 0)), (.lit (.int .i64 0)),
  (.lit (.int .i64 0)), (.lit (.int .i64 0)), (.lit (.int .i64 0)), (.lit (.int .i64 0)), (.lit (.int .i64 0)), (.lit (.int .i64 0)), (.lit (.int .i64
  0)), (.lit (.int .i64 0)), (.lit (.int .i64 0)), (.lit (.int .i64 0)), (.lit (.int .i64 0)), (.lit (.int .i64 0)), (.lit (.int .i64 0)), (.lit (.int
  .i64 0)), (.lit (.int .i64 0)), (.lit (.int .i64 0)), (.lit (.int .i64 0)), (.lit (.int .i64 0)), (.lit (.int .i64 0)), (.lit (.int .i64 0)), (.lit
  (.int .i64 0)), (.lit (.int .i64 0)), (.lit (.int .i64 0)), (.lit (.int .i64 0)), (.lit (.int .i64 0)), (.lit (.int .i64 0)), (.lit (.int .i64 0)),
  (.lit (.int .i64 0)), (.lit (.int .i64 0)), (.lit (.int .i64 0)), (.lit (.int .i64 0)), (.lit (.int .i64 0)), (.lit (.int .i64 0)), (.lit (.int .i64
  0)), (.lit (.int .i64 0)), (.lit (.int .i64 0)), (.lit (.int .i64 0)), (.lit (.int .i64 0)), (.lit (.int .i64 0)), (.lit (.int .i64 0)), (.lit (.int
  .i64 0)), (.lit (.int .i64 0)), (.lit (.int .i64 0)), (.lit (.int .i64 0)), (.lit (.int .i64 0)), (.lit (.int .i64 0)), (.lit (.int .i64 0)), (.lit
  (.int .i64 0)), (.lit (.int .i64 0)), (.lit (.int .i64 0)), (.lit (.int .i64 0)), (.lit (.int .i64 0)), (.lit (.int .i64 0)), (.lit (.int .i64 0)),
  (.lit (.int .i64 0)), (.lit (.int .i64 0)), (.lit (.int .i64 0)), (.lit (.int .i64 0)), (.lit (.int .i64 0)), (.lit (.int .i64 0)), (.lit (.int .i64
  0)), (.lit (.int .i64 0)), (.lit (.int .i64 0)), (.lit (.int .i64 0)), (.lit (.int .i64 0)), (.lit (.int .i64 0)), (.lit (.int .i64 0)), (.lit (.int
  .i64 0)), (.lit (.int .i64 0)), (.lit (.int .i64 0)), (.lit (.int .i64 0)), (.lit (.int .i64 0)), (.lit (.int .i64 0)), (.lit (.int .i64 0)), (.lit
  (.int .i64 0)), (.lit (.int .i64 0)), (.lit (.int .i64 0)), (.lit (.int .i64 0)), (.lit (.int .i64 0)), (.lit (.int .i64 0)), (.lit (.int .i64 0)),
  (.lit (.int .i64 0)), (.lit (.int .i64 0)), (.lit (.int .i64 0)), (.lit (.int .i64 0)), (.lit (.int .i64 0)), (.lit (.int .i64 0)), (.lit (.int .i64
  0)), (.lit (.int .i64 0)), (.lit (.int .i64 0)), (.lit (.int .i64 0)), (.lit (.int .i64 0)), (.lit (.int .i64 0)), (.lit (.int .i64 0)), (.lit (.int
  .i64 0)), (.lit (.int .i64 0)), (.lit (.int .i64 0)), (.lit (.int .i64 0)), (.lit (.int .i64 0)), (.lit (.int .i64 0)), (.lit (.int .i64 0)), (.lit
  (.int .i64 0)), (.lit (.int .i64 0)), (.lit (.int .i64 0)), (.lit (.int .i64 0)), (.lit (.int .i64 0)), (.lit (.int .i64 0)), (.lit (.int .i64 0)),
  (.lit (.int .i64 0)), (.lit (.int .i64 0)), (.lit (.int .i64 0)), (.lit (.int .i64 0)), (.lit (.int .i64 0)), (.lit (.int .i64 0)), (.lit (.int .i64
  0)), (.lit (.int .i64 0)), (.lit (.int .i64 0)), (.lit (.int .i64 0)), (.lit (.int .i64 0)), (.lit (.int .i64 0)), (.lit (.int .i64 0)), (.lit (.int
  .i64 0)), (.lit (.int .i64 0)), (.lit (.int .i64 0)), (.lit (.int .i64 0)), (.lit (.int .i64 0)), (.lit (.int .i64 0)), (.lit (.int .i64 0)), (.lit
  (.int .i64 0)), (.lit (.int .i64 0)), (.lit (.int .i64 0)), (.lit (.int .i64 0)), (.lit (.int .i64 0)), (.lit (.int .i64 0)), (.lit (.int .i64 0)),
  (.lit (.int .i64 0)), (.lit (.int .i64 0)), (.lit (.int .i64 0)), (.lit (.int .i64 0)), (.lit (.int .i64 0)), (.lit (.int .i64 0)), (.lit (.int .i64
  0)), (.lit (.int .i64 0)), (.lit (.int .i64 0)), (.lit (.int .i64 0)), (.lit (.int .i64 0)), (.lit (.int .i64 0)), (.lit (.int .i64 0)), (.lit (.int
  .i64 0)), (.lit (.int .i64 0)), (.lit (.int .i64 0)), (.lit (.int .i64 0)), (.lit (.int .i64 0))] 3 .false)), (1, (.row [(.lit (.int .u8 97)), (.lit
  (.int .u8 98)), (.lit (.int .u8 99))] 5 .true))], 11177⟩
noncomputable def cs20 : List Con := c20 :: cs19
theorem c20_ok {E : Nat → Option Value} {I : Interp} : ConGood E tb Tryz.prog I c20 := con_goodR (d := 80) tb_ok cs19_ok (by kernel_rfl)
theorem cs20_ok {E : Nat → Option Value} {I : Interp} : ∀ c ∈ cs20, ConGood E tb Tryz.prog I c := List.forall_mem_cons.2 ⟨c20_ok, cs19_ok⟩
noncomputable def c21 : Con :=
  ⟨157, [(.lit (.slice .none 0 0)), (.slu 0 0 3 1), (.lit (.bool .true)), (.lit (.bool .true))], [(.row [(.lit (.int .u8 97)), (.lit (.int .u8 98)),
  (.lit (.int .u8 99))] 5 .true)], [], (.tup [(.lit (.slice .none 0 0)), (.lit (.int .i64 12))]), [(0, (.row [(.lit (.int .u8 97)), (.lit (.int .u8
  98)), (.lit (.int .u8 99))] 5 .true))], 156⟩
noncomputable def cs21 : List Con := c21 :: cs20
theorem c21_ok {E : Nat → Option Value} {I : Interp} : ConGood E tb Tryz.prog I c21 := con_goodR (d := 80) tb_ok cs20_ok (by kernel_rfl)
theorem cs21_ok {E : Nat → Option Value} {I : Interp} : ∀ c ∈ cs21, ConGood E tb Tryz.prog I c := List.forall_mem_cons.2 ⟨c21_ok, cs20_ok⟩
noncomputable def c22 : Con :=
  ⟨117, [(.lit (.slice .none 0 0)), (.slu 0 0 3 1)], [(.row [(.lit (.int .u8 97)), (.lit (.int .u8 98)), (.lit (.int .u8 99))] 5 .true)], [], (.slu
  68816 0 2 5), [(0, (.row [(.lit (.int .u8 97)), (.lit (.int .u8 98)), (.lit (.int .u8 99))] 5 .true)), (154, (.row [(.lit (.int .u8 0)), (.lit (.int
  .u8 3)), (.lit (.int .u8 97)), (.lit (.int .u8 98)), (.lit (.int .u8 99))] 5 .true)), (13488, (.row [(.lit (.int .i64 0)), (.lit (.int .i64 0)), (.lit
  (.int .i64 0)), (.lit (.int .i64 0)), (.lit (.int .i64 0)), (.lit (.int .i64 0)), (.lit (.int .i64 0)), (.lit (.int .i64 0)), (.lit (.int .i64 0)),
  (.lit (.int .i64 0)), (.lit (.int .i64 0)), (.lit (.int .i64 0)), (.lit (.int .i64 0)), (.lit (.int .i64 0)), (.lit (.int .i64 0)), (.lit (.int .i64
  0)), (.lit (.int .i64 0)), (.lit (.int .i64 0)), (.lit (.int .i64 0)), (.lit (.int .i64 0)), (.lit (.int .i64 0)), (.lit (.int .i64 0)), (.lit (.int
  .i64 0)), (.lit (.int .i64 0)), (.lit (.int .i64 0)), (.lit (.int .i64 0)), (.lit (.int .i64 0)), (.lit (.int .i64 0)), (.lit (.int .i64 0)), (.lit
  (.int .i64 0)), (.lit (.int .i64 0)), (.lit (.int .i64 0)), (.lit (.int .i64 0)), (.lit (.int .i64 0)), (.lit (.int .i64 0)), (.lit (.int .i64 0)),
  (.lit (.int .i64 0)), (.lit (.int .i64 0)), (.lit (.int .i64 0)), (.lit (.int .i64 0)), (.lit (.int .i64 0)), (.lit (.int .i64 0)), (.lit (.int .i64
  0)), (.lit (.int .i64 0)), (.lit (.int .i64 0)), (.lit (.int .i64 0)), (.lit (.int .i64 0)), (.lit (.int .i64 0)), (.lit (.int .i64 0)), (.lit (.int
  .i64 0)), (.lit (.int .i64 0)), (.lit (.int .i64 0)), (.lit (.int .i64 0)), (.lit (.int .i64 0)), (.lit (.int .i64 0)), (.lit (.int .i64 0)), (.lit
  (.int .i64 0)), (.lit (.int .i64 0)), (.lit (.int .i64 0)), (.lit (.int .i64 0)), (.lit (.int .i64 0)), (.lit (.int .i64 0)), (.lit (.int .i64 0)),
  (.lit (.int .i64 0)), (.lit (.int .i64 0)), (.lit (.int .i64 0)), (.lit (.int .i64 0)), (.lit (.int .i64 0)), (.lit (.int .i64 0)), (.lit (.int .i64
  0)), (.lit (.int .i64 0)), (.lit (.int .i64 0)), (.lit (.int .i64 0)), (.lit (.int .i64 0)), (.lit (.int .i64 0)), (.lit (.int .i64 0)), (.lit (.int
  .i64 0)), (.lit (.int .i64 0)), (.lit (.int .i64 0)), (.lit (.int .i64 0)), (.lit (.int .i64 0)), (.lit (.int .i64 0)), (.lit (.int .i64 0)), (.lit
  (.int .i64 0)), (.lit (.int .i64 0)), (.lit (.int .i64 0)), (.lit (.int .i64 0)), (.lit (.int .i64 0)), (.lit (.int .i64 0)), (.lit (.int .i64 0)),
  (.lit (.int .i64 0)), (.lit (.int .i64 0)), (.lit (.int .i64 0)), (.lit (.int .i64 0)), (.lit (.int .i64 0)), (.lit (.int .i64 0)), (.lit (.int .i64
  0)), (.lit (.int .i64 2)), (.lit (.int .i64 2)), (.lit (.int .i64 1)), (.lit (.int .i64 0)), (.lit (.int .i64 0)), (.lit (.int .i64 0)), (.lit (.int
  .i64 0)), (.lit (.int .i64 0)), (.lit (.int .i64 0)), (.lit (.int .i64 0)), (.lit (.int .i64 0)), (.lit (.int .i64 0)), (.lit (.int .i64 0)), (.lit
  (.int .i64 0)), (.lit (.int .i64 0)), (.lit (.int .i64 0)), (.lit (.int .i64 0)), (.lit (.int .i64 0)), (.lit (.int .i64 0)), (.lit (.int .i64 0)),
  (.lit (.int .i64 0)), (.lit (.int .i64 0)), (.lit (.int .i64 0)), (.lit (.int .i64 0)), (.lit (.int .i64 0)), (.lit (.int .i64 0)), (.lit (.int .i64
  0)), (.lit (.int .i64 0)), (.lit (.int .i64 0)), (.lit (.int .i64 0)), (.lit (.int .i64 0)), (.lit (.int .i64 0)), (.lit (.int .i64 0)), (.lit (.int
  .i64 0)), (.lit (.int .i64 0)), (.lit (.int .i64 0)), (.lit (.int .i64 0)), (.lit (.int .i64 0)), (.lit (.int .i64 0)), (.lit (.int .i64 0)), (.lit
  (.int .i64 0)), (.lit (.int .i64 0)), (.lit (.int .i64 0)), (.lit (.int .i64 0)), (.lit (.int .i64 0)), (.lit (.int .i64 0)), (.lit (.int .i64 0)),
  (.lit (.int .i64 0)), (.lit (.int .i64 0)), (.lit (.int .i64 0)), (.lit (.int .i64 0)), (.lit (.int .i64 0)), (.lit (.int .i64 0)), (.lit (.int .i64
  0)), (.lit (.int .i64 0)), (.lit (.int .i64 0)), (.lit (.int .i64 0)), (.lit (.int .i64 0)), (.lit (.int .i64 0)), (.lit (.int .i64 0)), (.lit (.int
  .i64 0)), (.lit (.int .i64 0)), (.lit (.int .i64 0)), (.lit (.int .i64 0)), (.lit (.int .i64 0)), (.lit (.int .i64 0)), (.lit (.int .i64 0)), (.lit
  (.int .i64 0)), (.lit (.int .i64 0)), (.lit (.int .i64 0)), (.lit (.int .i64 0)), (.lit (.int .i64 0)), (.lit (.int .i64 0)), (.lit (.int .i64 0)),
  (.lit (.int .i64 0)), (.lit (.int .i64 0)), (.lit (.int .i64 0)), (.lit (.int .i64 0)), (.lit (.int .i64 0)), (.lit (.int .i64 0)), (.lit (.int .i64
  0)), (.lit (.int .i64 0)), (.lit (.int .i64 0)), (.lit (.int .i64 0)), (.lit (.int .i64 0)), (.lit (.int .i64 0)), (.lit (.int .i64 0)), (.lit (.int
  .i64 0)), (.lit (.int .i64 0)), (.lit (.int .i64 0)), (.lit (.int .i64 0)), (.lit (.int .i64 0)), (.lit (.int .i64 0)), (.lit (.int .i64 0)), (.lit
  (.int .i64 0)), (.lit (.int .i64 0)), (.lit (.int .i64 0)), (.lit (.int .i64 0)), (.lit (.int .i64 0)), (.lit (.int .i64 0)), (.lit (.int .i64 0)),
  (.lit (.int .i64 0)), (.lit (.int .i64 0)), (.lit (.int .i64 0)), (.lit (.int .i64 0)), (.lit (.int .i64 0)), (.lit (.int .i64 0)), (.lit (.int .i64
  0)), (.lit (.int .i64 0)), (.lit (.int .i64 0)), (.lit (.int .i64 0)), (.lit (.int .i64 0)), (.lit (.int .i64 0)), (.lit (.int .i64 0)), (.lit (.int
  .i64 0)), (.lit (.int .i64 0)), (.lit (.int .i64 0)), (.lit (.int .i64 0)), (.lit (.int .i64 0)), (.lit (.int .i64 0)), (.lit (.int .i64 0)), (.lit
  (.int .i64 0)), (.lit (.int .i64 0)), (.lit (.int .i64 0)), (.lit (.int .i64 0)), (.lit (.int .i64 0)), (.lit (.int .i64 0)), (.lit (.int .i64 0)),
  (.lit (.int .i64 0)), (.lit (.int .i64 0)), (.lit (.int .i64 0)), (.lit (.int .i64 0)), (.lit (.int .i64 0)), (.lit (.int .i64 0)), (.lit (.int .i64
  0)), (.lit (.int .i64 0)), (.lit (.int .i64 0)), (.lit (.int .i64 0)), (.lit (.int .i64 0)), (.lit (.int .i64 0)), (.lit (.int .i64 0)), (.lit (.int
  .i64 0)), (.lit (.int .i64 0)), (.lit (.int .i64 0)), (.lit (.int .i64 0)), (.lit (.int .i64 0)), (.lit (.int .i64 0)), (.lit (.int .i64 0)), (.lit
  (.int .i64 0)), (.lit (.int .i64 0)), (.lit (.int .i64 0)), (.lit (.int .i64 0)), (.lit (.int .i64 0)), (.lit (.int .i64 0)), (.lit (.int .i64 0)),
  (.lit (.int .i64 0)), (.lit (.int .i64 0)), (.lit (.int .i64 0)), (.lit (.int .i64 0))] 3 .false)), (68785, (.row [(.lit (.int .u8 2)), (.lit (.int
  .u8 3)), (.lit (.int .u8 8)), (.lit (.int .u8 99)), (.lit (.int .u8 1)), (.lit (.int .u8 245)), (.lit (.int .u8 27)), (.lit (.int .u8 2)), (.lit (.int
  .u8 131)), (.lit (.int .u8 98)), (.lit (.int .u8 54))] 5 .true)), (68816, (.row [(.lit (.int .i64 0)), (.lit (.bool .false)), (.lit (.int .i64 3)),
  (.slu 154 0 5 1), (.lit (.slice .none 0 0)), (.lit (.int .i64 2)), (.lit (.bool .false)), (.lit (.int .i64 3)), (.slu 68785 0 11 1), (.slc 13488 0 100
  100)] 211 .true))], 80364⟩
noncomputable def cs22 : List Con := c22 :: cs21
theorem c22_ok {E : Nat → Option Value} {I : Interp} : ConGood E tb Tryz.prog I c22 := con_goodR (d := 80) tb_ok cs21_ok (by kernel_rfl)
theorem cs22_ok {E : Nat → Option Value} {I : Interp} : ∀ c ∈ cs22, ConGood E tb Tryz.prog I c := List.forall_mem_cons.2 ⟨c22_ok, cs21_ok⟩
noncomputable def c23 : Con :=
  ⟨98, [(.lit (.slice .none 0 0)), (.slu 0 0 3 1)], [(.row [(.lit (.int .u8 97)), (.lit (.int .u8 98)), (.lit (.int .u8 99))] 5 .true)], [], (.tup
  [(.slu 158 0 5 1), (.lit (.slice .none 0 0))]), [(0, (.row [(.lit (.int .u8 97)), (.lit (.int .u8 98)), (.lit (.int .u8 99))] 5 .true)), (158, (.row
  [(.lit (.int .u8 0)), (.lit (.int .u8 3)), (.lit (.int .u8 97)), (.lit (.int .u8 98)), (.lit (.int .u8 99))] 5 .true))], 80428⟩
noncomputable def cs23 : List Con := c23 :: cs22
theorem c23_ok {E : Nat → Option Value} {I : Interp} : ConGood E tb Tryz.prog I c23 := con_goodR (d := 80) tb_ok cs22_ok (by kernel_rfl)
theorem cs23_ok {E : Nat → Option Value} {I : Interp} : ∀ c ∈ cs23, ConGood E tb Tryz.prog I c := List.forall_mem_cons.2 ⟨c23_ok, cs22_ok⟩
noncomputable def c24 : Con :=
  ⟨123, [(.agg [(.lit (.slice .none 0 0)), (.lit (.int .i64 0)), (.lit (.slice .none 0 0)), (.lit (.int .i64 0)), (.lit (.slice .none 0 0)), (.lit (.int
  .i64 0)), (.lit (.slice .none 0 0)), (.lit (.int .i64 1)), (.lit (.int .i64 4)), (.lit (.int .i64 8))])], [], [], (.agg [(.lit (.int .i64 0)), (.lit
  (.slice .none 0 0)), (.lit (.int .i64 0)), (.lit (.slice .none 0 0)), (.lit (.int .i64 0)), (.lit (.slice .none 0 0))]), [], 10⟩
noncomputable def cs24 : List Con := c24 :: cs23
theorem c24_ok {E : Nat → Option Value} {I : Interp} : ConGood E tb Tryz.prog I c24 := con_goodR (d := 80) tb_ok cs23_ok (by kernel_rfl)
theorem cs24_ok {E : Nat → Option Value} {I : Interp} : ∀ c ∈ cs24, ConGood E tb Tryz.prog I c := List.forall_mem_cons.2 ⟨c24_ok, cs23_ok⟩
noncomputable def c25 : Con :=
  ⟨99, [(.agg [(.lit (.slice .none 0 0)), (.lit (.int .i64 0)), (.lit (.slice .none 0 0)), (.lit (.int .i64 0)), (.lit (.slice .none 0 0)), (.lit (.int
  .i64 0)), (.lit (.slice .none 0 0)), (.lit (.int .i64 1)), (.lit (.int .i64 4)), (.lit (.int .i64 8))]), (.lit (.slice .none 0 0))], [], [], (.tup
  [(.slu 149 0 1 1), (.agg [(.lit (.slice .none 0 0)), (.lit (.int .i64 0)), (.lit (.slice .none 0 0)), (.lit (.int .i64 0)), (.lit (.slice .none 0 0)),
  (.lit (.int .i64 0)), (.lit (.slice .none 0 0)), (.lit (.int .i64 1)), (.lit (.int .i64 4)), (.lit (.int .i64 8))]), (.lit (.int .i64 0))]), [(149,
  (.row [(.lit (.int .u8 0))] 5 .true))], 248⟩
noncomputable def cs25 : List Con := c25 :: cs24
theorem c25_ok {E : Nat → Option Value} {I : Interp} : ConGood E tb Tryz.prog I c25 := con_goodR (d := 80) tb_ok cs24_ok (by kernel_rfl)
theorem cs25_ok {E : Nat → Option Value} {I : Interp} : ∀ c ∈ cs25, ConGood E tb Tryz.prog I c := List.forall_mem_cons.2 ⟨c25_ok, cs24_ok⟩
noncomputable def c26 : Con :=
  ⟨70, [(.agg [(.lit (.slice .none 0 0)), (.lit (.int .i64 0)), (.lit (.slice .none 0 0)), (.lit (.int .i64 0)), (.lit (.slice .none 0 0)), (.lit (.int
  .i64 0)), (.lit (.slice .none 0 0)), (.lit (.int .i64 1)), (.lit (.int .i64 4)), (.lit (.int .i64 8))]), (.lit (.slice .none 0 0)), (.lit (.slice
  .none 0 0)), (.slu 0 0 3 1), (.lit (.int .i64 1024)), (.lit (.bool .false))], [(.row [(.lit (.int .u8 97)), (.lit (.int .u8 98)), (.lit (.int .u8
  99))] 5 .true)], [], (.tup [(.slu 301 0 6 1), (.agg [(.lit (.slice .none 0 0)), (.lit (.int .i64 0)), (.lit (.slice .none 0 0)), (.lit (.int .i64 0)),
  (.lit (.slice .none 0 0)), (.lit (.int .i64 0)), (.lit (.slice .none 0 0)), (.lit (.int .i64 1)), (.lit (.int .i64 4)), (.lit (.int .i64 8))]), (.lit
  (.int .i64 0))]), [(0, (.row [(.lit (.int .u8 97)), (.lit (.int .u8 98)), (.lit (.int .u8 99))] 5 .true)), (301, (.row [(.lit (.int .u8 24)), (.lit
  (.int .u8 0)), (.lit (.int .u8 0)), (.lit (.int .u8 97)), (.lit (.int .u8 98)), (.lit (.int .u8 99))] 5 .true))], 81266⟩
noncomputable def cs26 : List Con := c26 :: cs25
theorem c26_ok {E : Nat → Option Value} {I : Interp} : ConGood E tb Tryz.prog I c26 := con_goodR (d := 80) tb_ok cs25_ok (by kernel_rfl)
theorem cs26_ok {E : Nat → Option Value} {I : Interp} : ∀ c ∈ cs26, ConGood E tb Tryz.prog I c := List.forall_mem_cons.2 ⟨c26_ok, cs25_ok⟩
noncomputable def c27 : Con :=
  ⟨64, [(.agg [(.lit (.slice .none 0 0)), (.lit (.int .i64 0)), (.lit (.slice .none 0 0)), (.lit (.int .i64 0)), (.lit (.slice .none 0 0)), (.lit (.int
  .i64 0)), (.lit (.slice .none 0 0)), (.lit (.int .i64 1)), (.lit (.int .i64 4)), (.lit (.int .i64 8))]), (.lit (.slice .none 0 0)), (.agg [(.lit (.int
  .i64 1024)), (.lit (.int .i64 0)), (.lit (.int .i64 0)), (.lit (.bool .false)), (.lit (.bool .false)), (.lit (.int .i64 0))]), (.slu 0 0 3 1), (.lit
  (.bool .false))], [(.row [(.lit (.int .u8 97)), (.lit (.int .u8 98)), (.lit (.int .u8 99))] 5 .true)], [], (.agg [(.slu 344 0 6 1), (.lit (.slice
  .none 0 0)), (.lit (.int .i64 0)), (.lit (.slice .none 0 0)), (.lit (.int .i64 0)), (.lit (.slice .none 0 0)), (.lit (.int .i64 0)), (.lit (.slice
  .none 0 0)), (.lit (.int .i64 1)), (.lit (.int .i64 4)), (.lit (.int .i64 8))]), [(0, (.row [(.lit (.int .u8 97)), (.lit (.int .u8 98)), (.lit (.int
  .u8 99))] 5 .true)), (344, (.row [(.lit (.int .u8 24)), (.lit (.int .u8 0)), (.lit (.int .u8 0)), (.lit (.int .u8 97)), (.lit (.int .u8 98)), (.lit
  (.int .u8 99))] 5 .true))], 81315⟩
noncomputable def cs27 : List Con := c27 :: cs26
theorem c27_ok {E : Nat → Option Value} {I : Interp} : ConGood E tb Tryz.prog I c27 := con_goodR (d := 80) tb_ok cs26_ok (by kernel_rfl)
theorem cs27_ok {E : Nat → Option Value} {I : Interp} : ∀ c ∈ cs27, ConGood E tb Tryz.prog I c := List.forall_mem_cons.2 ⟨c27_ok, cs26_ok⟩
noncomputable def c28 : Con :=
  ⟨65, [(.slu 0 0 3 1), (.lit (.int .i64 1024))], [(.row [(.lit (.int .u8 97)), (.lit (.int .u8 98)), (.lit (.int .u8 99))] 5 .true)], [], (.lit (.slice
  .none 0 0)), [(0, (.row [(.lit (.int .u8 97)), (.lit (.int .u8 98)), (.lit (.int .u8 99))] 5 .true))], 14606⟩
noncomputable def cs28 : List Con := c28 :: cs27
theorem c28_ok {E : Nat → Option Value} {I : Interp} : ConGood E tb Tryz.prog I c28 := con_goodR (d := 80) tb_ok cs27_ok (by kernel_rfl)
theorem cs28_ok {E : Nat → Option Value} {I : Interp} : ∀ c ∈ cs28, ConGood E tb Tryz.prog I c := List.forall_mem_cons.2 ⟨c28_ok, cs27_ok⟩
noncomputable def c29 : Con :=
  ⟨29, [(.agg [(.lit (.slice .none 0 0)), (.lit (.int .i64 0)), (.lit (.slice .none 0 0)), (.lit (.int .i64 0)), (.lit (.slice .none 0 0)), (.lit (.int
  .i64 0)), (.lit (.slice .none 0 0)), (.lit (.int .i64 1)), (.lit (.int .i64 4)), (.lit (.int .i64 8))]), (.lit (.slice .none 0 0)), (.agg [(.lit (.int
  .i64 1024)), (.lit (.int .i64 0)), (.lit (.int .i64 0)), (.lit (.bool .false)), (.lit (.bool .false)), (.lit (.int .i64 0))]), (.slu 0 0 3 1), (.lit
  (.bool .false))], [(.row [(.lit (.int .u8 97)), (.lit (.int .u8 98)), (.lit (.int .u8 99))] 5 .true)], [], (.tup [(.slu 96174 0 6 1), (.agg [(.lit
  (.slice .none 0 0)), (.lit (.int .i64 0)), (.lit (.slice .none 0 0)), (.lit (.int .i64 0)), (.lit (.slice .none 0 0)), (.lit (.int .i64 0)), (.lit
  (.slice .none 0 0)), (.lit (.int .i64 1)), (.lit (.int .i64 4)), (.lit (.int .i64 8))]), (.lit (.int .i64 0))]), [(0, (.row [(.lit (.int .u8 97)),
  (.lit (.int .u8 98)), (.lit (.int .u8 99))] 5 .true)), (96174, (.row [(.lit (.int .u8 24)), (.lit (.int .u8 0)), (.lit (.int .u8 0)), (.lit (.int .u8
  97)), (.lit (.int .u8 98)), (.lit (.int .u8 99))] 5 .true))], 96290⟩
noncomputable def cs29 : List Con := c29 :: cs28
theorem c29_ok {E : Nat → Option Value} {I : Interp} : ConGood E tb Tryz.prog I c29 := con_goodR (d := 80) tb_ok cs28_ok (by kernel_rfl)
theorem cs29_ok {E : Nat → Option Value} {I : Interp} : ∀ c ∈ cs29, ConGood E tb Tryz.prog I c := List.forall_mem_cons.2 ⟨c29_ok, cs28_ok⟩
noncomputable def c30 : Con :=
  ⟨6, [(.ptr 0 0)], [(.row [(.lit (.slice .none 0 0)), (.lit (.int .i64 0)), (.lit (.slice .none 0 0)), (.lit (.int .i64 0)), (.lit (.slice .none 0 0)),
  (.lit (.int .i64 0)), (.lit (.slice .none 0 0)), (.lit (.int .i64 1)), (.lit (.int .i64 4)), (.lit (.int .i64 8)), (.lit (.slice .none 0 0)), (.slu 1
  0 3 1), (.lit (.int .u64 0)), (.lit (.int .i64 3)), (.lit (.int .u8 97)), (.lit (.int .u8 98)), (.lit (.int .u8 99)), (.lit (.int .u8 0)), (.lit (.int
  .u8 0)), (.lit (.int .u8 0)), (.lit (.int .u8 0)), (.lit (.int .u8 0)), (.lit (.int .i64 3)), (.lit (.pointer .none)), (.lit (.int .i64 1024)), (.lit
  (.int .i64 0)), (.lit (.int .i64 0)), (.lit (.bool .false)), (.lit (.bool .false)), (.lit (.int .i64 0)), (.lit (.bool .true)), (.lit (.bool .true)),
  (.lit (.bool .true)), (.lit (.bool .false)), (.lit (.int .i64 3)), (.lit (.int .i64 6))] 42 .false), (.row [(.lit (.int .u8 97)), (.lit (.int .u8
  98)), (.lit (.int .u8 99))] 5 .true)], [], (.tup [(.slu 96252 0 6 1), (.lit (.int .i64 0))]), [(0, (.row [(.lit (.slice .none 0 0)), (.lit (.int .i64
  0)), (.lit (.slice .none 0 0)), (.lit (.int .i64 0)), (.lit (.slice .none 0 0)), (.lit (.int .i64 0)), (.lit (.slice .none 0 0)), (.lit (.int .i64
  1)), (.lit (.int .i64 4)), (.lit (.int .i64 8)), (.slu 96467 0 3 1), (.slc 96501 0 0 0), (.lit (.int .u64 0)), (.lit (.int .i64 3)), (.lit (.int .u8
  97)), (.lit (.int .u8 98)), (.lit (.int .u8 99)), (.lit (.int .u8 0)), (.lit (.int .u8 0)), (.lit (.int .u8 0)), (.lit (.int .u8 0)), (.lit (.int .u8
  0)), (.lit (.int .i64 3)), (.lit (.pointer .none)), (.lit (.int .i64 1024)), (.lit (.int .i64 0)), (.lit (.int .i64 0)), (.lit (.bool .false)), (.lit
  (.bool .false)), (.lit (.int .i64 0)), (.lit (.bool .true)), (.lit (.bool .true)), (.lit (.bool .true)), (.lit (.bool .false)), (.lit (.int .i64 3)),
  (.lit (.int .i64 12))] 42 .false)), (1, (.row [(.lit (.int .u8 97)), (.lit (.int .u8 98)), (.lit (.int .u8 99))] 5 .true)), (96252, (.row [(.lit (.int
  .u8 24)), (.lit (.int .u8 0)), (.lit (.int .u8 0)), (.lit (.int .u8 97)), (.lit (.int .u8 98)), (.lit (.int .u8 99))] 5 .true)), (96467, (.row [(.lit
  (.int .u8 97)), (.lit (.int .u8 98)), (.lit (.int .u8 99))] 5 .true)), (96501, (.row [] 5 .false))], 96530⟩
noncomputable def cs30 : List Con := c30 :: cs29
theorem c30_ok {E : Nat → Option Value} {I : Interp} : ConGood E tb Tryz.prog I c30 := con_goodR (d := 80) tb_ok cs29_ok (by kernel_rfl)
theorem cs30_ok {E : Nat → Option Value} {I : Interp} : ∀ c ∈ cs30, ConGood E tb Tryz.prog I c := List.forall_mem_cons.2 ⟨c30_ok, cs29_ok⟩
noncomputable def c31 : Con :=
  ⟨71, [(.slu 0 0 3 1), (.agg [(.lit (.int .i64 1024)), (.lit (.int .i64 0)), (.lit (.int .i64 0)), (.lit (.bool .false)), (.lit (.bool .false)), (.lit
  (.int .i64 0))]), (.slc 1 0 0 0)], [(.row [(.lit (.int .u8 97)), (.lit (.int .u8 98)), (.lit (.int .u8 99))] 5 .true), (.row [] 5 .false)], [], (.lit
  (.slice .none 0 0)), [(0, (.row [(.lit (.int .u8 97)), (.lit (.int .u8 98)), (.lit (.int .u8 99))] 5 .true)), (1, (.row [] 5 .false))], 23⟩
noncomputable def cs31 : List Con := c31 :: cs30
theorem c31_ok {E : Nat → Option Value} {I : Interp} : ConGood E tb Tryz.prog I c31 := con_goodR (d := 80) tb_ok cs30_ok (by kernel_rfl)
theorem cs31_ok {E : Nat → Option Value} {I : Interp} : ∀ c ∈ cs31, ConGood E tb Tryz.prog I c := List.forall_mem_cons.2 ⟨c31_ok, cs30_ok⟩
noncomputable def c32 : Con :=
  ⟨181, [(.slc 0 0 1 1)], [(.row [(.lit (.slice .none 0 0))] 22 .false)], [], (.slc 2 0 256 256), [(0, (.row [(.lit (.slice .none 0 0))] 22 .false)),
  (2, (.row [(.lit (.int .i64 0)), (.lit (.int .i64 0)), (.lit (.int .i64 0)), (.lit (.int .i64 0)), (.lit (.int .i64 0)), (.lit (.int .i64 0)), (.lit
  (.int .i64 0)), (.lit (.int .i64 0)), (.lit (.int .i64 0)), (.lit (.int .i64 0)), (.lit (.int .i64 0)), (.lit (.int .i64 0)), (.lit (.int .i64 0)),
  (.lit (.int .i64 0)), (.lit (.int .i64 0)), (.lit (.int .i64 0)), (.lit (.int .i64 0)), (.lit (.int .i64 0)), (.lit (.int .i64 0)), (.lit (.int .i64
  0)), (.lit (.int .i64 0)), (.lit (.int .i64 0)), (.lit (.int .i64 0)), (.lit (.int .i64 0)), (.lit (.int .i64 0)), (.lit (.int .i64 0)), (.lit (.int
  .i64 0)), (.lit (.int .i64 0)), (.lit (.int .i64 0)), (.lit (.int .i64 0)), (.lit (.int .i64 0)), (.lit (.int .i64 0)), (.lit (.int .i64 0)), (.lit
  (.int .i64 0)), (.lit (.int .i64 0)), (.lit (.int .i64 0)), (.lit (.int .i64 0)), (.lit (.int .i64 0)), (.lit (.int .i64 0)), (.lit (.int .i64 0)),
  (.lit (.int .i64 0)), (.lit (.int .i64 0)), (.lit (.int .i64 0)), (.lit (.int .i64 0)), (.lit (.int .i64 0)), (.lit (.int .i64 0)), (.lit (.int .i64
  0)), (.lit (.int .i64 0)), (.lit (.int .i64 0)), (.lit (.int .i64 0)), (.lit (.int .i64 0)), (.lit (.int .i64 0)), (.lit (.int .i64 0)), (.lit (.int
  .i64 0)), (.lit (.int .i64 0)), (.lit (.int .i64 0)), (.lit (.int .i64 0)), (.lit (.int .i64 0)), (.lit (.int .i64 0)), (.lit (.int .i64 0)), (.lit
  (.int .i64 0)), (.lit (.int .i64 0)), (.lit (.int .i64 0)), (.lit (.int .i64 0)), (.lit (.int .i64 0)), (.lit (.int .i64 0)), (.lit (.int .i64 0)),
  (.lit (.int .i64 0)), (.lit (.int .i64 0)), (.lit (.int .i64 0)), (.lit (.int .i64 0)), (.lit (.int .i64 0)), (.lit (.int .i64 0)), (.lit (.int .i64
  0)), (.lit (.int .i64 0)), (.lit (.int .i64 0)), (.lit (.int .i64 0)), (.lit (.int .i64 0)), (.lit (.int .i64 0)), (.lit (.int .i64 0)), (.lit (.int
  .i64 0)), (.lit (.int .i64 0)), (.lit (.int .i64 0)), (.lit (.int .i64 0)), (.lit (.int .i64 0)), (.lit (.int .i64 0)), (.lit (.int .i64 0)), (.lit
  (.int .i64 0)), (.lit (.int .i64 0)), (.lit (.int .i64 0)), (.lit (.int .i64 0)), (.lit (.int .i64 0)), (.lit (.int .i64 0)), (.lit (.int .i64 0)),
  (.lit (.int .i64 0)), (.lit (.int .i64 0)), (.lit (.int .i64 0)), (.lit (.int .i64 0)), (.lit (.int .i64 0)), (.lit (.int .i64 0)), (.lit (.int .i64
  0)), (.lit (.int .i64 0)), (.lit (.int .i64 0)), (.lit (.int .i64 0)), (.lit (.int .i64 0)), (.lit (.int .i64 0)), (.lit (.int .i64 0)), (.lit (.int
  .i64 0)), (.lit (.int .i64 0)), (.lit (.int .i64 0)), (.lit (.int .i64 0)), (.lit (.int .i64 0)), (.lit (.int .i64 0)), (.lit (.int .i64 0)), (.lit
  (.int .i64 0)), (.lit (.int .i64 0)), (.lit (.int .i64 0)), (.lit (.int .i64 0)), (.lit (.int .i64 0)), (.lit (.int .i64 0)), (.lit (.int .i64 0)),
  (.lit (.int .i64 0)), (.lit (.int .i64 0)), (.lit (.int .i64 0)), (.lit (.int .i64 0)), (.lit (.int .i64 0)), (.lit (.int .i64 0)), (.lit (.int .i64
  0)), (.lit (.int .i64 0)), (.lit (.int .i64 0)), (.lit (.int .i64 0)), (.lit (.int .i64 0)), (.lit (.int .i64 0)), (.lit (.int .i64 0)), (.lit (.int
  .i64 0)), (.lit (.int .i64 0)), (.lit (.int .i64 0)), (.lit (.int .i64 0)), (.lit (.int .i64 0)), (.lit (.int .i64 0)), (.lit (.int .i64 0)), (.lit
  (.int .i64 0)), (.lit (.int .i64 0)), (.lit (.int .i64 0)), (.lit (.int .i64 0)), (.lit (.int .i64 0)), (.lit (.int .i64 0)), (.lit (.int .i64 0)),
  (.lit (.int .i64 0)), (.lit (.int .i64 0)), (.lit (.int .i64 0)), (.lit (.int .i64 0)), (.lit (.int .i64 0)), (.lit (.int .i64 0)), (.lit (.int .i64
  0)), (.lit (.int .i64 0)), (.lit (.int .i64 0)), (.lit (.int .i64 0)), (.lit (.int .i64 0)), (.lit (.int .i64 0)), (.lit (.int .i64 0)), (.lit (.int
  .i64 0)), (.lit (.int .i64 0)), (.lit (.int .i64 0)), (.lit (.int .i64 0)), (.lit (.int .i64 0)), (.lit (.int .i64 0)), (.lit (.int .i64 0)), (.lit
  (.int .i64 0)), (.lit (.int .i64 0)), (.lit (.int .i64 0)), (.lit (.int .i64 0)), (.lit (.int .i64 0)), (.lit (.int .i64 0)), (.lit (.int .i64 0)),
  (.lit (.int .i64 0)), (.lit (.int .i64 0)), (.lit (.int .i64 0)), (.lit (.int .i64 0)), (.lit (.int .i64 0)), (.lit (.int .i64 0)), (.lit (.int .i64
  0)), (.lit (.int .i64 0)), (.lit (.int .i64 0)), (.lit (.int .i64 0)), (.lit (.int .i64 0)), (.lit (.int .i64 0)), (.lit (.int .i64 0)), (.lit (.int
  .i64 0)), (.lit (.int .i64 0)), (.lit (.int .i64 0)), (.lit (.int .i64 0)), (.lit (.int .i64 0)), (.lit (.int .i64 0)), (.lit (.int .i64 0)), (.lit
  (.int .i64 0)), (.lit (.int .i64 0)), (.lit (.int .i64 0)), (.lit (.int .i64 0)), (.lit (.int .i64 0)), (.lit (.int .i64 0)), (.lit (.int .i64 0)),
  (.lit (.int .i64 0)), (.lit (.int .i64 0)), (.lit (.int .i64 0)), (.lit (.int .i64 0)), (.lit (.int .i64 0)), (.lit (.int .i64 0)), (.lit (.int .i64
  0)), (.lit (.int .i64 0)), (.lit (.int .i64 0)), (.lit (.int .i64 0)), (.lit (.int .i64 0)), (.lit (.int .i64 0)), (.lit (.int .i64 0)), (.lit (.int
  .i64 0)), (.lit (.int .i64 0)), (.lit (.int .i64 0)), (.lit (.int .i64 0)), (.lit (.int .i64 0)), (.lit (.int .i64 0)), (.lit (.int .i64 0)), (.lit
  (.int .i64 0)), (.lit (.int .i64 0)), (.lit (.int .i64 0)), (.lit (.int .i64 0)), (.lit (.int .i64 0)), (.lit (.int .i64 0)), (.lit (.int .i64 0)),
  (.lit (.int .i64 0)), (.lit (.int .i64 0)), (.lit (.int .i64 0)), (.lit (.int .i64 0)), (.lit (.int .i64 0)), (.lit (.int .i64 0)), (.lit (.int .i64
  0)), (.lit (.int .i64 0)), (.lit (.int .i64 0)), (.lit (.int .i64 0)), (.lit (.int .i64 0)), (.lit (.int .i64 0)), (.lit (.int .i64 0)), (.lit (.int
  .i64 0)), (.lit (.int .i64 0)), (.lit (.int .i64 0)), (.lit (.int .i64 0)), (.lit (.int .i64 0)), (.lit (.int .i64 0)), (.lit (.int .i64 0)), (.lit
  (.int .i64 0)), (.lit (.int .i64 0)), (.lit (.int .i64 0)), (.lit (.int .i64 0)), (.lit (.int .i64 0)), (.lit (.int .i64 0)), (.lit (.int .i64 0))]
  164 .false))], 19⟩
noncomputable def cs32 : List Con := c32 :: cs31
theorem c32_ok {E : Nat → Option Value} {I : Interp} : ConGood E tb Tryz.prog I c32 := con_goodR (d := 80) tb_ok cs31_ok (by kernel_rfl)
theorem cs32_ok {E : Nat → Option Value} {I : Interp} : ∀ c ∈ cs32, ConGood E tb Tryz.prog I c := List.forall_mem_cons.2 ⟨c32_ok, cs31_ok⟩
noncomputable def c33 : Con :=
  ⟨202, [(.slc 0 0 256 256), (.lit (.int .i64 11))], [(.row [(.lit (.int .i64 0)), (.lit (.int .i64 0)), (.lit (.int .i64 0)), (.lit (.int .i64 0)),
  (.lit (.int .i64 0)), (.lit (.int .i64 0)), (.lit (.int .i64 0)), (.lit (.int .i64 0)), (.lit (.int .i64 0)), (.lit (.int .i64 0)), (.lit (.int .i64
  0)), (.lit (.int .i64 0)), (.lit (.int .i64 0)), (.lit (.int .i64 0)), (.lit (.int .i64 0)), (.lit (.int .i64 0)), (.lit (.int .i64 0)), (.lit (.int
  .i64 0)), (.lit (.int .i64 0)), (.lit (.int .i64 0)), (.lit (.int .i64 0)), (.lit (.int .i64 0)), (.lit (.int .i64 0)), (.lit (.int .i64 0)), (.lit
  (.int .i64 0)), (.lit (.int .i64 0)), (.lit (.int .i64 0)), (.lit (.int .i64 0)), (.lit (.int .i64 0)), (.lit (.int .i64 0)), (.lit (.int .i64 0)),
  (.lit (.int .i64 0)), (.lit (.int .i64 0)), (.lit (.int .i64 0)), (.lit (.int .i64 0)), (.lit (.int .i64 0)), (.lit (.int .i64 0)), (.lit (.int .i64
  0)), (.lit (.int .i64 0)), (.lit (.int .i64 0)), (.lit (.int .i64 0)), (.lit (.int .i64 0)), (.lit (.int .i64 0)), (.lit (.int .i64 0)), (.lit (.int
  .i64 0)), (.lit (.int .i64 0)), (.lit (.int .i64 0)), (.lit (.int .i64 0)), (.lit (.int .i64 0)), (.lit (.int .i64 0)), (.lit (.int .i64 0)), (.lit
  (.int .i64 0)), (.lit (.int .i64 0)), (.lit (.int .i64 0)), (.lit (.int .i64 0)), (.lit (.int .i64 0)), (.lit (.int .i64 0)), (.lit (.int .i64 0)),
  (.lit (.int .i64 0)), (.lit (.int .i64 0)), (.lit (.int .i64 0)), (.lit (.int .i64 0)), (.lit (.int .i64 0)), (.lit (.int .i64 0)), (.lit (.int .i64
  0)), (.lit (.int .i64 0)), (.lit (.int .i64 0)), (.lit (.int .i64 0)), (.lit (.int .i64 0)), (.lit (.int .i64 0)), (.lit (.int .i64 0)), (.lit (.int
  .i64 0)), (.lit (.int .i64 0)), (.lit (.int .i64 0)), (.lit (.int .i64 0)), (.lit (.int .i64 0)), (.lit (.int .i64 0)), (.lit (.int .i64 0)), (.lit
  (.int .i64 0)), (.lit (.int .i64 0)), (.lit (.int .i64 0)), (.lit (.int .i64 0)), (.lit (.int .i64 0)), (.lit (.int .i64 0)), (.lit (.int .i64 0)),
  (.lit (.int .i64 0)), (.lit (.int .i64 0)), (.lit (.int .i64 0)), (.lit (.int .i64 0)), (.lit (.int .i64 0)), (.lit (.int .i64 0)), (.lit (.int .i64
  0)), (.lit (.int .i64 0)), (.lit (.int .i64 0)), (.lit (.int .i64 0)), (.lit (.int .i64 0)), (.lit (.int .i64 0)), (.lit (.int .i64 0)), (.lit (.int
  .i64 0)), (.lit (.int .i64 0)), (.lit (.int .i64 0)), (.lit (.int .i64 0)), (.lit (.int .i64 0)), (.lit (.int .i64 0)), (.lit (.int .i64 0)), (.lit
  (.int .i64 0)), (.lit (.int .i64 0)), (.lit (.int .i64 0)), (.lit (.int .i64 0)), (.lit (.int .i64 0)), (.lit (.int .i64 0)), (.lit (.int .i64 0)),
  (.lit (.int .i64 0)), (.lit (.int .i64 0)), (.lit (.int .i64 0)), (.lit (.int .i64 0)), (.lit (.int .i64 0)), (.lit (.int .i64 0)), (.lit (.int .i64
  0)), (.lit (.int .i64 0)), (.lit (.int .i64 0)), (.lit (.int .i64 0)), (.lit (.int .i64 0)), (.lit (.int .i64 0)), (.lit (.int .i64 0)), (.lit (.int
  .i64 0)), (.lit (.int .i64 0)), (.lit (.int .i64 0)), (.lit (.int .i64 0)), (.lit (.int .i64 0)), (.lit (.int .i64 0)), (.lit (.int .i64 0)), (.lit
  (.int .i64 0)), (.lit (.int .i64 0)), (.lit (.int .i64 0)), (.lit (.int .i64 0)), (.lit (.int .i64 0)), (.lit (.int .i64 0)), (.lit (.int .i64 0)),
  (.lit (.int .i64 0)), (.lit (.int .i64 0)), (.lit (.int .i64 0)), (.lit (.int .i64 0)), (.lit (.int .i64 0)), (.lit (.int .i64 0)), (.lit (.int .i64
  0)), (.lit (.int .i64 0)), (.lit (.int .i64 0)), (.lit (.int .i64 0)), (.lit (.int .i64 0)), (.lit (.int .i64 0)), (.lit (.int .i64 0)), (.lit (.int
  .i64 0)), (.lit (.int .i64 0)), (.lit (.int .i64 0)), (.lit (.int .i64 0)), (.lit (.int .i64 0)), (.lit (.int .i64 0)), (.lit (.int .i64 0)), (.lit
  (.int .i64 0)), (.lit (.int .i64 0)), (.lit (.int .i64 0)), (.lit (.int .i64 0)), (.lit (.int .i64 0)), (.lit (.int .i64 0)), (.lit (.int .i64 0)),
  (.lit (.int .i64 0)), (.lit (.int .i64 0)), (.lit (.int .i64 0)), (.lit (.int .i64 0)), (.lit (.int .i64 0)), (.lit (.int .i64 0)), (.lit (.int .i64
  0)), (.lit (.int .i64 0)), (.lit (.int .i64 0)), (.lit (.int .i64 0)), (.lit (.int .i64 0)), (.lit (.int .i64 0)), (.lit (.int .i64 0)), (.lit (.int
  .i64 0)), (.lit (.int .i64 0)), (.lit (.int .i64 0)), (.lit (.int .i64 0)), (.lit (.int .i64 0)), (.lit (.int .i64 0)), (.lit (.int .i64 0)), (.lit
  (.int .i64 0)), (.lit (.int .i64 0)), (.lit (.int .i64 0)), (.lit (.int .i64 0)), (.lit (.int .i64 0)), (.lit (.int .i64 0)), (.lit (.int .i64 0)),
  (.lit (.int .i64 0)), (.lit (.int .i64 0)), (.lit (.int .i64 0)), (.lit (.int .i64 0)), (.lit (.int .i64 0)), (.lit (.int .i64 0)), (.lit (.int .i64
  0)), (.lit (.int .i64 0)), (.lit (.int .i64 0)), (.lit (.int .i64 0)), (.lit (.int .i64 0)), (.lit (.int .i64 0)), (.lit (.int .i64 0)), (.lit (.int
  .i64 0)), (.lit (.int .i64 0)), (.lit (.int .i64 0)), (.lit (.int .i64 0)), (.lit (.int .i64 0)), (.lit (.int .i64 0)), (.lit (.int .i64 0)), (.lit
  (.int .i64 0)), (.lit (.int .i64 0)), (.lit (.int .i64 0)), (.lit (.int .i64 0)), (.lit (.int .i64 0)), (.lit (.int .i64 0)), (.lit (.int .i64 0)),
  (.lit (.int .i64 0)), (.lit (.int .i64 0)), (.lit (.int .i64 0)), (.lit (.int .i64 0)), (.lit (.int .i64 0)), (.lit (.int .i64 0)), (.lit (.int .i64
  0)), (.lit (.int .i64 0)), (.lit (.int .i64 0)), (.lit (.int .i64 0)), (.lit (.int .i64 0)), (.lit (.int .i64 0)), (.lit (.int .i64 0)), (.lit (.int
  .i64 0)), (.lit (.int .i64 0)), (.lit (.int .i64 0)), (.lit (.int .i64 0)), (.lit (.int .i64 0)), (.lit (.int .i64 0)), (.lit (.int .i64 0)), (.lit
  (.int .i64 0)), (.lit (.int .i64 0)), (.lit (.int .i64 0)), (.lit (.int .i64 0)), (.lit (.int .i64 0)), (.lit (.int .i64 0)), (.lit (.int .i64 0)),
  (.lit (.int .i64 0)), (.lit (.int .i64 0)), (.lit (.int .i64 0)), (.lit (.int .i64 0)), (.lit (.int .i64 0)), (.lit (.int .i64 0)), (.lit (.int .i64
  0)), (.lit (.int .i64 0)), (.lit (.int .i64 0))] 164 .false)], [], (.tup [(.lit (.slice .none 0 0)), (.lit (.int .i64 22))]), [(0, (.row [(.lit (.int
  .i64 0)), (.lit (.int .i64 0)), (.lit (.int .i64 0)), (.lit (.int .i64 0)), (.lit (.int .i64 0)), (.lit (.int .i64 0)), (.lit (.int .i64 0)), (.lit
  (.int .i64 0)), (.lit (.int .i64 0)), (.lit (.int .i64 0)), (.lit (.int .i64 0)), (.lit (.int .i64 0)), (.lit (.int .i64 0)), (.lit (.int .i64 0)),
  (.lit (.int .i64 0)), (.lit (.int .i64 0)), (.lit (.int .i64 0)), (.lit (.int .i64 0)), (.lit (.int .i64 0)), (.lit (.int .i64 0)), (.lit (.int .i64
  0)), (.lit (.int .i64 0)), (.lit (.int .i64 0)), (.lit (.int .i64 0)), (.lit (.int .i64 0)), (.lit (.int .i64 0)), (.lit (.int .i64 0)), (.lit (.int
  .i64 0)), (.lit (.int .i64 0)), (.lit (.int .i64 0)), (.lit (.int .i64 0)), (.lit (.int .i64 0)), (.lit (.int .i64 0)), (.lit (.int .i64 0)), (.lit
  (.int .i64 0)), (.lit (.int .i64 0)), (.lit (.int .i64 0)), (.lit (.int .i64 0)), (.lit (.int .i64 0)), (.lit (.int .i64 0)), (.lit (.int .i64 0)),
  (.lit (.int .i64 0)), (.lit (.int .i64 0)), (.lit (.int .i64 0)), (.lit (.int .i64 0)), (.lit (.int .i64 0)), (.lit (.int .i64 0)), (.lit (.int .i64
  0)), (.lit (.int .i64 0)), (.lit (.int .i64 0)), (.lit (.int .i64 0)), (.lit (.int .i64 0)), (.lit (.int .i64 0)), (.lit (.int .i64 0)), (.lit (.int
  .i64 0)), (.lit (.int .i64 0)), (.lit (.int .i64 0)), (.lit (.int .i64 0)), (.lit (.int .i64 0)), (.lit (.int .i64 0)), (.lit (.int .i64 0)), (.lit
  (.int .i64 0)), (.lit (.int .i64 0)), (.lit (.int .i64 0)), (.lit (.int .i64 0)), (.lit (.int .i64 0)), (.lit (.int .i64 0)), (.lit (.int .i64 0)),
  (.lit (.int .i64 0)), (.lit (.int .i64 0)), (.lit (.int .i64 0)), (.lit (.int .i64 0)), (.lit (.int .i64 0)), (.lit (.int .i64 0)), (.lit (.int .i64
  0)), (.lit (.int .i64 0)), (.lit (.int .i64 0)), (.lit (.int .i64 0)), (.lit (.int .i64 0)), (.lit (.int .i64 0)), (.lit (.int .i64 0)), (.lit (.int
  .i64 0)), (.lit (.int .i64 0)), (.lit (.int .i64 0)), (.lit (.int .i64 0)), (.lit (.int .i64 0)), (.lit (.int .i64 0)), (.lit (.int .i64 0)), (.lit
  (.int .i64 0)), (.lit (.int .i64 0)), (.lit (.int .i64 0)), (.lit (.int .i64 0)), (.lit (.int .i64 0)), (.lit (.int .i64 0)), (.lit (.int .i64 0)),
  (.lit (.int .i64 0)), (.lit (.int .i64 0)), (.lit (.int .i64 0)), (.lit (.int .i64 0)), (.lit (.int .i64 0)), (.lit (.int .i64 0)), (.lit (.int .i64
  0)), (.lit (.int .i64 0)), (.lit (.int .i64 0)), (.lit (.int .i64 0)), (.lit (.int .i64 0)), (.lit (.int .i64 0)), (.lit (.int .i64 0)), (.lit (.int
  .i64 0)), (.lit (.int .i64 0)), (.lit (.int .i64 0)), (.lit (.int .i64 0)), (.lit (.int .i64 0)), (.lit (.int .i64 0)), (.lit (.int .i64 0)), (.lit
  (.int .i64 0)), (.lit (.int .i64 0)), (.lit (.int .i64 0)), (.lit (.int .i64 0)), (.lit (.int .i64 0)), (.lit (.int .i64 0)), (.lit (.int .i64 0)),
  (.lit (.int .i64 0)), (.lit (.int .i64 0)), (.lit (.int .i64 0)), (.lit (.int .i64 0)), (.lit (.int .i64 0)), (.lit (.int .i64 0)), (.lit (.int .i64
  0)), (.lit (.int .i64 0)), (.lit (.int .i64 0)), (.lit (.int .i64 0)), (.lit (.int .i64 0)), (.lit (.int .i64 0)), (.lit (.int .i64 0)), (.lit (.int
  .i64 0)), (.lit (.int .i64 0)), (.lit (.int .i64 0)), (.lit (.int .i64 0)), (.lit (.int .i64 0)), (.lit (.int .i64 0)), (.lit (.int .i64 0)), (.lit
  (.int .i64 0)), (.lit (.int .i64 0)), (.lit (.int .i64 0)), (.lit (.int .i64 0)), (.lit (.int .i64 0)), (.lit (.int .i64 0)), (.lit (.int .i64 0)),
  (.lit (.int .i64 0)), (.lit (.int .i64 0)), (.lit (.int .i64 0)), (.lit (.int .i64 0)), (.lit (.int .i64 0)), (.lit (.int .i64 0)), (.lit (.int .i64
  0)), (.lit (.int .i64 0)), (.lit (.int .i64 0)), (.lit (.int .i64 0)), (.lit (.int .i64 0)), (.lit (.int .i64 0)), (.lit (.int .i64 0)), (.lit (.int
  .i64 0)), (.lit (.int .i64 0)), (.lit (.int .i64 0)), (.lit (.int .i64 0)), (.lit (.int .i64 0)), (.lit (.int .i64 0)), (.lit (.int .i64 0)), (.lit
  (.int .i64 0)), (.lit (.int .i64 0)), (.lit (.int .i64 0)), (.lit (.int .i64 0)), (.lit (.int .i64 0)), (.lit (.int .i64 0)), (.lit (.int .i64 0)),
  (.lit (.int .i64 0)), (.lit (.int .i64 0)), (.lit (.int .i64 0)), (.lit (.int .i64 0)), (.lit (.int .i64 0)), (.lit (.int .i64 0)), (.lit (.int .i64
  0)), (.lit (.int .i64 0)), (.lit (.int .i64 0)), (.lit (.int .i64 0)), (.lit (.int .i64 0)), (.lit (.int .i64 0)), (.lit (.int .i64 0)), (.lit (.int
  .i64 0)), (.lit (.int .i64 0)), (.lit (.int .i64 0)), (.lit (.int .i64 0)), (.lit (.int .i64 0)), (.lit (.int .i64 0)), (.lit (.int .i64 0)), (.lit
  (.int .i64 0)), (.lit (.int .i64 0)), (.lit (.int .i64 0)), (.lit (.int .i64 0)), (.lit (.int .i64 0)), (.lit (.int .i64 0)), (.lit (.int .i64 0)),
  (.lit (.int .i64 0)), (.lit (.int .i64 0)), (.lit (.int .i64 0)), (.lit (.int .i64 0)), (.lit (.int .i64 0)), (.lit (.int .i64 0)), (.lit (.int .i64
  0)), (.lit (.int .i64 0)), (.lit (.int .i64 0)), (.lit (.int .i64 0)), (.lit (.int .i64 0)), (.lit (.int .i64 0)), (.lit (.int .i64 0)), (.lit (.int
  .i64 0)), (.lit (.int .i64 0)), (.lit (.int .i64 0)), (.lit (.int .i64 0)), (.lit (.int .i64 0)), (.lit (.int .i64 0)), (.lit (.int .i64 0)), (.lit
  (.int .i64 0)), (.lit (.int .i64 0)), (.lit (.int .i64 0)), (.lit (.int .i64 0)), (.lit (.int .i64 0)), (.lit (.int .i64 0)), (.lit (.int .i64 0)),
  (.lit (.int .i64 0)), (.lit (.int .i64 0)), (.lit (.int .i64 0)), (.lit (.int .i64 0)), (.lit (.int .i64 0)), (.lit (.int .i64 0)), (.lit (.int .i64
  0)), (.lit (.int .i64 0)), (.lit (.int .i64 0)), (.lit (.int .i64 0)), (.lit (.int .i64 0)), (.lit (.int .i64 0)), (.lit (.int .i64 0)), (.lit (.int
  .i64 0)), (.lit (.int .i64 0)), (.lit (.int .i64 0)), (.lit (.int .i64 0)), (.lit (.int .i64 0)), (.lit (.int .i64 0)), (.lit (.int .i64 0)), (.lit
  (.int .i64 0)), (.lit (.int .i64 0)), (.lit (.int .i64 0)), (.lit (.int .i64 0)), (.lit (.int .i64 0)), (.lit (.int .i64 0))] 164 .false))], 7526⟩
noncomputable def cs33 : List Con := c33 :: cs32
theorem c33_ok {E : Nat → Option Value} {I : Interp} : ConGood E tb Tryz.prog I c33 := con_goodR (d := 80) tb_ok cs32_ok (by kernel_rfl)
theorem cs33_ok {E : Nat → Option Value} {I : Interp} : ∀ c ∈ cs33, ConGood E tb Tryz.prog I c := List.forall_mem_cons.2 ⟨c33_ok, cs32_ok⟩
noncomputable def c34 : Con :=
  ⟨156, [(.lit (.slice .none 0 0))], [], [], (.tup [(.lit (.slice .none 0 0)), (.lit (.int .i64 22))]), [], 7589⟩
noncomputable def cs34 : List Con := c34 :: cs33
theorem c34_ok {E : Nat → Option Value} {I : Interp} : ConGood E tb Tryz.prog I c34 := con_goodR (d := 80) tb_ok cs33_ok (by kernel_rfl)
theorem cs34_ok {E : Nat → Option Value} {I : Interp} : ∀ c ∈ cs34, ConGood E tb Tryz.prog I c := List.forall_mem_cons.2 ⟨c34_ok, cs33_ok⟩
noncomputable def c35 : Con :=
  ⟨205, [(.lit (.slice .none 0 0)), (.lit (.slice .none 0 0))], [], [], (.tup [(.lit (.slice .none 0 0)), (.lit (.int .i64 12))]), [], 108⟩
noncomputable def cs35 : List Con := c35 :: cs34
theorem c35_ok {E : Nat → Option Value} {I : Interp} : ConGood E tb Tryz.prog I c35 := con_goodR (d := 80) tb_ok cs34_ok (by kernel_rfl)
theorem cs35_ok {E : Nat → Option Value} {I : Interp} : ∀ c ∈ cs35, ConGood E tb Tryz.prog I c := List.forall_mem_cons.2 ⟨c35_ok, cs34_ok⟩
noncomputable def c36 : Con :=
  ⟨157, [(.lit (.slice .none 0 0)), (.lit (.slice .none 0 0)), (.lit (.bool .false)), (.lit (.bool .false))], [], [], (.tup [(.lit (.slice .none 0 0)),
  (.lit (.int .i64 12))]), [], 155⟩
noncomputable def cs36 : List Con := c36 :: cs35
theorem c36_ok {E : Nat → Option Value} {I : Interp} : ConGood E tb Tryz.prog I c36 := con_goodR (d := 80) tb_ok cs35_ok (by kernel_rfl)
theorem cs36_ok {E : Nat → Option Value} {I : Interp} : ∀ c ∈ cs36, ConGood E tb Tryz.prog I c := List.forall_mem_cons.2 ⟨c36_ok, cs35_ok⟩
noncomputable def c37 : Con :=
  ⟨157, [(.lit (.slice .none 0 0)), (.lit (.slice .none 0 0)), (.lit (.bool .false)), (.lit (.bool .true))], [], [], (.tup [(.lit (.slice .none 0 0)),
  (.lit (.int .i64 12))]), [], 155⟩
noncomputable def cs37 : List Con := c37 :: cs36
theorem c37_ok {E : Nat → Option Value} {I : Interp} : ConGood E tb Tryz.prog I c37 := con_goodR (d := 80) tb_ok cs36_ok (by kernel_rfl)
theorem cs37_ok {E : Nat → Option Value} {I : Interp} : ∀ c ∈ cs37, ConGood E tb Tryz.prog I c := List.forall_mem_cons.2 ⟨c37_ok, cs36_ok⟩
noncomputable def c38 : Con :=
  ⟨157, [(.lit (.slice .none 0 0)), (.lit (.slice .none 0 0)), (.lit (.bool .true)), (.lit (.bool .false))], [], [], (.tup [(.lit (.slice .none 0 0)),
  (.lit (.int .i64 12))]), [], 155⟩
noncomputable def cs38 : List Con := c38 :: cs37
theorem c38_ok {E : Nat → Option Value} {I : Interp} : ConGood E tb Tryz.prog I c38 := con_goodR (d := 80) tb_ok cs37_ok (by kernel_rfl)
theorem cs38_ok {E : Nat → Option Value} {I : Interp} : ∀ c ∈ cs38, ConGood E tb Tryz.prog I c := List.forall_mem_cons.2 ⟨c38_ok, cs37_ok⟩
noncomputable def c39 : Con :=
  ⟨157, [(.lit (.slice .none 0 0)), (.lit (.slice .none 0 0)), (.lit (.bool .true)), (.lit (.bool .true))], [], [], (.tup [(.lit (.slice .none 0 0)),
  (.lit (.int .i64 12))]), [], 155⟩
noncomputable def cs39 : List Con := c39 :: cs38
theorem c39_ok {E : Nat → Option Value} {I : Interp} : ConGood E tb Tryz.prog I c39 := con_goodR (d := 80) tb_ok cs38_ok (by kernel_rfl)
theorem cs39_ok {E : Nat → Option Value} {I : Interp} : ∀ c ∈ cs39, ConGood E tb Tryz.prog I c := List.forall_mem_cons.2 ⟨c39_ok, cs38_ok⟩
noncomputable def c40 : Con :=
  ⟨117, [(.lit (.slice .none 0 0)), (.lit (.slice .none 0 0))], [], [], (.slu 173 0 1 5), [(64, (.row [(.lit (.int .u8 0)), (.lit (.int .u8 0))] 5
  .true)), (173, (.row [(.lit (.int .i64 0)), (.lit (.bool .false)), (.lit (.int .i64 0)), (.slu 64 0 2 1), (.lit (.slice .none 0 0))] 211 .true))],
  8492⟩
noncomputable def cs40 : List Con := c40 :: cs39
theorem c40_ok {E : Nat → Option Value} {I : Interp} : ConGood E tb Tryz.prog I c40 := con_goodR (d := 80) tb_ok cs39_ok (by kernel_rfl)
theorem cs40_ok {E : Nat → Option Value} {I : Interp} : ∀ c ∈ cs40, ConGood E tb Tryz.prog I c := List.forall_mem_cons.2 ⟨c40_ok, cs39_ok⟩
noncomputable def c41 : Con :=
  ⟨98, [(.lit (.slice .none 0 0)), (.lit (.slice .none 0 0))], [], [], (.tup [(.slu 68 0 2 1), (.lit (.slice .none 0 0))]), [(68, (.row [(.lit (.int .u8
  0)), (.lit (.int .u8 0))] 5 .true))], 8530⟩
noncomputable def cs41 : List Con := c41 :: cs40
theorem c41_ok {E : Nat → Option Value} {I : Interp} : ConGood E tb Tryz.prog I c41 := con_goodR (d := 80) tb_ok cs40_ok (by kernel_rfl)
theorem cs41_ok {E : Nat → Option Value} {I : Interp} : ∀ c ∈ cs41, ConGood E tb Tryz.prog I c := List.forall_mem_cons.2 ⟨c41_ok, cs40_ok⟩
noncomputable def c42 : Con :=
  ⟨70, [(.agg [(.lit (.slice .none 0 0)), (.lit (.int .i64 0)), (.lit (.slice .none 0 0)), (.lit (.int .i64 0)), (.lit (.slice .none 0 0)), (.lit (.int
  .i64 0)), (.lit (.slice .none 0 0)), (.lit (.int .i64 1)), (.lit (.int .i64 4)), (.lit (.int .i64 8))]), (.slu 0 0 3 1), (.lit (.slice .none 0 0)),
  (.slc 1 0 0 0), (.lit (.int .i64 1024)), (.lit (.bool .true))], [(.row [(.lit (.int .u8 97)), (.lit (.int .u8 98)), (.lit (.int .u8 99))] 5 .true),
  (.row [] 5 .false)], [], (.tup [(.slc 329 0 3 3), (.agg [(.lit (.slice .none 0 0)), (.lit (.int .i64 0)), (.lit (.slice .none 0 0)), (.lit (.int .i64
  0)), (.lit (.slice .none 0 0)), (.lit (.int .i64 0)), (.lit (.slice .none 0 0)), (.lit (.int .i64 1)), (.lit (.int .i64 4)), (.lit (.int .i64 8))]),
  (.lit (.int .i64 0))]), [(0, (.row [(.lit (.int .u8 97)), (.lit (.int .u8 98)), (.lit (.int .u8 99))] 5 .true)), (1, (.row [] 5 .false)), (329, (.row
  [(.lit (.int .u8 1)), (.lit (.int .u8 0)), (.lit (.int .u8 0))] 5 .false))], 9363⟩
noncomputable def cs42 : List Con := c42 :: cs41
theorem c42_ok {E : Nat → Option Value} {I : Interp} : ConGood E tb Tryz.prog I c42 := con_goodR (d := 80) tb_ok cs41_ok (by kernel_rfl)
theorem cs42_ok {E : Nat → Option Value} {I : Interp} : ∀ c ∈ cs42, ConGood E tb Tryz.prog I c := List.forall_mem_cons.2 ⟨c42_ok, cs41_ok⟩
noncomputable def c43 : Con :=
  ⟨64, [(.agg [(.lit (.slice .none 0 0)), (.lit (.int .i64 0)), (.lit (.slice .none 0 0)), (.lit (.int .i64 0)), (.lit (.slice .none 0 0)), (.lit (.int
  .i64 0)), (.lit (.slice .none 0 0)), (.lit (.int .i64 1)), (.lit (.int .i64 4)), (.lit (.int .i64 8))]), (.slu 0 0 3 1), (.agg [(.lit (.int .i64
  1024)), (.lit (.int .i64 0)), (.lit (.int .i64 0)), (.lit (.bool .false)), (.lit (.bool .false)), (.lit (.int .i64 0))]), (.slc 1 0 0 0), (.lit (.bool
  .true))], [(.row [(.lit (.int .u8 97)), (.lit (.int .u8 98)), (.lit (.int .u8 99))] 5 .true), (.row [] 5 .false)], [], (.agg [(.slc 372 0 3 3), (.lit
  (.slice .none 0 0)), (.lit (.int .i64 0)), (.lit (.slice .none 0 0)), (.lit (.int .i64 0)), (.lit (.slice .none 0 0)), (.lit (.int .i64 0)), (.lit
  (.slice .none 0 0)), (.lit (.int .i64 1)), (.lit (.int .i64 4)), (.lit (.int .i64 8))]), [(0, (.row [(.lit (.int .u8 97)), (.lit (.int .u8 98)), (.lit
  (.int .u8 99))] 5 .true)), (1, (.row [] 5 .false)), (372, (.row [(.lit (.int .u8 1)), (.lit (.int .u8 0)), (.lit (.int .u8 0))] 5 .false))], 9412⟩
noncomputable def cs43 : List Con := c43 :: cs42
theorem c43_ok {E : Nat → Option Value} {I : Interp} : ConGood E tb Tryz.prog I c43 := con_goodR (d := 80) tb_ok cs42_ok (by kernel_rfl)
theorem cs43_ok {E : Nat → Option Value} {I : Interp} : ∀ c ∈ cs43, ConGood E tb Tryz.prog I c := List.forall_mem_cons.2 ⟨c43_ok, cs42_ok⟩
noncomputable def c44 : Con :=
  ⟨65, [(.slc 0 0 0 0), (.lit (.int .i64 1024))], [(.row [] 5 .false)], [], (.lit (.slice .none 0 0)), [(0, (.row [] 5 .false))], 86⟩
noncomputable def cs44 : List Con := c44 :: cs43
theorem c44_ok {E : Nat → Option Value} {I : Interp} : ConGood E tb Tryz.prog I c44 := con_goodR (d := 80) tb_ok cs43_ok (by kernel_rfl)
theorem cs44_ok {E : Nat → Option Value} {I : Interp} : ∀ c ∈ cs44, ConGood E tb Tryz.prog I c := List.forall_mem_cons.2 ⟨c44_ok, cs43_ok⟩
noncomputable def c45 : Con :=
  ⟨29, [(.agg [(.lit (.slice .none 0 0)), (.lit (.int .i64 0)), (.lit (.slice .none 0 0)), (.lit (.int .i64 0)), (.lit (.slice .none 0 0)), (.lit (.int
  .i64 0)), (.lit (.slice .none 0 0)), (.lit (.int .i64 1)), (.lit (.int .i64 4)), (.lit (.int .i64 8))]), (.slu 0 0 3 1), (.agg [(.lit (.int .i64
  1024)), (.lit (.int .i64 0)), (.lit (.int .i64 0)), (.lit (.bool .false)), (.lit (.bool .false)), (.lit (.int .i64 0))]), (.slc 1 0 0 0), (.lit (.bool
  .true))], [(.row [(.lit (.int .u8 97)), (.lit (.int .u8 98)), (.lit (.int .u8 99))] 5 .true), (.row [] 5 .false)], [], (.tup [(.slu 9754 0 3 1), (.agg
  [(.lit (.slice .none 0 0)), (.lit (.int .i64 0)), (.lit (.slice .none 0 0)), (.lit (.int .i64 0)), (.lit (.slice .none 0 0)), (.lit (.int .i64 0)),
  (.lit (.slice .none 0 0)), (.lit (.int .i64 1)), (.lit (.int .i64 4)), (.lit (.int .i64 8))]), (.lit (.int .i64 0))]), [(0, (.row [(.lit (.int .u8
  97)), (.lit (.int .u8 98)), (.lit (.int .u8 99))] 5 .true)), (1, (.row [] 5 .false)), (9754, (.row [(.lit (.int .u8 1)), (.lit (.int .u8 0)), (.lit
  (.int .u8 0))] 5 .true))], 9870⟩
noncomputable def cs45 : List Con := c45 :: cs44
theorem c45_ok {E : Nat → Option Value} {I : Interp} : ConGood E tb Tryz.prog I c45 := con_goodR (d := 80) tb_ok cs44_ok (by kernel_rfl)
theorem cs45_ok {E : Nat → Option Value} {I : Interp} : ∀ c ∈ cs45, ConGood E tb Tryz.prog I c := List.forall_mem_cons.2 ⟨c45_ok, cs44_ok⟩
noncomputable def c46 : Con :=
  ⟨7, [(.ptr 0 0)], [(.row [(.lit (.slice .none 0 0)), (.lit (.int .i64 0)), (.lit (.slice .none 0 0)), (.lit (.int .i64 0)), (.lit (.slice .none 0 0)),
  (.lit (.int .i64 0)), (.lit (.slice .none 0 0)), (.lit (.int .i64 1)), (.lit (.int .i64 4)), (.lit (.int .i64 8)), (.slu 1 0 3 1), (.slc 2 0 0 0),
  (.lit (.int .u64 0)), (.lit (.int .i64 3)), (.lit (.int .u8 97)), (.lit (.int .u8 98)), (.lit (.int .u8 99)), (.lit (.int .u8 0)), (.lit (.int .u8
  0)), (.lit (.int .u8 0)), (.lit (.int .u8 0)), (.lit (.int .u8 0)), (.lit (.int .i64 3)), (.lit (.pointer .none)), (.lit (.int .i64 1024)), (.lit
  (.int .i64 0)), (.lit (.int .i64 0)), (.lit (.bool .false)), (.lit (.bool .false)), (.lit (.int .i64 0)), (.lit (.bool .true)), (.lit (.bool .true)),
  (.lit (.bool .true)), (.lit (.bool .false)), (.lit (.int .i64 3)), (.lit (.int .i64 12))] 42 .false), (.row [(.lit (.int .u8 97)), (.lit (.int .u8
  98)), (.lit (.int .u8 99))] 5 .true), (.row [] 5 .false)], [], (.tup [(.slu 10105 0 3 1), (.lit (.int .i64 0))]), [(0, (.row [(.lit (.slice .none 0
  0)), (.lit (.int .i64 0)), (.lit (.slice .none 0 0)), (.lit (.int .i64 0)), (.lit (.slice .none 0 0)), (.lit (.int .i64 0)), (.lit (.slice .none 0
  0)), (.lit (.int .i64 1)), (.lit (.int .i64 4)), (.lit (.int .i64 8)), (.slu 10039 0 3 1), (.slc 10083 0 0 0), (.lit (.int .u64 0)), (.lit (.int .i64
  3)), (.lit (.int .u8 97)), (.lit (.int .u8 98)), (.lit (.int .u8 99)), (.lit (.int .u8 0)), (.lit (.int .u8 0)), (.lit (.int .u8 0)), (.lit (.int .u8
  0)), (.lit (.int .u8 0)), (.lit (.int .i64 3)), (.lit (.pointer .none)), (.lit (.int .i64 1024)), (.lit (.int .i64 0)), (.lit (.int .i64 0)), (.lit
  (.bool .false)), (.lit (.bool .false)), (.lit (.int .i64 0)), (.lit (.bool .true)), (.lit (.bool .false)), (.lit (.bool .true)), (.lit (.bool .true)),
  (.lit (.int .i64 3)), (.lit (.int .i64 15))] 42 .false)), (1, (.row [(.lit (.int .u8 97)), (.lit (.int .u8 98)), (.lit (.int .u8 99))] 5 .true)), (2,
  (.row [] 5 .false)), (10039, (.row [(.lit (.int .u8 97)), (.lit (.int .u8 98)), (.lit (.int .u8 99))] 5 .true)), (10083, (.row [] 5 .false)), (10105,
  (.row [(.lit (.int .u8 1)), (.lit (.int .u8 0)), (.lit (.int .u8 0))] 5 .true))], 10128⟩
noncomputable def cs46 : List Con := c46 :: cs45
theorem c46_ok {E : Nat → Option Value} {I : Interp} : ConGood E tb Tryz.prog I c46 := con_goodR (d := 80) tb_ok cs45_ok (by kernel_rfl)
theorem cs46_ok {E : Nat → Option Value} {I : Interp} : ∀ c ∈ cs46, ConGood E tb Tryz.prog I c := List.forall_mem_cons.2 ⟨c46_ok, cs45_ok⟩
noncomputable def c47 : Con :=
  ⟨71, [(.lit (.slice .none 0 0)), (.agg [(.lit (.int .i64 1024)), (.lit (.int .i64 0)), (.lit (.int .i64 0)), (.lit (.bool .false)), (.lit (.bool
  .false)), (.lit (.int .i64 0))]), (.lit (.slice .none 0 0))], [], [], (.lit (.slice .none 0 0)), [], 21⟩
noncomputable def cs47 : List Con := c47 :: cs46
theorem c47_ok {E : Nat → Option Value} {I : Interp} : ConGood E tb Tryz.prog I c47 := con_goodR (d := 80) tb_ok cs46_ok (by kernel_rfl)
theorem cs47_ok {E : Nat → Option Value} {I : Interp} : ∀ c ∈ cs47, ConGood E tb Tryz.prog I c := List.forall_mem_cons.2 ⟨c47_ok, cs46_ok⟩
noncomputable def c48 : Con :=
  ⟨70, [(.agg [(.lit (.slice .none 0 0)), (.lit (.int .i64 0)), (.lit (.slice .none 0 0)), (.lit (.int .i64 0)), (.lit (.slice .none 0 0)), (.lit (.int
  .i64 0)), (.lit (.slice .none 0 0)), (.lit (.int .i64 1)), (.lit (.int .i64 4)), (.lit (.int .i64 8))]), (.lit (.slice .none 0 0)), (.lit (.slice
  .none 0 0)), (.lit (.slice .none 0 0)), (.lit (.int .i64 1024)), (.lit (.bool .true))], [], [], (.tup [(.slc 317 0 3 3), (.agg [(.lit (.slice .none 0
  0)), (.lit (.int .i64 0)), (.lit (.slice .none 0 0)), (.lit (.int .i64 0)), (.lit (.slice .none 0 0)), (.lit (.int .i64 0)), (.lit (.slice .none 0
  0)), (.lit (.int .i64 1)), (.lit (.int .i64 4)), (.lit (.int .i64 8))]), (.lit (.int .i64 0))]), [(317, (.row [(.lit (.int .u8 1)), (.lit (.int .u8
  0)), (.lit (.int .u8 0))] 5 .false))], 9351⟩
noncomputable def cs48 : List Con := c48 :: cs47
theorem c48_ok {E : Nat → Option Value} {I : Interp} : ConGood E tb Tryz.prog I c48 := con_goodR (d := 80) tb_ok cs47_ok (by kernel_rfl)
theorem cs48_ok {E : Nat → Option Value} {I : Interp} : ∀ c ∈ cs48, ConGood E tb Tryz.prog I c := List.forall_mem_cons.2 ⟨c48_ok, cs47_ok⟩
noncomputable def c49 : Con :=
  ⟨64, [(.agg [(.lit (.slice .none 0 0)), (.lit (.int .i64 0)), (.lit (.slice .none 0 0)), (.lit (.int .i64 0)), (.lit (.slice .none 0 0)), (.lit (.int
  .i64 0)), (.lit (.slice .none 0 0)), (.lit (.int .i64 1)), (.lit (.int .i64 4)), (.lit (.int .i64 8))]), (.lit (.slice .none 0 0)), (.agg [(.lit (.int
  .i64 1024)), (.lit (.int .i64 0)), (.lit (.int .i64 0)), (.lit (.bool .false)), (.lit (.bool .false)), (.lit (.int .i64 0))]), (.lit (.slice .none 0
  0)), (.lit (.bool .true))], [], [], (.agg [(.slc 360 0 3 3), (.lit (.slice .none 0 0)), (.lit (.int .i64 0)), (.lit (.slice .none 0 0)), (.lit (.int
  .i64 0)), (.lit (.slice .none 0 0)), (.lit (.int .i64 0)), (.lit (.slice .none 0 0)), (.lit (.int .i64 1)), (.lit (.int .i64 4)), (.lit (.int .i64
  8))]), [(360, (.row [(.lit (.int .u8 1)), (.lit (.int .u8 0)), (.lit (.int .u8 0))] 5 .false))], 9400⟩
noncomputable def cs49 : List Con := c49 :: cs48
theorem c49_ok {E : Nat → Option Value} {I : Interp} : ConGood E tb Tryz.prog I c49 := con_goodR (d := 80) tb_ok cs48_ok (by kernel_rfl)
theorem cs49_ok {E : Nat → Option Value} {I : Interp} : ∀ c ∈ cs49, ConGood E tb Tryz.prog I c := List.forall_mem_cons.2 ⟨c49_ok, cs48_ok⟩
noncomputable def c50 : Con :=
  ⟨65, [(.lit (.slice .none 0 0)), (.lit (.int .i64 1024))], [], [], (.lit (.slice .none 0 0)), [], 85⟩
noncomputable def cs50 : List Con := c50 :: cs49
theorem c50_ok {E : Nat → Option Value} {I : Interp} : ConGood E tb Tryz.prog I c50 := con_goodR (d := 80) tb_ok cs49_ok (by kernel_rfl)
theorem cs50_ok {E : Nat → Option Value} {I : Interp} : ∀ c ∈ cs50, ConGood E tb Tryz.prog I c := List.forall_mem_cons.2 ⟨c50_ok, cs49_ok⟩
noncomputable def c51 : Con :=
  ⟨29, [(.agg [(.lit (.slice .none 0 0)), (.lit (.int .i64 0)), (.lit (.slice .none 0 0)), (.lit (.int .i64 0)), (.lit (.slice .none 0 0)), (.lit (.int
  .i64 0)), (.lit (.slice .none 0 0)), (.lit (.int .i64 1)), (.lit (.int .i64 4)), (.lit (.int .i64 8))]), (.lit (.slice .none 0 0)), (.agg [(.lit (.int
  .i64 1024)), (.lit (.int .i64 0)), (.lit (.int .i64 0)), (.lit (.bool .false)), (.lit (.bool .false)), (.lit (.int .i64 0))]), (.lit (.slice .none 0
  0)), (.lit (.bool .true))], [], [], (.tup [(.slu 9742 0 3 1), (.agg [(.lit (.slice .none 0 0)), (.lit (.int .i64 0)), (.lit (.slice .none 0 0)), (.lit
  (.int .i64 0)), (.lit (.slice .none 0 0)), (.lit (.int .i64 0)), (.lit (.slice .none 0 0)), (.lit (.int .i64 1)), (.lit (.int .i64 4)), (.lit (.int
  .i64 8))]), (.lit (.int .i64 0))]), [(9742, (.row [(.lit (.int .u8 1)), (.lit (.int .u8 0)), (.lit (.int .u8 0))] 5 .true))], 9848⟩
noncomputable def cs51 : List Con := c51 :: cs50
theorem c51_ok {E : Nat → Option Value} {I : Interp} : ConGood E tb Tryz.prog I c51 := con_goodR (d := 80) tb_ok cs50_ok (by kernel_rfl)
theorem cs51_ok {E : Nat → Option Value} {I : Interp} : ∀ c ∈ cs51, ConGood E tb Tryz.prog I c := List.forall_mem_cons.2 ⟨c51_ok, cs50_ok⟩
noncomputable def c52 : Con :=
  ⟨7, [(.ptr 0 0)], [(.row [(.lit (.slice .none 0 0)), (.lit (.int .i64 0)), (.lit (.slice .none 0 0)), (.lit (.int .i64 0)), (.lit (.slice .none 0 0)),
  (.lit (.int .i64 0)), (.lit (.slice .none 0 0)), (.lit (.int .i64 0)), (.lit (.int .i64 0)), (.lit (.int .i64 0)), (.lit (.slice .none 0 0)), (.lit
  (.slice .none 0 0)), (.lit (.int .u64 0)), (.lit (.int .i64 0)), (.lit (.int .u8 0)), (.lit (.int .u8 0)), (.lit (.int .u8 0)), (.lit (.int .u8 0)),
  (.lit (.int .u8 0)), (.lit (.int .u8 0)), (.lit (.int .u8 0)), (.lit (.int .u8 0)), (.lit (.int .i64 0)), (.lit (.pointer .none)), (.lit (.int .i64
  1024)), (.lit (.int .i64 0)), (.lit (.int .i64 0)), (.lit (.bool .false)), (.lit (.bool .false)), (.lit (.int .i64 0)), (.lit (.bool .true)), (.lit
  (.bool .false)), (.lit (.bool .false)), (.lit (.bool .false)), (.lit (.int .i64 0)), (.lit (.int .i64 0))] 42 .false)], [], (.tup [(.slu 10303 0 9 1),
  (.lit (.int .i64 0))]), [(0, (.row [(.lit (.slice .none 0 0)), (.lit (.int .i64 0)), (.lit (.slice .none 0 0)), (.lit (.int .i64 0)), (.lit (.slice
  .none 0 0)), (.lit (.int .i64 0)), (.lit (.slice .none 0 0)), (.lit (.int .i64 1)), (.lit (.int .i64 4)), (.lit (.int .i64 8)), (.lit (.slice .none 0
  0)), (.lit (.slice .none 0 0)), (.lit (.int .u64 0)), (.lit (.int .i64 0)), (.lit (.int .u8 0)), (.lit (.int .u8 0)), (.lit (.int .u8 0)), (.lit (.int
  .u8 0)), (.lit (.int .u8 0)), (.lit (.int .u8 0)), (.lit (.int .u8 0)), (.lit (.int .u8 0)), (.lit (.int .i64 0)), (.lit (.pointer .none)), (.lit
  (.int .i64 1024)), (.lit (.int .i64 0)), (.lit (.int .i64 0)), (.lit (.bool .false)), (.lit (.bool .false)), (.lit (.int .i64 0)), (.lit (.bool
  .true)), (.lit (.bool .false)), (.lit (.bool .true)), (.lit (.bool .true)), (.lit (.int .i64 0)), (.lit (.int .i64 9))] 42 .false)), (10303, (.row
  [(.lit (.int .u8 80)), (.lit (.int .u8 77)), (.lit (.int .u8 84)), (.lit (.int .u8 30)), (.lit (.int .u8 0)), (.lit (.int .u8 0)), (.lit (.int .u8
  1)), (.lit (.int .u8 0)), (.lit (.int .u8 0))] 5 .true))], 10326⟩
noncomputable def cs52 : List Con := c52 :: cs51
theorem c52_ok {E : Nat → Option Value} {I : Interp} : ConGood E tb Tryz.prog I c52 := con_goodR (d := 80) tb_ok cs51_ok (by kernel_rfl)
theorem cs52_ok {E : Nat → Option Value} {I : Interp} : ∀ c ∈ cs52, ConGood E tb Tryz.prog I c := List.forall_mem_cons.2 ⟨c52_ok, cs51_ok⟩
noncomputable def c53 : Con :=
  ⟨4, [], [], [], (.lit (.bool .true)), [], 117917⟩
noncomputable def cs53 : List Con := c53 :: cs52
theorem c53_ok {E : Nat → Option Value} {I : Interp} : ConGood E tb Tryz.prog I c53 := con_goodR (d := 80) tb_ok cs52_ok (by kernel_rfl)
theorem cs53_ok {E : Nat → Option Value} {I : Interp} : ∀ c ∈ cs53, ConGood E tb Tryz.prog I c := List.forall_mem_cons.2 ⟨c53_ok, cs52_ok⟩
end Go.Proofs.YtphmfjgllccgbaaGreat
