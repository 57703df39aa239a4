/- Calls on given arguments come to given results, each proved by a run of its own, on those before it. No condition. -/
import Derived.Test.YtgmhnjicaihmmaaGreatTabs
set_option linter.unusedVariables false
set_option maxRecDepth 100000
namespace Go.Proofs.YtgmhnjicaihmmaaGreat
open Go Go.Proofs.YtgmhnjicaihmmaaGreat.Eng Go.Proofs
abbrev li (k : IntKind) (l : List Int) : List AVal := l.map fun n => .lit (.int k n)
abbrev rl (m : Nat) (k : IntKind) (n : Int) : List AVal := List.replicate m (.lit (.int k n))
abbrev iL (n : Int) : AVal := .lit (.int .i64 n)
noncomputable def cs0 : List Con := []
theorem cs0_ok {E : Nat → Option Value} {I : Interp} : ∀ c ∈ cs0, ConGood E tb Tryz.prog I c := fun _ h => by cases h
noncomputable def c1 : Con :=
 ⟨6, [(.agg [(.lit (.int .u32 1)), (iL 2), (iL 3)])], [], [], (.tup [(.slu 213 0 10 1), (iL 0)]), [(213, (.row (li .u8 [80, 77, 84, 80, 1, 0, 0, 0, 2, 3]) 5 .true))], 233⟩
noncomputable def cs1 : List Con := c1 :: cs0
theorem c1_ok {E : Nat → Option Value} {I : Interp} : ConGood E tb Tryz.prog I c1 := con_goodR (d := 80) tb_ok cs0_ok (by kernel_rfl)
theorem cs1_ok {E : Nat → Option Value} {I : Interp} : ∀ c ∈ cs1, ConGood E tb Tryz.prog I c := List.forall_mem_cons.2 ⟨c1_ok, cs0_ok⟩
noncomputable def c2 : Con :=
 ⟨8, [(.slu 0 0 10 1)], [(.row (li .u8 [80, 77, 84, 80, 1, 0, 0, 0, 2, 3]) 5 .true)], [], (.tup [(.agg [(.lit (.int .u32 1)), (iL 2), (iL 3)]), (iL 10), (iL 0)]), [(0,
 (.row (li .u8 [80, 77, 84, 80, 1, 0, 0, 0, 2, 3]) 5 .true))], 837⟩
noncomputable def cs2 : List Con := c2 :: cs1
theorem c2_ok {E : Nat → Option Value} {I : Interp} : ConGood E tb Tryz.prog I c2 := con_goodR (d := 80) tb_ok cs1_ok (by kernel_rfl)
theorem cs2_ok {E : Nat → Option Value} {I : Interp} : ∀ c ∈ cs2, ConGood E tb Tryz.prog I c := List.forall_mem_cons.2 ⟨c2_ok, cs1_ok⟩
noncomputable def c3 : Con :=
 ⟨8, [(.lit (.slice .none 0 0))], [], [], (.tup [(.agg [(.lit (.int .u32 0)), (iL 0), (iL 0)]), (iL 0), (iL 3)]), [], 121⟩
noncomputable def cs3 : List Con := c3 :: cs2
theorem c3_ok {E : Nat → Option Value} {I : Interp} : ConGood E tb Tryz.prog I c3 := con_goodR (d := 80) tb_ok cs2_ok (by kernel_rfl)
theorem cs3_ok {E : Nat → Option Value} {I : Interp} : ∀ c ∈ cs3, ConGood E tb Tryz.prog I c := List.forall_mem_cons.2 ⟨c3_ok, cs2_ok⟩
noncomputable def c4 : Con :=
 ⟨8, [(.slc 0 0 4 4)], [(.row (li .u8 [80, 77, 84, 81]) 5 .false)], [], (.tup [(.agg [(.lit (.int .u32 0)), (iL 0), (iL 0)]), (iL 0), (iL 6)]), [(0, (.row (li .u8 [80, 77,
 84, 81]) 5 .false))], 153⟩
noncomputable def cs4 : List Con := c4 :: cs3
theorem c4_ok {E : Nat → Option Value} {I : Interp} : ConGood E tb Tryz.prog I c4 := con_goodR (d := 80) tb_ok cs3_ok (by kernel_rfl)
theorem cs4_ok {E : Nat → Option Value} {I : Interp} : ∀ c ∈ cs4, ConGood E tb Tryz.prog I c := List.forall_mem_cons.2 ⟨c4_ok, cs3_ok⟩
noncomputable def c5 : Con :=
 ⟨8, [(.slc 0 0 9 9)], [(.row (li .u8 [80, 77, 84, 80, 0, 0, 0, 0, 128]) 5 .false)], [], (.tup [(.agg [(.lit (.int .u32 0)), (iL 0), (iL 0)]), (iL 0), (iL 3)]), [(0, (.row
 (li .u8 [80, 77, 84, 80, 0, 0, 0, 0, 128]) 5 .false))], 680⟩
noncomputable def cs5 : List Con := c5 :: cs4
theorem c5_ok {E : Nat → Option Value} {I : Interp} : ConGood E tb Tryz.prog I c5 := con_goodR (d := 80) tb_ok cs4_ok (by kernel_rfl)
theorem cs5_ok {E : Nat → Option Value} {I : Interp} : ∀ c ∈ cs5, ConGood E tb Tryz.prog I c := List.forall_mem_cons.2 ⟨c5_ok, cs4_ok⟩
noncomputable def c6 : Con :=
 ⟨6, [(.agg [(.lit (.int .u32 4215367660)), (iL 1), (iL 1)])], [], [], (.tup [(.slu 213 0 10 1), (iL 0)]), [(213, (.row (li .u8 [80, 77, 84, 80, 236, 103, 65, 251, 1, 1])
 5 .true))], 233⟩
noncomputable def cs6 : List Con := c6 :: cs5
theorem c6_ok {E : Nat → Option Value} {I : Interp} : ConGood E tb Tryz.prog I c6 := con_goodR (d := 80) tb_ok cs5_ok (by kernel_rfl)
theorem cs6_ok {E : Nat → Option Value} {I : Interp} : ∀ c ∈ cs6, ConGood E tb Tryz.prog I c := List.forall_mem_cons.2 ⟨c6_ok, cs5_ok⟩
noncomputable def c7 : Con :=
 ⟨35, [(.slc 0 0 1 1)], [(.row [(.lit (.int .u8 97))] 5 .false)], [], (.tup [(.agg [(.lit (.int .u32 0)), (.lit (.slice .none 0 0)), (iL 0), (.lit (.slice .none 0 0)), (iL
 0), (.lit (.slice .none 0 0)), (iL 0), (.lit (.slice .none 0 0)), (iL 1), (iL 4), (iL 8), (.slu 33 0 1 1)]), (iL 0)]), [(0, (.row [(.lit (.int .u8 97))] 5 .false)), (33,
 (.row [(.lit (.int .u8 97))] 5 .true))], 38⟩
noncomputable def cs7 : List Con := c7 :: cs6
theorem c7_ok {E : Nat → Option Value} {I : Interp} : ConGood E tb Tryz.prog I c7 := con_goodR (d := 80) tb_ok cs6_ok (by kernel_rfl)
theorem cs7_ok {E : Nat → Option Value} {I : Interp} : ∀ c ∈ cs7, ConGood E tb Tryz.prog I c := List.forall_mem_cons.2 ⟨c7_ok, cs6_ok⟩
noncomputable def c8 : Con :=
 ⟨11, [(.slc 0 0 1 1)], [(.row [(.lit (.int .u8 97))] 5 .false)], [], (.agg [(.lit (.int .u32 0)), (.lit (.slice .none 0 0)), (iL 0), (.lit (.slice .none 0 0)), (iL 0),
 (.lit (.slice .none 0 0)), (iL 0), (.lit (.slice .none 0 0)), (iL 1), (iL 4), (iL 8), (.slu 59 0 1 1)]), [(0, (.row [(.lit (.int .u8 97))] 5 .false)), (59, (.row [(.lit
 (.int .u8 97))] 5 .true))], 72⟩
noncomputable def cs8 : List Con := c8 :: cs7
theorem c8_ok {E : Nat → Option Value} {I : Interp} : ConGood E tb Tryz.prog I c8 := con_goodR (d := 80) tb_ok cs7_ok (by kernel_rfl)
theorem cs8_ok {E : Nat → Option Value} {I : Interp} : ∀ c ∈ cs8, ConGood E tb Tryz.prog I c := List.forall_mem_cons.2 ⟨c8_ok, cs7_ok⟩
noncomputable def c9 : Con :=
 ⟨71, [(.agg [(.lit (.int .u32 0)), (.lit (.slice .none 0 0)), (iL 0), (.lit (.slice .none 0 0)), (iL 0), (.lit (.slice .none 0 0)), (iL 0), (.lit (.slice .none 0 0)), (iL
 1), (iL 4), (iL 8), (.slu 0 0 1 1)])], [(.row [(.lit (.int .u8 97))] 5 .true)], [], (.lit (.bool .true)), [(0, (.row [(.lit (.int .u8 97))] 5 .true))], 109⟩
noncomputable def cs9 : List Con := c9 :: cs8
theorem c9_ok {E : Nat → Option Value} {I : Interp} : ConGood E tb Tryz.prog I c9 := con_goodR (d := 80) tb_ok cs8_ok (by kernel_rfl)
theorem cs9_ok {E : Nat → Option Value} {I : Interp} : ∀ c ∈ cs9, ConGood E tb Tryz.prog I c := List.forall_mem_cons.2 ⟨c9_ok, cs8_ok⟩
noncomputable def c10 : Con :=
 ⟨103, [(.agg [(iL 1024), (.lit (.int .i64 (-1))), (.lit (.int .u32 0)), (.lit (.bool .true))])], [], [], (.tup [(.slu 169 0 6 1), (iL 0)]), [(169, (.row (li .u8 [80, 77,
 84, 30, 2, 0]) 5 .true))], 180⟩
noncomputable def cs10 : List Con := c10 :: cs9
theorem c10_ok {E : Nat → Option Value} {I : Interp} : ConGood E tb Tryz.prog I c10 := con_goodR (d := 80) tb_ok cs9_ok (by kernel_rfl)
theorem cs10_ok {E : Nat → Option Value} {I : Interp} : ∀ c ∈ cs10, ConGood E tb Tryz.prog I c := List.forall_mem_cons.2 ⟨c10_ok, cs9_ok⟩
noncomputable def c11 : Con :=
 ⟨252, [(iL 3)], [], [], (.tup [(.ptr 12 0), (iL 0)]), [(9, (.map [])), (10, (.map [])), (12, (.row [(.lit (.slice .none 0 0)), (iL 3), (.mp 9), (.mp 10), (.lit (.slice
 .none 0 0))] 438 .false))], 15⟩
noncomputable def cs11 : List Con := c11 :: cs10
theorem c11_ok {E : Nat → Option Value} {I : Interp} : ConGood E tb Tryz.prog I c11 := con_goodR (d := 80) tb_ok cs10_ok (by kernel_rfl)
theorem cs11_ok {E : Nat → Option Value} {I : Interp} : ∀ c ∈ cs11, ConGood E tb Tryz.prog I c := List.forall_mem_cons.2 ⟨c11_ok, cs10_ok⟩
noncomputable def c12 : Con :=
 ⟨208, [(.slu 0 0 1 1), (.slc 1 0 1 1), (iL 1024), (iL 64)], [(.row [(.lit (.int .u8 97))] 5 .true), (.row [(.lit (.int .u8 99))] 5 .false)], [], (.tup [(.ptr 142 0), (iL
 0)]), [(0, (.row [(.lit (.int .u8 97))] 5 .true)), (1, (.row [(.lit (.int .u8 99))] 5 .false)), (34, (.map [])), (35, (.map [])), (37, (.row [(.slu 174 0 2 1), (iL 3),
 (.mp 34), (.mp 35), (.lit (.slice .none 0 0))] 438 .false)), (129, (.row [(.lit (.int .u8 97)), (.lit (.int .u8 99))] 5 .true)), (142, (.row ([(.ptr 37 0), (.slu 129 0 2
 1)] ++ li .i64 [1, 1024, 64]) 359 .false)), (174, (.row [(.lit (.int .u8 97)), (.lit (.int .u8 99))] 5 .true))], 202⟩
noncomputable def cs12 : List Con := c12 :: cs11
theorem c12_ok {E : Nat → Option Value} {I : Interp} : ConGood E tb Tryz.prog I c12 := con_goodR (d := 80) tb_ok cs11_ok (by kernel_rfl)
theorem cs12_ok {E : Nat → Option Value} {I : Interp} : ∀ c ∈ cs12, ConGood E tb Tryz.prog I c := List.forall_mem_cons.2 ⟨c12_ok, cs11_ok⟩
noncomputable def c13 : Con :=
 ⟨249, [(.ptr 0 0)], [(.row ([(.ptr 1 0), (.slu 2 0 2 1)] ++ li .i64 [1, 1024, 64]) 359 .false), (.row [(.slu 3 0 2 1), (iL 3), (.mp 4), (.mp 5), (.lit (.slice .none 0
 0))] 438 .false), (.row [(.lit (.int .u8 97)), (.lit (.int .u8 99))] 5 .true), (.row [(.lit (.int .u8 97)), (.lit (.int .u8 99))] 5 .true), (.map []), (.map [])], [],
 (.tup [(.lit (.slice .none 0 0)), (iL 0)]), [(0, (.row ([(.ptr 1 0), (.slu 2 0 2 1)] ++ li .i64 [1, 1024, 64]) 359 .false)), (1, (.row [(.slu 3 0 2 1), (iL 3), (.mp 4),
 (.mp 5), (.lit (.slice .none 0 0))] 438 .false)), (2, (.row [(.lit (.int .u8 97)), (.lit (.int .u8 99))] 5 .true)), (3, (.row [(.lit (.int .u8 97)), (.lit (.int .u8 99))]
 5 .true)), (4, (.map [])), (5, (.map []))], 397⟩
noncomputable def cs13 : List Con := c13 :: cs12
theorem c13_ok {E : Nat → Option Value} {I : Interp} : ConGood E tb Tryz.prog I c13 := con_goodR (d := 80) tb_ok cs12_ok (by kernel_rfl)
theorem cs13_ok {E : Nat → Option Value} {I : Interp} : ∀ c ∈ cs13, ConGood E tb Tryz.prog I c := List.forall_mem_cons.2 ⟨c13_ok, cs12_ok⟩
noncomputable def c14 : Con :=
 ⟨250, [(.ptr 0 0)], [(.row ([(.ptr 1 0), (.slu 2 0 2 1)] ++ li .i64 [1, 1024, 64]) 359 .false), (.row [(.slu 3 0 2 1), (iL 3), (.mp 4), (.mp 5), (.lit (.slice .none 0
 0))] 438 .false), (.row [(.lit (.int .u8 97)), (.lit (.int .u8 99))] 5 .true), (.row [(.lit (.int .u8 97)), (.lit (.int .u8 99))] 5 .true), (.map []), (.map [])], [],
 (.tup [(.lit (.slice .none 0 0)), (iL 0)]), [(0, (.row ([(.ptr 1 0), (.slu 2 0 2 1)] ++ li .i64 [1, 1024, 64]) 359 .false)), (1, (.row [(.slu 3 0 2 1), (iL 3), (.mp 4),
 (.mp 5), (.lit (.slice .none 0 0))] 438 .false)), (2, (.row [(.lit (.int .u8 97)), (.lit (.int .u8 99))] 5 .true)), (3, (.row [(.lit (.int .u8 97)), (.lit (.int .u8 99))]
 5 .true)), (4, (.map [])), (5, (.map []))], 2166⟩
noncomputable def cs14 : List Con := c14 :: cs13
theorem c14_ok {E : Nat → Option Value} {I : Interp} : ConGood E tb Tryz.prog I c14 := con_goodR (d := 80) tb_ok cs13_ok (by kernel_rfl)
theorem cs14_ok {E : Nat → Option Value} {I : Interp} : ∀ c ∈ cs14, ConGood E tb Tryz.prog I c := List.forall_mem_cons.2 ⟨c14_ok, cs13_ok⟩
noncomputable def c15 : Con :=
 ⟨181, [(.slu 0 0 1 1), (.agg [(iL 1024), (iL 2), (iL 64), (.lit (.bool .false)), (.lit (.bool .true)), (iL 0)]), (.slc 1 0 1 1)], [(.row [(.lit (.int .u8 97))] 5 .true),
 (.row [(.lit (.int .u8 99))] 5 .false)], [], (.lit (.slice .none 0 0)), [(0, (.row [(.lit (.int .u8 97))] 5 .true)), (1, (.row [(.lit (.int .u8 99))] 5 .false))], 2415⟩
noncomputable def cs15 : List Con := c15 :: cs14
theorem c15_ok {E : Nat → Option Value} {I : Interp} : ConGood E tb Tryz.prog I c15 := con_goodR (d := 80) tb_ok cs14_ok (by kernel_rfl)
theorem cs15_ok {E : Nat → Option Value} {I : Interp} : ∀ c ∈ cs15, ConGood E tb Tryz.prog I c := List.forall_mem_cons.2 ⟨c15_ok, cs14_ok⟩
noncomputable def c16 : Con :=
 ⟨401, [(.slc 0 0 1 1)], [(.row [(.slu 1 0 1 1)] 23 .false), (.row [(.lit (.int .u8 99))] 5 .true)], [], (.slc 3 0 256 256), [(0, (.row [(.slu 1 0 1 1)] 23 .false)), (1,
 (.row [(.lit (.int .u8 99))] 5 .true)), (3, (.row (li .i64 [0, 0, 0, 0, 0, 0, 0, 0, 0, 0, 0, 0, 0, 0, 0, 0, 0, 0, 0, 0, 0, 0, 0, 0, 0, 0, 0, 0, 0, 0, 0, 0, 0, 0, 0, 0, 0,
 0, 0, 0, 0, 0, 0, 0, 0, 0, 0, 0, 0, 0, 0, 0, 0, 0, 0, 0, 0, 0, 0, 0, 0, 0, 0, 0, 0, 0, 0, 0, 0, 0, 0, 0, 0, 0, 0, 0, 0, 0, 0, 0, 0, 0, 0, 0, 0, 0, 0, 0, 0, 0, 0, 0, 0, 0,
 0, 0, 0, 0, 0, 1, 0, 0, 0, 0, 0, 0, 0, 0, 0, 0, 0, 0, 0, 0, 0, 0, 0, 0, 0, 0, 0, 0, 0, 0, 0, 0, 0, 0, 0, 0, 0, 0, 0, 0, 0, 0, 0, 0, 0, 0, 0, 0, 0, 0, 0, 0, 0, 0, 0, 0, 0,
 0, 0, 0, 0, 0, 0, 0, 0, 0, 0, 0, 0, 0, 0, 0, 0, 0, 0, 0, 0, 0, 0, 0, 0, 0, 0, 0, 0, 0, 0, 0, 0, 0, 0, 0, 0, 0, 0, 0, 0, 0, 0, 0, 0, 0, 0, 0, 0, 0, 0, 0, 0, 0, 0, 0, 0, 0,
 0, 0, 0, 0, 0, 0, 0, 0, 0, 0, 0, 0, 0, 0, 0, 0, 0, 0, 0, 0, 0, 0, 0, 0, 0, 0, 0, 0, 0, 0, 0, 0, 0, 0, 0, 0, 0, 0, 0, 0, 0, 0, 0, 0, 0, 0, 0, 0]) 296 .false))], 34⟩
noncomputable def cs16 : List Con := c16 :: cs15
theorem c16_ok {E : Nat → Option Value} {I : Interp} : ConGood E tb Tryz.prog I c16 := con_goodR (d := 80) tb_ok cs15_ok (by kernel_rfl)
theorem cs16_ok {E : Nat → Option Value} {I : Interp} : ∀ c ∈ cs16, ConGood E tb Tryz.prog I c := List.forall_mem_cons.2 ⟨c16_ok, cs15_ok⟩
noncomputable def c17 : Con :=
 ⟨456, [(.slc 0 0 256 256), (iL 11)], [(.row (li .i64 [0, 0, 0, 0, 0, 0, 0, 0, 0, 0, 0, 0, 0, 0, 0, 0, 0, 0, 0, 0, 0, 0, 0, 0, 0, 0, 0, 0, 0, 0, 0, 0, 0, 0, 0, 0, 0, 0, 0,
 0, 0, 0, 0, 0, 0, 0, 0, 0, 0, 0, 0, 0, 0, 0, 0, 0, 0, 0, 0, 0, 0, 0, 0, 0, 0, 0, 0, 0, 0, 0, 0, 0, 0, 0, 0, 0, 0, 0, 0, 0, 0, 0, 0, 0, 0, 0, 0, 0, 0, 0, 0, 0, 0, 0, 0, 0,
 0, 0, 0, 1, 0, 0, 0, 0, 0, 0, 0, 0, 0, 0, 0, 0, 0, 0, 0, 0, 0, 0, 0, 0, 0, 0, 0, 0, 0, 0, 0, 0, 0, 0, 0, 0, 0, 0, 0, 0, 0, 0, 0, 0, 0, 0, 0, 0, 0, 0, 0, 0, 0, 0, 0, 0, 0,
 0, 0, 0, 0, 0, 0, 0, 0, 0, 0, 0, 0, 0, 0, 0, 0, 0, 0, 0, 0, 0, 0, 0, 0, 0, 0, 0, 0, 0, 0, 0, 0, 0, 0, 0, 0, 0, 0, 0, 0, 0, 0, 0, 0, 0, 0, 0, 0, 0, 0, 0, 0, 0, 0, 0, 0, 0,
 0, 0, 0, 0, 0, 0, 0, 0, 0, 0, 0, 0, 0, 0, 0, 0, 0, 0, 0, 0, 0, 0, 0, 0, 0, 0, 0, 0, 0, 0, 0, 0, 0, 0, 0, 0, 0, 0, 0, 0, 0, 0, 0, 0, 0, 0]) 296 .false)], [], (.tup [(.lit
 (.slice .none 0 0)), (iL 22)]), [(0, (.row (li .i64 [0, 0, 0, 0, 0, 0, 0, 0, 0, 0, 0, 0, 0, 0, 0, 0, 0, 0, 0, 0, 0, 0, 0, 0, 0, 0, 0, 0, 0, 0, 0, 0, 0, 0, 0, 0, 0, 0, 0,
 0, 0, 0, 0, 0, 0, 0, 0, 0, 0, 0, 0, 0, 0, 0, 0, 0, 0, 0, 0, 0, 0, 0, 0, 0, 0, 0, 0, 0, 0, 0, 0, 0, 0, 0, 0, 0, 0, 0, 0, 0, 0, 0, 0, 0, 0, 0, 0, 0, 0, 0, 0, 0, 0, 0, 0, 0,
 0, 0, 0, 1, 0, 0, 0, 0, 0, 0, 0, 0, 0, 0, 0, 0, 0, 0, 0, 0, 0, 0, 0, 0, 0, 0, 0, 0, 0, 0, 0, 0, 0, 0, 0, 0, 0, 0, 0, 0, 0, 0, 0, 0, 0, 0, 0, 0, 0, 0, 0, 0, 0, 0, 0, 0, 0,
 0, 0, 0, 0, 0, 0, 0, 0, 0, 0, 0, 0, 0, 0, 0, 0, 0, 0, 0, 0, 0, 0, 0, 0, 0, 0, 0, 0, 0, 0, 0, 0, 0, 0, 0, 0, 0, 0, 0, 0, 0, 0, 0, 0, 0, 0, 0, 0, 0, 0, 0, 0, 0, 0, 0, 0, 0,
 0, 0, 0, 0, 0, 0, 0, 0, 0, 0, 0, 0, 0, 0, 0, 0, 0, 0, 0, 0, 0, 0, 0, 0, 0, 0, 0, 0, 0, 0, 0, 0, 0, 0, 0, 0, 0, 0, 0, 0, 0, 0, 0, 0, 0, 0]) 296 .false))], 7531⟩
noncomputable def cs17 : List Con := c17 :: cs16
theorem c17_ok {E : Nat → Option Value} {I : Interp} : ConGood E tb Tryz.prog I c17 := con_goodR (d := 80) tb_ok cs16_ok (by kernel_rfl)
theorem cs17_ok {E : Nat → Option Value} {I : Interp} : ∀ c ∈ cs17, ConGood E tb Tryz.prog I c := List.forall_mem_cons.2 ⟨c17_ok, cs16_ok⟩
noncomputable def c18 : Con :=
 ⟨381, [(.slu 0 0 1 1)], [(.row [(.lit (.int .u8 99))] 5 .true)], [], (.tup [(.lit (.slice .none 0 0)), (iL 22)]), [(0, (.row [(.lit (.int .u8 99))] 5 .true))], 7612⟩
noncomputable def cs18 : List Con := c18 :: cs17
theorem c18_ok {E : Nat → Option Value} {I : Interp} : ConGood E tb Tryz.prog I c18 := con_goodR (d := 80) tb_ok cs17_ok (by kernel_rfl)
theorem cs18_ok {E : Nat → Option Value} {I : Interp} : ∀ c ∈ cs18, ConGood E tb Tryz.prog I c := List.forall_mem_cons.2 ⟨c18_ok, cs17_ok⟩
noncomputable def c19 : Con :=
 ⟨458, [(.lit (.slice .none 0 0)), (.slu 0 0 1 1)], [(.row [(.lit (.int .u8 99))] 5 .true)], [], (.tup [(.lit (.slice .none 0 0)), (iL 12)]), [(0, (.row [(.lit (.int .u8
 99))] 5 .true))], 109⟩
noncomputable def cs19 : List Con := c19 :: cs18
theorem c19_ok {E : Nat → Option Value} {I : Interp} : ConGood E tb Tryz.prog I c19 := con_goodR (d := 80) tb_ok cs18_ok (by kernel_rfl)
theorem cs19_ok {E : Nat → Option Value} {I : Interp} : ∀ c ∈ cs19, ConGood E tb Tryz.prog I c := List.forall_mem_cons.2 ⟨c19_ok, cs18_ok⟩
noncomputable def c20 : Con :=
 ⟨382, [(.lit (.slice .none 0 0)), (.slu 0 0 1 1), (.lit (.bool .false)), (.lit (.bool .false))], [(.row [(.lit (.int .u8 99))] 5 .true)], [], (.tup [(.lit (.slice .none 0
 0)), (iL 12)]), [(0, (.row [(.lit (.int .u8 99))] 5 .true))], 157⟩
noncomputable def cs20 : List Con := c20 :: cs19
theorem c20_ok {E : Nat → Option Value} {I : Interp} : ConGood E tb Tryz.prog I c20 := con_goodR (d := 80) tb_ok cs19_ok (by kernel_rfl)
theorem cs20_ok {E : Nat → Option Value} {I : Interp} : ∀ c ∈ cs20, ConGood E tb Tryz.prog I c := List.forall_mem_cons.2 ⟨c20_ok, cs19_ok⟩
noncomputable def c21 : Con :=
 ⟨382, [(.lit (.slice .none 0 0)), (.slu 0 0 1 1), (.lit (.bool .false)), (.lit (.bool .true))], [(.row [(.lit (.int .u8 99))] 5 .true)], [], (.tup [(.lit (.slice .none 0
 0)), (iL 12)]), [(0, (.row [(.lit (.int .u8 99))] 5 .true))], 157⟩
noncomputable def cs21 : List Con := c21 :: cs20
theorem c21_ok {E : Nat → Option Value} {I : Interp} : ConGood E tb Tryz.prog I c21 := con_goodR (d := 80) tb_ok cs20_ok (by kernel_rfl)
theorem cs21_ok {E : Nat → Option Value} {I : Interp} : ∀ c ∈ cs21, ConGood E tb Tryz.prog I c := List.forall_mem_cons.2 ⟨c21_ok, cs20_ok⟩
noncomputable def c22 : Con :=
 ⟨382, [(.lit (.slice .none 0 0)), (.slu 0 0 1 1), (.lit (.bool .true)), (.lit (.bool .false))], [(.row [(.lit (.int .u8 99))] 5 .true)], [], (.tup [(.lit (.slice .none 0
 0)), (iL 12)]), [(0, (.row [(.lit (.int .u8 99))] 5 .true))], 157⟩
noncomputable def cs22 : List Con := c22 :: cs21
theorem c22_ok {E : Nat → Option Value} {I : Interp} : ConGood E tb Tryz.prog I c22 := con_goodR (d := 80) tb_ok cs21_ok (by kernel_rfl)
theorem cs22_ok {E : Nat → Option Value} {I : Interp} : ∀ c ∈ cs22, ConGood E tb Tryz.prog I c := List.forall_mem_cons.2 ⟨c22_ok, cs21_ok⟩
noncomputable def c23 : Con :=
 ⟨382, [(.lit (.slice .none 0 0)), (.slu 0 0 1 1), (.lit (.bool .true)), (.lit (.bool .true))], [(.row [(.lit (.int .u8 99))] 5 .true)], [], (.tup [(.lit (.slice .none 0
 0)), (iL 12)]), [(0, (.row [(.lit (.int .u8 99))] 5 .true))], 157⟩
noncomputable def cs23 : List Con := c23 :: cs22
theorem c23_ok {E : Nat → Option Value} {I : Interp} : ConGood E tb Tryz.prog I c23 := con_goodR (d := 80) tb_ok cs22_ok (by kernel_rfl)
theorem cs23_ok {E : Nat → Option Value} {I : Interp} : ∀ c ∈ cs23, ConGood E tb Tryz.prog I c := List.forall_mem_cons.2 ⟨c23_ok, cs22_ok⟩
noncomputable def c24 : Con :=
 ⟨297, [(.lit (.slice .none 0 0)), (.slu 0 0 1 1)], [(.row [(.lit (.int .u8 99))] 5 .true)], [], (.slu 422 0 2 5), [(0, (.row [(.lit (.int .u8 99))] 5 .true)), (154, (.row
 (li .u8 [0, 1, 99]) 5 .true)), (392, (.row (li .u8 [1, 1, 99]) 5 .true)), (422, (.row [(iL 0), (.lit (.bool .false)), (iL 1), (.slu 154 0 3 1), (.lit (.slice .none 0 0)),
 (iL 1), (.lit (.bool .false)), (iL 1), (.slu 392 0 3 1), (.lit (.slice .none 0 0))] 417 .true))], 8753⟩
noncomputable def cs24 : List Con := c24 :: cs23
theorem c24_ok {E : Nat → Option Value} {I : Interp} : ConGood E tb Tryz.prog I c24 := con_goodR (d := 80) tb_ok cs23_ok (by kernel_rfl)
theorem cs24_ok {E : Nat → Option Value} {I : Interp} : ∀ c ∈ cs24, ConGood E tb Tryz.prog I c := List.forall_mem_cons.2 ⟨c24_ok, cs23_ok⟩
noncomputable def c25 : Con :=
 ⟨247, [(.lit (.slice .none 0 0)), (.slu 0 0 1 1)], [(.row [(.lit (.int .u8 99))] 5 .true)], [], (.tup [(.slu 159 0 3 1), (.lit (.slice .none 0 0))]), [(0, (.row [(.lit
 (.int .u8 99))] 5 .true)), (159, (.row (li .u8 [0, 1, 99]) 5 .true))], 8818⟩
noncomputable def cs25 : List Con := c25 :: cs24
theorem c25_ok {E : Nat → Option Value} {I : Interp} : ConGood E tb Tryz.prog I c25 := con_goodR (d := 80) tb_ok cs24_ok (by kernel_rfl)
theorem cs25_ok {E : Nat → Option Value} {I : Interp} : ∀ c ∈ cs25, ConGood E tb Tryz.prog I c := List.forall_mem_cons.2 ⟨c25_ok, cs24_ok⟩
noncomputable def c26 : Con :=
 ⟨198, [(.agg [(.lit (.slice .none 0 0)), (iL 0), (.lit (.slice .none 0 0)), (iL 0), (.lit (.slice .none 0 0)), (iL 0), (.lit (.slice .none 0 0)), (iL 1), (iL 4), (iL
 8)])], [], [], (.agg [(iL 0), (.lit (.slice .none 0 0)), (iL 0), (.lit (.slice .none 0 0)), (iL 0), (.lit (.slice .none 0 0))]), [], 10⟩
noncomputable def cs26 : List Con := c26 :: cs25
theorem c26_ok {E : Nat → Option Value} {I : Interp} : ConGood E tb Tryz.prog I c26 := con_goodR (d := 80) tb_ok cs25_ok (by kernel_rfl)
theorem cs26_ok {E : Nat → Option Value} {I : Interp} : ∀ c ∈ cs26, ConGood E tb Tryz.prog I c := List.forall_mem_cons.2 ⟨c26_ok, cs25_ok⟩
noncomputable def c27 : Con :=
 ⟨248, [(.agg [(.lit (.slice .none 0 0)), (iL 0), (.lit (.slice .none 0 0)), (iL 0), (.lit (.slice .none 0 0)), (iL 0), (.lit (.slice .none 0 0)), (iL 1), (iL 4), (iL
 8)]), (.lit (.slice .none 0 0))], [], [], (.tup [(.slu 149 0 1 1), (.agg [(.lit (.slice .none 0 0)), (iL 0), (.lit (.slice .none 0 0)), (iL 0), (.lit (.slice .none 0 0)),
 (iL 0), (.lit (.slice .none 0 0)), (iL 1), (iL 4), (iL 8)]), (iL 0)]), [(149, (.row [(.lit (.int .u8 0))] 5 .true))], 248⟩
noncomputable def cs27 : List Con := c27 :: cs26
theorem c27_ok {E : Nat → Option Value} {I : Interp} : ConGood E tb Tryz.prog I c27 := con_goodR (d := 80) tb_ok cs26_ok (by kernel_rfl)
theorem cs27_ok {E : Nat → Option Value} {I : Interp} : ∀ c ∈ cs27, ConGood E tb Tryz.prog I c := List.forall_mem_cons.2 ⟨c27_ok, cs26_ok⟩
noncomputable def c28 : Con :=
 ⟨180, [(.agg [(.lit (.slice .none 0 0)), (iL 0), (.lit (.slice .none 0 0)), (iL 0), (.lit (.slice .none 0 0)), (iL 0), (.lit (.slice .none 0 0)), (iL 1), (iL 4), (iL
 8)]), (.slu 0 0 1 1), (.lit (.slice .none 0 0)), (.slc 1 0 1 1), (iL 1024), (.lit (.bool .true))], [(.row [(.lit (.int .u8 97))] 5 .true), (.row [(.lit (.int .u8 99))] 5
 .false)], [], (.tup [(.slu 302 0 4 1), (.agg [(.lit (.slice .none 0 0)), (iL 0), (.lit (.slice .none 0 0)), (iL 0), (.lit (.slice .none 0 0)), (iL 0), (.lit (.slice .none
 0 0)), (iL 1), (iL 4), (iL 8)]), (iL 0)]), [(0, (.row [(.lit (.int .u8 97))] 5 .true)), (1, (.row [(.lit (.int .u8 99))] 5 .false)), (302, (.row (li .u8 [9, 0, 0, 99]) 5
 .true))], 9716⟩
noncomputable def cs28 : List Con := c28 :: cs27
theorem c28_ok {E : Nat → Option Value} {I : Interp} : ConGood E tb Tryz.prog I c28 := con_goodR (d := 80) tb_ok cs27_ok (by kernel_rfl)
theorem cs28_ok {E : Nat → Option Value} {I : Interp} : ∀ c ∈ cs28, ConGood E tb Tryz.prog I c := List.forall_mem_cons.2 ⟨c28_ok, cs27_ok⟩
noncomputable def c29 : Con :=
 ⟨165, [(.agg [(.lit (.slice .none 0 0)), (iL 0), (.lit (.slice .none 0 0)), (iL 0), (.lit (.slice .none 0 0)), (iL 0), (.lit (.slice .none 0 0)), (iL 1), (iL 4), (iL
 8)]), (.slu 0 0 1 1), (.agg [(iL 1024), (iL 2), (iL 64), (.lit (.bool .false)), (.lit (.bool .true)), (iL 0)]), (.slc 1 0 1 1), (.lit (.bool .true))], [(.row [(.lit (.int
 .u8 97))] 5 .true), (.row [(.lit (.int .u8 99))] 5 .false)], [], (.agg [(.slu 2741 0 4 1), (.lit (.slice .none 0 0)), (iL 0), (.lit (.slice .none 0 0)), (iL 0), (.lit
 (.slice .none 0 0)), (iL 0), (.lit (.slice .none 0 0)), (iL 1), (iL 4), (iL 8)]), [(0, (.row [(.lit (.int .u8 97))] 5 .true)), (1, (.row [(.lit (.int .u8 99))] 5
 .false)), (2741, (.row (li .u8 [9, 0, 0, 99]) 5 .true))], 12161⟩
noncomputable def cs29 : List Con := c29 :: cs28
theorem c29_ok {E : Nat → Option Value} {I : Interp} : ConGood E tb Tryz.prog I c29 := con_goodR (d := 80) tb_ok cs28_ok (by kernel_rfl)
theorem cs29_ok {E : Nat → Option Value} {I : Interp} : ∀ c ∈ cs29, ConGood E tb Tryz.prog I c := List.forall_mem_cons.2 ⟨c29_ok, cs28_ok⟩
noncomputable def c30 : Con :=
 ⟨166, [(.slc 0 0 1 1), (iL 1024)], [(.row [(.lit (.int .u8 99))] 5 .false)], [], (.lit (.slice .none 0 0)), [(0, (.row [(.lit (.int .u8 99))] 5 .false))], 14354⟩
noncomputable def cs30 : List Con := c30 :: cs29
theorem c30_ok {E : Nat → Option Value} {I : Interp} : ConGood E tb Tryz.prog I c30 := con_goodR (d := 80) tb_ok cs29_ok (by kernel_rfl)
theorem cs30_ok {E : Nat → Option Value} {I : Interp} : ∀ c ∈ cs30, ConGood E tb Tryz.prog I c := List.forall_mem_cons.2 ⟨c30_ok, cs29_ok⟩
noncomputable def c31 : Con :=
 ⟨104, [(.agg [(.lit (.slice .none 0 0)), (iL 0), (.lit (.slice .none 0 0)), (iL 0), (.lit (.slice .none 0 0)), (iL 0), (.lit (.slice .none 0 0)), (iL 1), (iL 4), (iL
 8)]), (.slu 0 0 1 1), (.agg [(iL 1024), (iL 2), (iL 64), (.lit (.bool .false)), (.lit (.bool .true)), (iL 0)]), (.slc 1 0 1 1), (.lit (.bool .true))], [(.row [(.lit (.int
 .u8 97))] 5 .true), (.row [(.lit (.int .u8 99))] 5 .false)], [], (.tup [(.slu 26772 0 4 1), (.agg [(.lit (.slice .none 0 0)), (iL 0), (.lit (.slice .none 0 0)), (iL 0),
 (.lit (.slice .none 0 0)), (iL 0), (.lit (.slice .none 0 0)), (iL 1), (iL 4), (iL 8)]), (iL 0)]), [(0, (.row [(.lit (.int .u8 97))] 5 .true)), (1, (.row [(.lit (.int .u8
 99))] 5 .false)), (26772, (.row (li .u8 [9, 0, 0, 99]) 5 .true))], 26888⟩
noncomputable def cs31 : List Con := c31 :: cs30
theorem c31_ok {E : Nat → Option Value} {I : Interp} : ConGood E tb Tryz.prog I c31 := con_goodR (d := 80) tb_ok cs30_ok (by kernel_rfl)
theorem cs31_ok {E : Nat → Option Value} {I : Interp} : ∀ c ∈ cs31, ConGood E tb Tryz.prog I c := List.forall_mem_cons.2 ⟨c31_ok, cs30_ok⟩
noncomputable def c32 : Con :=
 ⟨47, [(.ptr 0 0), (.agg [(iL 1024), (iL 2), (iL 64), (.lit (.bool .false)), (.lit (.bool .true)), (iL 0)]), (.slc 1 0 1 1)], [(.row ([(.lit (.int .u32 0)), (.lit (.slice
 .none 0 0)), (iL 0), (.lit (.slice .none 0 0)), (iL 0), (.lit (.slice .none 0 0)), (iL 0), (.lit (.slice .none 0 0))] ++ li .i64 [1, 4, 8] ++ [(.slu 2 0 1 1)]) 46
 .false), (.row [(.lit (.int .u8 99))] 5 .false), (.row [(.lit (.int .u8 97))] 5 .true)], [], (.tup [(.slu 283 0 14 1), (iL 0)]), [(0, (.row ([(.lit (.int .u32 0)), (.lit
 (.slice .none 0 0)), (iL 0), (.lit (.slice .none 0 0)), (iL 0), (.lit (.slice .none 0 0)), (iL 0), (.lit (.slice .none 0 0))] ++ li .i64 [1, 4, 8] ++ [(.slu 2 0 1 1)]) 46
 .false)), (1, (.row [(.lit (.int .u8 99))] 5 .false)), (2, (.row [(.lit (.int .u8 97))] 5 .true)), (283, (.row (li .u8 [80, 77, 84, 30, 2, 0, 9, 0, 0, 99, 211, 231, 73,
 156]) 5 .true))], 27822⟩
noncomputable def cs32 : List Con := c32 :: cs31
theorem c32_ok {E : Nat → Option Value} {I : Interp} : ConGood E tb Tryz.prog I c32 := con_goodR (d := 80) tb_ok cs31_ok (by kernel_rfl)
theorem cs32_ok {E : Nat → Option Value} {I : Interp} : ∀ c ∈ cs32, ConGood E tb Tryz.prog I c := List.forall_mem_cons.2 ⟨c32_ok, cs31_ok⟩
noncomputable def c33 : Con :=
 ⟨17, [(.slc 0 0 1 1), (.slc 1 0 1 1), (iL 2)], [(.row [(.lit (.int .u8 97))] 5 .false), (.row [(.lit (.int .u8 99))] 5 .false)], [], (.tup [(.slu 570 0 24 1), (iL 0)]),
 [(0, (.row [(.lit (.int .u8 97))] 5 .false)), (1, (.row [(.lit (.int .u8 99))] 5 .false)), (570, (.row (li .u8 [80, 77, 84, 80, 236, 103, 65, 251, 1, 1, 80, 77, 84, 30,
 2, 0, 9, 0, 0, 99, 211, 231, 73, 156]) 5 .true))], 28551⟩
noncomputable def cs33 : List Con := c33 :: cs32
theorem c33_ok {E : Nat → Option Value} {I : Interp} : ConGood E tb Tryz.prog I c33 := con_goodR (d := 80) tb_ok cs32_ok (by kernel_rfl)
theorem cs33_ok {E : Nat → Option Value} {I : Interp} : ∀ c ∈ cs33, ConGood E tb Tryz.prog I c := List.forall_mem_cons.2 ⟨c33_ok, cs32_ok⟩
noncomputable def c34 : Con :=
 ⟨8, [(.slu 0 0 24 1)], [(.row (li .u8 [80, 77, 84, 80, 236, 103, 65, 251, 1, 1, 80, 77, 84, 30, 2, 0, 9, 0, 0, 99, 211, 231, 73, 156]) 5 .true)], [], (.tup [(.agg [(.lit
 (.int .u32 4215367660)), (iL 1), (iL 1)]), (iL 10), (iL 0)]), [(0, (.row (li .u8 [80, 77, 84, 80, 236, 103, 65, 251, 1, 1, 80, 77, 84, 30, 2, 0, 9, 0, 0, 99, 211, 231,
 73, 156]) 5 .true))], 837⟩
noncomputable def cs34 : List Con := c34 :: cs33
theorem c34_ok {E : Nat → Option Value} {I : Interp} : ConGood E tb Tryz.prog I c34 := con_goodR (d := 80) tb_ok cs33_ok (by kernel_rfl)
theorem cs34_ok {E : Nat → Option Value} {I : Interp} : ∀ c ∈ cs34, ConGood E tb Tryz.prog I c := List.forall_mem_cons.2 ⟨c34_ok, cs33_ok⟩
noncomputable def c35 : Con :=
 ⟨116, [(.ptr 0 0), (.agg [(.lit (.slice .none 0 0)), (iL 0), (.lit (.slice .none 0 0)), (iL 0), (.lit (.slice .none 0 0)), (iL 0), (.lit (.slice .none 0 0)), (iL 1), (iL
 4), (iL 8)]), (.ptr 1 0), (iL 1024)], [(.row [(.slu 2 0 14 1), (iL 6)] 103 .false), (.row [(.slu 3 0 1 1), (iL 1024), (iL 0)] 200 .false), (.row (li .u8 [80, 77, 84, 30,
 2, 0, 9, 0, 0, 99, 211, 231, 73, 156]) 5 .true), (.row [(.lit (.int .u8 97))] 5 .true)], [], (.tup [(.slu 430 0 1 1), (.lit (.bool .true)), (.agg [(.lit (.slice .none 0
 0)), (iL 0), (.lit (.slice .none 0 0)), (iL 0), (.lit (.slice .none 0 0)), (iL 0), (.lit (.slice .none 0 0)), (iL 1), (iL 4), (iL 8)]), (iL 0)]), [(0, (.row [(.slu 2 0 14
 1), (iL 10)] 103 .false)), (1, (.row [(.slu 485 0 2 1), (iL 1024), (iL 1)] 200 .false)), (2, (.row (li .u8 [80, 77, 84, 30, 2, 0, 9, 0, 0, 99, 211, 231, 73, 156]) 5
 .true)), (430, (.row [(.lit (.int .u8 99))] 5 .true)), (485, (.row [(.lit (.int .u8 97)), (.lit (.int .u8 99))] 5 .true))], 530⟩
noncomputable def cs35 : List Con := c35 :: cs34
theorem c35_ok {E : Nat → Option Value} {I : Interp} : ConGood E tb Tryz.prog I c35 := con_goodR (d := 80) tb_ok cs34_ok (by kernel_rfl)
theorem cs35_ok {E : Nat → Option Value} {I : Interp} : ∀ c ∈ cs35, ConGood E tb Tryz.prog I c := List.forall_mem_cons.2 ⟨c35_ok, cs34_ok⟩
noncomputable def c36 : Con :=
 ⟨49, [(.slc 0 10 14 14), (iL 134217728), (iL 1), (.slc 1 0 1 1)], [(.row (li .u8 [80, 77, 84, 80, 236, 103, 65, 251, 1, 1, 80, 77, 84, 30, 2, 0, 9, 0, 0, 99, 211, 231,
 73, 156]) 5 .true), (.row ([(.lit (.int .u32 0)), (.lit (.slice .none 0 0)), (iL 0), (.lit (.slice .none 0 0)), (iL 0), (.lit (.slice .none 0 0)), (iL 0), (.lit (.slice
 .none 0 0))] ++ li .i64 [1, 4, 8] ++ [(.slu 2 0 1 1)]) 46 .false), (.row [(.lit (.int .u8 97))] 5 .true)], [], (.tup [(.slu 1819 0 1 1), (iL 0)]), [(0, (.row (li .u8 [80,
 77, 84, 80, 236, 103, 65, 251, 1, 1, 80, 77, 84, 30, 2, 0, 9, 0, 0, 99, 211, 231, 73, 156]) 5 .true)), (1, (.row ([(.lit (.int .u32 0)), (.lit (.slice .none 0 0)), (iL
 0), (.lit (.slice .none 0 0)), (iL 0), (.lit (.slice .none 0 0)), (iL 0), (.lit (.slice .none 0 0))] ++ li .i64 [1, 4, 8] ++ [(.slu 2 0 1 1)]) 46 .false)), (2, (.row
 [(.lit (.int .u8 97))] 5 .true)), (1819, (.row [(.lit (.int .u8 99))] 5 .true))], 2290⟩
noncomputable def cs36 : List Con := c36 :: cs35
theorem c36_ok {E : Nat → Option Value} {I : Interp} : ConGood E tb Tryz.prog I c36 := con_goodR (d := 80) tb_ok cs35_ok (by kernel_rfl)
theorem cs36_ok {E : Nat → Option Value} {I : Interp} : ∀ c ∈ cs36, ConGood E tb Tryz.prog I c := List.forall_mem_cons.2 ⟨c36_ok, cs35_ok⟩
noncomputable def c37 : Con :=
 ⟨18, [(.slc 0 0 1 1), (.slu 1 0 24 1)], [(.row [(.lit (.int .u8 97))] 5 .false), (.row (li .u8 [80, 77, 84, 80, 236, 103, 65, 251, 1, 1, 80, 77, 84, 30, 2, 0, 9, 0, 0,
 99, 211, 231, 73, 156]) 5 .true)], [], (.tup [(.slu 2941 0 1 1), (iL 0)]), [(0, (.row [(.lit (.int .u8 97))] 5 .false)), (1, (.row (li .u8 [80, 77, 84, 80, 236, 103, 65,
 251, 1, 1, 80, 77, 84, 30, 2, 0, 9, 0, 0, 99, 211, 231, 73, 156]) 5 .true)), (2941, (.row [(.lit (.int .u8 99))] 5 .true))], 3433⟩
noncomputable def cs37 : List Con := c37 :: cs36
theorem c37_ok {E : Nat → Option Value} {I : Interp} : ConGood E tb Tryz.prog I c37 := con_goodR (d := 80) tb_ok cs36_ok (by kernel_rfl)
theorem cs37_ok {E : Nat → Option Value} {I : Interp} : ∀ c ∈ cs37, ConGood E tb Tryz.prog I c := List.forall_mem_cons.2 ⟨c37_ok, cs36_ok⟩
noncomputable def c38 : Con :=
 ⟨18, [(.slc 0 0 1 1), (.slu 1 0 24 1)], [(.row [(.lit (.int .u8 98))] 5 .false), (.row (li .u8 [80, 77, 84, 80, 236, 103, 65, 251, 1, 1, 80, 77, 84, 30, 2, 0, 9, 0, 0,
 99, 211, 231, 73, 156]) 5 .true)], [], (.tup [(.lit (.slice .none 0 0)), (iL 9)]), [(0, (.row [(.lit (.int .u8 98))] 5 .false)), (1, (.row (li .u8 [80, 77, 84, 80, 236,
 103, 65, 251, 1, 1, 80, 77, 84, 30, 2, 0, 9, 0, 0, 99, 211, 231, 73, 156]) 5 .true))], 1053⟩
noncomputable def cs38 : List Con := c38 :: cs37
theorem c38_ok {E : Nat → Option Value} {I : Interp} : ConGood E tb Tryz.prog I c38 := con_goodR (d := 80) tb_ok cs37_ok (by kernel_rfl)
theorem cs38_ok {E : Nat → Option Value} {I : Interp} : ∀ c ∈ cs38, ConGood E tb Tryz.prog I c := List.forall_mem_cons.2 ⟨c38_ok, cs37_ok⟩
end Go.Proofs.YtgmhnjicaihmmaaGreat
