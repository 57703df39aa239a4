/- The reference's seek table on symbols. -/
import Derived.Test.YtempojknmnmffaaGreatTable3
import Derived.Test.YtempojknmnmffaaGreatSumRef
set_option linter.unusedVariables false
set_option maxRecDepth 100000
namespace Go.Proofs.YtempojknmnmffaaGreat.Sy
open Go Go.Proofs.YtempojknmnmffaaGreat.Eng Go.Proofs
section
variable {E : Nat → Option Value} {I : Interp}
noncomputable def cRefV : Con := ⟨31, [.si .u64 (.var 1)], [], [(.a2 .lt (.var 1) (.lit 0), false), (.a2 .lt (.lit 4611686018427387903) (.var 1), false)], .slv 0 (.lit 0) (.a1 .len encU) none 1, [(0, .seq .u8 encU 5)], 1⟩
theorem cRefV_ok [hI : PutI I] : ConGood E tb Tryz.prog I cRefV := con_casesM (d := 60) (l := []) tb_ok (fun _ h => by cases h) (L := lemL encLs) (fun v => lemL_ok encLs_ok v) (t := encS) (by kernel_rfl)
end
section
variable {I : Interp}
noncomputable def kRef : List Con := [cRefV]
theorem kRef_ok {E : Nat → Option Value} [PutI I] : ∀ c ∈ kRef, ConGood E tb Tryz.prog I c := List.forall_mem_cons.2 ⟨cRefV_ok, fun _ h => by cases h⟩
noncomputable def anyW (l : List Nat) : List (Nat × AVal) := l.map fun t => (t, .any)
noncomputable def lRef : LCon := ⟨10, [false, true, false, true, true], 49,
  [(0, .slv 0 (.var 1) (.var 2) none 2), (3, .slv 1 (.lit 0) (.a1 .len (.var 4)) none 1), (4, .si .i64 (.var 3))],
  (3, .slv 1 (.lit 0) (.a1 .len resT) none 1) :: (4, .any) :: anyW (List.range' 6 23),
  [.win .i64 (.var 1) (.var 0), .seq .u8 (.var 4) 5], [1], tabF, .ext 0,
  [(0, .win .i64 (.var 1) (.var 0)), (1, .seq .u8 resT 5)], 400, .a2 .sub (.var 2) (.var 3)⟩
theorem lRef_ok [PutI I] [TabI I] : LGood tb Tryz.prog I lRef :=
  lcon_good (d := 60) (l := kRef) (lps := []) tb_ok kRef_ok (fun _ h => by cases h) (L := lemL tabL) (fun v => lemL_ok tabL_ok v) (t := treeTab) (m := 2) (fun ds => by kernel_rfl)
noncomputable def kRefT : List Con := [cRefAll, cRefV]
theorem kRefT_ok [PutI I] [SumI I] : ∀ c ∈ kRefT, ConGood (fun _ => none) tb Tryz.prog I c := List.forall_mem_cons.2 ⟨cRefAll_ok, kRef_ok⟩
noncomputable def cRefTab : Con := { cTable with f := 10, ret := .slv 1 (.lit 0) (.a2 .add (.a1 .len rows0) (.lit 24)) none 1 }
theorem cRefTab_ok [PutI I] [TabI I] [SumI I] : ConGood (fun _ => none) tb Tryz.prog I cRefTab := con_loopsM (d := 60) (l := kRefT) (lps := [lRef]) (L := lemL tabLs) (t := .lem 0 .leaf) tb_ok kRefT_ok (List.forall_mem_cons.2 ⟨lRef_ok, fun _ h => by cases h⟩) (fun v => lemL_ok tabLs_ok v) (by kernel_rfl)
end
end Go.Proofs.YtempojknmnmffaaGreat.Sy
