/- SeekParses on symbols: the law's parts, each by a run of its own. -/
import Derived.Test.YtiemogegdoogaaaGreatParse2
set_option linter.unusedVariables false
set_option maxRecDepth 100000
namespace Go.Proofs.YtiemogegdoogaaaGreat.Sy
open Go Go.Proofs.YtiemogegdoogaaaGreat.Eng Go.Proofs
section
variable {I : Interp}
theorem kPs_ok [VarI I] [WordI I] [RowI I] [SumI I] (hk : ConGood (fun _ => none) tb Tryz.prog I cKp) : ∀ c ∈ kPs, ConGood (fun _ => none) tb Tryz.prog I c :=
  List.forall_mem_cons.2 ⟨cSumPart_ok, List.forall_mem_cons.2 ⟨cRefWin_ok, List.forall_mem_cons.2 ⟨cNew_ok, List.forall_mem_cons.2 ⟨cWordS_ok, List.forall_mem_cons.2 ⟨cWordU_ok, List.forall_mem_cons.2 ⟨cGetW_ok, List.forall_mem_cons.2 ⟨cRest_ok, List.forall_mem_cons.2 ⟨cLeft_ok, List.forall_mem_cons.2 ⟨cNumber_ok, List.forall_mem_cons.2 ⟨cGet_ok, List.forall_mem_cons.2 ⟨cClone_ok, List.forall_mem_cons.2 ⟨hk, fun _ h => by cases h⟩⟩⟩⟩⟩⟩⟩⟩⟩⟩⟩⟩
theorem lPs_ok [VarI I] [WordI I] [RowI I] [SumI I] : ∀ q ∈ lPs, LGood tb Tryz.prog I q :=
  List.forall_mem_cons.2 ⟨lPar_ok, List.forall_mem_cons.2 ⟨lParX_ok, List.forall_mem_cons.2 ⟨lRow_ok, List.forall_mem_cons.2 ⟨lRowX_ok, List.forall_mem_cons.2 ⟨lSam_ok, fun _ h => by cases h⟩⟩⟩⟩⟩
theorem part1 [VarI I] [WordI I] [RowI I] [SumI I] (hk : ConGood (fun _ => none) tb Tryz.prog I cKp) : ConGood (fun _ => none) tb Tryz.prog I (cPs pf1) :=
  con_allM (d := 60) (l := kPs) (lps := lPs) (L := lemL psL) (t := .leaf) tb_ok (kPs_ok hk) lPs_ok (fun v => lemL_ok psL_ok v) (by kernel_rfl)
theorem part2 [VarI I] [WordI I] [RowI I] [SumI I] (hk : ConGood (fun _ => none) tb Tryz.prog I cKp) : ConGood (fun _ => none) tb Tryz.prog I (cPs pf2) :=
  con_allM (d := 60) (l := kPs) (lps := lPs) (L := lemL psL) (t := .lem 0 .leaf) tb_ok (kPs_ok hk) lPs_ok (fun v => lemL_ok psL_ok v) (by kernel_rfl)
theorem part3 [VarI I] [WordI I] [RowI I] [SumI I] (hk : ConGood (fun _ => none) tb Tryz.prog I cKp) : ConGood (fun _ => none) tb Tryz.prog I (cPs pf3) :=
  con_allM (d := 60) (l := kPs) (lps := lPs) (L := lemL psL) (t := .lem 0 .leaf) tb_ok (kPs_ok hk) lPs_ok (fun v => lemL_ok psL_ok v) (by kernel_rfl)
theorem part4 [VarI I] [WordI I] [RowI I] [SumI I] (hk : ConGood (fun _ => none) tb Tryz.prog I cKp) : ConGood (fun _ => none) tb Tryz.prog I (cPs (pfx false)) :=
  con_allM (d := 60) (l := kPs) (lps := lPs) (L := lemL psL) (t := tW (tMagic (tRest .leaf))) tb_ok (kPs_ok hk) lPs_ok (fun v => lemL_ok psL_ok v) (by kernel_rfl)
theorem con_br {E : Nat → Option Value} {c : Con} (e : SX) (h1 : ConGood E tb Tryz.prog I { c with facts := (e, true) :: c.facts }) (h2 : ConGood E tb Tryz.prog I { c with facts := (e, false) :: c.facts }) : ConGood E tb Tryz.prog I c := fun v hv => by
  cases he : (@SX.ev (I.at v) e).tr with
  | true => exact h1 v (List.forall_mem_cons.2 ⟨he, hv⟩)
  | false => exact h2 v (List.forall_mem_cons.2 ⟨he, hv⟩)
noncomputable def e83 : SX := .a2 .eq rd3 (.lit 83)
noncomputable def lA : SX := .a2 .lt (.a2 .add sizeW (.lit 16)) sz4
noncomputable def lB : SX := .a2 .lt sz4 (.a2 .add sizeW (.lit 16))
noncomputable def lM : SX := .a2 .lt sizeW manyW
noncomputable def eU : SX := .a2 .eq (stP 40) (.lit 1)
noncomputable def lU : SX := .a2 .lt (stP 42) sizeW
noncomputable def G1 : Facts := (mk3, true) :: pfx true
noncomputable def G2 : Facts := (e83, true) :: G1
noncomputable def G3 : Facts := (lA, false) :: G2
noncomputable def G4 : Facts := (lB, false) :: G3
noncomputable def G5 : Facts := (sumE, true) :: G4
noncomputable def G6 : Facts := (lM, false) :: G5
noncomputable def G7 : Facts := (eU, true) :: G6
theorem q1 [VarI I] [WordI I] [RowI I] [SumI I] (hk : ConGood (fun _ => none) tb Tryz.prog I cKp) : ConGood (fun _ => none) tb Tryz.prog I (cPs ((mk3, false) :: pfx true)) :=
  con_allM (d := 60) (l := kPs) (lps := lPs) (L := lemL psL) (t := tW (.lem 5 .leaf)) tb_ok (kPs_ok hk) lPs_ok (fun v => lemL_ok psL_ok v) (by kernel_rfl)
theorem q2 [VarI I] [WordI I] [RowI I] [SumI I] (hk : ConGood (fun _ => none) tb Tryz.prog I cKp) : ConGood (fun _ => none) tb Tryz.prog I (cPs ((e83, false) :: G1)) :=
  con_allM (d := 60) (l := kPs) (lps := lPs) (L := lemL psL) (t := tW (.br (.a2 .eq rd3 (.lit 30)) (.lem 3 .leaf) (.lem 4 .leaf))) tb_ok (kPs_ok hk) lPs_ok (fun v => lemL_ok psL_ok v) (by kernel_rfl)
theorem q3 [VarI I] [WordI I] [RowI I] [SumI I] (hk : ConGood (fun _ => none) tb Tryz.prog I cKp) : ConGood (fun _ => none) tb Tryz.prog I (cPs ((lA, true) :: G2)) :=
  con_allM (d := 60) (l := kPs) (lps := lPs) (L := lemL psL) (t := tW (.lem 2 .leaf)) tb_ok (kPs_ok hk) lPs_ok (fun v => lemL_ok psL_ok v) (by kernel_rfl)
theorem q4 [VarI I] [WordI I] [RowI I] [SumI I] (hk : ConGood (fun _ => none) tb Tryz.prog I cKp) : ConGood (fun _ => none) tb Tryz.prog I (cPs ((lB, true) :: G3)) :=
  con_allM (d := 60) (l := kPs) (lps := lPs) (L := lemL psL) (t := tW (.lem 2 .leaf)) tb_ok (kPs_ok hk) lPs_ok (fun v => lemL_ok psL_ok v) (by kernel_rfl)
theorem q5 [VarI I] [WordI I] [RowI I] [SumI I] (hk : ConGood (fun _ => none) tb Tryz.prog I cKp) : ConGood (fun _ => none) tb Tryz.prog I (cPs ((sumE, false) :: G4)) :=
  con_allM (d := 60) (l := kPs) (lps := lPs) (L := lemL psL) (t := tW (.lem 2 .leaf)) tb_ok (kPs_ok hk) lPs_ok (fun v => lemL_ok psL_ok v) (by kernel_rfl)
theorem q6 [VarI I] [WordI I] [RowI I] [SumI I] (hk : ConGood (fun _ => none) tb Tryz.prog I cKp) : ConGood (fun _ => none) tb Tryz.prog I (cPs ((lM, true) :: G5)) :=
  con_allM (d := 60) (l := kPs) (lps := lPs) (L := lemL psL) (t := tW (.lem 2 .leaf)) tb_ok (kPs_ok hk) lPs_ok (fun v => lemL_ok psL_ok v) (by kernel_rfl)
theorem q7 [VarI I] [WordI I] [RowI I] [SumI I] (hk : ConGood (fun _ => none) tb Tryz.prog I cKp) : ConGood (fun _ => none) tb Tryz.prog I (cPs ((eU, false) :: G6)) :=
  con_allM (d := 60) (l := kPs) (lps := lPs) (L := lemL psL) (t := tW (.lem 2 (.lem 7 (.lem 6 .leaf)))) tb_ok (kPs_ok hk) lPs_ok (fun v => lemL_ok psL_ok v) (by kernel_rfl)
theorem q8 [VarI I] [WordI I] [RowI I] [SumI I] (hk : ConGood (fun _ => none) tb Tryz.prog I cKp) : ConGood (fun _ => none) tb Tryz.prog I (cPs ((lU, true) :: G7)) :=
  con_allM (d := 60) (l := kPs) (lps := lPs) (L := lemL psL) (t := tW (.lem 2 (.lem 7 (.lem 8 (.br (.a2 .lt (.lit 0) (stP 43)) .leaf .leaf))))) tb_ok (kPs_ok hk) lPs_ok (fun v => lemL_ok psL_ok v) (by kernel_rfl)
theorem q9 [VarI I] [WordI I] [RowI I] [SumI I] (hk : ConGood (fun _ => none) tb Tryz.prog I cKp) : ConGood (fun _ => none) tb Tryz.prog I (cPs ((lU, false) :: G7)) :=
  con_allM (d := 60) (l := kPs) (lps := lPs) (L := lemL psL) (t := tW (.lem 2 (.lem 7 (.lem 8 (.br (.a2 .lt (.lit 0) (stP 43)) .leaf .leaf))))) tb_ok (kPs_ok hk) lPs_ok (fun v => lemL_ok psL_ok v) (by kernel_rfl)
theorem part5 [VarI I] [WordI I] [RowI I] [SumI I] (hk : ConGood (fun _ => none) tb Tryz.prog I cKp) : ConGood (fun _ => none) tb Tryz.prog I (cPs (pfx true)) :=
  con_br mk3 (con_br e83 (con_br lA (q3 hk) (con_br lB (q4 hk) (con_br sumE (con_br lM (q6 hk) (con_br eU (con_br lU (q8 hk) (q9 hk)) (q7 hk))) (q5 hk)))) (q2 hk)) (q1 hk)
theorem part0 [VarI I] [WordI I] [RowI I] [SumI I] (hk : ConGood (fun _ => none) tb Tryz.prog I cKp) : ConGood (fun _ => none) tb Tryz.prog I (cPs [(.a2 .lt (.lit 4000) n0, true)]) :=
  con_allM (d := 60) (l := kPs) (lps := lPs) (L := lemL psL) (t := .leaf) tb_ok (kPs_ok hk) lPs_ok (fun v => lemL_ok psL_ok v) (by kernel_rfl)
end
end Go.Proofs.YtiemogegdoogaaaGreat.Sy
