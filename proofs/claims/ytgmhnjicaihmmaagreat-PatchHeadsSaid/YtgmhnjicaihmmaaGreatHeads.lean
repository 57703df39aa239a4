/- Numbers of at most 2^26, by the cursor and by the reference; PatchHeads on symbols. -/
import Derived.Test.YtgmhnjicaihmmaaGreatRefV
set_option linter.unusedVariables false
set_option linter.unusedSimpArgs false
set_option maxRecDepth 100000
namespace Go.Proofs.YtgmhnjicaihmmaaGreat.Sy
open Go Go.Proofs.YtgmhnjicaihmmaaGreat.Eng Go.Proofs
section
variable {E : Nat → Option Value} {I : Interp}
/-! the reference's numbers, in a whole slice that came in -/
noncomputable def cGetA : Con := ⟨61, [.slv 0 (.var 2) (.a1 .len (.var 0)) none 1, .si .i64 (.var 1)], [.win .u8 (.var 2) (.var 0)], curF, .tup [.si .u64 (vtU 10 2 0), .si .i64 (vtU 10 2 2), .si .i64 (vtU 10 2 1)], [(0, .win .u8 (.var 2) (.var 0))], 1⟩
theorem cGetA_ok [h : VarI I] : ConGood E tb Tryz.prog I cGetA :=
  con_vtM (T := varT) (k := 10) (m := 2) (w := 3) (d := 60) (l := []) tb_ok (fun _ h => by cases h) varT_few varT_wide h.h (by kernel_rfl)
noncomputable def mostN : SX := .lit 4611686018427387903
noncomputable def varQ : Facts := [(.a2 .lt (vtU 10 2 0) (.lit 0), false), (.a2 .lt mostN (vtU 10 2 0), false), (.a2 .lt (vtU 10 2 2) (.var 1), false), (.a2 .lt (.a1 .len (.var 0)) (vtU 10 2 2), false), (.a2 .lt (vtU 10 2 1) (.lit 0), false), (.a2 .lt (.lit 18) (vtU 10 2 1), false)]
theorem varQ_ok [h : VarI I] : (Lem.mk ([] ++ curF) varQ).Valid I := vt_lem' (T := varT) (k := 10) (m := 2) (w := 3) varT_few varT_wide h.h (by kernel_rfl)
noncomputable def good : SX := .a2 .eq (vtU 10 2 1) (.lit 0)
theorem varNo_ok [h : VarI I] : (Lem.mk ([(good, false)] ++ curF) [(.a2 .eq (vtU 10 2 2) (.var 1), true), (.a2 .eq (vtU 10 2 0) (.lit 0), true)]).Valid I := vt_lem' (T := varT) (k := 10) (m := 2) (w := 3) varT_few varT_wide h.h (by kernel_rfl)
noncomputable def most26 : AVal := .lit (.int .i64 67108864)
noncomputable def big26 : SX := .a2 .lt (.lit 67108864) (vtU 10 2 0)
noncomputable def numLs : List Lem := [⟨curF, varQ⟩, ⟨(good, false) :: curF, [(.a2 .eq (vtU 10 2 2) (.var 1), true), (.a2 .eq (vtU 10 2 0) (.lit 0), true)]⟩]
theorem numLs_ok [VarI I] : ∀ l ∈ numLs, l.Valid I := by
  intro l hl
  simp only [numLs, List.mem_cons, List.not_mem_nil, or_false] at hl
  rcases hl with rfl | rfl
  · exact varQ_ok
  · exact varNo_ok
noncomputable def kN : List Con := [cVarint]
theorem kN_ok [VarI I] : ∀ c ∈ kN, ConGood E tb Tryz.prog I c := List.forall_mem_cons.2 ⟨cVarint_ok, fun _ h => by cases h⟩
noncomputable def cNumE : Con := onCur 59 [most26] [(good, false)] (.tup [.lit (.int .i64 0), .si .i64 (vtU 10 2 1)]) (.var 1) [] 2
theorem cNumE_ok [VarI I] : ConGood E tb Tryz.prog I cNumE := con_casesM (d := 60) (l := kN) (L := lemL numLs) (t := .lem 0 (.lem 1 .leaf)) tb_ok kN_ok (fun v => lemL_ok numLs_ok v) (by kernel_rfl)
noncomputable def cNumB : Con := onCur 59 [most26] [(good, true), (big26, true)] (.tup [.lit (.int .i64 0), .lit (.int .i64 18)]) (.var 1) [] 2
theorem cNumB_ok [VarI I] : ConGood E tb Tryz.prog I cNumB := con_casesM (d := 60) (l := kN) (L := lemL numLs) (t := .lem 0 .leaf) tb_ok kN_ok (fun v => lemL_ok numLs_ok v) (by kernel_rfl)
noncomputable def cNumG : Con := onCur 59 [most26] [(good, true), (big26, false)] (.tup [.si .i64 (vtU 10 2 0), .lit (.int .i64 0)]) (vtU 10 2 2) [] 2
theorem cNumG_ok [VarI I] : ConGood E tb Tryz.prog I cNumG := con_casesM (d := 60) (l := kN) (L := lemL numLs) (t := .lem 0 .leaf) tb_ok kN_ok (fun v => lemL_ok numLs_ok v) (by kernel_rfl)
/-! the reference's -/
noncomputable def onRef (more : Facts) (ret : AVal) : Con := ⟨33, [.slv 0 (.var 2) (.a1 .len (.var 0)) none 1, .si .i64 (.var 1), most26], [.win .u8 (.var 2) (.var 0)], more ++ curF, ret, [(0, .win .u8 (.var 2) (.var 0))], 1⟩
noncomputable def kR : List Con := [cGetA]
theorem kR_ok [VarI I] : ∀ c ∈ kR, ConGood E tb Tryz.prog I c := List.forall_mem_cons.2 ⟨cGetA_ok, fun _ h => by cases h⟩
noncomputable def cRNumE : Con := onRef [(good, false)] (.tup [.lit (.int .i64 0), .si .i64 (.var 1), .si .i64 (vtU 10 2 1)])
theorem cRNumE_ok [VarI I] : ConGood E tb Tryz.prog I cRNumE := con_casesM (d := 60) (l := kR) (L := lemL numLs) (t := .lem 0 (.lem 1 .leaf)) tb_ok kR_ok (fun v => lemL_ok numLs_ok v) (by kernel_rfl)
noncomputable def cRNumB : Con := onRef [(good, true), (big26, true)] (.tup [.lit (.int .i64 0), .si .i64 (.var 1), .lit (.int .i64 18)])
theorem cRNumB_ok [VarI I] : ConGood E tb Tryz.prog I cRNumB := con_casesM (d := 60) (l := kR) (L := lemL numLs) (t := .lem 0 .leaf) tb_ok kR_ok (fun v => lemL_ok numLs_ok v) (by kernel_rfl)
noncomputable def cRNumG : Con := onRef [(good, true), (big26, false)] (.tup [.si .i64 (vtU 10 2 0), .si .i64 (vtU 10 2 2), .lit (.int .i64 0)])
theorem cRNumG_ok [VarI I] : ConGood E tb Tryz.prog I cRNumG := con_casesM (d := 60) (l := kR) (L := lemL numLs) (t := .lem 0 (.br (.a2 .lt (.lit 0) (vtU 10 2 0)) .leaf .leaf)) tb_ok kR_ok (fun v => lemL_ok numLs_ok v) (by kernel_rfl)
end
end Go.Proofs.YtgmhnjicaihmmaaGreat.Sy
