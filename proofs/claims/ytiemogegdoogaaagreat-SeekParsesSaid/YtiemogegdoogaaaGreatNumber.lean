/- Numbers of layer 1 as a contract. -/
import Derived.Test.YtiemogegdoogaaaGreatNum
set_option linter.unusedVariables false
set_option maxRecDepth 100000
namespace Go.Proofs.YtiemogegdoogaaaGreat.Sy
open Go Go.Proofs.YtiemogegdoogaaaGreat.Eng Go.Proofs
section
variable {E : Nat → Option Value} {I : Interp}
noncomputable def mostN : SX := .lit 4611686018427387903
noncomputable def cNumber : Con := onCur 48 [.lit (.int .i64 4611686018427387903)] [] (.tup [.si .i64 (vtU 10 2 0), .si .i64 (vtU 10 2 1)]) (vtU 10 2 2) [] 2500
theorem cNumber_ok [h : VarI I] : ConGood E tb Tryz.prog I cNumber :=
  con_vt (T := varT) (k := 10) (m := 2) (w := 3) (d := 60) tb_ok k1_ok varT_few varT_wide h.h (by kernel_rfl)
/-- what is known of them -/
noncomputable def varQ : Facts := [(.a2 .lt (vtU 10 2 0) (.lit 0), false), (.a2 .lt mostN (vtU 10 2 0), false), (.a2 .lt (vtU 10 2 2) (.var 1), false), (.a2 .lt (.a1 .len (.var 0)) (vtU 10 2 2), false), (.a2 .lt (vtU 10 2 1) (.lit 0), false), (.a2 .lt (.lit 18) (vtU 10 2 1), false)]
theorem varQ_ok [h : VarI I] : (Lem.mk ([] ++ curF) varQ).Valid I := vt_lem' (T := varT) (k := 10) (m := 2) (w := 3) varT_few varT_wide h.h (by kernel_rfl)
noncomputable def good : SX := .a2 .eq (vtU 10 2 1) (.lit 0)
theorem varOk_ok [h : VarI I] : (Lem.mk ([(good, true)] ++ curF) [(.a2 .lt (.var 1) (vtU 10 2 2), true)]).Valid I := vt_lem' (T := varT) (k := 10) (m := 2) (w := 3) varT_few varT_wide h.h (by kernel_rfl)
theorem varNo_ok [h : VarI I] : (Lem.mk ([(good, false)] ++ curF) [(.a2 .eq (vtU 10 2 2) (.var 1), true), (.a2 .eq (vtU 10 2 0) (.lit 0), true)]).Valid I := vt_lem' (T := varT) (k := 10) (m := 2) (w := 3) varT_few varT_wide h.h (by kernel_rfl)
end
end Go.Proofs.YtiemogegdoogaaaGreat.Sy
