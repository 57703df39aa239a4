/- What the functions of layer 38 do on symbols: marks, payloads. No condition beyond those that each contract lists. -/
import Derived.Test.YtiemogegdoogaaaGreatNum
set_option linter.unusedVariables false
set_option maxRecDepth 100000
namespace Go.Proofs.YtiemogegdoogaaaGreat.Sy
open Go Go.Proofs.YtiemogegdoogaaaGreat.Eng Go.Proofs
section
variable {E : Nat → Option Value} {I : Interp}
/-- the four bytes at the cursor -/
noncomputable def mk4 : SX := .a3 .cut (.var 0) (.var 1) (.a2 .add (.var 1) (.lit 4))
noncomputable def four (b : Bool) : SX × Bool := (.a2 .lt left (.lit 4), !b)
noncomputable def isFr (b : Bool) : SX × Bool := (.a2 .eqL mk4 (.str [80, 77, 84, 30]), b)
noncomputable def isSk (b : Bool) : SX × Bool := (.a2 .eqL mk4 (.str [80, 77, 84, 83]), b)
noncomputable def tw (b : Bool) (e : Int) : AVal := .tup [.lit (.bool b), .lit (.int .i64 e)]
noncomputable def cIsN : Con := onCur 73 [] [four false] (tw false 3) (.var 1) [] 120
theorem cIsN_ok : ConGood E tb Tryz.prog I cIsN := con_goodR (d := 60) tb_ok k1_ok (by kernel_rfl)
noncomputable def cIsF : Con := onCur 73 [] [four true, isFr true] (tw true 0) (.var 1) [] 120
theorem cIsF_ok : ConGood E tb Tryz.prog I cIsF := con_goodR (d := 60) tb_ok k1_ok (by kernel_rfl)
noncomputable def cIsS : Con := onCur 73 [] [four true, isFr false, isSk true] (tw false 0) (.var 1) [] 120
theorem cIsS_ok : ConGood E tb Tryz.prog I cIsS := con_goodR (d := 60) tb_ok k1_ok (by kernel_rfl)
noncomputable def cIsO : Con := onCur 73 [] [four true, isFr false, isSk false] (tw false 6) (.var 1) [] 120
theorem cIsO_ok : ConGood E tb Tryz.prog I cIsO := con_goodR (d := 60) tb_ok k1_ok (by kernel_rfl)
/-! a skippable frame's payload -/
noncomputable def no (e : Int) : AVal := .tup [.lit (.slice none 0 0), .lit (.int .i64 e)]
noncomputable def size4 : SX := word (.var 0) (.a2 .add (.var 1) (.lit 4))
noncomputable def cPayN : Con := onCur 45 [] [four false] (no 3) (.var 1) [] 600
theorem cPayN_ok : ConGood E tb Tryz.prog I cPayN := con_goodR (d := 60) tb_ok k1_ok (by kernel_rfl)
noncomputable def cPayF : Con := onCur 45 [] [four true, isFr true] (no 6) (.var 1) [] 600
theorem cPayF_ok : ConGood E tb Tryz.prog I cPayF := con_goodR (d := 60) tb_ok k1_ok (by kernel_rfl)
noncomputable def cPayO : Con := onCur 45 [] [four true, isFr false, isSk false] (no 6) (.var 1) [] 600
theorem cPayO_ok : ConGood E tb Tryz.prog I cPayO := con_goodR (d := 60) tb_ok k1_ok (by kernel_rfl)
noncomputable def cPayW : Con := onCur 45 [] [four true, isFr false, isSk true, (.a2 .lt left (.lit 8), true)] (no 3) (.var 1) [] 600
theorem cPayW_ok : ConGood E tb Tryz.prog I cPayW := con_goodR (d := 60) tb_ok k1_ok (by kernel_rfl)
noncomputable def cPayS : Con := onCur 45 [] [four true, isFr false, isSk true, (.a2 .lt left (.lit 8), false), (.a2 .lt (.a2 .sub left (.lit 8)) size4, true)] (no 3) (.var 1) [] 600
theorem cPayS_ok : ConGood E tb Tryz.prog I cPayS := con_goodR (d := 60) tb_ok k1_ok (by kernel_rfl)
noncomputable def pay : SX := .a3 .cut (.var 0) (.a2 .add (.var 1) (.lit 8)) (.a2 .add (.a2 .add (.var 1) (.lit 8)) size4)
noncomputable def cPay : Con := onCur 45 [] [four true, isFr false, isSk true, (.a2 .lt left (.lit 8), false), (.a2 .lt (.a2 .sub left (.lit 8)) size4, false)] (.tup [.slv 669 (.lit 0) size4 none 1, .lit (.int .i64 0)]) (.a2 .add (.a2 .add (.var 1) (.lit 8)) size4) [(669, .seq .u8 pay 5)] 800
theorem cPay_ok : ConGood E tb Tryz.prog I cPay := con_goodR (d := 60) tb_ok k1_ok (by kernel_rfl)
end
end Go.Proofs.YtiemogegdoogaaaGreat.Sy
