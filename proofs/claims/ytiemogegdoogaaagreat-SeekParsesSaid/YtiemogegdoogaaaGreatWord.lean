/- Words as terms of their own: the cursor's, the reference's, a skippable frame's length. -/
import Derived.Test.YtiemogegdoogaaaGreatHead
import Derived.Test.YtiemogegdoogaaaGreatGet
set_option linter.unusedVariables false
set_option linter.unusedSimpArgs false
set_option maxRecDepth 100000
namespace Go.Proofs.YtiemogegdoogaaaGreat.Sy
open Go Go.Proofs.YtiemogegdoogaaaGreat.Eng Go.Proofs
noncomputable def wordT : VT := .leaf [word (.var 0) (.var 1)]
theorem wordT_few : wordT.few 2 = true := by kernel_rfl
theorem wordT_wide : wordT.wide 1 = true := by kernel_rfl
class WordI (I : Interp) : Prop where
  h : ∀ n, n < 1 → ∀ x, I.f1 (13 + n) x = wordT.fn n x
section
variable {E : Nat → Option Value} {I : Interp}
noncomputable def wd (B p : SX) : SX := .a1 (.u 13) (.a2 .pair B (.a2 .pair p (.lit 0)))
noncomputable def cWordU : Con := onCur 42 [] [(.a2 .lt left (.lit 4), false)] (.tup [.si .u32 (wd (.var 0) (.var 1)), .lit (.int .i64 0)]) (.a2 .add (.var 1) (.lit 4)) [] 3
theorem cWordU_ok [h : WordI I] : ConGood E tb Tryz.prog I cWordU :=
  con_vtM (T := wordT) (k := 13) (m := 2) (w := 1) (d := 60) tb_ok k1_ok wordT_few wordT_wide h.h (by kernel_rfl)
/-- the reference's, in a whole slice that came in -/
noncomputable def cGetW : Con := ⟨17, [.slv 0 (.var 2) (.a1 .len (.var 0)) none 1, .si .i64 (.var 1)], [.win .u8 (.var 2) (.var 0)],
  [(.a1 .byt (.var 0), true), (.a2 .lt (.lit 1000000) (.a1 .len (.var 0)), false), (.a2 .lt (.var 1) (.lit 0), false), (.a2 .lt (.a2 .sub (.a1 .len (.var 0)) (.var 1)) (.lit 4), false)],
  .tup [.si .u32 (wd (.var 0) (.var 1)), .si .i64 (.a2 .add (.var 1) (.lit 4)), .lit (.int .i64 0)], [(0, .win .u8 (.var 2) (.var 0))], 1⟩
theorem cGetW_ok [h : WordI I] : ConGood E tb Tryz.prog I cGetW :=
  con_vtM (T := wordT) (k := 13) (m := 2) (w := 1) (d := 60) (l := []) tb_ok (fun _ h => by cases h) wordT_few wordT_wide h.h (by kernel_rfl)
noncomputable def size4U : SX := wd (.a3 .cut (.var 0) (.var 1) (.a2 .add (.var 1) (.lit 8))) (.lit 4)
noncomputable def k3 : List Con := [cWordU, cPeek, cBytes, cNew, cLeft, cIsS, cClone]
theorem k3_ok [WordI I] : ∀ c ∈ k3, ConGood E tb Tryz.prog I c := List.forall_mem_cons.2 ⟨cWordU_ok, List.forall_mem_cons.2 ⟨cPeek_ok, List.forall_mem_cons.2 ⟨cBytes_ok, List.forall_mem_cons.2 ⟨cNew_ok, List.forall_mem_cons.2 ⟨cLeft_ok, List.forall_mem_cons.2 ⟨cIsS_ok, List.forall_mem_cons.2 ⟨cClone_ok, fun _ h => by cases h⟩⟩⟩⟩⟩⟩⟩
noncomputable def wdR (w : SX) : Facts := [(.a2 .lt w (.lit 0), false), (.a2 .lt (.lit 4294967295) w, false)]
noncomputable def cPayUS : Con := onCur 45 [] ([four true, isFr false, isSk true, (.a2 .lt left (.lit 8), false), (.a2 .lt (.a2 .sub left (.lit 8)) size4U, true)] ++ wdR size4U) (no 3) (.var 1) [] 3
theorem cPayUS_ok [WordI I] : ConGood E tb Tryz.prog I cPayUS := con_goodM (d := 60) tb_ok k3_ok (by kernel_rfl)
noncomputable def payU : SX := .a3 .cut (.var 0) (.a2 .add (.var 1) (.lit 8)) (.a2 .add (.a2 .add (.var 1) (.lit 8)) size4U)
noncomputable def cPayU : Con := onCur 45 [] ([four true, isFr false, isSk true, (.a2 .lt left (.lit 8), false), (.a2 .lt (.a2 .sub left (.lit 8)) size4U, false)] ++ wdR size4U) (.tup [.slv 2 (.lit 0) size4U none 1, .lit (.int .i64 0)]) (.a2 .add (.a2 .add (.var 1) (.lit 8)) size4U) [(2, .seq .u8 payU 5)] 3
theorem cPayU_ok [WordI I] : ConGood E tb Tryz.prog I cPayU := con_goodM (d := 60) tb_ok k3_ok (by kernel_rfl)
end
end Go.Proofs.YtiemogegdoogaaaGreat.Sy
