/- The reference's numbers in bytes, read in a part of a row: by the same cases as the cursor's. -/
import Derived.Test.YtiemogegdoogaaaGreatNum
set_option linter.unusedVariables false
set_option maxRecDepth 100000
namespace Go.Proofs.YtiemogegdoogaaaGreat.Sy
open Go Go.Proofs.YtiemogegdoogaaaGreat.Eng Go.Proofs
section
variable {E : Nat → Option Value} {I : Interp}
/-- the bytes of the slice: at variable 2, so many as variable 3, in the row of variable 5 that begins at variable 4 -/
noncomputable def cutV : SX := .a3 .cut (.var 5) (.a2 .sub (.var 2) (.var 4)) (.a2 .add (.a2 .sub (.var 2) (.var 4)) (.var 3))
noncomputable def cutB : Nat → SX | 0 => cutV | i => .var i
noncomputable def winF : Facts := [(.a1 .byt (.var 0), true), (.a1 .byt (.var 5), true), (.a2 .same (.var 0) cutV, true), (.a2 .lt (.a2 .sub (.var 2) (.var 4)) (.lit 0), false), (.a2 .lt (.var 3) (.lit 0), false), (.a2 .lt (.lit 1000000) (.var 3), false), (.a2 .lt (.lit 1000000) (.a1 .len (.var 5)), false),
  (.a2 .lt (.a1 .len (.var 5)) (.a2 .add (.a2 .sub (.var 2) (.var 4)) (.var 3)), false), (.a2 .eq (.a1 .len (.var 0)) (.var 3), true), (.a2 .lt (.lit 1000000) (.a1 .len (.var 0)), false)]
noncomputable def winO : PObj := .win .u8 (.var 4) (.var 5)
noncomputable def onWin (f : Nat) (args : List AVal) (more : Facts) (ret : AVal) : Con := ⟨f, .slv 0 (.var 2) (.var 3) none 1 :: args, [winO], more ++ winF, ret, [(0, winO)], 1⟩
noncomputable def atF : Facts := [(.a2 .lt (.var 1) (.lit 0), false), (.a2 .lt (.var 3) (.var 1), false)]
noncomputable def cGet : Con := onWin 52 [.si .i64 (.var 1)] atF (.tup [.si .u64 (vtU 10 2 0), .si .i64 (vtU 10 2 2), .si .i64 (vtU 10 2 1)])
theorem cGet_ok [h : VarI I] : ConGood E tb Tryz.prog I cGet :=
  con_vtS (T := varT) (k := 10) (m := 2) (w := 3) (d := 60) (l := []) tb_ok (fun _ h => by cases h) cutB varT_few varT_wide h.h (by kernel_rfl) (by kernel_rfl)
end
end Go.Proofs.YtiemogegdoogaaaGreat.Sy
