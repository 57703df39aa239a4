/- The reference's varints as a contract. -/
import Derived.Test.YtgmhnjicaihmmaaGreatPut
set_option linter.unusedVariables false
set_option maxRecDepth 100000
namespace Go.Proofs.YtgmhnjicaihmmaaGreat.Sy
open Go Go.Proofs.YtgmhnjicaihmmaaGreat.Eng Go.Proofs
section
variable {E : Nat → Option Value} {I : Interp}
noncomputable def cRefV : Con := ⟨28, [.si .u64 (.var 1)], [], [(.a2 .lt (.var 1) (.lit 0), false), (.a2 .lt (.lit 4611686018427387903) (.var 1), false)], .slv 0 (.lit 0) (.a1 .len encU) none 1, [(0, .seq .u8 encU 5)], 1⟩
theorem cRefV_ok [hI : PutI I] : ConGood E tb Tryz.prog I cRefV := con_casesM (d := 60) (l := []) tb_ok (fun _ h => by cases h) (L := lemL encLs) (fun v => lemL_ok encLs_ok v) (t := encS) (by kernel_rfl)
end
end Go.Proofs.YtgmhnjicaihmmaaGreat.Sy
