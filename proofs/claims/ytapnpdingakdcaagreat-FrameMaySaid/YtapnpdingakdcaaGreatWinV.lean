/- The program says between two windows that only the upper one is valid. No condition. -/
import Derived.Test.YtapnpdingakdcaaGreatWinD
set_option linter.unusedVariables false
set_option maxRecDepth 100000
namespace Go.Proofs.YtapnpdingakdcaaGreat
open Go Go.Proofs.YtapnpdingakdcaaGreat.Eng Go.Proofs
theorem runsV0 : (pairs0.all fun q => runs (cls 10 q)) = true := by kernel_rfl
theorem runsV1 : (pairs1.all fun q => runs (cls 10 q)) = true := by kernel_rfl
theorem runsV2 : (pairs2.all fun q => runs (cls 10 q)) = true := by kernel_rfl
theorem runsV3 : (pairs3.all fun q => runs (cls 10 q)) = true := by kernel_rfl
theorem runsV4 : (pairs4.all fun q => runs (cls 10 q)) = true := by kernel_rfl
theorem runsV5 : (pairs5.all fun q => runs (cls 10 q)) = true := by kernel_rfl
theorem runsV6 : (pairs6.all fun q => runs (cls 10 q)) = true := by kernel_rfl
theorem runsV7 : (pairs7.all fun q => runs (cls 10 q)) = true := by kernel_rfl
theorem runsV8 : (pairs8.all fun q => runs (cls 10 q)) = true := by kernel_rfl
theorem runsV9 : (pairs9.all fun q => runs (cls 10 q)) = true := by kernel_rfl
theorem allV : (pairs.all fun q => runs (cls 10 q)) = true := (all_app runsV0 (all_app runsV1 (all_app runsV2 (all_app runsV3 (all_app runsV4 (all_app runsV5 (all_app runsV6 (all_app runsV7 (all_app runsV8 runsV9)))))))))
theorem outV : (runs (out 10 low false) && runs (out 10 mid false) && runs (out 10 least true) && runs (out 10 high false)) = true := by kernel_rfl
end Go.Proofs.YtapnpdingakdcaaGreat
