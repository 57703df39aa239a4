/- The reference says between two of the lower windows that only the upper one is valid. No condition. -/
import Derived.Test.YtapnpdingakdcaaGreatWinD
set_option linter.unusedVariables false
set_option maxRecDepth 100000
namespace Go.Proofs.YtapnpdingakdcaaGreat
open Go Go.Proofs.YtapnpdingakdcaaGreat.Eng Go.Proofs
theorem runsM0 : (pairs0.all fun q => runs (cls 11 q)) = true := by kernel_rfl
theorem runsM1 : (pairs1.all fun q => runs (cls 11 q)) = true := by kernel_rfl
theorem runsM2 : (pairs2.all fun q => runs (cls 11 q)) = true := by kernel_rfl
theorem runsM3 : (pairs3.all fun q => runs (cls 11 q)) = true := by kernel_rfl
theorem runsM4 : (pairs4.all fun q => runs (cls 11 q)) = true := by kernel_rfl
theorem runsM5 : (pairs5.all fun q => runs (cls 11 q)) = true := by kernel_rfl
theorem runsM6 : (pairs6.all fun q => runs (cls 11 q)) = true := by kernel_rfl
end Go.Proofs.YtapnpdingakdcaaGreat
