/- The reference says between two of the upper windows that only the upper one is valid. No condition. -/
import Derived.Test.YtapnpdingakdcaaGreatWinD
set_option linter.unusedVariables false
set_option maxRecDepth 100000
namespace Go.Proofs.YtapnpdingakdcaaGreat
open Go Go.Proofs.YtapnpdingakdcaaGreat.Eng Go.Proofs
theorem runsM7 : (pairs7.all fun q => runs (cls 11 q)) = true := by kernel_rfl
theorem runsM8 : (pairs8.all fun q => runs (cls 11 q)) = true := by kernel_rfl
theorem runsM9 : (pairs9.all fun q => runs (cls 11 q)) = true := by kernel_rfl
end Go.Proofs.YtapnpdingakdcaaGreat
