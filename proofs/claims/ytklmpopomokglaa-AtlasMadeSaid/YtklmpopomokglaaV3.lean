/- atlas.Make, run by the kernel. -/
import Derived.Test.YtklmpopomokglaaV0
set_option linter.unusedSimpArgs false
set_option linter.unusedVariables false
namespace Go.Proofs.Ytklmpopomokglaa
open Go Go.Abs Go.Proofs
set_option maxRecDepth 1000000
theorem made21 : madeB 21 = true := by kernel_rfl
theorem made22 : madeB 22 = true := by kernel_rfl
theorem made23 : madeB 23 = true := by kernel_rfl
theorem made24 : madeB 24 = true := by kernel_rfl
theorem made25 : madeB 25 = true := by kernel_rfl
theorem made26 : madeB 26 = true := by kernel_rfl
end Go.Proofs.Ytklmpopomokglaa
