/- atlas.Make, run by the kernel. -/
import Derived.Test.YtklmpopomokglaaV0
set_option linter.unusedSimpArgs false
set_option linter.unusedVariables false
namespace Go.Proofs.Ytklmpopomokglaa
open Go Go.Abs Go.Proofs
set_option maxRecDepth 1000000
theorem made33 : madeB 33 = true := by kernel_rfl
theorem made34 : madeB 34 = true := by kernel_rfl
theorem made35 : madeB 35 = true := by kernel_rfl
theorem made36 : madeB 36 = true := by kernel_rfl
theorem made37 : madeB 37 = true := by kernel_rfl
theorem made38 : madeB 38 = true := by kernel_rfl
theorem made39 : madeB 39 = true := by kernel_rfl
end Go.Proofs.Ytklmpopomokglaa
