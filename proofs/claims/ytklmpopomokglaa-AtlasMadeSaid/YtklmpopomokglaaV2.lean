/- atlas.Make, run by the kernel. -/
import Derived.Test.YtklmpopomokglaaV0
set_option linter.unusedSimpArgs false
set_option linter.unusedVariables false
namespace Go.Proofs.Ytklmpopomokglaa
open Go Go.Abs Go.Proofs
set_option maxRecDepth 1000000
theorem made15 : madeB 15 = true := by kernel_rfl
theorem made16 : madeB 16 = true := by kernel_rfl
theorem made17 : madeB 17 = true := by kernel_rfl
theorem made18 : madeB 18 = true := by kernel_rfl
theorem made19 : madeB 19 = true := by kernel_rfl
theorem made20 : madeB 20 = true := by kernel_rfl
end Go.Proofs.Ytklmpopomokglaa
