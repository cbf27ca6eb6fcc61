/- atlas.Make, run by the kernel. -/
import Derived.Test.YtklmpopomokglaaV0
set_option linter.unusedSimpArgs false
set_option linter.unusedVariables false
namespace Go.Proofs.Ytklmpopomokglaa
open Go Go.Abs Go.Proofs
set_option maxRecDepth 1000000
theorem made27 : madeB 27 = true := by kernel_rfl
theorem made28 : madeB 28 = true := by kernel_rfl
theorem made29 : madeB 29 = true := by kernel_rfl
theorem made30 : madeB 30 = true := by kernel_rfl
theorem made31 : madeB 31 = true := by kernel_rfl
theorem made32 : madeB 32 = true := by kernel_rfl
end Go.Proofs.Ytklmpopomokglaa
