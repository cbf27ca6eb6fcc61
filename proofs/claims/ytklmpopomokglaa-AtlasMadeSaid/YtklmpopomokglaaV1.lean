/- atlas.Make, run by the kernel. -/
import Derived.Test.YtklmpopomokglaaV0
set_option linter.unusedSimpArgs false
set_option linter.unusedVariables false
namespace Go.Proofs.Ytklmpopomokglaa
open Go Go.Abs Go.Proofs
set_option maxRecDepth 1000000
theorem made3 : madeB 3 = true := by kernel_rfl
theorem made4 : madeB 4 = true := by kernel_rfl
theorem made5 : madeB 5 = true := by kernel_rfl
theorem made6 : madeB 6 = true := by kernel_rfl
theorem made7 : madeB 7 = true := by kernel_rfl
theorem made8 : madeB 8 = true := by kernel_rfl
theorem made9 : madeB 9 = true := by kernel_rfl
theorem made10 : madeB 10 = true := by kernel_rfl
theorem made11 : madeB 11 = true := by kernel_rfl
theorem made12 : madeB 12 = true := by kernel_rfl
theorem made13 : madeB 13 = true := by kernel_rfl
theorem made14 : madeB 14 = true := by kernel_rfl
end Go.Proofs.Ytklmpopomokglaa
