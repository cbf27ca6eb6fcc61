/- Works() answers true: the kernel runs it. -/
import Derived.Test.YtklmpopomokglaaTab
import Derived.Test.YtklmpopomokglaaKT
set_option linter.unusedSimpArgs false
set_option linter.unusedVariables false
namespace Go.Proofs.Ytklmpopomokglaa
open Go Go.Abs Go.Proofs
def wkL : List Nat := (List.range 67).drop 13
theorem wkOk : wkL.all (okFn tx) = true := by kernel_rfl
theorem works_run : isB true (xF tx wkL ktT 5000 15 [] []) = true := by kernel_rfl
theorem works_pure : Pure Try.prog 15 [] (B true) := pure_bool (X := tx) wkL ktT 5000 (by kernel_rfl) wkOk works_run rfl
theorem known_run : isB true (xF tx wkL ktT 5000 13 [] []) = true := by kernel_rfl
theorem known_pure : Pure Try.prog 13 [] (B true) := pure_bool (X := tx) wkL ktT 5000 (by kernel_rfl) wkOk known_run rfl
end Go.Proofs.Ytklmpopomokglaa
