/- Calls of examples, run by the kernel. -/
import Derived.Test.YtfgdbeijjbijnaaGreatDoorHWD
set_option linter.unusedSimpArgs false
set_option linter.unusedVariables false
set_option linter.unusedVariables false
set_option maxRecDepth 100000
namespace Go.Proofs.YtfgdbeijjbijnaaGreatDoor
open Go Go.Abs Go.Proofs
def LM : V := .c (.d (.bool true))
theorem S2 : PureG Tryz.prog GH0 42 [] LM := pure_yres (X := tx) (E := exW []) 50000 wmo (Ag _ Ab) rfl (by kernel_rfl) (by kernel_rfl) (by kernel_rfl)
def LN : List (Nat × List V × List AB × V) := [(42, [], GH0, LM)]
theorem OQ : ∀ e ∈ LN, PureG Tryz.prog e.2.2.1 e.1 e.2.1 e.2.2.2 := (Aa S2 Ab)
end Go.Proofs.YtfgdbeijjbijnaaGreatDoor
