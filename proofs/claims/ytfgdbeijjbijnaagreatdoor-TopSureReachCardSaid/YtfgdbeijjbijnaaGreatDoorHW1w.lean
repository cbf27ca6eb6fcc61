/- Calls of examples, run by the kernel. -/
import Derived.Test.YtfgdbeijjbijnaaGreatDoorHWD
set_option linter.unusedSimpArgs false
set_option linter.unusedVariables false
set_option linter.unusedVariables false
set_option maxRecDepth 100000
namespace Go.Proofs.YtfgdbeijjbijnaaGreatDoor
open Go Go.Abs Go.Proofs
def K9 : V := .c (.d (.bool true))
theorem Sp : PureG Tryz.prog GH2 173 [] K9 := pure_yres (X := tx) (E := exW []) 50000 wmo (Ag _ Ab) rfl (by kernel_rfl) (by kernel_rfl) (by kernel_rfl)
def aDW : List (Nat × List V × List AB × V) := [(173, [], GH2, K9)]
theorem aIq : ∀ e ∈ aDW, PureG Tryz.prog e.2.2.1 e.1 e.2.1 e.2.2.2 := (Aa Sp Ab)
end Go.Proofs.YtfgdbeijjbijnaaGreatDoor
