/- Calls of examples, run by the kernel. -/
import Derived.Test.YtfgdbeijjbijnaaGreatDoorJWD
set_option linter.unusedSimpArgs false
set_option linter.unusedVariables false
set_option linter.unusedVariables false
set_option maxRecDepth 100000
namespace Go.Proofs.YtfgdbeijjbijnaaGreatDoor
open Go Go.Abs Go.Proofs
def Lg : V := .c (.d (.bool true))
theorem R7 : PureG Tryz.prog GH1 173 [] Lg := pure_yres (X := tx) (E := exW []) 50000 wmo (Al _ Ae) rfl (by kernel_rfl) (by kernel_rfl) (by kernel_rfl)
def aDg : List (Nat × List V × List AB × V) := [(173, [], GH1, Lg)]
theorem aHr : ∀ e ∈ aDg, PureG Tryz.prog e.2.2.1 e.1 e.2.1 e.2.2.2 := (Ab R7 Ae)
end Go.Proofs.YtfgdbeijjbijnaaGreatDoor
