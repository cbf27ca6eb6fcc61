/- Calls of examples, run by the kernel. -/
import Derived.Test.YtfgdbeijjbijnaaGreatDoorJWD
set_option linter.unusedSimpArgs false
set_option linter.unusedVariables false
set_option linter.unusedVariables false
set_option maxRecDepth 100000
namespace Go.Proofs.YtfgdbeijjbijnaaGreatDoor
open Go Go.Abs Go.Proofs
def LS : V := .c (.d (.bool true))
theorem SH : PureG Tryz.prog GH0 42 [] LS := pure_yres (X := tx) (E := exW []) 50000 wmo (Al _ Ae) rfl (by kernel_rfl) (by kernel_rfl) (by kernel_rfl)
def OB : List (Nat × List V × List AB × V) := [(42, [], GH0, LS)]
theorem SI : ∀ e ∈ OB, PureG Tryz.prog e.2.2.1 e.1 e.2.1 e.2.2.2 := (Ab SH Ae)
end Go.Proofs.YtfgdbeijjbijnaaGreatDoor
