/- Calls of examples, run by the kernel. -/
import Derived.Test.YtfgdbeijjbijnaaGreatDoorHW2X
import Derived.Test.YtfgdbeijjbijnaaGreatDoorHW2Y
import Derived.Test.YtfgdbeijjbijnaaGreatDoorHW2U
set_option linter.unusedSimpArgs false
set_option linter.unusedVariables false
set_option linter.unusedVariables false
set_option maxRecDepth 100000
namespace Go.Proofs.YtfgdbeijjbijnaaGreatDoor
open Go Go.Abs Go.Proofs
def IX : V := .tup [.c (.full []), .c (.d (.int .i64 5))]
theorem QP : PureG Tryz.prog GH3 259 [iv 3, .c (.d (.sl [r2 0 1, r2 1 2, r2 0 1])), iv 3] IX := pure_yres (X := tx) (E := exW ((Ld ++ Fa) ++ Fb)) 50000 wmo (Ag _ (AD (AD OO FL) FM)) rfl (by kernel_rfl) (by kernel_rfl) (by kernel_rfl)
def aEd : List (Nat × List V × List AB × V) := [(259, [iv 3, .c (.d (.sl [r2 0 1, r2 1 2, r2 0 1])), iv 3], GH3, IX)]
theorem aIt : ∀ e ∈ aEd, PureG Tryz.prog e.2.2.1 e.1 e.2.1 e.2.2.2 := (Aa QP Ab)
end Go.Proofs.YtfgdbeijjbijnaaGreatDoor
