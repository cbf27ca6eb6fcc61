/- Calls of examples, run by the kernel. -/
import Derived.Test.YtfgdbeijjbijnaaGreatDoorHW2X
import Derived.Test.YtfgdbeijjbijnaaGreatDoorHW2Y
import Derived.Test.YtfgdbeijjbijnaaGreatDoorHW2U
set_option linter.unusedSimpArgs false
set_option linter.unusedVariables false
set_option linter.unusedVariables false
set_option maxRecDepth 100000
namespace Go.Proofs.YtfgdbeijjbijnaaGreatDoor
open Go Go.Abs Go.Proofs
def IY : V := .tup [.c (.full [[.int .i64 1], [.int .i64 0], [.int .i64 1], [.int .i64 0]]), .c (.d (.int .i64 0))]
theorem QQ : PureG Tryz.prog GH3 260 [iv 4, .c (.d (.sl [r2 0 2, r2 1 3])), iv 2] IY := pure_yres (X := tx) (E := exW ((Ld ++ Fa) ++ Fb)) 50000 wmo (Ag _ (AD (AD OO FL) FM)) rfl (by kernel_rfl) (by kernel_rfl) (by kernel_rfl)
def aEe : List (Nat × List V × List AB × V) := [(260, [iv 4, .c (.d (.sl [r2 0 2, r2 1 3])), iv 2], GH3, IY)]
theorem aIu : ∀ e ∈ aEe, PureG Tryz.prog e.2.2.1 e.1 e.2.1 e.2.2.2 := (Aa QQ Ab)
end Go.Proofs.YtfgdbeijjbijnaaGreatDoor
