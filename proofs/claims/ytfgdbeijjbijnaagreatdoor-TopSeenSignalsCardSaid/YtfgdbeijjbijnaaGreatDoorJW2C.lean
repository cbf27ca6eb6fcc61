/- Calls of examples, run by the kernel. -/
import Derived.Test.YtfgdbeijjbijnaaGreatDoorJW2X
import Derived.Test.YtfgdbeijjbijnaaGreatDoorJW2Y
import Derived.Test.YtfgdbeijjbijnaaGreatDoorJW2U
set_option linter.unusedSimpArgs false
set_option linter.unusedVariables false
set_option linter.unusedVariables false
set_option maxRecDepth 100000
namespace Go.Proofs.YtfgdbeijjbijnaaGreatDoor
open Go Go.Abs Go.Proofs
def Ja : V := .tup [.c (.full []), .c (.d (.int .i64 5))]
theorem Qy : PureG Tryz.prog GH2 259 [iv 3, .c (.d (.sl [r2 0 1, r2 1 2, r2 0 1])), iv 3] Ja := pure_yres (X := tx) (E := exW ((Lj ++ Ft) ++ Fu)) 50000 wmo (Al _ (Bb (Bb Oz F1) F2)) rfl (by kernel_rfl) (by kernel_rfl) (by kernel_rfl)
def aDx : List (Nat × List V × List AB × V) := [(259, [iv 3, .c (.d (.sl [r2 0 1, r2 1 2, r2 0 1])), iv 3], GH2, Ja)]
theorem aHu : ∀ e ∈ aDx, PureG Tryz.prog e.2.2.1 e.1 e.2.1 e.2.2.2 := (Ab Qy Ae)
end Go.Proofs.YtfgdbeijjbijnaaGreatDoor
