/- Calls of examples, run by the kernel. -/
import Derived.Test.YtfgdbeijjbijnaaGreatDoorJW3T
import Derived.Test.YtfgdbeijjbijnaaGreatDoorJW3U
import Derived.Test.YtfgdbeijjbijnaaGreatDoorJW3V
import Derived.Test.YtfgdbeijjbijnaaGreatDoorJW3O
set_option linter.unusedSimpArgs false
set_option linter.unusedVariables false
set_option linter.unusedVariables false
set_option maxRecDepth 100000
namespace Go.Proofs.YtfgdbeijjbijnaaGreatDoor
open Go Go.Abs Go.Proofs
def LO : V := .tup [.c (.d (.int .i64 1)), .c (.d (.int .i64 19)), .c (.d (.int .i64 0))]
theorem SE : PureG Tryz.prog GH0 278 [Dn, iv 0] LO := pure_yres (X := tx) (E := exW (((SD ++ aDF) ++ aDG) ++ aDH)) 50000 wmo (Al _ (Bb (Bb (Bb aDI aHx) aHy) aHz)) rfl (by kernel_rfl) (by kernel_rfl) (by kernel_rfl)
def aDJ : List (Nat × List V × List AB × V) := [(278, [Dn, iv 0], GH0, LO)]
theorem aHA : ∀ e ∈ aDJ, PureG Tryz.prog e.2.2.1 e.1 e.2.1 e.2.2.2 := (Ab SE Ae)
end Go.Proofs.YtfgdbeijjbijnaaGreatDoor
