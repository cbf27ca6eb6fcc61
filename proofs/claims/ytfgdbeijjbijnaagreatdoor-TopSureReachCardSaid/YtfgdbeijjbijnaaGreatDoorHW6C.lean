/- Calls of examples, run by the kernel. -/
import Derived.Test.YtfgdbeijjbijnaaGreatDoorHWD
set_option linter.unusedSimpArgs false
set_option linter.unusedVariables false
set_option linter.unusedVariables false
set_option maxRecDepth 100000
namespace Go.Proofs.YtfgdbeijjbijnaaGreatDoor
open Go Go.Abs Go.Proofs
def LW : V := .tup [.c (.d (.int .i64 0)), .c (.d (.int .i64 2)), .c (.d (.int .i64 0))]
theorem S9 : PureG Tryz.prog GH0 116 [.c (.d (.sl [aDV, aFS 4 2, aFS 3 2]))] LW := pure_yres (X := tx) (E := exW []) 50000 wmo (Ag _ Ab) rfl (by kernel_rfl) (by kernel_rfl) (by kernel_rfl)
def aEF : List (Nat × List V × List AB × V) := [(116, [.c (.d (.sl [aDV, aFS 4 2, aFS 3 2]))], GH0, LW)]
theorem aIF : ∀ e ∈ aEF, PureG Tryz.prog e.2.2.1 e.1 e.2.1 e.2.2.2 := (Aa S9 Ab)
end Go.Proofs.YtfgdbeijjbijnaaGreatDoor
