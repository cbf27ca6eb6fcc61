/- Calls of examples, run by the kernel. -/
import Derived.Test.YtfgdbeijjbijnaaGreatDoorHWD
set_option linter.unusedSimpArgs false
set_option linter.unusedVariables false
set_option linter.unusedVariables false
set_option maxRecDepth 100000
namespace Go.Proofs.YtfgdbeijjbijnaaGreatDoor
open Go Go.Abs Go.Proofs
def LI : V := .tup [.c (.dp AG), .c (.d (.int .i64 0))]
theorem SW : PureG Tryz.prog GH0 69 [Da] LI := pure_yres (X := tx) (E := exW []) 50000 wmo (Ag _ Ab) rfl (by kernel_rfl) (by kernel_rfl) (by kernel_rfl)
def SX : List (Nat × List V × List AB × V) := [(69, [Da], GH0, LI)]
theorem aEo : ∀ e ∈ SX, PureG Tryz.prog e.2.2.1 e.1 e.2.1 e.2.2.2 := (Aa SW Ab)
end Go.Proofs.YtfgdbeijjbijnaaGreatDoor
