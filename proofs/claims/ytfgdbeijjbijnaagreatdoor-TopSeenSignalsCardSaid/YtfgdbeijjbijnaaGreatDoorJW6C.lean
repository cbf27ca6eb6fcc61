/- Calls of examples, run by the kernel. -/
import Derived.Test.YtfgdbeijjbijnaaGreatDoorJWD
set_option linter.unusedSimpArgs false
set_option linter.unusedVariables false
set_option linter.unusedVariables false
set_option maxRecDepth 100000
namespace Go.Proofs.YtfgdbeijjbijnaaGreatDoor
open Go Go.Abs Go.Proofs
def LZ : V := .tup [.c (.d (.int .i64 0)), .c (.d (.int .i64 2)), .c (.d (.int .i64 0))]
theorem SP : PureG Tryz.prog GH0 116 [.c (.d (.sl [aDf, aEX 4 2, aEX 3 2]))] LZ := pure_yres (X := tx) (E := exW []) 50000 wmo (Al _ Ae) rfl (by kernel_rfl) (by kernel_rfl) (by kernel_rfl)
def aD0 : List (Nat × List V × List AB × V) := [(116, [.c (.d (.sl [aDf, aEX 4 2, aEX 3 2]))], GH0, LZ)]
theorem aHH : ∀ e ∈ aD0, PureG Tryz.prog e.2.2.1 e.1 e.2.1 e.2.2.2 := (Ab SP Ae)
end Go.Proofs.YtfgdbeijjbijnaaGreatDoor
