/- Calls of examples, run by the kernel. -/
import Derived.Test.YtfgdbeijjbijnaaGreatDoorJWD
set_option linter.unusedSimpArgs false
set_option linter.unusedVariables false
set_option linter.unusedVariables false
set_option maxRecDepth 100000
namespace Go.Proofs.YtfgdbeijjbijnaaGreatDoor
open Go Go.Abs Go.Proofs
def LN : V := .tup [.c (.dp AT), .c (.d (.int .i64 0))]
theorem SC : PureG Tryz.prog GH0 69 [Dn] LN := pure_yres (X := tx) (E := exW []) 50000 wmo (Al _ Ae) rfl (by kernel_rfl) (by kernel_rfl) (by kernel_rfl)
def SD : List (Nat × List V × List AB × V) := [(69, [Dn], GH0, LN)]
theorem aDI : ∀ e ∈ SD, PureG Tryz.prog e.2.2.1 e.1 e.2.1 e.2.2.2 := (Ab SC Ae)
end Go.Proofs.YtfgdbeijjbijnaaGreatDoor
