/- Calls of examples, run by the kernel. -/
import Derived.Test.YtfgdbeijjbijnaaGreatDoorJW2X
import Derived.Test.YtfgdbeijjbijnaaGreatDoorJW2Y
import Derived.Test.YtfgdbeijjbijnaaGreatDoorJW2U
set_option linter.unusedSimpArgs false
set_option linter.unusedVariables false
set_option linter.unusedVariables false
set_option maxRecDepth 100000
namespace Go.Proofs.YtfgdbeijjbijnaaGreatDoor
open Go Go.Abs Go.Proofs
def Jb : V := .tup [.c (.full [[.int .i64 1], [.int .i64 0], [.int .i64 1], [.int .i64 0]]), .c (.d (.int .i64 0))]
theorem Qz : PureG Tryz.prog GH2 260 [iv 4, .c (.d (.sl [r2 0 2, r2 1 3])), iv 2] Jb := pure_yres (X := tx) (E := exW ((Lj ++ Ft) ++ Fu)) 50000 wmo (Al _ (Bb (Bb Oz F1) F2)) rfl (by kernel_rfl) (by kernel_rfl) (by kernel_rfl)
def aDy : List (Nat × List V × List AB × V) := [(260, [iv 4, .c (.d (.sl [r2 0 2, r2 1 3])), iv 2], GH2, Jb)]
theorem aHv : ∀ e ∈ aDy, PureG Tryz.prog e.2.2.1 e.1 e.2.1 e.2.2.2 := (Ab Qz Ae)
end Go.Proofs.YtfgdbeijjbijnaaGreatDoor
