/- Calls of examples, run by the kernel. -/
import Derived.Test.YtfgdbeijjbijnaaGreatDoorJW2X
import Derived.Test.YtfgdbeijjbijnaaGreatDoorJW2Y
import Derived.Test.YtfgdbeijjbijnaaGreatDoorJW2U
set_option linter.unusedSimpArgs false
set_option linter.unusedVariables false
set_option linter.unusedVariables false
set_option maxRecDepth 100000
namespace Go.Proofs.YtfgdbeijjbijnaaGreatDoor
open Go Go.Abs Go.Proofs
def GD : V := .tup [.c (.d (.sl [[.int .i64 1]])), .c (.d (.int .i64 0))]
theorem Mt : PureG Tryz.prog GH0 262 [iv 3, .c (.d (.sl [r2 0 1, r2 0 1, r2 1 2]))] GD := pure_yres (X := tx) (E := exW ((Lj ++ Ft) ++ Fu)) 50000 wmo (Al _ (Bb (Bb Oz F1) F2)) rfl (by kernel_rfl) (by kernel_rfl) (by kernel_rfl)
def I9 : V := .tup [.c (.full [[.int .i64 0], [.int .i64 0], [.int .i64 1]]), .c (.d (.int .i64 0))]
theorem Qx : PureG Tryz.prog GH2 259 [iv 3, .c (.d (.sl [r2 0 1, r2 1 2])), iv 3] I9 := pure_yres (X := tx) (E := exW ((Lj ++ Ft) ++ Fu)) 50000 wmo (Al _ (Bb (Bb Oz F1) F2)) rfl (by kernel_rfl) (by kernel_rfl) (by kernel_rfl)
def aDw : List (Nat × List V × List AB × V) := [(262, [iv 3, .c (.d (.sl [r2 0 1, r2 0 1, r2 1 2]))], GH0, GD), (259, [iv 3, .c (.d (.sl [r2 0 1, r2 1 2])), iv 3], GH2, I9)]
theorem aHt : ∀ e ∈ aDw, PureG Tryz.prog e.2.2.1 e.1 e.2.1 e.2.2.2 := (Ab Mt (Ab Qx Ae))
end Go.Proofs.YtfgdbeijjbijnaaGreatDoor
