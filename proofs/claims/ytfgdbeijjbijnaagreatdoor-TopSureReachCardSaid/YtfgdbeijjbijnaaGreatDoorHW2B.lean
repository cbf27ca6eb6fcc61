/- Calls of examples, run by the kernel. -/
import Derived.Test.YtfgdbeijjbijnaaGreatDoorHW2X
import Derived.Test.YtfgdbeijjbijnaaGreatDoorHW2Y
import Derived.Test.YtfgdbeijjbijnaaGreatDoorHW2U
set_option linter.unusedSimpArgs false
set_option linter.unusedVariables false
set_option linter.unusedVariables false
set_option maxRecDepth 100000
namespace Go.Proofs.YtfgdbeijjbijnaaGreatDoor
open Go Go.Abs Go.Proofs
def Gu : V := .tup [.c (.d (.sl [[.int .i64 1]])), .c (.d (.int .i64 0))]
theorem Ml : PureG Tryz.prog GH0 262 [iv 3, .c (.d (.sl [r2 0 1, r2 0 1, r2 1 2]))] Gu := pure_yres (X := tx) (E := exW ((Ld ++ Fa) ++ Fb)) 50000 wmo (Ag _ (AD (AD OO FL) FM)) rfl (by kernel_rfl) (by kernel_rfl) (by kernel_rfl)
def IW : V := .tup [.c (.full [[.int .i64 0], [.int .i64 0], [.int .i64 1]]), .c (.d (.int .i64 0))]
theorem QO : PureG Tryz.prog GH3 259 [iv 3, .c (.d (.sl [r2 0 1, r2 1 2])), iv 3] IW := pure_yres (X := tx) (E := exW ((Ld ++ Fa) ++ Fb)) 50000 wmo (Ag _ (AD (AD OO FL) FM)) rfl (by kernel_rfl) (by kernel_rfl) (by kernel_rfl)
def aEc : List (Nat × List V × List AB × V) := [(262, [iv 3, .c (.d (.sl [r2 0 1, r2 0 1, r2 1 2]))], GH0, Gu), (259, [iv 3, .c (.d (.sl [r2 0 1, r2 1 2])), iv 3], GH3, IW)]
theorem aIs : ∀ e ∈ aEc, PureG Tryz.prog e.2.2.1 e.1 e.2.1 e.2.2.2 := (Aa Ml (Aa QO Ab))
end Go.Proofs.YtfgdbeijjbijnaaGreatDoor
