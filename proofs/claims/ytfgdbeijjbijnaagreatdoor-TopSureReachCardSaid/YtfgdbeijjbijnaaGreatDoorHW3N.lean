/- Calls of examples, run by the kernel. -/
import Derived.Test.YtfgdbeijjbijnaaGreatDoorHW3T
import Derived.Test.YtfgdbeijjbijnaaGreatDoorHW3U
import Derived.Test.YtfgdbeijjbijnaaGreatDoorHW3V
import Derived.Test.YtfgdbeijjbijnaaGreatDoorHW3O
set_option linter.unusedSimpArgs false
set_option linter.unusedVariables false
set_option linter.unusedVariables false
set_option maxRecDepth 100000
namespace Go.Proofs.YtfgdbeijjbijnaaGreatDoor
open Go Go.Abs Go.Proofs
def LJ : V := .tup [.c (.d (.int .i64 1)), .c (.d (.int .i64 19)), .c (.d (.int .i64 0))]
theorem SY : PureG Tryz.prog GH0 278 [Da, iv 0] LJ := pure_yres (X := tx) (E := exW (((SX ++ aEl) ++ aEm) ++ aEn)) 50000 wmo (Ag _ (AD (AD (AD aEo aIw) aIx) aIy)) rfl (by kernel_rfl) (by kernel_rfl) (by kernel_rfl)
def aEp : List (Nat × List V × List AB × V) := [(278, [Da, iv 0], GH0, LJ)]
theorem aIz : ∀ e ∈ aEp, PureG Tryz.prog e.2.2.1 e.1 e.2.1 e.2.2.2 := (Aa SY Ab)
end Go.Proofs.YtfgdbeijjbijnaaGreatDoor
