/- Calls of examples, run by the kernel. -/
import Derived.Test.YtfgdbeijjbijnaaGreatDoorW2X
import Derived.Test.YtfgdbeijjbijnaaGreatDoorW2Y
import Derived.Test.YtfgdbeijjbijnaaGreatDoorW2U
set_option linter.unusedSimpArgs false
set_option linter.unusedVariables false
set_option linter.unusedVariables false
set_option maxRecDepth 100000
namespace Go.Proofs.YtfgdbeijjbijnaaGreatDoor
open Go Go.Abs Go.Proofs
def y_w2b_test3 : V := .tup [.c (.full []), .c (.d (.int .i64 5))]
theorem k_w2b_test3 : PureG Tryz.prog GH3 259 [iv 3, .c (.d (.sl [r2 0 1, r2 1 2, r2 0 1])), iv 3] y_w2b_test3 := pure_yres (X := tx) (E := exW ((KN_W2U ++ KN_W2X) ++ KN_W2Y)) 50000 wmo (xw_ok _ (kn_app (kn_app kn_W2U kn_W2X) kn_W2Y)) rfl (by kernel_rfl) (by kernel_rfl) (by kernel_rfl)
def KN_W2C : List (Nat × List V × List AB × V) := [(259, [iv 3, .c (.d (.sl [r2 0 1, r2 1 2, r2 0 1])), iv 3], GH3, y_w2b_test3)]
theorem kn_W2C : ∀ e ∈ KN_W2C, PureG Tryz.prog e.2.2.1 e.1 e.2.1 e.2.2.2 := (kn_cons k_w2b_test3 kn_nil)
end Go.Proofs.YtfgdbeijjbijnaaGreatDoor

