/- Calls of examples, run by the kernel. -/
import Derived.Test.YtfgdbeijjbijnaaGreatDoorW2X
import Derived.Test.YtfgdbeijjbijnaaGreatDoorW2Y
import Derived.Test.YtfgdbeijjbijnaaGreatDoorW2U
set_option linter.unusedSimpArgs false
set_option linter.unusedVariables false
set_option linter.unusedVariables false
set_option maxRecDepth 100000
namespace Go.Proofs.YtfgdbeijjbijnaaGreatDoor
open Go Go.Abs Go.Proofs
def y_w2b_merge : V := .tup [.c (.full [[.int .i64 1], [.int .i64 0], [.int .i64 1], [.int .i64 0]]), .c (.d (.int .i64 0))]
theorem k_w2b_merge : PureG Tryz.prog GH3 260 [iv 4, .c (.d (.sl [r2 0 2, r2 1 3])), iv 2] y_w2b_merge := pure_yres (X := tx) (E := exW ((KN_W2U ++ KN_W2X) ++ KN_W2Y)) 50000 wmo (xw_ok _ (kn_app (kn_app kn_W2U kn_W2X) kn_W2Y)) rfl (by kernel_rfl) (by kernel_rfl) (by kernel_rfl)
def KN_W2D : List (Nat × List V × List AB × V) := [(260, [iv 4, .c (.d (.sl [r2 0 2, r2 1 3])), iv 2], GH3, y_w2b_merge)]
theorem kn_W2D : ∀ e ∈ KN_W2D, PureG Tryz.prog e.2.2.1 e.1 e.2.1 e.2.2.2 := (kn_cons k_w2b_merge kn_nil)
end Go.Proofs.YtfgdbeijjbijnaaGreatDoor

