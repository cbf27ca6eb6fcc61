/- Calls of examples, run by the kernel. -/
import Derived.Test.YtfgdbeijjbijnaaGreatDoorW3T
import Derived.Test.YtfgdbeijjbijnaaGreatDoorW3U
import Derived.Test.YtfgdbeijjbijnaaGreatDoorW3V
import Derived.Test.YtfgdbeijjbijnaaGreatDoorW3O
set_option linter.unusedSimpArgs false
set_option linter.unusedVariables false
set_option linter.unusedVariables false
set_option maxRecDepth 100000
namespace Go.Proofs.YtfgdbeijjbijnaaGreatDoor
open Go Go.Abs Go.Proofs
def y_w3n_next : V := .tup [.c (.d (.int .i64 1)), .c (.d (.int .i64 19)), .c (.d (.int .i64 0))]
theorem k_w3n_next : PureG Tryz.prog GH0 278 [lampV, iv 0] y_w3n_next := pure_yres (X := tx) (E := exW (((KN_W3O ++ KN_W3T) ++ KN_W3U) ++ KN_W3V)) 50000 wmo (xw_ok _ (kn_app (kn_app (kn_app kn_W3O kn_W3T) kn_W3U) kn_W3V)) rfl (by kernel_rfl) (by kernel_rfl) (by kernel_rfl)
def KN_W3N : List (Nat × List V × List AB × V) := [(278, [lampV, iv 0], GH0, y_w3n_next)]
theorem kn_W3N : ∀ e ∈ KN_W3N, PureG Tryz.prog e.2.2.1 e.1 e.2.1 e.2.2.2 := (kn_cons k_w3n_next kn_nil)
end Go.Proofs.YtfgdbeijjbijnaaGreatDoor

