/- Calls of examples, run by the kernel. -/
import Derived.Test.YtfgdbeijjbijnaaGreatDoorWD
set_option linter.unusedSimpArgs false
set_option linter.unusedVariables false
set_option linter.unusedVariables false
set_option maxRecDepth 100000
namespace Go.Proofs.YtfgdbeijjbijnaaGreatDoor
open Go Go.Abs Go.Proofs
def y_w6_clash : V := .tup [.c (.d (.int .i64 0)), .c (.d (.int .i64 2)), .c (.d (.int .i64 0))]
theorem k_w6_clash : PureG Tryz.prog GH0 116 [.c (.d (.sl [glassD, oneD 4 2, oneD 3 2]))] y_w6_clash := pure_yres (X := tx) (E := exW []) 50000 wmo (xw_ok _ kn_nil) rfl (by kernel_rfl) (by kernel_rfl) (by kernel_rfl)
def KN_W6C : List (Nat × List V × List AB × V) := [(116, [.c (.d (.sl [glassD, oneD 4 2, oneD 3 2]))], GH0, y_w6_clash)]
theorem kn_W6C : ∀ e ∈ KN_W6C, PureG Tryz.prog e.2.2.1 e.1 e.2.1 e.2.2.2 := (kn_cons k_w6_clash kn_nil)
end Go.Proofs.YtfgdbeijjbijnaaGreatDoor

