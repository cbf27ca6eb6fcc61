/- Calls of examples, run by the kernel. -/
import Derived.Test.YtfgdbeijjbijnaaGreatDoorWD
set_option linter.unusedSimpArgs false
set_option linter.unusedVariables false
set_option linter.unusedVariables false
set_option maxRecDepth 100000
namespace Go.Proofs.YtfgdbeijjbijnaaGreatDoor
open Go Go.Abs Go.Proofs
def y_w5_law05 : V := .c (.d (.bool true))
theorem k_w5_law05 : PureG Tryz.prog GH0 42 [] y_w5_law05 := pure_yres (X := tx) (E := exW []) 50000 wmo (xw_ok _ kn_nil) rfl (by kernel_rfl) (by kernel_rfl) (by kernel_rfl)
def KN_W5w : List (Nat × List V × List AB × V) := [(42, [], GH0, y_w5_law05)]
theorem kn_W5w : ∀ e ∈ KN_W5w, PureG Tryz.prog e.2.2.1 e.1 e.2.1 e.2.2.2 := (kn_cons k_w5_law05 kn_nil)
end Go.Proofs.YtfgdbeijjbijnaaGreatDoor

