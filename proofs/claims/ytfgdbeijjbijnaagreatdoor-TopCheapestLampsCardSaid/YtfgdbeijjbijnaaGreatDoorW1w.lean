/- Calls of examples, run by the kernel. -/
import Derived.Test.YtfgdbeijjbijnaaGreatDoorWD
set_option linter.unusedSimpArgs false
set_option linter.unusedVariables false
set_option linter.unusedVariables false
set_option maxRecDepth 100000
namespace Go.Proofs.YtfgdbeijjbijnaaGreatDoor
open Go Go.Abs Go.Proofs
def y_w1_law01 : V := .c (.d (.bool true))
theorem k_w1_law01 : PureG Tryz.prog GH2 173 [] y_w1_law01 := pure_yres (X := tx) (E := exW []) 50000 wmo (xw_ok _ kn_nil) rfl (by kernel_rfl) (by kernel_rfl) (by kernel_rfl)
def KN_W1w : List (Nat × List V × List AB × V) := [(173, [], GH2, y_w1_law01)]
theorem kn_W1w : ∀ e ∈ KN_W1w, PureG Tryz.prog e.2.2.1 e.1 e.2.1 e.2.2.2 := (kn_cons k_w1_law01 kn_nil)
end Go.Proofs.YtfgdbeijjbijnaaGreatDoor

