/- Calls of examples, run by the kernel. -/
import Derived.Test.YtfgdbeijjbijnaaGreatDoorWD
set_option linter.unusedSimpArgs false
set_option linter.unusedVariables false
set_option linter.unusedVariables false
set_option maxRecDepth 100000
namespace Go.Proofs.YtfgdbeijjbijnaaGreatDoor
open Go Go.Abs Go.Proofs
def y_w3o_open : V := .tup [.c (.dp tabD), .c (.d (.int .i64 0))]
theorem k_w3o_open : PureG Tryz.prog GH0 69 [lampV] y_w3o_open := pure_yres (X := tx) (E := exW []) 50000 wmo (xw_ok _ kn_nil) rfl (by kernel_rfl) (by kernel_rfl) (by kernel_rfl)
def KN_W3O : List (Nat × List V × List AB × V) := [(69, [lampV], GH0, y_w3o_open)]
theorem kn_W3O : ∀ e ∈ KN_W3O, PureG Tryz.prog e.2.2.1 e.1 e.2.1 e.2.2.2 := (kn_cons k_w3o_open kn_nil)
end Go.Proofs.YtfgdbeijjbijnaaGreatDoor

