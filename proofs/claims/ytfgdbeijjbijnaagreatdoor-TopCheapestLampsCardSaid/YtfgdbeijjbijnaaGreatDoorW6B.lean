/- Calls of examples, run by the kernel. -/
import Derived.Test.YtfgdbeijjbijnaaGreatDoorWD
set_option linter.unusedSimpArgs false
set_option linter.unusedVariables false
set_option linter.unusedVariables false
set_option maxRecDepth 100000
namespace Go.Proofs.YtfgdbeijjbijnaaGreatDoor
open Go Go.Abs Go.Proofs
def y_w6_part1 : V := .tup [.agg [.d (.int .i64 0), .d (.int .i64 0), .d (.int .i64 0)], .c (.d (.int .i64 21))]
theorem k_w6_part1 : PureG Tryz.prog GH0 16 [glassV, oneV 3 2] y_w6_part1 := pure_yres (X := tx) (E := exW []) 50000 wmo (xw_ok _ kn_nil) rfl (by kernel_rfl) (by kernel_rfl) (by kernel_rfl)
def y_w6_part2 : V := .tup [.agg [.d (.int .i64 4), .d (.int .i64 4), .d (.int .i64 20)], .c (.d (.int .i64 0))]
theorem k_w6_part2 : PureG Tryz.prog GH0 16 [glassV, oneV 4 2] y_w6_part2 := pure_yres (X := tx) (E := exW []) 50000 wmo (xw_ok _ kn_nil) rfl (by kernel_rfl) (by kernel_rfl) (by kernel_rfl)
def y_w6_both : V := .tup [.agg [.d (.int .i64 3), .d (.int .i64 2), .d (.int .i64 1)], .c (.d (.int .i64 0))]
theorem k_w6_both : PureG Tryz.prog GH0 114 [glassV, oneV 3 2] y_w6_both := pure_yres (X := tx) (E := exW []) 50000 wmo (xw_ok _ kn_nil) rfl (by kernel_rfl) (by kernel_rfl) (by kernel_rfl)
def y_w6_gap : V := .tup [.agg [.d (.int .i64 1), .d (.int .i64 2)], .c (.d (.int .i64 0))]
theorem k_w6_gap : PureG Tryz.prog GH0 115 [glassV, oneV 4 2] y_w6_gap := pure_yres (X := tx) (E := exW []) 50000 wmo (xw_ok _ kn_nil) rfl (by kernel_rfl) (by kernel_rfl) (by kernel_rfl)
def KN_W6B : List (Nat × List V × List AB × V) := [(16, [glassV, oneV 3 2], GH0, y_w6_part1), (16, [glassV, oneV 4 2], GH0, y_w6_part2), (114, [glassV, oneV 3 2], GH0, y_w6_both), (115, [glassV, oneV 4 2], GH0, y_w6_gap)]
theorem kn_W6B : ∀ e ∈ KN_W6B, PureG Tryz.prog e.2.2.1 e.1 e.2.1 e.2.2.2 := (kn_cons k_w6_part1 (kn_cons k_w6_part2 (kn_cons k_w6_both (kn_cons k_w6_gap kn_nil))))
end Go.Proofs.YtfgdbeijjbijnaaGreatDoor

