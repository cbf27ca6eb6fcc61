/- Calls of examples, run by the kernel. -/
import Derived.Test.YtfgdbeijjbijnaaGreatDoorWD
set_option linter.unusedSimpArgs false
set_option linter.unusedVariables false
set_option linter.unusedVariables false
set_option maxRecDepth 100000
namespace Go.Proofs.YtfgdbeijjbijnaaGreatDoor
open Go Go.Abs Go.Proofs
def y_w6_glass : V := .agg [.full [[.int .i64 0, .int .i64 0], [.int .i64 4, .int .i64 0], [.int .i64 0, .int .i64 4]], .full [[.sl [[.int .i64 0, .int .i64 0], [.int .i64 1, .int .i64 0]]]]]
theorem k_w6_glass : PureG Tryz.prog GH0 108 [] y_w6_glass := pure_yres (X := tx) (E := exW []) 50000 wmo (xw_ok _ kn_nil) rfl (by kernel_rfl) (by kernel_rfl) (by kernel_rfl)
def y_w6_one60 : V := .agg [.full [[.int .i64 6, .int .i64 0]], .full []]
theorem k_w6_one60 : PureG Tryz.prog GH0 109 [iv 6, iv 0] y_w6_one60 := pure_yres (X := tx) (E := exW []) 50000 wmo (xw_ok _ kn_nil) rfl (by kernel_rfl) (by kernel_rfl) (by kernel_rfl)
def y_w6_area : V := .tup [.c (.d (.sl [[.int .i64 0, .int .i64 0], [.int .i64 5, .int .i64 0], [.int .i64 1, .int .i64 4], [.int .i64 0, .int .i64 4]])), .c (.d (.int .i64 0))]
theorem k_w6_area : PureG Tryz.prog GH0 110 [glassV] y_w6_area := pure_yres (X := tx) (E := exW []) 50000 wmo (xw_ok _ kn_nil) rfl (by kernel_rfl) (by kernel_rfl) (by kernel_rfl)
def y_w6_holds : V := .tup [.c (.d (.bool true)), .c (.d (.int .i64 0))]
theorem k_w6_holds : PureG Tryz.prog GH0 15 [glassV, rgV 3 2] y_w6_holds := pure_yres (X := tx) (E := exW []) 50000 wmo (xw_ok _ kn_nil) rfl (by kernel_rfl) (by kernel_rfl) (by kernel_rfl)
def y_w6_outside : V := .tup [.agg [.d (.int .i64 5), .d (.int .i64 0)], .c (.d (.int .i64 0))]
theorem k_w6_outside : PureG Tryz.prog GH0 112 [glassV, .c (.d (.sl [r2 0 0, r2 4 0, r2 4 4, r2 0 4]))] y_w6_outside := pure_yres (X := tx) (E := exW []) 50000 wmo (xw_ok _ kn_nil) rfl (by kernel_rfl) (by kernel_rfl) (by kernel_rfl)
def y_w6_cl5 : V := .c (.d (.int .i64 0))
theorem k_w6_cl5 : PureG Tryz.prog GH0 113 [glassV, oneV 6 0, .agg [.d (.int .i64 1), .d (.int .i64 0), .d (.int .i64 5)]] y_w6_cl5 := pure_yres (X := tx) (E := exW []) 50000 wmo (xw_ok _ kn_nil) rfl (by kernel_rfl) (by kernel_rfl) (by kernel_rfl)
def y_w6_cl6 : V := .c (.d (.int .i64 14))
theorem k_w6_cl6 : PureG Tryz.prog GH0 113 [glassV, oneV 6 0, .agg [.d (.int .i64 1), .d (.int .i64 0), .d (.int .i64 6)]] y_w6_cl6 := pure_yres (X := tx) (E := exW []) 50000 wmo (xw_ok _ kn_nil) rfl (by kernel_rfl) (by kernel_rfl) (by kernel_rfl)
def KN_W6A : List (Nat × List V × List AB × V) := [(108, [], GH0, y_w6_glass), (109, [iv 6, iv 0], GH0, y_w6_one60), (110, [glassV], GH0, y_w6_area), (15, [glassV, rgV 3 2], GH0, y_w6_holds), (112, [glassV, .c (.d (.sl [r2 0 0, r2 4 0, r2 4 4, r2 0 4]))], GH0, y_w6_outside), (113, [glassV, oneV 6 0, .agg [.d (.int .i64 1), .d (.int .i64 0), .d (.int .i64 5)]], GH0, y_w6_cl5), (113, [glassV, oneV 6 0, .agg [.d (.int .i64 1), .d (.int .i64 0), .d (.int .i64 6)]], GH0, y_w6_cl6)]
theorem kn_W6A : ∀ e ∈ KN_W6A, PureG Tryz.prog e.2.2.1 e.1 e.2.1 e.2.2.2 := (kn_cons k_w6_glass (kn_cons k_w6_one60 (kn_cons k_w6_area (kn_cons k_w6_holds (kn_cons k_w6_outside (kn_cons k_w6_cl5 (kn_cons k_w6_cl6 kn_nil)))))))
end Go.Proofs.YtfgdbeijjbijnaaGreatDoor

