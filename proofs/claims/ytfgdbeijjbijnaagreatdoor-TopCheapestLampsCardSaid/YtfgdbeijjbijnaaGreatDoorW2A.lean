/- Calls of examples, run by the kernel. -/
import Derived.Test.YtfgdbeijjbijnaaGreatDoorWD
set_option linter.unusedSimpArgs false
set_option linter.unusedVariables false
set_option linter.unusedVariables false
set_option maxRecDepth 100000
namespace Go.Proofs.YtfgdbeijjbijnaaGreatDoor
open Go Go.Abs Go.Proofs
def y_w2_three : V := .c (.full [[.int .i64 0, .int .i64 1], [.int .i64 1, .int .i64 2], [.int .i64 0, .int .i64 1]])
theorem k_w2_three : PureG Tryz.prog GH0 257 [] y_w2_three := pure_yres (X := tx) (E := exW []) 50000 wmo (xw_ok _ kn_nil) rfl (by kernel_rfl) (by kernel_rfl) (by kernel_rfl)
def y_w2_run : V := .tup [.c (.full [[.int .i64 9], [.int .i64 5], [.int .i64 3]]), .c (.d (.int .i64 0))]
theorem k_w2_run : PureG Tryz.prog GH0 32 [.c (.d (.sl [r2 0 1, r2 1 2, r2 0 1])), is [3, 9, 5]] y_w2_run := pure_yres (X := tx) (E := exW []) 50000 wmo (xw_ok _ kn_nil) rfl (by kernel_rfl) (by kernel_rfl) (by kernel_rfl)
def y_w2_depth : V := .tup [.c (.d (.int .i64 3)), .c (.d (.int .i64 0))]
theorem k_w2_depth : PureG Tryz.prog GH0 258 [iv 3, .c (.d (.sl [r2 0 1, r2 1 2, r2 0 1]))] y_w2_depth := pure_yres (X := tx) (E := exW []) 50000 wmo (xw_ok _ kn_nil) rfl (by kernel_rfl) (by kernel_rfl) (by kernel_rfl)
def y_w2_places : V := .tup [.c (.full [[.int .i64 1, .int .i64 2], [.int .i64 1, .int .i64 2], [.int .i64 0, .int .i64 0]]), .c (.d (.int .i64 0))]
theorem k_w2_places : PureG Tryz.prog GH0 263 [.c (.d (.sl [r2 10 12, r2 11 15, r2 20 20]))] y_w2_places := pure_yres (X := tx) (E := exW []) 50000 wmo (xw_ok _ kn_nil) rfl (by kernel_rfl) (by kernel_rfl) (by kernel_rfl)
def y_w2_bar : V := .agg [.d (.int .i64 300), .d (.int .i64 50), .d (.int .i64 100), .d (.int .i64 100), .d (.int .i64 100), .d (.int .i64 150), .d (.int .i64 0), .d (.int .i64 1000)]
theorem k_w2_bar : PureG Tryz.prog GH0 265 [iv 1000] y_w2_bar := pure_yres (X := tx) (E := exW []) 50000 wmo (xw_ok _ kn_nil) rfl (by kernel_rfl) (by kernel_rfl) (by kernel_rfl)
def y_w2_build4 : V := .tup [.c (.d (.sl [[.int .i64 0, .int .i64 2], [.int .i64 1, .int .i64 3], [.int .i64 0, .int .i64 1], [.int .i64 2, .int .i64 3], [.int .i64 1, .int .i64 2]])), .c (.d (.int .i64 0))]
theorem k_w2_build4 : PureG Tryz.prog GH0 31 [iv 4] y_w2_build4 := pure_yres (X := tx) (E := exW []) 50000 wmo (xw_ok _ kn_nil) rfl (by kernel_rfl) (by kernel_rfl) (by kernel_rfl)
def y_w2b_bspan : V := .tup [.agg [.d (.int .i64 155), .d (.int .i64 2), .d (.int .i64 400), .d (.int .i64 1)], .c (.d (.int .i64 0))]
theorem k_w2b_bspan : PureG Tryz.prog GH0 264 [barV] y_w2b_bspan := pure_yres (X := tx) (E := exW []) 50000 wmo (xw_ok _ kn_nil) rfl (by kernel_rfl) (by kernel_rfl) (by kernel_rfl)
def y_w2b_rtest : V := .tup [.c (.full []), .c (.d (.int .i64 5))]
theorem k_w2b_rtest : PureG Tryz.prog GH0 266 [iv 4, .c (.d (.sl [r2 0 2, r2 1 3, r2 0 1, r2 2 3, r2 1 2])), iv 4] y_w2b_rtest := pure_yres (X := tx) (E := exW []) 50000 wmo (xw_ok _ kn_nil) rfl (by kernel_rfl) (by kernel_rfl) (by kernel_rfl)
def KN_W2A : List (Nat × List V × List AB × V) := [(257, [], GH0, y_w2_three), (32, [.c (.d (.sl [r2 0 1, r2 1 2, r2 0 1])), is [3, 9, 5]], GH0, y_w2_run), (258, [iv 3, .c (.d (.sl [r2 0 1, r2 1 2, r2 0 1]))], GH0, y_w2_depth), (263, [.c (.d (.sl [r2 10 12, r2 11 15, r2 20 20]))], GH0, y_w2_places), (265, [iv 1000], GH0, y_w2_bar), (31, [iv 4], GH0, y_w2_build4), (264, [barV], GH0, y_w2b_bspan), (266, [iv 4, .c (.d (.sl [r2 0 2, r2 1 3, r2 0 1, r2 2 3, r2 1 2])), iv 4], GH0, y_w2b_rtest)]
theorem kn_W2A : ∀ e ∈ KN_W2A, PureG Tryz.prog e.2.2.1 e.1 e.2.1 e.2.2.2 := (kn_cons k_w2_three (kn_cons k_w2_run (kn_cons k_w2_depth (kn_cons k_w2_places (kn_cons k_w2_bar (kn_cons k_w2_build4 (kn_cons k_w2b_bspan (kn_cons k_w2b_rtest kn_nil))))))))
end Go.Proofs.YtfgdbeijjbijnaaGreatDoor

