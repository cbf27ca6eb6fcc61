/- Calls of examples, run by the kernel. -/
import Derived.Test.YtfgdbeijjbijnaaGreatDoorWD
set_option linter.unusedSimpArgs false
set_option linter.unusedVariables false
set_option linter.unusedVariables false
set_option maxRecDepth 100000
namespace Go.Proofs.YtfgdbeijjbijnaaGreatDoor
open Go Go.Abs Go.Proofs
def y_w4_case : V := .agg [.full [[.sl [[.int .i64 1, .int .i64 1], [.int .i64 2, .int .i64 2], [.int .i64 0, .int .i64 0], [.int .i64 0, .int .i64 0]]], [.sl [[.int .i64 0, .int .i64 0], [.int .i64 1, .int .i64 1], [.int .i64 1, .int .i64 1], [.int .i64 0, .int .i64 0]]], [.sl [[.int .i64 0, .int .i64 0], [.int .i64 0, .int .i64 0], [.int .i64 2, .int .i64 2], [.int .i64 1, .int .i64 1]]]], .d (.sl [[.int .i64 1, .int .i64 2], [.int .i64 1, .int .i64 1], [.int .i64 1, .int .i64 1], [.int .i64 1, .int .i64 1]])]
theorem k_w4_case : PureG Tryz.prog GH0 176 [] y_w4_case := pure_yres (X := tx) (E := exW []) 50000 wmo (xw_ok _ kn_nil) rfl (by kernel_rfl) (by kernel_rfl) (by kernel_rfl)
def y_w4_pal0 : V := .agg [.full [[.sl [[.int .i64 1]]], [.sl [[.int .i64 2]]], [.sl [[.int .i64 4]]]], .d (.int .i64 0)]
theorem k_w4_pal0 : PureG Tryz.prog GH0 179 [iv 0] y_w4_pal0 := pure_yres (X := tx) (E := exW []) 50000 wmo (xw_ok _ kn_nil) rfl (by kernel_rfl) (by kernel_rfl) (by kernel_rfl)
def y_w4_pal1 : V := .agg [.full [[.sl [[.int .i64 1]]], [.sl [[.int .i64 2]]], [.sl [[.int .i64 4]]]], .d (.int .i64 1)]
theorem k_w4_pal1 : PureG Tryz.prog GH0 179 [iv 1] y_w4_pal1 := pure_yres (X := tx) (E := exW []) 50000 wmo (xw_ok _ kn_nil) rfl (by kernel_rfl) (by kernel_rfl) (by kernel_rfl)
def y_w4_spans : V := .tup [.c (.full [[.int .i64 6, .int .i64 10], [.int .i64 4, .int .i64 4], [.int .i64 6, .int .i64 6]]), .c (.d (.int .i64 0))]
theorem k_w4_spans : PureG Tryz.prog GH0 11 [caseV, is [4, 1, 3, 0]] y_w4_spans := pure_yres (X := tx) (E := exW []) 50000 wmo (xw_ok _ kn_nil) rfl (by kernel_rfl) (by kernel_rfl) (by kernel_rfl)
def y_w4_apart : V := .tup [.c (.full [[.int .i64 0, .int .i64 2], [.int .i64 0, .int .i64 0], [.int .i64 0, .int .i64 0]]), .c (.d (.int .i64 0))]
theorem k_w4_apart : PureG Tryz.prog GH0 177 [caseV, is [4, 1, 3, 0], is [2, 2, 2, 2]] y_w4_apart := pure_yres (X := tx) (E := exW []) 50000 wmo (xw_ok _ kn_nil) rfl (by kernel_rfl) (by kernel_rfl) (by kernel_rfl)
def y_w4_surely : V := .c (.d (.int .i64 19))
theorem k_w4_surely : PureG Tryz.prog GH0 17 [caseV, is [4, 1, 3, 0], is [2, 2, 2, 2]] y_w4_surely := pure_yres (X := tx) (E := exW []) 50000 wmo (xw_ok _ kn_nil) rfl (by kernel_rfl) (by kernel_rfl) (by kernel_rfl)
def y_w4_parting : V := .tup [.agg [.d (.sl [[.sl [[.int .i64 1], [.int .i64 2], [.int .i64 0], [.int .i64 0]]], [.sl [[.int .i64 0], [.int .i64 1], [.int .i64 1], [.int .i64 0]]], [.sl [[.int .i64 0], [.int .i64 0], [.int .i64 2], [.int .i64 1]]]]), .d (.sl [[.int .i64 2], [.int .i64 1], [.int .i64 1], [.int .i64 1]])], .c (.d (.int .i64 0))]
theorem k_w4_parting : PureG Tryz.prog GH0 18 [caseV, is [4, 1, 3, 0], is [2, 2, 2, 2]] y_w4_parting := pure_yres (X := tx) (E := exW []) 50000 wmo (xw_ok _ kn_nil) rfl (by kernel_rfl) (by kernel_rfl) (by kernel_rfl)
def KN_W4A : List (Nat × List V × List AB × V) := [(176, [], GH0, y_w4_case), (179, [iv 0], GH0, y_w4_pal0), (179, [iv 1], GH0, y_w4_pal1), (11, [caseV, is [4, 1, 3, 0]], GH0, y_w4_spans), (177, [caseV, is [4, 1, 3, 0], is [2, 2, 2, 2]], GH0, y_w4_apart), (17, [caseV, is [4, 1, 3, 0], is [2, 2, 2, 2]], GH0, y_w4_surely), (18, [caseV, is [4, 1, 3, 0], is [2, 2, 2, 2]], GH0, y_w4_parting)]
theorem kn_W4A : ∀ e ∈ KN_W4A, PureG Tryz.prog e.2.2.1 e.1 e.2.1 e.2.2.2 := (kn_cons k_w4_case (kn_cons k_w4_pal0 (kn_cons k_w4_pal1 (kn_cons k_w4_spans (kn_cons k_w4_apart (kn_cons k_w4_surely (kn_cons k_w4_parting kn_nil)))))))
end Go.Proofs.YtfgdbeijjbijnaaGreatDoor

