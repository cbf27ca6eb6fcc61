/- Calls of examples, run by the kernel. -/
import Derived.Test.YtfgdbeijjbijnaaGreatDoorWD
set_option linter.unusedSimpArgs false
set_option linter.unusedVariables false
set_option linter.unusedVariables false
set_option maxRecDepth 100000
namespace Go.Proofs.YtfgdbeijjbijnaaGreatDoor
open Go Go.Abs Go.Proofs
def y_w7_ch0 : V := .tup [.c (.d (.sl [[.int .i64 0], [.int .i64 2]])), .c (.d (.int .i64 9)), .c (.d (.int .i64 0))]
theorem k_w7_ch0 : PureG Tryz.prog GH1 30 [.agg [.d (.int .i64 4), .d (.int .i64 0), .d (.int .i64 0), .d (.sl rd7)]] y_w7_ch0 := pure_yres (X := tx) (E := exW []) 50000 wmo (xw_ok _ kn_nil) rfl (by kernel_rfl) (by kernel_rfl) (by kernel_rfl)
def y_w7_ch1 : V := .tup [.c (.d (.sl [[.int .i64 0], [.int .i64 2], [.int .i64 3]])), .c (.d (.int .i64 19)), .c (.d (.int .i64 0))]
theorem k_w7_ch1 : PureG Tryz.prog GH1 30 [.agg [.d (.int .i64 4), .d (.int .i64 1), .d (.int .i64 0), .d (.sl rd7)]] y_w7_ch1 := pure_yres (X := tx) (E := exW []) 50000 wmo (xw_ok _ kn_nil) rfl (by kernel_rfl) (by kernel_rfl) (by kernel_rfl)
def y_w7_pr : V := .tup [.c (.d (.sl [[.int .i64 6], [.int .i64 0], [.int .i64 1], [.int .i64 3]])), .c (.d (.int .i64 0))]
theorem k_w7_pr : PureG Tryz.prog GH1 35 [.agg [.d (.int .i64 4), .d (.int .i64 1), .d (.int .i64 0), .d (.sl rd7)]] y_w7_pr := pure_yres (X := tx) (E := exW []) 50000 wmo (xw_ok _ kn_nil) rfl (by kernel_rfl) (by kernel_rfl) (by kernel_rfl)
def KN_W7B : List (Nat × List V × List AB × V) := [(30, [.agg [.d (.int .i64 4), .d (.int .i64 0), .d (.int .i64 0), .d (.sl rd7)]], GH1, y_w7_ch0), (30, [.agg [.d (.int .i64 4), .d (.int .i64 1), .d (.int .i64 0), .d (.sl rd7)]], GH1, y_w7_ch1), (35, [.agg [.d (.int .i64 4), .d (.int .i64 1), .d (.int .i64 0), .d (.sl rd7)]], GH1, y_w7_pr)]
theorem kn_W7B : ∀ e ∈ KN_W7B, PureG Tryz.prog e.2.2.1 e.1 e.2.1 e.2.2.2 := (kn_cons k_w7_ch0 (kn_cons k_w7_ch1 (kn_cons k_w7_pr kn_nil)))
end Go.Proofs.YtfgdbeijjbijnaaGreatDoor

