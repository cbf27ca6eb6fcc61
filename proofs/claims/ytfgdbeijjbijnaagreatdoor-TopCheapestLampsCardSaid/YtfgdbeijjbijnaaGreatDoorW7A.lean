/- Calls of examples, run by the kernel. -/
import Derived.Test.YtfgdbeijjbijnaaGreatDoorWD
set_option linter.unusedSimpArgs false
set_option linter.unusedVariables false
set_option linter.unusedVariables false
set_option maxRecDepth 100000
namespace Go.Proofs.YtfgdbeijjbijnaaGreatDoor
open Go Go.Abs Go.Proofs
def y_w7_lit : V := .tup [.c (.full [[.int .i64 1], [.int .i64 2], [.int .i64 1], [.int .i64 1]]), .c (.d (.int .i64 0))]
theorem k_w7_lit : PureG Tryz.prog GH0 28 [.agg [.d (.int .i64 4), .d (.int .i64 0), .d (.int .i64 0), .d (.sl rd7)], .c (.d (.sl [[.int .i64 0], [.int .i64 1]]))] y_w7_lit := pure_yres (X := tx) (E := exW []) 50000 wmo (xw_ok _ kn_nil) rfl (by kernel_rfl) (by kernel_rfl) (by kernel_rfl)
def y_w7_ck1 : V := .tup [.c (.d (.int .i64 9)), .c (.d (.int .i64 0))]
theorem k_w7_ck1 : PureG Tryz.prog GH0 29 [.agg [.d (.int .i64 4), .d (.int .i64 0), .d (.int .i64 0), .d (.sl rd7)], .c (.d (.sl [[.int .i64 0], [.int .i64 2]]))] y_w7_ck1 := pure_yres (X := tx) (E := exW []) 50000 wmo (xw_ok _ kn_nil) rfl (by kernel_rfl) (by kernel_rfl) (by kernel_rfl)
def y_w7_ck2 : V := .tup [.c (.d (.int .i64 0)), .c (.d (.int .i64 18))]
theorem k_w7_ck2 : PureG Tryz.prog GH0 29 [.agg [.d (.int .i64 4), .d (.int .i64 0), .d (.int .i64 0), .d (.sl rd7)], .c (.d (.sl [[.int .i64 1], [.int .i64 2]]))] y_w7_ck2 := pure_yres (X := tx) (E := exW []) 50000 wmo (xw_ok _ kn_nil) rfl (by kernel_rfl) (by kernel_rfl) (by kernel_rfl)
def y_w7_cp : V := .tup [.c (.d (.int .i64 9)), .c (.d (.int .i64 0))]
theorem k_w7_cp : PureG Tryz.prog GH0 36 [.agg [.d (.int .i64 4), .d (.int .i64 0), .d (.int .i64 0), .d (.sl rd7)], .c (.d (.sl [[.int .i64 5], [.int .i64 0], [.int .i64 0], [.int .i64 4]]))] y_w7_cp := pure_yres (X := tx) (E := exW []) 50000 wmo (xw_ok _ kn_nil) rfl (by kernel_rfl) (by kernel_rfl) (by kernel_rfl)
def y_w7_cd : V := .c (.d (.int .i64 0))
theorem k_w7_cd : PureG Tryz.prog GH0 146 [.agg [.d (.int .i64 4), .d (.int .i64 1), .d (.int .i64 0), .d (.sl rd7)], .c (.d (.sl [[.int .i64 0], [.int .i64 1], [.int .i64 2]])), .c (.d (.int .i64 0)), .c (.d (.sl [[.int .i64 0]]))] y_w7_cd := pure_yres (X := tx) (E := exW []) 50000 wmo (xw_ok _ kn_nil) rfl (by kernel_rfl) (by kernel_rfl) (by kernel_rfl)
def y_w7_dk : V := .tup [.c (.d (.int .i64 0)), .c (.d (.sl [[.int .i64 0]])), .c (.d (.int .i64 0))]
theorem k_w7_dk : PureG Tryz.prog GH0 147 [.agg [.d (.int .i64 4), .d (.int .i64 1), .d (.int .i64 0), .d (.sl rd7)], .c (.d (.sl [[.int .i64 0], [.int .i64 1], [.int .i64 2]]))] y_w7_dk := pure_yres (X := tx) (E := exW []) 50000 wmo (xw_ok _ kn_nil) rfl (by kernel_rfl) (by kernel_rfl) (by kernel_rfl)
def KN_W7A : List (Nat × List V × List AB × V) := [(28, [.agg [.d (.int .i64 4), .d (.int .i64 0), .d (.int .i64 0), .d (.sl rd7)], .c (.d (.sl [[.int .i64 0], [.int .i64 1]]))], GH0, y_w7_lit), (29, [.agg [.d (.int .i64 4), .d (.int .i64 0), .d (.int .i64 0), .d (.sl rd7)], .c (.d (.sl [[.int .i64 0], [.int .i64 2]]))], GH0, y_w7_ck1), (29, [.agg [.d (.int .i64 4), .d (.int .i64 0), .d (.int .i64 0), .d (.sl rd7)], .c (.d (.sl [[.int .i64 1], [.int .i64 2]]))], GH0, y_w7_ck2), (36, [.agg [.d (.int .i64 4), .d (.int .i64 0), .d (.int .i64 0), .d (.sl rd7)], .c (.d (.sl [[.int .i64 5], [.int .i64 0], [.int .i64 0], [.int .i64 4]]))], GH0, y_w7_cp), (146, [.agg [.d (.int .i64 4), .d (.int .i64 1), .d (.int .i64 0), .d (.sl rd7)], .c (.d (.sl [[.int .i64 0], [.int .i64 1], [.int .i64 2]])), .c (.d (.int .i64 0)), .c (.d (.sl [[.int .i64 0]]))], GH0, y_w7_cd), (147, [.agg [.d (.int .i64 4), .d (.int .i64 1), .d (.int .i64 0), .d (.sl rd7)], .c (.d (.sl [[.int .i64 0], [.int .i64 1], [.int .i64 2]]))], GH0, y_w7_dk)]
theorem kn_W7A : ∀ e ∈ KN_W7A, PureG Tryz.prog e.2.2.1 e.1 e.2.1 e.2.2.2 := (kn_cons k_w7_lit (kn_cons k_w7_ck1 (kn_cons k_w7_ck2 (kn_cons k_w7_cp (kn_cons k_w7_cd (kn_cons k_w7_dk kn_nil))))))
end Go.Proofs.YtfgdbeijjbijnaaGreatDoor

