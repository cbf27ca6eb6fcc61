/- Calls of examples, run by the kernel. -/
import Derived.Test.YtfgdbeijjbijnaaGreatDoorW2X
import Derived.Test.YtfgdbeijjbijnaaGreatDoorW2Y
set_option linter.unusedSimpArgs false
set_option linter.unusedVariables false
set_option linter.unusedVariables false
set_option maxRecDepth 100000
namespace Go.Proofs.YtfgdbeijjbijnaaGreatDoor
open Go Go.Abs Go.Proofs
def y_w2u_u3 : V := .agg ((ln 0).map .d)
theorem k_w2u_u3 : PureG Tryz.prog GH0 328 [.c (.dp (tbl p3 3 [254, 232, 128])), .c (.fn (.func 324) [.dp [.int .i64 3], .dp [.int .i64 3]])] y_w2u_u3 := pure_yres (X := tx) (E := exW (KN_W2X ++ KN_W2Y)) 50000 wmo (xw_ok _ (kn_app kn_W2X kn_W2Y)) rfl (by kernel_rfl) (by kernel_rfl) (by kernel_rfl)
def y_w2u_u2 : V := .agg ((ln 2).map .d)
theorem k_w2u_u2 : PureG Tryz.prog GH0 328 [.c (.dp (tbl p2 3 [252, 234, 128])), .c (.fn (.func 324) [.dp [.int .i64 3], .dp [.int .i64 3]])] y_w2u_u2 := pure_yres (X := tx) (E := exW (KN_W2X ++ KN_W2Y)) 50000 wmo (xw_ok _ (kn_app kn_W2X kn_W2Y)) rfl (by kernel_rfl) (by kernel_rfl) (by kernel_rfl)
def y_w2u_um1 : V := .agg ((ln 8946).map .d)
theorem k_w2u_um1 : PureG Tryz.prog GH0 328 [.c (.dp (tbl pm 4 [65280, 61680, 52428, 43690])), .c (.fn (.func 329) [.dp [.int .i64 2]])] y_w2u_um1 := pure_yres (X := tx) (E := exW (KN_W2X ++ KN_W2Y)) 50000 wmo (xw_ok _ (kn_app kn_W2X kn_W2Y)) rfl (by kernel_rfl) (by kernel_rfl) (by kernel_rfl)
def y_w2u_um2 : V := .agg ((ln 9394).map .d)
theorem k_w2u_um2 : PureG Tryz.prog GH0 328 [.c (.dp (tbl pm 4 [65484, 64250, 52224, 41120])), .c (.fn (.func 330) [])] y_w2u_um2 := pure_yres (X := tx) (E := exW (KN_W2X ++ KN_W2Y)) 50000 wmo (xw_ok _ (kn_app kn_W2X kn_W2Y)) rfl (by kernel_rfl) (by kernel_rfl) (by kernel_rfl)
def KN_W2U : List (Nat × List V × List AB × V) := [(328, [.c (.dp (tbl p3 3 [254, 232, 128])), .c (.fn (.func 324) [.dp [.int .i64 3], .dp [.int .i64 3]])], GH0, y_w2u_u3), (328, [.c (.dp (tbl p2 3 [252, 234, 128])), .c (.fn (.func 324) [.dp [.int .i64 3], .dp [.int .i64 3]])], GH0, y_w2u_u2), (328, [.c (.dp (tbl pm 4 [65280, 61680, 52428, 43690])), .c (.fn (.func 329) [.dp [.int .i64 2]])], GH0, y_w2u_um1), (328, [.c (.dp (tbl pm 4 [65484, 64250, 52224, 41120])), .c (.fn (.func 330) [])], GH0, y_w2u_um2)]
theorem kn_W2U : ∀ e ∈ KN_W2U, PureG Tryz.prog e.2.2.1 e.1 e.2.1 e.2.2.2 := (kn_cons k_w2u_u3 (kn_cons k_w2u_u2 (kn_cons k_w2u_um1 (kn_cons k_w2u_um2 kn_nil))))
end Go.Proofs.YtfgdbeijjbijnaaGreatDoor

