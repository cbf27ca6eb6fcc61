/- Calls of examples, run by the kernel. -/
import Derived.Test.YtfgdbeijjbijnaaGreatDoorWD
set_option linter.unusedSimpArgs false
set_option linter.unusedVariables false
set_option linter.unusedVariables false
set_option maxRecDepth 100000
namespace Go.Proofs.YtfgdbeijjbijnaaGreatDoor
open Go Go.Abs Go.Proofs
def y_w2x_x0 : V := .agg ((ln 12).map .d)
theorem k_w2x_x0 : PureG Tryz.prog GH0 382 [.c (.dp (tbl p3 3 [240, 204, 170])), rgV 0 1] y_w2x_x0 := pure_yres (X := tx) (E := exW []) 50000 wmo (xw_ok _ kn_nil) rfl (by kernel_rfl) (by kernel_rfl) (by kernel_rfl)
def y_w2x_x1 : V := .agg ((ln 42).map .d)
theorem k_w2x_x1 : PureG Tryz.prog GH0 382 [.c (.dp (tbl p3 3 [252, 192, 170])), rgV 1 2] y_w2x_x1 := pure_yres (X := tx) (E := exW []) 50000 wmo (xw_ok _ kn_nil) rfl (by kernel_rfl) (by kernel_rfl) (by kernel_rfl)
def y_w2x_x2 : V := .agg ((ln 2).map .d)
theorem k_w2x_x2 : PureG Tryz.prog GH0 382 [.c (.dp (tbl p3 3 [252, 234, 128])), rgV 0 1] y_w2x_x2 := pure_yres (X := tx) (E := exW []) 50000 wmo (xw_ok _ kn_nil) rfl (by kernel_rfl) (by kernel_rfl) (by kernel_rfl)
def y_w2x_x3 : V := .agg ((ln 0).map .d)
theorem k_w2x_x3 : PureG Tryz.prog GH0 382 [.c (.dp (tbl p3 3 [254, 232, 128])), rgV 0 1] y_w2x_x3 := pure_yres (X := tx) (E := exW []) 50000 wmo (xw_ok _ kn_nil) rfl (by kernel_rfl) (by kernel_rfl) (by kernel_rfl)
def y_w2x_x4 : V := .agg ((ln 0).map .d)
theorem k_w2x_x4 : PureG Tryz.prog GH0 382 [.c (.dp (tbl p3 3 [254, 232, 128])), rgV 0 2] y_w2x_x4 := pure_yres (X := tx) (E := exW []) 50000 wmo (xw_ok _ kn_nil) rfl (by kernel_rfl) (by kernel_rfl) (by kernel_rfl)
def y_w2x_x5 : V := .agg ((ln 0).map .d)
theorem k_w2x_x5 : PureG Tryz.prog GH0 382 [.c (.dp (tbl p3 3 [254, 232, 128])), rgV 1 2] y_w2x_x5 := pure_yres (X := tx) (E := exW []) 50000 wmo (xw_ok _ kn_nil) rfl (by kernel_rfl) (by kernel_rfl) (by kernel_rfl)
def y_w2x_x6 : V := .agg ((ln 12).map .d)
theorem k_w2x_x6 : PureG Tryz.prog GH0 382 [.c (.dp (tbl p2 3 [240, 204, 170])), rgV 0 1] y_w2x_x6 := pure_yres (X := tx) (E := exW []) 50000 wmo (xw_ok _ kn_nil) rfl (by kernel_rfl) (by kernel_rfl) (by kernel_rfl)
def y_w2x_x7 : V := .agg ((ln 42).map .d)
theorem k_w2x_x7 : PureG Tryz.prog GH0 382 [.c (.dp (tbl p2 3 [252, 192, 170])), rgV 1 2] y_w2x_x7 := pure_yres (X := tx) (E := exW []) 50000 wmo (xw_ok _ kn_nil) rfl (by kernel_rfl) (by kernel_rfl) (by kernel_rfl)
def y_w2x_x8 : V := .agg ((ln 2).map .d)
theorem k_w2x_x8 : PureG Tryz.prog GH0 382 [.c (.dp (tbl p2 3 [252, 234, 128])), rgV 0 1] y_w2x_x8 := pure_yres (X := tx) (E := exW []) 50000 wmo (xw_ok _ kn_nil) rfl (by kernel_rfl) (by kernel_rfl) (by kernel_rfl)
def y_w2x_x9 : V := .agg ((ln 0).map .d)
theorem k_w2x_x9 : PureG Tryz.prog GH0 382 [.c (.dp (tbl p2 3 [252, 234, 128])), rgV 0 2] y_w2x_x9 := pure_yres (X := tx) (E := exW []) 50000 wmo (xw_ok _ kn_nil) rfl (by kernel_rfl) (by kernel_rfl) (by kernel_rfl)
def y_w2x_x10 : V := .agg ((ln 0).map .d)
theorem k_w2x_x10 : PureG Tryz.prog GH0 382 [.c (.dp (tbl p2 3 [252, 234, 128])), rgV 1 2] y_w2x_x10 := pure_yres (X := tx) (E := exW []) 50000 wmo (xw_ok _ kn_nil) rfl (by kernel_rfl) (by kernel_rfl) (by kernel_rfl)
def y_w2x_x11 : V := .agg ((ln 240).map .d)
theorem k_w2x_x11 : PureG Tryz.prog GH0 382 [.c (.dp (tbl pm 4 [65280, 61680, 52428, 43690])), rgV 0 1] y_w2x_x11 := pure_yres (X := tx) (E := exW []) 50000 wmo (xw_ok _ kn_nil) rfl (by kernel_rfl) (by kernel_rfl) (by kernel_rfl)
def KN_W2X : List (Nat × List V × List AB × V) := [(382, [.c (.dp (tbl p3 3 [240, 204, 170])), rgV 0 1], GH0, y_w2x_x0), (382, [.c (.dp (tbl p3 3 [252, 192, 170])), rgV 1 2], GH0, y_w2x_x1), (382, [.c (.dp (tbl p3 3 [252, 234, 128])), rgV 0 1], GH0, y_w2x_x2), (382, [.c (.dp (tbl p3 3 [254, 232, 128])), rgV 0 1], GH0, y_w2x_x3), (382, [.c (.dp (tbl p3 3 [254, 232, 128])), rgV 0 2], GH0, y_w2x_x4), (382, [.c (.dp (tbl p3 3 [254, 232, 128])), rgV 1 2], GH0, y_w2x_x5), (382, [.c (.dp (tbl p2 3 [240, 204, 170])), rgV 0 1], GH0, y_w2x_x6), (382, [.c (.dp (tbl p2 3 [252, 192, 170])), rgV 1 2], GH0, y_w2x_x7), (382, [.c (.dp (tbl p2 3 [252, 234, 128])), rgV 0 1], GH0, y_w2x_x8), (382, [.c (.dp (tbl p2 3 [252, 234, 128])), rgV 0 2], GH0, y_w2x_x9), (382, [.c (.dp (tbl p2 3 [252, 234, 128])), rgV 1 2], GH0, y_w2x_x10), (382, [.c (.dp (tbl pm 4 [65280, 61680, 52428, 43690])), rgV 0 1], GH0, y_w2x_x11)]
theorem kn_W2X : ∀ e ∈ KN_W2X, PureG Tryz.prog e.2.2.1 e.1 e.2.1 e.2.2.2 := (kn_cons k_w2x_x0 (kn_cons k_w2x_x1 (kn_cons k_w2x_x2 (kn_cons k_w2x_x3 (kn_cons k_w2x_x4 (kn_cons k_w2x_x5 (kn_cons k_w2x_x6 (kn_cons k_w2x_x7 (kn_cons k_w2x_x8 (kn_cons k_w2x_x9 (kn_cons k_w2x_x10 (kn_cons k_w2x_x11 kn_nil))))))))))))
end Go.Proofs.YtfgdbeijjbijnaaGreatDoor

