/- Calls of examples, run by the kernel. -/
import Derived.Test.YtfgdbeijjbijnaaGreatDoorWD
set_option linter.unusedSimpArgs false
set_option linter.unusedVariables false
set_option linter.unusedVariables false
set_option maxRecDepth 100000
namespace Go.Proofs.YtfgdbeijjbijnaaGreatDoor
open Go Go.Abs Go.Proofs
def y_w2x_x12 : V := .agg ((ln 8738).map .d)
theorem k_w2x_x12 : PureG Tryz.prog GH0 382 [.c (.dp (tbl pm 4 [65280, 61680, 52428, 43690])), rgV 2 3] y_w2x_x12 := pure_yres (X := tx) (E := exW []) 50000 wmo (xw_ok _ kn_nil) rfl (by kernel_rfl) (by kernel_rfl) (by kernel_rfl)
def y_w2x_x13 : V := .agg ((ln 204).map .d)
theorem k_w2x_x13 : PureG Tryz.prog GH0 382 [.c (.dp (tbl pm 4 [65280, 61680, 52428, 43690])), rgV 0 2] y_w2x_x13 := pure_yres (X := tx) (E := exW []) 50000 wmo (xw_ok _ kn_nil) rfl (by kernel_rfl) (by kernel_rfl) (by kernel_rfl)
def y_w2x_x14 : V := .agg ((ln 2570).map .d)
theorem k_w2x_x14 : PureG Tryz.prog GH0 382 [.c (.dp (tbl pm 4 [65484, 61680, 52224, 43690])), rgV 1 3] y_w2x_x14 := pure_yres (X := tx) (E := exW []) 50000 wmo (xw_ok _ kn_nil) rfl (by kernel_rfl) (by kernel_rfl) (by kernel_rfl)
def y_w2x_x15 : V := .agg ((ln 50).map .d)
theorem k_w2x_x15 : PureG Tryz.prog GH0 382 [.c (.dp (tbl pm 4 [65484, 64250, 52224, 41120])), rgV 0 1] y_w2x_x15 := pure_yres (X := tx) (E := exW []) 50000 wmo (xw_ok _ kn_nil) rfl (by kernel_rfl) (by kernel_rfl) (by kernel_rfl)
def y_w2x_x16 : V := .agg ((ln 0).map .d)
theorem k_w2x_x16 : PureG Tryz.prog GH0 382 [.c (.dp (tbl pm 4 [65484, 64250, 52224, 41120])), rgV 0 2] y_w2x_x16 := pure_yres (X := tx) (E := exW []) 50000 wmo (xw_ok _ kn_nil) rfl (by kernel_rfl) (by kernel_rfl) (by kernel_rfl)
def y_w2x_x17 : V := .agg ((ln 1024).map .d)
theorem k_w2x_x17 : PureG Tryz.prog GH0 382 [.c (.dp (tbl pm 4 [65484, 64250, 52224, 41120])), rgV 1 2] y_w2x_x17 := pure_yres (X := tx) (E := exW []) 50000 wmo (xw_ok _ kn_nil) rfl (by kernel_rfl) (by kernel_rfl) (by kernel_rfl)
def y_w2x_x18 : V := .agg ((ln 32).map .d)
theorem k_w2x_x18 : PureG Tryz.prog GH0 382 [.c (.dp (tbl pm 4 [65484, 64250, 52224, 41120])), rgV 0 3] y_w2x_x18 := pure_yres (X := tx) (E := exW []) 50000 wmo (xw_ok _ kn_nil) rfl (by kernel_rfl) (by kernel_rfl) (by kernel_rfl)
def y_w2x_x19 : V := .agg ((ln 0).map .d)
theorem k_w2x_x19 : PureG Tryz.prog GH0 382 [.c (.dp (tbl pm 4 [65484, 64250, 52224, 41120])), rgV 1 3] y_w2x_x19 := pure_yres (X := tx) (E := exW []) 50000 wmo (xw_ok _ kn_nil) rfl (by kernel_rfl) (by kernel_rfl) (by kernel_rfl)
def y_w2x_x20 : V := .agg ((ln 8352).map .d)
theorem k_w2x_x20 : PureG Tryz.prog GH0 382 [.c (.dp (tbl pm 4 [65484, 64250, 52224, 41120])), rgV 2 3] y_w2x_x20 := pure_yres (X := tx) (E := exW []) 50000 wmo (xw_ok _ kn_nil) rfl (by kernel_rfl) (by kernel_rfl) (by kernel_rfl)
def y_w2x_x21 : V := .agg ((ln 12).map .d)
theorem k_w2x_x21 : PureG Tryz.prog GH0 382 [.c (.dp (tbl pu 3 [240, 204, 170])), rgV 0 1] y_w2x_x21 := pure_yres (X := tx) (E := exW []) 50000 wmo (xw_ok _ kn_nil) rfl (by kernel_rfl) (by kernel_rfl) (by kernel_rfl)
def y_w2x_x22 : V := .agg ((ln 0).map .d)
theorem k_w2x_x22 : PureG Tryz.prog GH0 382 [.c (.dp (tbl pu 3 [252, 192, 170])), rgV 0 1] y_w2x_x22 := pure_yres (X := tx) (E := exW []) 50000 wmo (xw_ok _ kn_nil) rfl (by kernel_rfl) (by kernel_rfl) (by kernel_rfl)
def y_w2x_x23 : V := .agg ((ln 42).map .d)
theorem k_w2x_x23 : PureG Tryz.prog GH0 382 [.c (.dp (tbl pu 3 [252, 192, 170])), rgV 1 2] y_w2x_x23 := pure_yres (X := tx) (E := exW []) 50000 wmo (xw_ok _ kn_nil) rfl (by kernel_rfl) (by kernel_rfl) (by kernel_rfl)
def KN_W2Y : List (Nat × List V × List AB × V) := [(382, [.c (.dp (tbl pm 4 [65280, 61680, 52428, 43690])), rgV 2 3], GH0, y_w2x_x12), (382, [.c (.dp (tbl pm 4 [65280, 61680, 52428, 43690])), rgV 0 2], GH0, y_w2x_x13), (382, [.c (.dp (tbl pm 4 [65484, 61680, 52224, 43690])), rgV 1 3], GH0, y_w2x_x14), (382, [.c (.dp (tbl pm 4 [65484, 64250, 52224, 41120])), rgV 0 1], GH0, y_w2x_x15), (382, [.c (.dp (tbl pm 4 [65484, 64250, 52224, 41120])), rgV 0 2], GH0, y_w2x_x16), (382, [.c (.dp (tbl pm 4 [65484, 64250, 52224, 41120])), rgV 1 2], GH0, y_w2x_x17), (382, [.c (.dp (tbl pm 4 [65484, 64250, 52224, 41120])), rgV 0 3], GH0, y_w2x_x18), (382, [.c (.dp (tbl pm 4 [65484, 64250, 52224, 41120])), rgV 1 3], GH0, y_w2x_x19), (382, [.c (.dp (tbl pm 4 [65484, 64250, 52224, 41120])), rgV 2 3], GH0, y_w2x_x20), (382, [.c (.dp (tbl pu 3 [240, 204, 170])), rgV 0 1], GH0, y_w2x_x21), (382, [.c (.dp (tbl pu 3 [252, 192, 170])), rgV 0 1], GH0, y_w2x_x22), (382, [.c (.dp (tbl pu 3 [252, 192, 170])), rgV 1 2], GH0, y_w2x_x23)]
theorem kn_W2Y : ∀ e ∈ KN_W2Y, PureG Tryz.prog e.2.2.1 e.1 e.2.1 e.2.2.2 := (kn_cons k_w2x_x12 (kn_cons k_w2x_x13 (kn_cons k_w2x_x14 (kn_cons k_w2x_x15 (kn_cons k_w2x_x16 (kn_cons k_w2x_x17 (kn_cons k_w2x_x18 (kn_cons k_w2x_x19 (kn_cons k_w2x_x20 (kn_cons k_w2x_x21 (kn_cons k_w2x_x22 (kn_cons k_w2x_x23 kn_nil))))))))))))
end Go.Proofs.YtfgdbeijjbijnaaGreatDoor

