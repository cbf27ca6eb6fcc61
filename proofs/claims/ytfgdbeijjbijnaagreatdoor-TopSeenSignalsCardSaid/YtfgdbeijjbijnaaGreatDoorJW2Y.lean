/- Calls of examples, run by the kernel. -/
import Derived.Test.YtfgdbeijjbijnaaGreatDoorJWD
set_option linter.unusedSimpArgs false
set_option linter.unusedVariables false
set_option linter.unusedVariables false
set_option maxRecDepth 100000
namespace Go.Proofs.YtfgdbeijjbijnaaGreatDoor
open Go Go.Abs Go.Proofs
def M8 : V := .agg ((ln 8738).map .d)
theorem UK : PureG Tryz.prog GH0 382 [.c (.dp (tbl pm 4 [65280, 61680, 52428, 43690])), rgV 2 3] M8 := pure_yres (X := tx) (E := exW []) 50000 wmo (Al _ Ae) rfl (by kernel_rfl) (by kernel_rfl) (by kernel_rfl)
def M9 : V := .agg ((ln 204).map .d)
theorem UL : PureG Tryz.prog GH0 382 [.c (.dp (tbl pm 4 [65280, 61680, 52428, 43690])), rgV 0 2] M9 := pure_yres (X := tx) (E := exW []) 50000 wmo (Al _ Ae) rfl (by kernel_rfl) (by kernel_rfl) (by kernel_rfl)
def Na : V := .agg ((ln 2570).map .d)
theorem UM : PureG Tryz.prog GH0 382 [.c (.dp (tbl pm 4 [65484, 61680, 52224, 43690])), rgV 1 3] Na := pure_yres (X := tx) (E := exW []) 50000 wmo (Al _ Ae) rfl (by kernel_rfl) (by kernel_rfl) (by kernel_rfl)
def Nb : V := .agg ((ln 50).map .d)
theorem UN : PureG Tryz.prog GH0 382 [.c (.dp (tbl pm 4 [65484, 64250, 52224, 41120])), rgV 0 1] Nb := pure_yres (X := tx) (E := exW []) 50000 wmo (Al _ Ae) rfl (by kernel_rfl) (by kernel_rfl) (by kernel_rfl)
def Nc : V := .agg ((ln 0).map .d)
theorem UO : PureG Tryz.prog GH0 382 [.c (.dp (tbl pm 4 [65484, 64250, 52224, 41120])), rgV 0 2] Nc := pure_yres (X := tx) (E := exW []) 50000 wmo (Al _ Ae) rfl (by kernel_rfl) (by kernel_rfl) (by kernel_rfl)
def Nd : V := .agg ((ln 1024).map .d)
theorem UP : PureG Tryz.prog GH0 382 [.c (.dp (tbl pm 4 [65484, 64250, 52224, 41120])), rgV 1 2] Nd := pure_yres (X := tx) (E := exW []) 50000 wmo (Al _ Ae) rfl (by kernel_rfl) (by kernel_rfl) (by kernel_rfl)
def Nf : V := .agg ((ln 32).map .d)
theorem UQ : PureG Tryz.prog GH0 382 [.c (.dp (tbl pm 4 [65484, 64250, 52224, 41120])), rgV 0 3] Nf := pure_yres (X := tx) (E := exW []) 50000 wmo (Al _ Ae) rfl (by kernel_rfl) (by kernel_rfl) (by kernel_rfl)
def Ng : V := .agg ((ln 0).map .d)
theorem UR : PureG Tryz.prog GH0 382 [.c (.dp (tbl pm 4 [65484, 64250, 52224, 41120])), rgV 1 3] Ng := pure_yres (X := tx) (E := exW []) 50000 wmo (Al _ Ae) rfl (by kernel_rfl) (by kernel_rfl) (by kernel_rfl)
def Nh : V := .agg ((ln 8352).map .d)
theorem US : PureG Tryz.prog GH0 382 [.c (.dp (tbl pm 4 [65484, 64250, 52224, 41120])), rgV 2 3] Nh := pure_yres (X := tx) (E := exW []) 50000 wmo (Al _ Ae) rfl (by kernel_rfl) (by kernel_rfl) (by kernel_rfl)
def Ni : V := .agg ((ln 12).map .d)
theorem UT : PureG Tryz.prog GH0 382 [.c (.dp (tbl pu 3 [240, 204, 170])), rgV 0 1] Ni := pure_yres (X := tx) (E := exW []) 50000 wmo (Al _ Ae) rfl (by kernel_rfl) (by kernel_rfl) (by kernel_rfl)
def Nj : V := .agg ((ln 0).map .d)
theorem UU : PureG Tryz.prog GH0 382 [.c (.dp (tbl pu 3 [252, 192, 170])), rgV 0 1] Nj := pure_yres (X := tx) (E := exW []) 50000 wmo (Al _ Ae) rfl (by kernel_rfl) (by kernel_rfl) (by kernel_rfl)
def Nk : V := .agg ((ln 42).map .d)
theorem UV : PureG Tryz.prog GH0 382 [.c (.dp (tbl pu 3 [252, 192, 170])), rgV 1 2] Nk := pure_yres (X := tx) (E := exW []) 50000 wmo (Al _ Ae) rfl (by kernel_rfl) (by kernel_rfl) (by kernel_rfl)
def Fu : List (Nat × List V × List AB × V) := [(382, [.c (.dp (tbl pm 4 [65280, 61680, 52428, 43690])), rgV 2 3], GH0, M8), (382, [.c (.dp (tbl pm 4 [65280, 61680, 52428, 43690])), rgV 0 2], GH0, M9), (382, [.c (.dp (tbl pm 4 [65484, 61680, 52224, 43690])), rgV 1 3], GH0, Na), (382, [.c (.dp (tbl pm 4 [65484, 64250, 52224, 41120])), rgV 0 1], GH0, Nb), (382, [.c (.dp (tbl pm 4 [65484, 64250, 52224, 41120])), rgV 0 2], GH0, Nc), (382, [.c (.dp (tbl pm 4 [65484, 64250, 52224, 41120])), rgV 1 2], GH0, Nd), (382, [.c (.dp (tbl pm 4 [65484, 64250, 52224, 41120])), rgV 0 3], GH0, Nf), (382, [.c (.dp (tbl pm 4 [65484, 64250, 52224, 41120])), rgV 1 3], GH0, Ng), (382, [.c (.dp (tbl pm 4 [65484, 64250, 52224, 41120])), rgV 2 3], GH0, Nh), (382, [.c (.dp (tbl pu 3 [240, 204, 170])), rgV 0 1], GH0, Ni), (382, [.c (.dp (tbl pu 3 [252, 192, 170])), rgV 0 1], GH0, Nj), (382, [.c (.dp (tbl pu 3 [252, 192, 170])), rgV 1 2], GH0, Nk)]
theorem F2 : ∀ e ∈ Fu, PureG Tryz.prog e.2.2.1 e.1 e.2.1 e.2.2.2 := (Ab UK (Ab UL (Ab UM (Ab UN (Ab UO (Ab UP (Ab UQ (Ab UR (Ab US (Ab UT (Ab UU (Ab UV Ae))))))))))))
end Go.Proofs.YtfgdbeijjbijnaaGreatDoor
