/- Calls of examples, run by the kernel. -/
import Derived.Test.YtfgdbeijjbijnaaGreatDoorHWD
set_option linter.unusedSimpArgs false
set_option linter.unusedVariables false
set_option linter.unusedVariables false
set_option maxRecDepth 100000
namespace Go.Proofs.YtfgdbeijjbijnaaGreatDoor
open Go Go.Abs Go.Proofs
def QC : V := .agg ((ln 12).map .d)
theorem aD0 : PureG Tryz.prog GH0 382 [.c (.dp (tbl p3 3 [240, 204, 170])), rgV 0 1] QC := pure_yres (X := tx) (E := exW []) 50000 wmo (Ag _ Ab) rfl (by kernel_rfl) (by kernel_rfl) (by kernel_rfl)
def QD : V := .agg ((ln 42).map .d)
theorem aD1 : PureG Tryz.prog GH0 382 [.c (.dp (tbl p3 3 [252, 192, 170])), rgV 1 2] QD := pure_yres (X := tx) (E := exW []) 50000 wmo (Ag _ Ab) rfl (by kernel_rfl) (by kernel_rfl) (by kernel_rfl)
def QE : V := .agg ((ln 2).map .d)
theorem aD2 : PureG Tryz.prog GH0 382 [.c (.dp (tbl p3 3 [252, 234, 128])), rgV 0 1] QE := pure_yres (X := tx) (E := exW []) 50000 wmo (Ag _ Ab) rfl (by kernel_rfl) (by kernel_rfl) (by kernel_rfl)
def QF : V := .agg ((ln 0).map .d)
theorem aD3 : PureG Tryz.prog GH0 382 [.c (.dp (tbl p3 3 [254, 232, 128])), rgV 0 1] QF := pure_yres (X := tx) (E := exW []) 50000 wmo (Ag _ Ab) rfl (by kernel_rfl) (by kernel_rfl) (by kernel_rfl)
def QG : V := .agg ((ln 0).map .d)
theorem aD4 : PureG Tryz.prog GH0 382 [.c (.dp (tbl p3 3 [254, 232, 128])), rgV 0 2] QG := pure_yres (X := tx) (E := exW []) 50000 wmo (Ag _ Ab) rfl (by kernel_rfl) (by kernel_rfl) (by kernel_rfl)
def QH : V := .agg ((ln 0).map .d)
theorem aD5 : PureG Tryz.prog GH0 382 [.c (.dp (tbl p3 3 [254, 232, 128])), rgV 1 2] QH := pure_yres (X := tx) (E := exW []) 50000 wmo (Ag _ Ab) rfl (by kernel_rfl) (by kernel_rfl) (by kernel_rfl)
def QI : V := .agg ((ln 12).map .d)
theorem aD6 : PureG Tryz.prog GH0 382 [.c (.dp (tbl p2 3 [240, 204, 170])), rgV 0 1] QI := pure_yres (X := tx) (E := exW []) 50000 wmo (Ag _ Ab) rfl (by kernel_rfl) (by kernel_rfl) (by kernel_rfl)
def QJ : V := .agg ((ln 42).map .d)
theorem aD7 : PureG Tryz.prog GH0 382 [.c (.dp (tbl p2 3 [252, 192, 170])), rgV 1 2] QJ := pure_yres (X := tx) (E := exW []) 50000 wmo (Ag _ Ab) rfl (by kernel_rfl) (by kernel_rfl) (by kernel_rfl)
def QK : V := .agg ((ln 2).map .d)
theorem aD8 : PureG Tryz.prog GH0 382 [.c (.dp (tbl p2 3 [252, 234, 128])), rgV 0 1] QK := pure_yres (X := tx) (E := exW []) 50000 wmo (Ag _ Ab) rfl (by kernel_rfl) (by kernel_rfl) (by kernel_rfl)
def QL : V := .agg ((ln 0).map .d)
theorem aD9 : PureG Tryz.prog GH0 382 [.c (.dp (tbl p2 3 [252, 234, 128])), rgV 0 2] QL := pure_yres (X := tx) (E := exW []) 50000 wmo (Ag _ Ab) rfl (by kernel_rfl) (by kernel_rfl) (by kernel_rfl)
def Nj : V := .agg ((ln 0).map .d)
theorem Vo : PureG Tryz.prog GH0 382 [.c (.dp (tbl p2 3 [252, 234, 128])), rgV 1 2] Nj := pure_yres (X := tx) (E := exW []) 50000 wmo (Ag _ Ab) rfl (by kernel_rfl) (by kernel_rfl) (by kernel_rfl)
def Nk : V := .agg ((ln 240).map .d)
theorem Vp : PureG Tryz.prog GH0 382 [.c (.dp (tbl pm 4 [65280, 61680, 52428, 43690])), rgV 0 1] Nk := pure_yres (X := tx) (E := exW []) 50000 wmo (Ag _ Ab) rfl (by kernel_rfl) (by kernel_rfl) (by kernel_rfl)
def Fa : List (Nat × List V × List AB × V) := [(382, [.c (.dp (tbl p3 3 [240, 204, 170])), rgV 0 1], GH0, QC), (382, [.c (.dp (tbl p3 3 [252, 192, 170])), rgV 1 2], GH0, QD), (382, [.c (.dp (tbl p3 3 [252, 234, 128])), rgV 0 1], GH0, QE), (382, [.c (.dp (tbl p3 3 [254, 232, 128])), rgV 0 1], GH0, QF), (382, [.c (.dp (tbl p3 3 [254, 232, 128])), rgV 0 2], GH0, QG), (382, [.c (.dp (tbl p3 3 [254, 232, 128])), rgV 1 2], GH0, QH), (382, [.c (.dp (tbl p2 3 [240, 204, 170])), rgV 0 1], GH0, QI), (382, [.c (.dp (tbl p2 3 [252, 192, 170])), rgV 1 2], GH0, QJ), (382, [.c (.dp (tbl p2 3 [252, 234, 128])), rgV 0 1], GH0, QK), (382, [.c (.dp (tbl p2 3 [252, 234, 128])), rgV 0 2], GH0, QL), (382, [.c (.dp (tbl p2 3 [252, 234, 128])), rgV 1 2], GH0, Nj), (382, [.c (.dp (tbl pm 4 [65280, 61680, 52428, 43690])), rgV 0 1], GH0, Nk)]
theorem FL : ∀ e ∈ Fa, PureG Tryz.prog e.2.2.1 e.1 e.2.1 e.2.2.2 := (Aa aD0 (Aa aD1 (Aa aD2 (Aa aD3 (Aa aD4 (Aa aD5 (Aa aD6 (Aa aD7 (Aa aD8 (Aa aD9 (Aa Vo (Aa Vp Ab))))))))))))
end Go.Proofs.YtfgdbeijjbijnaaGreatDoor
