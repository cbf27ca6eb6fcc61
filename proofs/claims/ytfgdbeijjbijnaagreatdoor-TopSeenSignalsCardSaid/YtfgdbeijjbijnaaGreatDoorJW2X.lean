/- Calls of examples, run by the kernel. -/
import Derived.Test.YtfgdbeijjbijnaaGreatDoorJWD
set_option linter.unusedSimpArgs false
set_option linter.unusedVariables false
set_option linter.unusedVariables false
set_option maxRecDepth 100000
namespace Go.Proofs.YtfgdbeijjbijnaaGreatDoor
open Go Go.Abs Go.Proofs
def Ql : V := .agg ((ln 12).map .d)
theorem aDk : PureG Tryz.prog GH0 382 [.c (.dp (tbl p3 3 [240, 204, 170])), rgV 0 1] Ql := pure_yres (X := tx) (E := exW []) 50000 wmo (Al _ Ae) rfl (by kernel_rfl) (by kernel_rfl) (by kernel_rfl)
def Qm : V := .agg ((ln 42).map .d)
theorem aDl : PureG Tryz.prog GH0 382 [.c (.dp (tbl p3 3 [252, 192, 170])), rgV 1 2] Qm := pure_yres (X := tx) (E := exW []) 50000 wmo (Al _ Ae) rfl (by kernel_rfl) (by kernel_rfl) (by kernel_rfl)
def Qn : V := .agg ((ln 2).map .d)
theorem aDm : PureG Tryz.prog GH0 382 [.c (.dp (tbl p3 3 [252, 234, 128])), rgV 0 1] Qn := pure_yres (X := tx) (E := exW []) 50000 wmo (Al _ Ae) rfl (by kernel_rfl) (by kernel_rfl) (by kernel_rfl)
def Qo : V := .agg ((ln 0).map .d)
theorem aDn : PureG Tryz.prog GH0 382 [.c (.dp (tbl p3 3 [254, 232, 128])), rgV 0 1] Qo := pure_yres (X := tx) (E := exW []) 50000 wmo (Al _ Ae) rfl (by kernel_rfl) (by kernel_rfl) (by kernel_rfl)
def Qp : V := .agg ((ln 0).map .d)
theorem aDo : PureG Tryz.prog GH0 382 [.c (.dp (tbl p3 3 [254, 232, 128])), rgV 0 2] Qp := pure_yres (X := tx) (E := exW []) 50000 wmo (Al _ Ae) rfl (by kernel_rfl) (by kernel_rfl) (by kernel_rfl)
def Qq : V := .agg ((ln 0).map .d)
theorem aDp : PureG Tryz.prog GH0 382 [.c (.dp (tbl p3 3 [254, 232, 128])), rgV 1 2] Qq := pure_yres (X := tx) (E := exW []) 50000 wmo (Al _ Ae) rfl (by kernel_rfl) (by kernel_rfl) (by kernel_rfl)
def Qr : V := .agg ((ln 12).map .d)
theorem aDq : PureG Tryz.prog GH0 382 [.c (.dp (tbl p2 3 [240, 204, 170])), rgV 0 1] Qr := pure_yres (X := tx) (E := exW []) 50000 wmo (Al _ Ae) rfl (by kernel_rfl) (by kernel_rfl) (by kernel_rfl)
def Qs : V := .agg ((ln 42).map .d)
theorem aDr : PureG Tryz.prog GH0 382 [.c (.dp (tbl p2 3 [252, 192, 170])), rgV 1 2] Qs := pure_yres (X := tx) (E := exW []) 50000 wmo (Al _ Ae) rfl (by kernel_rfl) (by kernel_rfl) (by kernel_rfl)
def Qt : V := .agg ((ln 2).map .d)
theorem aDs : PureG Tryz.prog GH0 382 [.c (.dp (tbl p2 3 [252, 234, 128])), rgV 0 1] Qt := pure_yres (X := tx) (E := exW []) 50000 wmo (Al _ Ae) rfl (by kernel_rfl) (by kernel_rfl) (by kernel_rfl)
def Qu : V := .agg ((ln 0).map .d)
theorem aDt : PureG Tryz.prog GH0 382 [.c (.dp (tbl p2 3 [252, 234, 128])), rgV 0 2] Qu := pure_yres (X := tx) (E := exW []) 50000 wmo (Al _ Ae) rfl (by kernel_rfl) (by kernel_rfl) (by kernel_rfl)
def M6 : V := .agg ((ln 0).map .d)
theorem UI : PureG Tryz.prog GH0 382 [.c (.dp (tbl p2 3 [252, 234, 128])), rgV 1 2] M6 := pure_yres (X := tx) (E := exW []) 50000 wmo (Al _ Ae) rfl (by kernel_rfl) (by kernel_rfl) (by kernel_rfl)
def M7 : V := .agg ((ln 240).map .d)
theorem UJ : PureG Tryz.prog GH0 382 [.c (.dp (tbl pm 4 [65280, 61680, 52428, 43690])), rgV 0 1] M7 := pure_yres (X := tx) (E := exW []) 50000 wmo (Al _ Ae) rfl (by kernel_rfl) (by kernel_rfl) (by kernel_rfl)
def Ft : List (Nat × List V × List AB × V) := [(382, [.c (.dp (tbl p3 3 [240, 204, 170])), rgV 0 1], GH0, Ql), (382, [.c (.dp (tbl p3 3 [252, 192, 170])), rgV 1 2], GH0, Qm), (382, [.c (.dp (tbl p3 3 [252, 234, 128])), rgV 0 1], GH0, Qn), (382, [.c (.dp (tbl p3 3 [254, 232, 128])), rgV 0 1], GH0, Qo), (382, [.c (.dp (tbl p3 3 [254, 232, 128])), rgV 0 2], GH0, Qp), (382, [.c (.dp (tbl p3 3 [254, 232, 128])), rgV 1 2], GH0, Qq), (382, [.c (.dp (tbl p2 3 [240, 204, 170])), rgV 0 1], GH0, Qr), (382, [.c (.dp (tbl p2 3 [252, 192, 170])), rgV 1 2], GH0, Qs), (382, [.c (.dp (tbl p2 3 [252, 234, 128])), rgV 0 1], GH0, Qt), (382, [.c (.dp (tbl p2 3 [252, 234, 128])), rgV 0 2], GH0, Qu), (382, [.c (.dp (tbl p2 3 [252, 234, 128])), rgV 1 2], GH0, M6), (382, [.c (.dp (tbl pm 4 [65280, 61680, 52428, 43690])), rgV 0 1], GH0, M7)]
theorem F1 : ∀ e ∈ Ft, PureG Tryz.prog e.2.2.1 e.1 e.2.1 e.2.2.2 := (Ab aDk (Ab aDl (Ab aDm (Ab aDn (Ab aDo (Ab aDp (Ab aDq (Ab aDr (Ab aDs (Ab aDt (Ab UI (Ab UJ Ae))))))))))))
end Go.Proofs.YtfgdbeijjbijnaaGreatDoor
