/- Calls of examples, run by the kernel. -/
import Derived.Test.YtfgdbeijjbijnaaGreatDoorJW2X
import Derived.Test.YtfgdbeijjbijnaaGreatDoorJW2Y
set_option linter.unusedSimpArgs false
set_option linter.unusedVariables false
set_option linter.unusedVariables false
set_option maxRecDepth 100000
namespace Go.Proofs.YtfgdbeijjbijnaaGreatDoor
open Go Go.Abs Go.Proofs
def Qv : V := .agg ((ln 0).map .d)
theorem aDu : PureG Tryz.prog GH0 328 [.c (.dp (tbl p3 3 [254, 232, 128])), .c (.fn (.func 324) [.dp [.int .i64 3], .dp [.int .i64 3]])] Qv := pure_yres (X := tx) (E := exW (Ft ++ Fu)) 50000 wmo (Al _ (Bb F1 F2)) rfl (by kernel_rfl) (by kernel_rfl) (by kernel_rfl)
def Qw : V := .agg ((ln 2).map .d)
theorem aDv : PureG Tryz.prog GH0 328 [.c (.dp (tbl p2 3 [252, 234, 128])), .c (.fn (.func 324) [.dp [.int .i64 3], .dp [.int .i64 3]])] Qw := pure_yres (X := tx) (E := exW (Ft ++ Fu)) 50000 wmo (Al _ (Bb F1 F2)) rfl (by kernel_rfl) (by kernel_rfl) (by kernel_rfl)
def Nl : V := .agg ((ln 8946).map .d)
theorem UW : PureG Tryz.prog GH0 328 [.c (.dp (tbl pm 4 [65280, 61680, 52428, 43690])), .c (.fn (.func 329) [.dp [.int .i64 2]])] Nl := pure_yres (X := tx) (E := exW (Ft ++ Fu)) 50000 wmo (Al _ (Bb F1 F2)) rfl (by kernel_rfl) (by kernel_rfl) (by kernel_rfl)
def Nm : V := .agg ((ln 9394).map .d)
theorem UX : PureG Tryz.prog GH0 328 [.c (.dp (tbl pm 4 [65484, 64250, 52224, 41120])), .c (.fn (.func 330) [])] Nm := pure_yres (X := tx) (E := exW (Ft ++ Fu)) 50000 wmo (Al _ (Bb F1 F2)) rfl (by kernel_rfl) (by kernel_rfl) (by kernel_rfl)
def Lj : List (Nat × List V × List AB × V) := [(328, [.c (.dp (tbl p3 3 [254, 232, 128])), .c (.fn (.func 324) [.dp [.int .i64 3], .dp [.int .i64 3]])], GH0, Qv), (328, [.c (.dp (tbl p2 3 [252, 234, 128])), .c (.fn (.func 324) [.dp [.int .i64 3], .dp [.int .i64 3]])], GH0, Qw), (328, [.c (.dp (tbl pm 4 [65280, 61680, 52428, 43690])), .c (.fn (.func 329) [.dp [.int .i64 2]])], GH0, Nl), (328, [.c (.dp (tbl pm 4 [65484, 64250, 52224, 41120])), .c (.fn (.func 330) [])], GH0, Nm)]
theorem Oz : ∀ e ∈ Lj, PureG Tryz.prog e.2.2.1 e.1 e.2.1 e.2.2.2 := (Ab aDu (Ab aDv (Ab UW (Ab UX Ae))))
end Go.Proofs.YtfgdbeijjbijnaaGreatDoor
