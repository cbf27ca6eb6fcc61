/- Calls of examples, run by the kernel. -/
import Derived.Test.YtfgdbeijjbijnaaGreatDoorHW2X
import Derived.Test.YtfgdbeijjbijnaaGreatDoorHW2Y
set_option linter.unusedSimpArgs false
set_option linter.unusedVariables false
set_option linter.unusedVariables false
set_option maxRecDepth 100000
namespace Go.Proofs.YtfgdbeijjbijnaaGreatDoor
open Go Go.Abs Go.Proofs
def QM : V := .agg ((ln 0).map .d)
theorem aEa : PureG Tryz.prog GH0 328 [.c (.dp (tbl p3 3 [254, 232, 128])), .c (.fn (.func 324) [.dp [.int .i64 3], .dp [.int .i64 3]])] QM := pure_yres (X := tx) (E := exW (Fa ++ Fb)) 50000 wmo (Ag _ (AD FL FM)) rfl (by kernel_rfl) (by kernel_rfl) (by kernel_rfl)
def QN : V := .agg ((ln 2).map .d)
theorem aEb : PureG Tryz.prog GH0 328 [.c (.dp (tbl p2 3 [252, 234, 128])), .c (.fn (.func 324) [.dp [.int .i64 3], .dp [.int .i64 3]])] QN := pure_yres (X := tx) (E := exW (Fa ++ Fb)) 50000 wmo (Ag _ (AD FL FM)) rfl (by kernel_rfl) (by kernel_rfl) (by kernel_rfl)
def Nx : V := .agg ((ln 8946).map .d)
theorem VC : PureG Tryz.prog GH0 328 [.c (.dp (tbl pm 4 [65280, 61680, 52428, 43690])), .c (.fn (.func 329) [.dp [.int .i64 2]])] Nx := pure_yres (X := tx) (E := exW (Fa ++ Fb)) 50000 wmo (Ag _ (AD FL FM)) rfl (by kernel_rfl) (by kernel_rfl) (by kernel_rfl)
def Ny : V := .agg ((ln 9394).map .d)
theorem VD : PureG Tryz.prog GH0 328 [.c (.dp (tbl pm 4 [65484, 64250, 52224, 41120])), .c (.fn (.func 330) [])] Ny := pure_yres (X := tx) (E := exW (Fa ++ Fb)) 50000 wmo (Ag _ (AD FL FM)) rfl (by kernel_rfl) (by kernel_rfl) (by kernel_rfl)
def Ld : List (Nat × List V × List AB × V) := [(328, [.c (.dp (tbl p3 3 [254, 232, 128])), .c (.fn (.func 324) [.dp [.int .i64 3], .dp [.int .i64 3]])], GH0, QM), (328, [.c (.dp (tbl p2 3 [252, 234, 128])), .c (.fn (.func 324) [.dp [.int .i64 3], .dp [.int .i64 3]])], GH0, QN), (328, [.c (.dp (tbl pm 4 [65280, 61680, 52428, 43690])), .c (.fn (.func 329) [.dp [.int .i64 2]])], GH0, Nx), (328, [.c (.dp (tbl pm 4 [65484, 64250, 52224, 41120])), .c (.fn (.func 330) [])], GH0, Ny)]
theorem OO : ∀ e ∈ Ld, PureG Tryz.prog e.2.2.1 e.1 e.2.1 e.2.2.2 := (Aa aEa (Aa aEb (Aa VC (Aa VD Ab))))
end Go.Proofs.YtfgdbeijjbijnaaGreatDoor
