/- Calls of examples, run by the kernel. -/
import Derived.Test.YtfgdbeijjbijnaaGreatDoorJWD
set_option linter.unusedSimpArgs false
set_option linter.unusedVariables false
set_option linter.unusedVariables false
set_option maxRecDepth 100000
namespace Go.Proofs.YtfgdbeijjbijnaaGreatDoor
open Go Go.Abs Go.Proofs
def LX : V := .tup [.agg [.d (.int .i64 0), .d (.int .i64 0), .d (.int .i64 0)], .c (.d (.int .i64 21))]
theorem SN : PureG Tryz.prog GH0 16 [CA, JL 3 2] LX := pure_yres (X := tx) (E := exW []) 50000 wmo (Al _ Ae) rfl (by kernel_rfl) (by kernel_rfl) (by kernel_rfl)
def LY : V := .tup [.agg [.d (.int .i64 4), .d (.int .i64 4), .d (.int .i64 20)], .c (.d (.int .i64 0))]
theorem SO : PureG Tryz.prog GH0 16 [CA, JL 4 2] LY := pure_yres (X := tx) (E := exW []) 50000 wmo (Al _ Ae) rfl (by kernel_rfl) (by kernel_rfl) (by kernel_rfl)
def Nv : V := .tup [.agg [.d (.int .i64 3), .d (.int .i64 2), .d (.int .i64 1)], .c (.d (.int .i64 0))]
theorem U6 : PureG Tryz.prog GH0 114 [CA, JL 3 2] Nv := pure_yres (X := tx) (E := exW []) 50000 wmo (Al _ Ae) rfl (by kernel_rfl) (by kernel_rfl) (by kernel_rfl)
def Q1 : V := .tup [.agg [.d (.int .i64 1), .d (.int .i64 2)], .c (.d (.int .i64 0))]
theorem aDY : PureG Tryz.prog GH0 115 [CA, JL 4 2] Q1 := pure_yres (X := tx) (E := exW []) 50000 wmo (Al _ Ae) rfl (by kernel_rfl) (by kernel_rfl) (by kernel_rfl)
def aDZ : List (Nat × List V × List AB × V) := [(16, [CA, JL 3 2], GH0, LX), (16, [CA, JL 4 2], GH0, LY), (114, [CA, JL 3 2], GH0, Nv), (115, [CA, JL 4 2], GH0, Q1)]
theorem aHG : ∀ e ∈ aDZ, PureG Tryz.prog e.2.2.1 e.1 e.2.1 e.2.2.2 := (Ab SN (Ab SO (Ab U6 (Ab aDY Ae))))
end Go.Proofs.YtfgdbeijjbijnaaGreatDoor
