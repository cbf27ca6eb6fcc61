/- Calls of examples, run by the kernel. -/
import Derived.Test.YtfgdbeijjbijnaaGreatDoorHWD
set_option linter.unusedSimpArgs false
set_option linter.unusedVariables false
set_option linter.unusedVariables false
set_option maxRecDepth 100000
namespace Go.Proofs.YtfgdbeijjbijnaaGreatDoor
open Go Go.Abs Go.Proofs
def Jc : V := .c (.d (.sl [[.sl [[.int .i64 0]]], [.sl [[.int .i64 1]]], [.sl [[.int .i64 2]]], [.sl [[.int .i64 3]]], [.sl [[.int .i64 4]]], [.sl [[.int .i64 5]]], [.sl [[.int .i64 6]]], [.sl [[.int .i64 7]]]]))
theorem Q7 : PureG Tryz.prog GH0 286 [Jx 0] Jc := pure_yres (X := tx) (E := exW []) 50000 wmo (Ag _ Ab) rfl (by kernel_rfl) (by kernel_rfl) (by kernel_rfl)
def Jd : V := .c (.d (.sl [[.sl [[.int .i64 0]]], [.sl [[.int .i64 1]]], [.sl [[.int .i64 2]]], [.sl [[.int .i64 3]]], [.sl [[.int .i64 4]]], [.sl [[.int .i64 5]]], [.sl [[.int .i64 6]]], [.sl [[.int .i64 7]]]]))
theorem Q8 : PureG Tryz.prog GH0 286 [Jx 1] Jd := pure_yres (X := tx) (E := exW []) 50000 wmo (Ag _ Ab) rfl (by kernel_rfl) (by kernel_rfl) (by kernel_rfl)
def Q9 : V := .tup [.c (.d (.sl [[.int .i64 4], [.int .i64 5], [.int .i64 6]])), .c (.d (.int .i64 0))]
theorem aEw : PureG Tryz.prog GH0 178 [Jx 1, is [5]] Q9 := pure_yres (X := tx) (E := exW []) 50000 wmo (Ag _ Ab) rfl (by kernel_rfl) (by kernel_rfl) (by kernel_rfl)
def Ra : V := .tup [.c (.d (.sl [[.int .i64 5]])), .c (.d (.int .i64 0))]
theorem aEx : PureG Tryz.prog GH0 181 [Jx 0, iv 5] Ra := pure_yres (X := tx) (E := exW []) 50000 wmo (Ag _ Ab) rfl (by kernel_rfl) (by kernel_rfl) (by kernel_rfl)
def Je : V := .tup [.c (.d (.int .i64 0)), .c (.d (.int .i64 0)), .c (.d (.int .i64 5))]
theorem Rb : PureG Tryz.prog GH0 180 [Jx 0] Je := pure_yres (X := tx) (E := exW []) 50000 wmo (Ag _ Ab) rfl (by kernel_rfl) (by kernel_rfl) (by kernel_rfl)
def Jf : V := .tup [.c (.d (.int .i64 0)), .c (.d (.int .i64 1)), .c (.d (.int .i64 0))]
theorem Rc : PureG Tryz.prog GH0 180 [Jx 1] Jf := pure_yres (X := tx) (E := exW []) 50000 wmo (Ag _ Ab) rfl (by kernel_rfl) (by kernel_rfl) (by kernel_rfl)
def aEy : List (Nat × List V × List AB × V) := [(286, [Jx 0], GH0, Jc), (286, [Jx 1], GH0, Jd), (178, [Jx 1, is [5]], GH0, Q9), (181, [Jx 0, iv 5], GH0, Ra), (180, [Jx 0], GH0, Je), (180, [Jx 1], GH0, Jf)]
theorem aIC : ∀ e ∈ aEy, PureG Tryz.prog e.2.2.1 e.1 e.2.1 e.2.2.2 := (Aa Q7 (Aa Q8 (Aa aEw (Aa aEx (Aa Rb (Aa Rc Ab))))))
end Go.Proofs.YtfgdbeijjbijnaaGreatDoor
