/- Calls of examples, run by the kernel. -/
import Derived.Test.YtfgdbeijjbijnaaGreatDoorHWD
set_option linter.unusedSimpArgs false
set_option linter.unusedVariables false
set_option linter.unusedVariables false
set_option maxRecDepth 100000
namespace Go.Proofs.YtfgdbeijjbijnaaGreatDoor
open Go Go.Abs Go.Proofs
def ND : V := .agg [.full [[.sl [[.int .i64 1, .int .i64 1], [.int .i64 2, .int .i64 2], [.int .i64 0, .int .i64 0], [.int .i64 0, .int .i64 0]]], [.sl [[.int .i64 0, .int .i64 0], [.int .i64 1, .int .i64 1], [.int .i64 1, .int .i64 1], [.int .i64 0, .int .i64 0]]], [.sl [[.int .i64 0, .int .i64 0], [.int .i64 0, .int .i64 0], [.int .i64 2, .int .i64 2], [.int .i64 1, .int .i64 1]]]], .d (.sl [[.int .i64 1, .int .i64 2], [.int .i64 1, .int .i64 1], [.int .i64 1, .int .i64 1], [.int .i64 1, .int .i64 1]])]
theorem VI : PureG Tryz.prog GH0 176 [] ND := pure_yres (X := tx) (E := exW []) 50000 wmo (Ag _ Ab) rfl (by kernel_rfl) (by kernel_rfl) (by kernel_rfl)
def NE : V := .agg [.full [[.sl [[.int .i64 1]]], [.sl [[.int .i64 2]]], [.sl [[.int .i64 4]]]], .d (.int .i64 0)]
theorem VJ : PureG Tryz.prog GH0 179 [iv 0] NE := pure_yres (X := tx) (E := exW []) 50000 wmo (Ag _ Ab) rfl (by kernel_rfl) (by kernel_rfl) (by kernel_rfl)
def NF : V := .agg [.full [[.sl [[.int .i64 1]]], [.sl [[.int .i64 2]]], [.sl [[.int .i64 4]]]], .d (.int .i64 1)]
theorem VK : PureG Tryz.prog GH0 179 [iv 1] NF := pure_yres (X := tx) (E := exW []) 50000 wmo (Ag _ Ab) rfl (by kernel_rfl) (by kernel_rfl) (by kernel_rfl)
def LK : V := .tup [.c (.full [[.int .i64 6, .int .i64 10], [.int .i64 4, .int .i64 4], [.int .i64 6, .int .i64 6]]), .c (.d (.int .i64 0))]
theorem SZ : PureG Tryz.prog GH0 11 [IR, is [4, 1, 3, 0]] LK := pure_yres (X := tx) (E := exW []) 50000 wmo (Ag _ Ab) rfl (by kernel_rfl) (by kernel_rfl) (by kernel_rfl)
def LL : V := .tup [.c (.full [[.int .i64 0, .int .i64 2], [.int .i64 0, .int .i64 0], [.int .i64 0, .int .i64 0]]), .c (.d (.int .i64 0))]
theorem S0 : PureG Tryz.prog GH0 177 [IR, is [4, 1, 3, 0], is [2, 2, 2, 2]] LL := pure_yres (X := tx) (E := exW []) 50000 wmo (Ag _ Ab) rfl (by kernel_rfl) (by kernel_rfl) (by kernel_rfl)
def Jb : V := .c (.d (.int .i64 19))
theorem Q6 : PureG Tryz.prog GH0 17 [IR, is [4, 1, 3, 0], is [2, 2, 2, 2]] Jb := pure_yres (X := tx) (E := exW []) 50000 wmo (Ag _ Ab) rfl (by kernel_rfl) (by kernel_rfl) (by kernel_rfl)
def HO : V := .tup [.agg [.d (.sl [[.sl [[.int .i64 1], [.int .i64 2], [.int .i64 0], [.int .i64 0]]], [.sl [[.int .i64 0], [.int .i64 1], [.int .i64 1], [.int .i64 0]]], [.sl [[.int .i64 0], [.int .i64 0], [.int .i64 2], [.int .i64 1]]]]), .d (.sl [[.int .i64 2], [.int .i64 1], [.int .i64 1], [.int .i64 1]])], .c (.d (.int .i64 0))]
theorem OP : PureG Tryz.prog GH0 18 [IR, is [4, 1, 3, 0], is [2, 2, 2, 2]] HO := pure_yres (X := tx) (E := exW []) 50000 wmo (Ag _ Ab) rfl (by kernel_rfl) (by kernel_rfl) (by kernel_rfl)
def aEv : List (Nat × List V × List AB × V) := [(176, [], GH0, ND), (179, [iv 0], GH0, NE), (179, [iv 1], GH0, NF), (11, [IR, is [4, 1, 3, 0]], GH0, LK), (177, [IR, is [4, 1, 3, 0], is [2, 2, 2, 2]], GH0, LL), (17, [IR, is [4, 1, 3, 0], is [2, 2, 2, 2]], GH0, Jb), (18, [IR, is [4, 1, 3, 0], is [2, 2, 2, 2]], GH0, HO)]
theorem aIB : ∀ e ∈ aEv, PureG Tryz.prog e.2.2.1 e.1 e.2.1 e.2.2.2 := (Aa VI (Aa VJ (Aa VK (Aa SZ (Aa S0 (Aa Q6 (Aa OP Ab)))))))
end Go.Proofs.YtfgdbeijjbijnaaGreatDoor
