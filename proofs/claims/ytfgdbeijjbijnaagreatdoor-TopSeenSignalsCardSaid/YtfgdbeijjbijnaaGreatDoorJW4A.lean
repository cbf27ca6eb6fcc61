/- Calls of examples, run by the kernel. -/
import Derived.Test.YtfgdbeijjbijnaaGreatDoorJWD
set_option linter.unusedSimpArgs false
set_option linter.unusedVariables false
set_option linter.unusedVariables false
set_option maxRecDepth 100000
namespace Go.Proofs.YtfgdbeijjbijnaaGreatDoor
open Go Go.Abs Go.Proofs
def Nr : V := .agg [.full [[.sl [[.int .i64 1, .int .i64 1], [.int .i64 2, .int .i64 2], [.int .i64 0, .int .i64 0], [.int .i64 0, .int .i64 0]]], [.sl [[.int .i64 0, .int .i64 0], [.int .i64 1, .int .i64 1], [.int .i64 1, .int .i64 1], [.int .i64 0, .int .i64 0]]], [.sl [[.int .i64 0, .int .i64 0], [.int .i64 0, .int .i64 0], [.int .i64 2, .int .i64 2], [.int .i64 1, .int .i64 1]]]], .d (.sl [[.int .i64 1, .int .i64 2], [.int .i64 1, .int .i64 1], [.int .i64 1, .int .i64 1], [.int .i64 1, .int .i64 1]])]
theorem U2 : PureG Tryz.prog GH0 176 [] Nr := pure_yres (X := tx) (E := exW []) 50000 wmo (Al _ Ae) rfl (by kernel_rfl) (by kernel_rfl) (by kernel_rfl)
def Ns : V := .agg [.full [[.sl [[.int .i64 1]]], [.sl [[.int .i64 2]]], [.sl [[.int .i64 4]]]], .d (.int .i64 0)]
theorem U3 : PureG Tryz.prog GH0 179 [iv 0] Ns := pure_yres (X := tx) (E := exW []) 50000 wmo (Al _ Ae) rfl (by kernel_rfl) (by kernel_rfl) (by kernel_rfl)
def Nt : V := .agg [.full [[.sl [[.int .i64 1]]], [.sl [[.int .i64 2]]], [.sl [[.int .i64 4]]]], .d (.int .i64 1)]
theorem U4 : PureG Tryz.prog GH0 179 [iv 1] Nt := pure_yres (X := tx) (E := exW []) 50000 wmo (Al _ Ae) rfl (by kernel_rfl) (by kernel_rfl) (by kernel_rfl)
def LP : V := .tup [.c (.full [[.int .i64 6, .int .i64 10], [.int .i64 4, .int .i64 4], [.int .i64 6, .int .i64 6]]), .c (.d (.int .i64 0))]
theorem SF : PureG Tryz.prog GH0 11 [I4, is [4, 1, 3, 0]] LP := pure_yres (X := tx) (E := exW []) 50000 wmo (Al _ Ae) rfl (by kernel_rfl) (by kernel_rfl) (by kernel_rfl)
def LQ : V := .tup [.c (.full [[.int .i64 0, .int .i64 2], [.int .i64 0, .int .i64 0], [.int .i64 0, .int .i64 0]]), .c (.d (.int .i64 0))]
theorem SG : PureG Tryz.prog GH0 177 [I4, is [4, 1, 3, 0], is [2, 2, 2, 2]] LQ := pure_yres (X := tx) (E := exW []) 50000 wmo (Al _ Ae) rfl (by kernel_rfl) (by kernel_rfl) (by kernel_rfl)
def Jo : V := .c (.d (.int .i64 19))
theorem QP : PureG Tryz.prog GH0 17 [I4, is [4, 1, 3, 0], is [2, 2, 2, 2]] Jo := pure_yres (X := tx) (E := exW []) 50000 wmo (Al _ Ae) rfl (by kernel_rfl) (by kernel_rfl) (by kernel_rfl)
def H5 : V := .tup [.agg [.d (.sl [[.sl [[.int .i64 1], [.int .i64 2], [.int .i64 0], [.int .i64 0]]], [.sl [[.int .i64 0], [.int .i64 1], [.int .i64 1], [.int .i64 0]]], [.sl [[.int .i64 0], [.int .i64 0], [.int .i64 2], [.int .i64 1]]]]), .d (.sl [[.int .i64 2], [.int .i64 1], [.int .i64 1], [.int .i64 1]])], .c (.d (.int .i64 0))]
theorem OA : PureG Tryz.prog GH0 18 [I4, is [4, 1, 3, 0], is [2, 2, 2, 2]] H5 := pure_yres (X := tx) (E := exW []) 50000 wmo (Al _ Ae) rfl (by kernel_rfl) (by kernel_rfl) (by kernel_rfl)
def aDP : List (Nat × List V × List AB × V) := [(176, [], GH0, Nr), (179, [iv 0], GH0, Ns), (179, [iv 1], GH0, Nt), (11, [I4, is [4, 1, 3, 0]], GH0, LP), (177, [I4, is [4, 1, 3, 0], is [2, 2, 2, 2]], GH0, LQ), (17, [I4, is [4, 1, 3, 0], is [2, 2, 2, 2]], GH0, Jo), (18, [I4, is [4, 1, 3, 0], is [2, 2, 2, 2]], GH0, H5)]
theorem aHC : ∀ e ∈ aDP, PureG Tryz.prog e.2.2.1 e.1 e.2.1 e.2.2.2 := (Ab U2 (Ab U3 (Ab U4 (Ab SF (Ab SG (Ab QP (Ab OA Ae)))))))
end Go.Proofs.YtfgdbeijjbijnaaGreatDoor
