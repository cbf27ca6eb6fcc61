/- Calls of examples, run by the kernel. -/
import Derived.Test.YtfgdbeijjbijnaaGreatDoorJWD
set_option linter.unusedSimpArgs false
set_option linter.unusedVariables false
set_option linter.unusedVariables false
set_option maxRecDepth 100000
namespace Go.Proofs.YtfgdbeijjbijnaaGreatDoor
open Go Go.Abs Go.Proofs
def Jp : V := .c (.d (.sl [[.sl [[.int .i64 0]]], [.sl [[.int .i64 1]]], [.sl [[.int .i64 2]]], [.sl [[.int .i64 3]]], [.sl [[.int .i64 4]]], [.sl [[.int .i64 5]]], [.sl [[.int .i64 6]]], [.sl [[.int .i64 7]]]]))
theorem QQ : PureG Tryz.prog GH0 286 [It 0] Jp := pure_yres (X := tx) (E := exW []) 50000 wmo (Al _ Ae) rfl (by kernel_rfl) (by kernel_rfl) (by kernel_rfl)
def Jq : V := .c (.d (.sl [[.sl [[.int .i64 0]]], [.sl [[.int .i64 1]]], [.sl [[.int .i64 2]]], [.sl [[.int .i64 3]]], [.sl [[.int .i64 4]]], [.sl [[.int .i64 5]]], [.sl [[.int .i64 6]]], [.sl [[.int .i64 7]]]]))
theorem QR : PureG Tryz.prog GH0 286 [It 1] Jq := pure_yres (X := tx) (E := exW []) 50000 wmo (Al _ Ae) rfl (by kernel_rfl) (by kernel_rfl) (by kernel_rfl)
def QS : V := .tup [.c (.d (.sl [[.int .i64 4], [.int .i64 5], [.int .i64 6]])), .c (.d (.int .i64 0))]
theorem aDQ : PureG Tryz.prog GH0 178 [It 1, is [5]] QS := pure_yres (X := tx) (E := exW []) 50000 wmo (Al _ Ae) rfl (by kernel_rfl) (by kernel_rfl) (by kernel_rfl)
def QT : V := .tup [.c (.d (.sl [[.int .i64 5]])), .c (.d (.int .i64 0))]
theorem aDR : PureG Tryz.prog GH0 181 [It 0, iv 5] QT := pure_yres (X := tx) (E := exW []) 50000 wmo (Al _ Ae) rfl (by kernel_rfl) (by kernel_rfl) (by kernel_rfl)
def Jr : V := .tup [.c (.d (.int .i64 0)), .c (.d (.int .i64 0)), .c (.d (.int .i64 5))]
theorem QU : PureG Tryz.prog GH0 180 [It 0] Jr := pure_yres (X := tx) (E := exW []) 50000 wmo (Al _ Ae) rfl (by kernel_rfl) (by kernel_rfl) (by kernel_rfl)
def Js : V := .tup [.c (.d (.int .i64 0)), .c (.d (.int .i64 1)), .c (.d (.int .i64 0))]
theorem QV : PureG Tryz.prog GH0 180 [It 1] Js := pure_yres (X := tx) (E := exW []) 50000 wmo (Al _ Ae) rfl (by kernel_rfl) (by kernel_rfl) (by kernel_rfl)
def aDS : List (Nat × List V × List AB × V) := [(286, [It 0], GH0, Jp), (286, [It 1], GH0, Jq), (178, [It 1, is [5]], GH0, QS), (181, [It 0, iv 5], GH0, QT), (180, [It 0], GH0, Jr), (180, [It 1], GH0, Js)]
theorem aHD : ∀ e ∈ aDS, PureG Tryz.prog e.2.2.1 e.1 e.2.1 e.2.2.2 := (Ab QQ (Ab QR (Ab aDQ (Ab aDR (Ab QU (Ab QV Ae))))))
end Go.Proofs.YtfgdbeijjbijnaaGreatDoor
