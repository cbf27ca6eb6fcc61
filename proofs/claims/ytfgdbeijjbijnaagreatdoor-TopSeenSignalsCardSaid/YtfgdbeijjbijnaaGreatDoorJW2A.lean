/- Calls of examples, run by the kernel. -/
import Derived.Test.YtfgdbeijjbijnaaGreatDoorJWD
set_option linter.unusedSimpArgs false
set_option linter.unusedVariables false
set_option linter.unusedVariables false
set_option maxRecDepth 100000
namespace Go.Proofs.YtfgdbeijjbijnaaGreatDoor
open Go Go.Abs Go.Proofs
def Lh : V := .c (.full [[.int .i64 0, .int .i64 1], [.int .i64 1, .int .i64 2], [.int .i64 0, .int .i64 1]])
theorem R8 : PureG Tryz.prog GH0 257 [] Lh := pure_yres (X := tx) (E := exW []) 50000 wmo (Al _ Ae) rfl (by kernel_rfl) (by kernel_rfl) (by kernel_rfl)
def Qf : V := .tup [.c (.full [[.int .i64 9], [.int .i64 5], [.int .i64 3]]), .c (.d (.int .i64 0))]
theorem aDh : PureG Tryz.prog GH0 32 [.c (.d (.sl [r2 0 1, r2 1 2, r2 0 1])), is [3, 9, 5]] Qf := pure_yres (X := tx) (E := exW []) 50000 wmo (Al _ Ae) rfl (by kernel_rfl) (by kernel_rfl) (by kernel_rfl)
def Li : V := .tup [.c (.d (.int .i64 3)), .c (.d (.int .i64 0))]
theorem R9 : PureG Tryz.prog GH0 258 [iv 3, .c (.d (.sl [r2 0 1, r2 1 2, r2 0 1]))] Li := pure_yres (X := tx) (E := exW []) 50000 wmo (Al _ Ae) rfl (by kernel_rfl) (by kernel_rfl) (by kernel_rfl)
def I5 : V := .tup [.c (.full [[.int .i64 1, .int .i64 2], [.int .i64 1, .int .i64 2], [.int .i64 0, .int .i64 0]]), .c (.d (.int .i64 0))]
theorem Qg : PureG Tryz.prog GH0 263 [.c (.d (.sl [r2 10 12, r2 11 15, r2 20 20]))] I5 := pure_yres (X := tx) (E := exW []) 50000 wmo (Al _ Ae) rfl (by kernel_rfl) (by kernel_rfl) (by kernel_rfl)
def Qh : V := .agg [.d (.int .i64 300), .d (.int .i64 50), .d (.int .i64 100), .d (.int .i64 100), .d (.int .i64 100), .d (.int .i64 150), .d (.int .i64 0), .d (.int .i64 1000)]
theorem aDi : PureG Tryz.prog GH0 265 [iv 1000] Qh := pure_yres (X := tx) (E := exW []) 50000 wmo (Al _ Ae) rfl (by kernel_rfl) (by kernel_rfl) (by kernel_rfl)
def I6 : V := .tup [.c (.d (.sl [[.int .i64 0, .int .i64 2], [.int .i64 1, .int .i64 3], [.int .i64 0, .int .i64 1], [.int .i64 2, .int .i64 3], [.int .i64 1, .int .i64 2]])), .c (.d (.int .i64 0))]
theorem Qi : PureG Tryz.prog GH0 31 [iv 4] I6 := pure_yres (X := tx) (E := exW []) 50000 wmo (Al _ Ae) rfl (by kernel_rfl) (by kernel_rfl) (by kernel_rfl)
def I7 : V := .tup [.agg [.d (.int .i64 155), .d (.int .i64 2), .d (.int .i64 400), .d (.int .i64 1)], .c (.d (.int .i64 0))]
theorem Qj : PureG Tryz.prog GH0 264 [barV] I7 := pure_yres (X := tx) (E := exW []) 50000 wmo (Al _ Ae) rfl (by kernel_rfl) (by kernel_rfl) (by kernel_rfl)
def I8 : V := .tup [.c (.full []), .c (.d (.int .i64 5))]
theorem Qk : PureG Tryz.prog GH0 266 [iv 4, .c (.d (.sl [r2 0 2, r2 1 3, r2 0 1, r2 2 3, r2 1 2])), iv 4] I8 := pure_yres (X := tx) (E := exW []) 50000 wmo (Al _ Ae) rfl (by kernel_rfl) (by kernel_rfl) (by kernel_rfl)
def aDj : List (Nat × List V × List AB × V) := [(257, [], GH0, Lh), (32, [.c (.d (.sl [r2 0 1, r2 1 2, r2 0 1])), is [3, 9, 5]], GH0, Qf), (258, [iv 3, .c (.d (.sl [r2 0 1, r2 1 2, r2 0 1]))], GH0, Li), (263, [.c (.d (.sl [r2 10 12, r2 11 15, r2 20 20]))], GH0, I5), (265, [iv 1000], GH0, Qh), (31, [iv 4], GH0, I6), (264, [barV], GH0, I7), (266, [iv 4, .c (.d (.sl [r2 0 2, r2 1 3, r2 0 1, r2 2 3, r2 1 2])), iv 4], GH0, I8)]
theorem aHs : ∀ e ∈ aDj, PureG Tryz.prog e.2.2.1 e.1 e.2.1 e.2.2.2 := (Ab R8 (Ab aDh (Ab R9 (Ab Qg (Ab aDi (Ab Qi (Ab Qj (Ab Qk Ae))))))))
end Go.Proofs.YtfgdbeijjbijnaaGreatDoor
