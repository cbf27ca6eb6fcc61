/- Calls of examples, run by the kernel. -/
import Derived.Test.YtfgdbeijjbijnaaGreatDoorJWD
set_option linter.unusedSimpArgs false
set_option linter.unusedVariables false
set_option linter.unusedVariables false
set_option maxRecDepth 100000
namespace Go.Proofs.YtfgdbeijjbijnaaGreatDoor
open Go Go.Abs Go.Proofs
def Nn : V := .agg [.full [[.int .i64 0], [.int .i64 3], [.int .i64 5]], .full [[.int .i64 10, .int .i64 12], [.int .i64 4, .int .i64 6], [.int .i64 5, .int .i64 9]], .full [[.bool true], [.bool false]], .full [[.int .i64 1], [.int .i64 1], [.int .i64 1], [.int .i64 1], [.int .i64 1], [.int .i64 1]]]
theorem UY : PureG Tryz.prog GH0 271 [] Nn := pure_yres (X := tx) (E := exW []) 50000 wmo (Al _ Ae) rfl (by kernel_rfl) (by kernel_rfl) (by kernel_rfl)
def No : V := .tup [.c (.d (.int .i64 45)), .c (.d (.int .i64 0))]
theorem UZ : PureG Tryz.prog GH0 272 [Dn, is [11, 9, 9, 5, 5, 6]] No := pure_yres (X := tx) (E := exW []) 50000 wmo (Al _ Ae) rfl (by kernel_rfl) (by kernel_rfl) (by kernel_rfl)
def Np : V := .tup [.agg [.d (.int .i64 31), .d (.int .i64 60)], .c (.d (.int .i64 0))]
theorem U0 : PureG Tryz.prog GH0 273 [Dn] Np := pure_yres (X := tx) (E := exW []) 50000 wmo (Al _ Ae) rfl (by kernel_rfl) (by kernel_rfl) (by kernel_rfl)
def QA : V := .tup [.agg [.d (.int .i64 4), .d (.int .i64 12)], .c (.d (.int .i64 0))]
theorem aDz : PureG Tryz.prog GH0 26 [Dn, iv 1] QA := pure_yres (X := tx) (E := exW []) 50000 wmo (Al _ Ae) rfl (by kernel_rfl) (by kernel_rfl) (by kernel_rfl)
def QB : V := .tup [.agg [.d (.int .i64 4), .d (.int .i64 9)], .c (.d (.int .i64 0))]
theorem aDA : PureG Tryz.prog GH0 26 [Dn, iv 4] QB := pure_yres (X := tx) (E := exW []) 50000 wmo (Al _ Ae) rfl (by kernel_rfl) (by kernel_rfl) (by kernel_rfl)
def Nq : V := .tup [.agg [.d (.int .i64 15), .d (.int .i64 60)], .c (.d (.int .i64 0))]
theorem U1 : PureG Tryz.prog GH0 274 [Dn, rgV 500 1000] Nq := pure_yres (X := tx) (E := exW []) 50000 wmo (Al _ Ae) rfl (by kernel_rfl) (by kernel_rfl) (by kernel_rfl)
def QC : V := .c (.d (.int .i64 14))
theorem aDB : PureG Tryz.prog GH0 276 [Dn, iv 0, iv 1] QC := pure_yres (X := tx) (E := exW []) 50000 wmo (Al _ Ae) rfl (by kernel_rfl) (by kernel_rfl) (by kernel_rfl)
def QD : V := .c (.d (.int .i64 0))
theorem aDC : PureG Tryz.prog GH0 276 [Ha, iv 0, iv 1] QD := pure_yres (X := tx) (E := exW []) 50000 wmo (Al _ Ae) rfl (by kernel_rfl) (by kernel_rfl) (by kernel_rfl)
def QE : V := .tup [.c (.full [[.int .i64 12], [.int .i64 12], [.int .i64 12], [.int .i64 6], [.int .i64 9], [.int .i64 9]]), .c (.d (.int .i64 0))]
theorem aDD : PureG Tryz.prog GH0 279 [Dn, bv true] QE := pure_yres (X := tx) (E := exW []) 50000 wmo (Al _ Ae) rfl (by kernel_rfl) (by kernel_rfl) (by kernel_rfl)
def Lk : V := .tup [.c (.d (.int .i64 0)), .c (.d (.int .i64 1)), .c (.d (.int .i64 0))]
theorem Sa : PureG Tryz.prog GH0 280 [Ha] Lk := pure_yres (X := tx) (E := exW []) 50000 wmo (Al _ Ae) rfl (by kernel_rfl) (by kernel_rfl) (by kernel_rfl)
def aDE : List (Nat × List V × List AB × V) := [(271, [], GH0, Nn), (272, [Dn, is [11, 9, 9, 5, 5, 6]], GH0, No), (273, [Dn], GH0, Np), (26, [Dn, iv 1], GH0, QA), (26, [Dn, iv 4], GH0, QB), (274, [Dn, rgV 500 1000], GH0, Nq), (276, [Dn, iv 0, iv 1], GH0, QC), (276, [Ha, iv 0, iv 1], GH0, QD), (279, [Dn, bv true], GH0, QE), (280, [Ha], GH0, Lk)]
theorem aHw : ∀ e ∈ aDE, PureG Tryz.prog e.2.2.1 e.1 e.2.1 e.2.2.2 := (Ab UY (Ab UZ (Ab U0 (Ab aDz (Ab aDA (Ab U1 (Ab aDB (Ab aDC (Ab aDD (Ab Sa Ae))))))))))
end Go.Proofs.YtfgdbeijjbijnaaGreatDoor
