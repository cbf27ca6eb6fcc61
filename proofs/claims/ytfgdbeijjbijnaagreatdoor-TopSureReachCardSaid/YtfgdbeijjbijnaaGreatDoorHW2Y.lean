/- Calls of examples, run by the kernel. -/
import Derived.Test.YtfgdbeijjbijnaaGreatDoorHWD
set_option linter.unusedSimpArgs false
set_option linter.unusedVariables false
set_option linter.unusedVariables false
set_option maxRecDepth 100000
namespace Go.Proofs.YtfgdbeijjbijnaaGreatDoor
open Go Go.Abs Go.Proofs
def Nl : V := .agg ((ln 8738).map .d)
theorem Vq : PureG Tryz.prog GH0 382 [.c (.dp (tbl pm 4 [65280, 61680, 52428, 43690])), rgV 2 3] Nl := pure_yres (X := tx) (E := exW []) 50000 wmo (Ag _ Ab) rfl (by kernel_rfl) (by kernel_rfl) (by kernel_rfl)
def Nm : V := .agg ((ln 204).map .d)
theorem Vr : PureG Tryz.prog GH0 382 [.c (.dp (tbl pm 4 [65280, 61680, 52428, 43690])), rgV 0 2] Nm := pure_yres (X := tx) (E := exW []) 50000 wmo (Ag _ Ab) rfl (by kernel_rfl) (by kernel_rfl) (by kernel_rfl)
def Nn : V := .agg ((ln 2570).map .d)
theorem Vs : PureG Tryz.prog GH0 382 [.c (.dp (tbl pm 4 [65484, 61680, 52224, 43690])), rgV 1 3] Nn := pure_yres (X := tx) (E := exW []) 50000 wmo (Ag _ Ab) rfl (by kernel_rfl) (by kernel_rfl) (by kernel_rfl)
def No : V := .agg ((ln 50).map .d)
theorem Vt : PureG Tryz.prog GH0 382 [.c (.dp (tbl pm 4 [65484, 64250, 52224, 41120])), rgV 0 1] No := pure_yres (X := tx) (E := exW []) 50000 wmo (Ag _ Ab) rfl (by kernel_rfl) (by kernel_rfl) (by kernel_rfl)
def Np : V := .agg ((ln 0).map .d)
theorem Vu : PureG Tryz.prog GH0 382 [.c (.dp (tbl pm 4 [65484, 64250, 52224, 41120])), rgV 0 2] Np := pure_yres (X := tx) (E := exW []) 50000 wmo (Ag _ Ab) rfl (by kernel_rfl) (by kernel_rfl) (by kernel_rfl)
def Nq : V := .agg ((ln 1024).map .d)
theorem Vv : PureG Tryz.prog GH0 382 [.c (.dp (tbl pm 4 [65484, 64250, 52224, 41120])), rgV 1 2] Nq := pure_yres (X := tx) (E := exW []) 50000 wmo (Ag _ Ab) rfl (by kernel_rfl) (by kernel_rfl) (by kernel_rfl)
def Nr : V := .agg ((ln 32).map .d)
theorem Vw : PureG Tryz.prog GH0 382 [.c (.dp (tbl pm 4 [65484, 64250, 52224, 41120])), rgV 0 3] Nr := pure_yres (X := tx) (E := exW []) 50000 wmo (Ag _ Ab) rfl (by kernel_rfl) (by kernel_rfl) (by kernel_rfl)
def Ns : V := .agg ((ln 0).map .d)
theorem Vx : PureG Tryz.prog GH0 382 [.c (.dp (tbl pm 4 [65484, 64250, 52224, 41120])), rgV 1 3] Ns := pure_yres (X := tx) (E := exW []) 50000 wmo (Ag _ Ab) rfl (by kernel_rfl) (by kernel_rfl) (by kernel_rfl)
def Nt : V := .agg ((ln 8352).map .d)
theorem Vy : PureG Tryz.prog GH0 382 [.c (.dp (tbl pm 4 [65484, 64250, 52224, 41120])), rgV 2 3] Nt := pure_yres (X := tx) (E := exW []) 50000 wmo (Ag _ Ab) rfl (by kernel_rfl) (by kernel_rfl) (by kernel_rfl)
def Nu : V := .agg ((ln 12).map .d)
theorem Vz : PureG Tryz.prog GH0 382 [.c (.dp (tbl pu 3 [240, 204, 170])), rgV 0 1] Nu := pure_yres (X := tx) (E := exW []) 50000 wmo (Ag _ Ab) rfl (by kernel_rfl) (by kernel_rfl) (by kernel_rfl)
def Nv : V := .agg ((ln 0).map .d)
theorem VA : PureG Tryz.prog GH0 382 [.c (.dp (tbl pu 3 [252, 192, 170])), rgV 0 1] Nv := pure_yres (X := tx) (E := exW []) 50000 wmo (Ag _ Ab) rfl (by kernel_rfl) (by kernel_rfl) (by kernel_rfl)
def Nw : V := .agg ((ln 42).map .d)
theorem VB : PureG Tryz.prog GH0 382 [.c (.dp (tbl pu 3 [252, 192, 170])), rgV 1 2] Nw := pure_yres (X := tx) (E := exW []) 50000 wmo (Ag _ Ab) rfl (by kernel_rfl) (by kernel_rfl) (by kernel_rfl)
def Fb : List (Nat × List V × List AB × V) := [(382, [.c (.dp (tbl pm 4 [65280, 61680, 52428, 43690])), rgV 2 3], GH0, Nl), (382, [.c (.dp (tbl pm 4 [65280, 61680, 52428, 43690])), rgV 0 2], GH0, Nm), (382, [.c (.dp (tbl pm 4 [65484, 61680, 52224, 43690])), rgV 1 3], GH0, Nn), (382, [.c (.dp (tbl pm 4 [65484, 64250, 52224, 41120])), rgV 0 1], GH0, No), (382, [.c (.dp (tbl pm 4 [65484, 64250, 52224, 41120])), rgV 0 2], GH0, Np), (382, [.c (.dp (tbl pm 4 [65484, 64250, 52224, 41120])), rgV 1 2], GH0, Nq), (382, [.c (.dp (tbl pm 4 [65484, 64250, 52224, 41120])), rgV 0 3], GH0, Nr), (382, [.c (.dp (tbl pm 4 [65484, 64250, 52224, 41120])), rgV 1 3], GH0, Ns), (382, [.c (.dp (tbl pm 4 [65484, 64250, 52224, 41120])), rgV 2 3], GH0, Nt), (382, [.c (.dp (tbl pu 3 [240, 204, 170])), rgV 0 1], GH0, Nu), (382, [.c (.dp (tbl pu 3 [252, 192, 170])), rgV 0 1], GH0, Nv), (382, [.c (.dp (tbl pu 3 [252, 192, 170])), rgV 1 2], GH0, Nw)]
theorem FM : ∀ e ∈ Fb, PureG Tryz.prog e.2.2.1 e.1 e.2.1 e.2.2.2 := (Aa Vq (Aa Vr (Aa Vs (Aa Vt (Aa Vu (Aa Vv (Aa Vw (Aa Vx (Aa Vy (Aa Vz (Aa VA (Aa VB Ab))))))))))))
end Go.Proofs.YtfgdbeijjbijnaaGreatDoor
