/- The functions that the executor enters are such as the logic wants them. -/
import Derived.Test.YtfgdbeijjbijnaaGreatDoorJG17
set_option linter.unusedSimpArgs false
set_option linter.unusedVariables false
set_option maxRecDepth 100000
namespace Go.Proofs.YtfgdbeijjbijnaaGreatDoor
open Go Go.Abs Go.Proofs
noncomputable def okP (f : Nat) : Bool := !aBY.testBit f || aEa tx f
theorem okc0 : (List.range' 0 30).all okP = true := by kernel_rfl
theorem aO7 : (List.range' 30 30).all okP = true := by kernel_rfl
theorem aO8 : (List.range' 60 30).all okP = true := by kernel_rfl
theorem aO9 : (List.range' 90 30).all okP = true := by kernel_rfl
theorem aHf : (List.range' 120 30).all okP = true := by kernel_rfl
theorem aHg : (List.range' 150 30).all okP = true := by kernel_rfl
theorem aHh : (List.range' 180 30).all okP = true := by kernel_rfl
theorem aHi : (List.range' 210 30).all okP = true := by kernel_rfl
theorem aHj : (List.range' 240 30).all okP = true := by kernel_rfl
theorem aHk : (List.range' 270 30).all okP = true := by kernel_rfl
theorem aHl : (List.range' 300 30).all okP = true := by kernel_rfl
theorem aHm : (List.range' 330 30).all okP = true := by kernel_rfl
theorem aHn : (List.range' 360 30).all okP = true := by kernel_rfl
theorem aHo : (List.range' 390 30).all okP = true := by kernel_rfl
theorem aHp : (List.range' 420 2).all okP = true := by kernel_rfl
theorem wok : (List.range' 0 422).all okP = true := (okc_app (okc_app (okc_app (okc_app (okc_app (okc_app (okc_app (okc_app (okc_app (okc_app (okc_app (okc_app (okc_app (okc_app okc0 aO7) aO8) aO9) aHf) aHg) aHh) aHi) aHj) aHk) aHl) aHm) aHn) aHo) aHp)
theorem aPa : rows16 fnA = true := by kernel_rfl
theorem aHq : Tryz.prog.funcs.toList = fnA.flatten := by kernel_rfl
theorem wlm : decide (aBY < 2 ^ 422) = true := by kernel_rfl
end Go.Proofs.YtfgdbeijjbijnaaGreatDoor
