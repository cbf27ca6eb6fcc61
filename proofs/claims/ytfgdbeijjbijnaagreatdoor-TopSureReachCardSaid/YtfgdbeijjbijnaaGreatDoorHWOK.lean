/- The functions that the executor enters are such as the logic wants them. -/
import Derived.Test.YtfgdbeijjbijnaaGreatDoorHG20
set_option linter.unusedSimpArgs false
set_option linter.unusedVariables false
set_option maxRecDepth 100000
namespace Go.Proofs.YtfgdbeijjbijnaaGreatDoor
open Go Go.Abs Go.Proofs
noncomputable def okP (f : Nat) : Bool := !aC7.testBit f || aEZ tx f
theorem okc0 : (List.range' 0 30).all okP = true := by kernel_rfl
theorem aP7 : (List.range' 30 30).all okP = true := by kernel_rfl
theorem aP8 : (List.range' 60 30).all okP = true := by kernel_rfl
theorem aP9 : (List.range' 90 30).all okP = true := by kernel_rfl
theorem aIe : (List.range' 120 30).all okP = true := by kernel_rfl
theorem aIf : (List.range' 150 30).all okP = true := by kernel_rfl
theorem aIg : (List.range' 180 30).all okP = true := by kernel_rfl
theorem aIh : (List.range' 210 30).all okP = true := by kernel_rfl
theorem aIi : (List.range' 240 30).all okP = true := by kernel_rfl
theorem aIj : (List.range' 270 30).all okP = true := by kernel_rfl
theorem aIk : (List.range' 300 30).all okP = true := by kernel_rfl
theorem aIl : (List.range' 330 30).all okP = true := by kernel_rfl
theorem aIm : (List.range' 360 30).all okP = true := by kernel_rfl
theorem aIn : (List.range' 390 30).all okP = true := by kernel_rfl
theorem aIo : (List.range' 420 2).all okP = true := by kernel_rfl
theorem wok : (List.range' 0 422).all okP = true := (okc_app (okc_app (okc_app (okc_app (okc_app (okc_app (okc_app (okc_app (okc_app (okc_app (okc_app (okc_app (okc_app (okc_app okc0 aP7) aP8) aP9) aIe) aIf) aIg) aIh) aIi) aIj) aIk) aIl) aIm) aIn) aIo)
theorem aQa : rows16 fnA = true := by kernel_rfl
theorem aIp : Tryz.prog.funcs.toList = fnA.flatten := by kernel_rfl
theorem wlm : decide (aC7 < 2 ^ 422) = true := by kernel_rfl
end Go.Proofs.YtfgdbeijjbijnaaGreatDoor
