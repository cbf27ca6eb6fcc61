/- The functions that the executor enters are such as the logic wants them. -/
import Derived.Test.YtfgdbeijjbijnaaGreatDoorG21
set_option linter.unusedSimpArgs false
set_option linter.unusedVariables false
set_option maxRecDepth 100000
namespace Go.Proofs.YtfgdbeijjbijnaaGreatDoor
open Go Go.Abs Go.Proofs
noncomputable def okP (f : Nat) : Bool := !lmAll.testBit f || okFn tx f
theorem okc0 : (List.range' 0 30).all okP = true := by kernel_rfl
theorem okc30 : (List.range' 30 30).all okP = true := by kernel_rfl
theorem okc60 : (List.range' 60 30).all okP = true := by kernel_rfl
theorem okc90 : (List.range' 90 30).all okP = true := by kernel_rfl
theorem okc120 : (List.range' 120 30).all okP = true := by kernel_rfl
theorem okc150 : (List.range' 150 30).all okP = true := by kernel_rfl
theorem okc180 : (List.range' 180 30).all okP = true := by kernel_rfl
theorem okc210 : (List.range' 210 30).all okP = true := by kernel_rfl
theorem okc240 : (List.range' 240 30).all okP = true := by kernel_rfl
theorem okc270 : (List.range' 270 30).all okP = true := by kernel_rfl
theorem okc300 : (List.range' 300 30).all okP = true := by kernel_rfl
theorem okc330 : (List.range' 330 30).all okP = true := by kernel_rfl
theorem okc360 : (List.range' 360 30).all okP = true := by kernel_rfl
theorem okc390 : (List.range' 390 30).all okP = true := by kernel_rfl
theorem okc420 : (List.range' 420 2).all okP = true := by kernel_rfl
theorem wok : (List.range' 0 422).all okP = true := (okc_app (okc_app (okc_app (okc_app (okc_app (okc_app (okc_app (okc_app (okc_app (okc_app (okc_app (okc_app (okc_app (okc_app okc0 okc30) okc60) okc90) okc120) okc150) okc180) okc210) okc240) okc270) okc300) okc330) okc360) okc390) okc420)
theorem wrows : rows16 fnA = true := by kernel_rfl
theorem wfuncs : Tryz.prog.funcs.toList = fnA.flatten := by kernel_rfl
theorem wlm : decide (lmAll < 2 ^ 422) = true := by kernel_rfl
end Go.Proofs.YtfgdbeijjbijnaaGreatDoor

