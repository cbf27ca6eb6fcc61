/- PROVED: lampblacklaw03.ZoneKnown returns true, and what it is given reads afterwards as before. CONDITIONS: those of the given row ZoneKnownSaid, no others. -/
import Derived.Test.YtliamojogmlgjaaZ27
import Derived.Test.YtliamojogmlgjaaZK0
set_option linter.unusedSimpArgs false
set_option linter.unusedVariables false
set_option maxRecDepth 100000
namespace Go.Proofs.Ytliamojogmlgjaa
open Go Go.Abs Go.Proofs
theorem zoneKnown_lifted (os : Os) (started : os.Started) (H : Type) (enc : TypeId × Value → H) :
    ReturnsInHanded {} Try.checked os 14 .any (Rows.zoneKnownSpec.pre6 enc Try.prog Try.f14 Rows.zoneKnownRow.domain false) (Rows.zoneKnownSpec.post enc Try.prog Try.f14 false true false false) := by
  refine returnsInHanded_of_change_sized (C := Try.checked) Try.own started (by kernel_rfl) Try.func14
    (ChangeSpec.witness6 (enc := enc) (C := Try.checked) false ⟨#[], #[], []⟩ 8 (by kernel_rfl) (by kernel_rfl) (by kernel_rfl) (by kernel_rfl)) ?_
  intro W base args ds gs before hval hW hcnd hw _
  refine law_calls (X := tx) (n := 9) (tb := 4) Try.laidOut Try.rowed Try.full (by kernel_rfl) (by kernel_rfl) (by kernel_rfl) rfl (fun ds h => ?_) (by kernel_rfl) hval hW hw (fun xs hx => ?_)
  · rw [Try.params14] at h
    match ds, h with
    | [], _ => rfl
  · rw [Try.params14] at hx
    have hx : xs = [] := hx
    subst hx
    change Pure _ _ [] _
    exact knownLaw

theorem zoneKnown_holds : Rows.ZoneKnownSaid :=
  OpenClaim.holds_of_wide 14 Try.f14 rfl rfl rfl rfl rfl rfl rfl ⟨rfl, rfl, rfl, rfl, rfl⟩ rfl rfl rfl rfl rfl (by kernel_rfl) Try.func14 (by kernel_rfl)
    (of_decide_eq_true (by kernel_rfl)) (by unfold Func.isWrapper; first | (rw [if_pos (by decide +kernel)]; kernel_rfl) | (rw [if_neg (by decide +kernel)]; exact ⟨rfl, rfl⟩))
    (fun os started H enc _ => zoneKnown_lifted os started H enc)
end Go.Proofs.Ytliamojogmlgjaa
