/- PROVED: lampblacklaw03.ZoneTurned returns true, and what it is given reads afterwards as before. CONDITIONS: those of the given row ZoneTurnedSaid, no others. -/
import Derived.Test.YtliamojogmlgjaaZ36
import Derived.Test.YtliamojogmlgjaaZK0
set_option linter.unusedSimpArgs false
set_option linter.unusedVariables false
set_option maxRecDepth 100000
namespace Go.Proofs.Ytliamojogmlgjaa
open Go Go.Abs Go.Proofs
theorem zoneTurned_lifted (os : Os) (started : os.Started) (H : Type) (enc : TypeId × Value → H) :
    ReturnsInHanded {} Try.checked os 10 .any (Rows.zoneTurnedSpec.pre6 enc Try.prog Try.f10 Rows.zoneTurnedRow.domain false) (Rows.zoneTurnedSpec.post enc Try.prog Try.f10 false true false false) := by
  refine returnsInHanded_of_change_sized (C := Try.checked) Try.own started (by kernel_rfl) Try.func10
    (ChangeSpec.witness6 (enc := enc) (C := Try.checked) false ⟨#[], #[.agg #[.slice none 0 0, .slice none 0 0, .slice none 0 0, .slice none 0 0], .int .u8 0], []⟩ 8 (by kernel_rfl) (by kernel_rfl) (by kernel_rfl) (by kernel_rfl)) ?_
  intro W base args ds gs before hval hW hcnd hw _
  refine law_calls (X := tx) (n := 9) (tb := 4) Try.laidOut Try.rowed Try.full (by kernel_rfl) (by kernel_rfl) (by kernel_rfl) rfl (fun ds h => ?_) (by kernel_rfl) hval hW hw (fun xs hx => ?_)
  · rw [Try.params10] at h
    match ds, h with
    | [_, _], _ => rfl
  · rw [Try.params10] at hx
    obtain ⟨d1, r1, rfl, h1, d2, r2, rfl, h2, hx⟩ := hx
    have hx : r2 = [] := hx
    subst hx
    obtain ⟨a1, e1⟩ := arg_lamp h1
    obtain ⟨a2, e2, q2, p2⟩ := arg_u8 h2
    change Pure _ _ [argV Try.prog 26 d1, argV Try.prog 5 d2] _
    rw [e1, e2]
    exact turnedLaw a1 a2 ⟨q2, p2⟩

theorem zoneTurned_holds : Rows.ZoneTurnedSaid :=
  OpenClaim.holds_of_wide 10 Try.f10 rfl rfl rfl rfl rfl rfl rfl ⟨rfl, rfl, rfl, rfl, rfl⟩ rfl rfl rfl rfl rfl (by kernel_rfl) Try.func10 (by kernel_rfl)
    (of_decide_eq_true (by kernel_rfl)) (by unfold Func.isWrapper; first | (rw [if_pos (by decide +kernel)]; kernel_rfl) | (rw [if_neg (by decide +kernel)]; exact ⟨rfl, rfl⟩))
    (fun os started H enc _ => zoneTurned_lifted os started H enc)
end Go.Proofs.Ytliamojogmlgjaa
