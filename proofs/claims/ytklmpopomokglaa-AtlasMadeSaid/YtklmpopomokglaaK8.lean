/- PROVED: lampblacklaw05.AtlasMade returns true, and what it is given reads afterwards as before. CONDITIONS: those of the given row AtlasMadeSaid, no others. -/
import Derived.Test.YtklmpopomokglaaY17
import Derived.Test.YtklmpopomokglaaK0
set_option linter.unusedSimpArgs false
set_option linter.unusedVariables false
namespace Go.Proofs.Ytklmpopomokglaa
open Go Go.Abs Go.Proofs
theorem atlasMade_lifted (os : Os) (started : os.Started) (H : Type) (enc : TypeId × Value → H) :
    ReturnsInHanded {} Try.checked os 8 .any (Rows.atlasMadeSpec.pre6 enc Try.prog Try.f8 Rows.atlasMadeRow.domain false) (Rows.atlasMadeSpec.post enc Try.prog Try.f8 false true false false) := by
  refine returnsInHanded_of_change_sized (C := Try.checked) Try.own started (by kernel_rfl) Try.func8
    (ChangeSpec.witness6 (enc := enc) (C := Try.checked) false ⟨#[], #[.int .u8 0, .int .u8 0], []⟩ 8 (by kernel_rfl) (by kernel_rfl) (by kernel_rfl) (by kernel_rfl)) ?_
  intro W base args ds gs before hval hW hcnd hw _
  refine law_calls (X := tx) (n := 9) (tb := 4) Try.laidOut Try.rowed Try.full (by kernel_rfl) rfl rfl rfl (fun ds h => ?_) (by kernel_rfl) hval hW hw (fun xs hx => ?_)
  · rw [Try.params8] at h
    match ds, h with
    | [_, _], _ => rfl
  · rw [Try.params8] at hx
    obtain ⟨d1, r1, rfl, h1, d2, r2, rfl, h2, hx⟩ := hx
    have hx : r2 = [] := hx
    subst hx
    obtain ⟨c, ha, h1', h2'⟩ := arg_u8 h1
    obtain ⟨b, hb, h3', h4'⟩ := arg_u8 h2
    change Pure _ _ [argV Try.prog 5 d1, argV Try.prog 5 d2] _
    rw [ha, hb]
    exact madeLaw_pure c b h1' h2' h3' h4'

theorem atlasMade_holds : Rows.AtlasMadeSaid :=
  OpenClaim.holds_of_wide 8 Try.f8 rfl rfl rfl rfl rfl rfl rfl ⟨rfl, rfl, rfl, rfl, rfl⟩ rfl rfl rfl rfl rfl (by kernel_rfl) Try.func8 (by kernel_rfl)
    (of_decide_eq_true (by kernel_rfl)) (by unfold Func.isWrapper; first | (rw [if_pos (by decide +kernel)]; kernel_rfl) | (rw [if_neg (by decide +kernel)]; exact ⟨rfl, rfl⟩))
    (fun os started H enc _ => atlasMade_lifted os started H enc)
end Go.Proofs.Ytklmpopomokglaa
