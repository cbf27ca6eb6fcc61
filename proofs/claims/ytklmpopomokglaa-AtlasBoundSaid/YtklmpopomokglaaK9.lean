/- PROVED: lampblacklaw05.AtlasBound returns true, and what it is given reads afterwards as before. CONDITIONS: those of the given row AtlasBoundSaid, no others. -/
import Derived.Test.YtklmpopomokglaaY14
import Derived.Test.YtklmpopomokglaaK0
set_option linter.unusedSimpArgs false
set_option linter.unusedVariables false
namespace Go.Proofs.Ytklmpopomokglaa
open Go Go.Abs Go.Proofs
theorem atlasBound_lifted (os : Os) (started : os.Started) (H : Type) (enc : TypeId × Value → H) :
    ReturnsInHanded {} Try.checked os 9 .any (Rows.atlasBoundSpec.pre6 enc Try.prog Try.f9 Rows.atlasBoundRow.domain false) (Rows.atlasBoundSpec.post enc Try.prog Try.f9 false true false false) := by
  refine returnsInHanded_of_change_sized (C := Try.checked) Try.own started (by kernel_rfl) Try.func9
    (ChangeSpec.witness6 (enc := enc) (C := Try.checked) false ⟨#[], #[.agg #[.int .i64 0, .slice none 0 0]], []⟩ 8 (by kernel_rfl) (by kernel_rfl) (by kernel_rfl) (by kernel_rfl)) ?_
  intro W base args ds gs before hval hW hcnd hw _
  refine law_calls (X := tx) (n := 9) (tb := 4) Try.laidOut Try.rowed Try.full (by kernel_rfl) rfl rfl rfl (fun ds h => ?_) (by kernel_rfl) hval hW hw (fun xs hx => ?_)
  · rw [Try.params9] at h
    match ds, h with
    | [_], _ => rfl
  · rw [Try.params9] at hx
    obtain ⟨d1, r1, rfl, h1, hx⟩ := hx
    have hx : r1 = [] := hx
    subst hx
    obtain ⟨n, rows, ha⟩ := arg_plan h1
    change Pure _ _ [argV Try.prog 24 d1] _
    rw [ha]
    exact boundLaw_pure n rows

theorem atlasBound_holds : Rows.AtlasBoundSaid :=
  OpenClaim.holds_of_wide 9 Try.f9 rfl rfl rfl rfl rfl rfl rfl ⟨rfl, rfl, rfl, rfl, rfl⟩ rfl rfl rfl rfl rfl (by kernel_rfl) Try.func9 (by kernel_rfl)
    (of_decide_eq_true (by kernel_rfl)) (by unfold Func.isWrapper; first | (rw [if_pos (by decide +kernel)]; kernel_rfl) | (rw [if_neg (by decide +kernel)]; exact ⟨rfl, rfl⟩))
    (fun os started H enc _ => atlasBound_lifted os started H enc)
end Go.Proofs.Ytklmpopomokglaa
