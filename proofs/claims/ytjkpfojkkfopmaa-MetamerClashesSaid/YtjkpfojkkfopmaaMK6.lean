/- PROVED: lampblacklaw04.MetamerClashes returns true, and what it is given reads afterwards as before. CONDITIONS: those of the given row MetamerClashesSaid, no others. -/
import Derived.Test.YtjkpfojkkfopmaaM20
import Derived.Test.YtjkpfojkkfopmaaMK0
set_option linter.unusedSimpArgs false
set_option linter.unusedVariables false
set_option maxRecDepth 100000
namespace Go.Proofs.Ytjkpfojkkfopmaa
open Go Go.Abs Go.Proofs
theorem metamerClashes_lifted (os : Os) (started : os.Started) (H : Type) (enc : TypeId × Value → H) :
    ReturnsInHanded {} Try.checked os 6 .any (Rows.metamerClashesSpec.pre6 enc Try.prog Try.f6 Rows.metamerClashesRow.domain false) (Rows.metamerClashesSpec.post enc Try.prog Try.f6 false true false false) := by
  refine returnsInHanded_of_change_sized (C := Try.checked) Try.own started (by kernel_rfl) Try.func6
    (ChangeSpec.witness6 (enc := enc) (C := Try.checked) false ⟨#[], #[.agg #[.slice none 0 0, .int .i64 0]], []⟩ 8 (by kernel_rfl) (by kernel_rfl) (by kernel_rfl) (by kernel_rfl)) ?_
  intro W base args ds gs before hval hW hcnd hw _
  refine law_calls (X := tx) (n := 9) (tb := 4) Try.laidOut Try.rowed Try.full (by kernel_rfl) (by kernel_rfl) (by kernel_rfl) rfl (fun ds h => ?_) (by kernel_rfl) hval hW hw (fun xs hx => ?_)
  · rw [Try.params6] at h
    match ds, h with
    | [_], _ => rfl
  · rw [Try.params6] at hx
    obtain ⟨d1, r1, rfl, h1, hx⟩ := hx
    have hx : r1 = [] := hx
    subst hx
    obtain ⟨a1, e1⟩ := arg_pal h1
    change Pure _ _ [argV Try.prog 50 d1] _
    rw [e1]
    exact clashesLaw a1

theorem metamerClashes_holds : Rows.MetamerClashesSaid :=
  OpenClaim.holds_of_wide 6 Try.f6 rfl rfl rfl rfl rfl rfl rfl ⟨rfl, rfl, rfl, rfl, rfl⟩ rfl rfl rfl rfl rfl (by kernel_rfl) Try.func6 (by kernel_rfl)
    (of_decide_eq_true (by kernel_rfl)) (by unfold Func.isWrapper; first | (rw [if_pos (by decide +kernel)]; kernel_rfl) | (rw [if_neg (by decide +kernel)]; exact ⟨rfl, rfl⟩))
    (fun os started H enc _ => metamerClashes_lifted os started H enc)
end Go.Proofs.Ytjkpfojkkfopmaa
