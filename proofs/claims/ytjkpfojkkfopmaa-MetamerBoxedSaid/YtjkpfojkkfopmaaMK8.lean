/- PROVED: lampblacklaw04.MetamerBoxed returns true, and what it is given reads afterwards as before. CONDITIONS: those of the given row MetamerBoxedSaid, no others. -/
import Derived.Test.YtjkpfojkkfopmaaM32
import Derived.Test.YtjkpfojkkfopmaaMK0
set_option linter.unusedSimpArgs false
set_option linter.unusedVariables false
set_option maxRecDepth 100000
namespace Go.Proofs.Ytjkpfojkkfopmaa
open Go Go.Abs Go.Proofs
theorem metamerBoxed_lifted (os : Os) (started : os.Started) (H : Type) (enc : TypeId × Value → H) :
    ReturnsInHanded {} Try.checked os 8 .any (Rows.metamerBoxedSpec.pre6 enc Try.prog Try.f8 Rows.metamerBoxedRow.domain false) (Rows.metamerBoxedSpec.post enc Try.prog Try.f8 false true false false) := by
  refine returnsInHanded_of_change_sized (C := Try.checked) Try.own started (by kernel_rfl) Try.func8
    (ChangeSpec.witness6 (enc := enc) (C := Try.checked) false ⟨#[], #[.agg #[.slice none 0 0, .slice none 0 0], .slice none 0 0, .slice none 0 0, .slice none 0 0, .int .u8 0], []⟩ 8 (by kernel_rfl) (by kernel_rfl) (by kernel_rfl) (by kernel_rfl)) ?_
  intro W base args ds gs before hval hW hcnd hw _
  refine law_calls (X := tx) (n := 9) (tb := 4) Try.laidOut Try.rowed Try.full (by kernel_rfl) (by kernel_rfl) (by kernel_rfl) rfl (fun ds h => ?_) (by kernel_rfl) hval hW hw (fun xs hx => ?_)
  · rw [Try.params8] at h
    match ds, h with
    | [_, _, _, _, _], _ => rfl
  · rw [Try.params8] at hx
    obtain ⟨d1, r1, rfl, h1, d2, r2, rfl, h2, d3, r3, rfl, h3, d4, r4, rfl, h4, d5, r5, rfl, h5, hx⟩ := hx
    have hx : r5 = [] := hx
    subst hx
    obtain ⟨a1, e1⟩ := arg_case h1
    obtain ⟨a2, e2⟩ := arg_longs h2
    obtain ⟨a3, e3⟩ := arg_longs h3
    obtain ⟨a4, e4, q4⟩ := arg_u16s h4
    obtain ⟨a5, e5, q5, p5⟩ := arg_u8 h5
    change Pure _ _ [argV Try.prog 25 d1, argV Try.prog 27 d2, argV Try.prog 27 d3, argV Try.prog 62 d4, argV Try.prog 5 d5] _
    rw [e1, e2, e3, e4, e5]
    exact boxedLaw2 a1 a2 a3 a4 a5 q4 q5 p5

theorem metamerBoxed_holds : Rows.MetamerBoxedSaid :=
  OpenClaim.holds_of_wide 8 Try.f8 rfl rfl rfl rfl rfl rfl rfl ⟨rfl, rfl, rfl, rfl, rfl⟩ rfl rfl rfl rfl rfl (by kernel_rfl) Try.func8 (by kernel_rfl)
    (of_decide_eq_true (by kernel_rfl)) (by unfold Func.isWrapper; first | (rw [if_pos (by decide +kernel)]; kernel_rfl) | (rw [if_neg (by decide +kernel)]; exact ⟨rfl, rfl⟩))
    (fun os started H enc _ => metamerBoxed_lifted os started H enc)
end Go.Proofs.Ytjkpfojkkfopmaa
