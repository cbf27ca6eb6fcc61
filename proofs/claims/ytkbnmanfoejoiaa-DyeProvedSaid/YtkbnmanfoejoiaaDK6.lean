/- PROVED: lampblacklaw09.DyeProved returns true, and what it is given reads afterwards as before. CONDITIONS: those of the given row DyeProvedSaid, no others. -/
import Derived.Test.YtkbnmanfoejoiaaD31
import Derived.Test.YtkbnmanfoejoiaaDK0
set_option linter.unusedSimpArgs false
set_option linter.unusedVariables false
set_option maxRecDepth 100000
namespace Go.Proofs.Ytkbnmanfoejoiaa
open Go Go.Abs Go.Proofs
theorem dyeProved_lifted (os : Os) (started : os.Started) (H : Type) (enc : TypeId × Value → H) :
    ReturnsInHanded {} Try.checked os 6 .any (Rows.dyeProvedSpec.pre6 enc Try.prog Try.f6 Rows.dyeProvedRow.domain false) (Rows.dyeProvedSpec.post enc Try.prog Try.f6 false true false false) := by
  refine returnsInHanded_of_change_sized (C := Try.checked) Try.own started (by kernel_rfl) Try.func6
    (ChangeSpec.witness6 (enc := enc) (C := Try.checked) false ⟨#[], #[.slice none 0 0, .agg #[.int .i64 0, .int .i64 0, .int .i64 0, .int .i64 0, .int .i64 0], .slice none 0 0, .slice none 0 0], []⟩ 8 (by kernel_rfl) (by kernel_rfl) (by kernel_rfl) (by kernel_rfl)) ?_
  intro W base args ds gs before hval hW hcnd hw _
  refine law_calls (X := tx) (n := 9) (tb := 4) Try.laidOut Try.rowed Try.full (by kernel_rfl) (by kernel_rfl) (by kernel_rfl) rfl (fun ds h => ?_) (by kernel_rfl) hval hW hw (fun xs hx => ?_)
  · rw [Try.params6] at h
    match ds, h with
    | [_, _, _, _], _ => rfl
  · rw [Try.params6] at hx
    obtain ⟨d1, r1, rfl, h1, d2, r2, rfl, h2, d3, r3, rfl, h3, d4, r4, rfl, h4, hx⟩ := hx
    have hx : r4 = [] := hx
    subst hx
    obtain ⟨a1, e1⟩ := arg_shelf h1
    obtain ⟨a2, e2⟩ := arg_want h2
    obtain ⟨a3, e3, q3⟩ := arg_u8s h3
    obtain ⟨a4, e4, q4⟩ := arg_chs h4
    change Pure _ _ [argV Try.prog 22 d1, argV Try.prog 27 d2, argV Try.prog 48 d3, argV Try.prog 49 d4] _
    rw [e1, e2, e3, e4]
    exact provedLaw a1 a2 a3 a4 q3 q4

theorem dyeProved_holds : Rows.DyeProvedSaid :=
  OpenClaim.holds_of_wide 6 Try.f6 rfl rfl rfl rfl rfl rfl rfl ⟨rfl, rfl, rfl, rfl, rfl⟩ rfl rfl rfl rfl rfl (by kernel_rfl) Try.func6 (by kernel_rfl)
    (of_decide_eq_true (by kernel_rfl)) (by unfold Func.isWrapper; first | (rw [if_pos (by decide +kernel)]; kernel_rfl) | (rw [if_neg (by decide +kernel)]; exact ⟨rfl, rfl⟩))
    (fun os started H enc _ => dyeProved_lifted os started H enc)
end Go.Proofs.Ytkbnmanfoejoiaa
