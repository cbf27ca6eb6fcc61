/- PROVED: lampblacklaw09.DyePrices returns true, and what it is given reads afterwards as before. CONDITIONS: those of the given row DyePricesSaid, no others. -/
import Derived.Test.YtkbnmanfoejoiaaD29
import Derived.Test.YtkbnmanfoejoiaaDK0
set_option linter.unusedSimpArgs false
set_option linter.unusedVariables false
set_option maxRecDepth 100000
namespace Go.Proofs.Ytkbnmanfoejoiaa
open Go Go.Abs Go.Proofs
theorem dyePrices_lifted (os : Os) (started : os.Started) (H : Type) (enc : TypeId × Value → H) :
    ReturnsInHanded {} Try.checked os 10 .any (Rows.dyePricesSpec.pre6 enc Try.prog Try.f10 Rows.dyePricesRow.domain false) (Rows.dyePricesSpec.post enc Try.prog Try.f10 false true false false) := by
  refine returnsInHanded_of_change_sized (C := Try.checked) Try.own started (by kernel_rfl) Try.func10
    (ChangeSpec.witness6 (enc := enc) (C := Try.checked) false ⟨#[], #[.slice none 0 0, .agg #[.int .i64 0, .int .i64 0, .int .i64 0, .int .i64 0, .int .i64 0], .int .u8 0, .slice none 0 0], []⟩ 8 (by kernel_rfl) (by kernel_rfl) (by kernel_rfl) (by kernel_rfl)) ?_
  intro W base args ds gs before hval hW hcnd hw _
  refine law_calls (X := tx) (n := 9) (tb := 4) Try.laidOut Try.rowed Try.full (by kernel_rfl) (by kernel_rfl) (by kernel_rfl) rfl (fun ds h => ?_) (by kernel_rfl) hval hW hw (fun xs hx => ?_)
  · rw [Try.params10] at h
    match ds, h with
    | [_, _, _, _], _ => rfl
  · rw [Try.params10] at hx
    obtain ⟨d1, r1, rfl, h1, d2, r2, rfl, h2, d3, r3, rfl, h3, d4, r4, rfl, h4, hx⟩ := hx
    have hx : r4 = [] := hx
    subst hx
    obtain ⟨a1, e1⟩ := arg_shelf h1
    obtain ⟨a2, e2⟩ := arg_want h2
    obtain ⟨a3, e3, q3, p3⟩ := arg_u8 h3
    obtain ⟨a4, e4, q4⟩ := arg_u8s h4
    change Pure _ _ [argV Try.prog 22 d1, argV Try.prog 27 d2, argV Try.prog 5 d3, argV Try.prog 48 d4] _
    rw [e1, e2, e3, e4]
    exact pricesLaw a1 a2 a3 a4 q4 q3 p3

theorem dyePrices_holds : Rows.DyePricesSaid :=
  OpenClaim.holds_of_wide 10 Try.f10 rfl rfl rfl rfl rfl rfl rfl ⟨rfl, rfl, rfl, rfl, rfl⟩ rfl rfl rfl rfl rfl (by kernel_rfl) Try.func10 (by kernel_rfl)
    (of_decide_eq_true (by kernel_rfl)) (by unfold Func.isWrapper; first | (rw [if_pos (by decide +kernel)]; kernel_rfl) | (rw [if_neg (by decide +kernel)]; exact ⟨rfl, rfl⟩))
    (fun os started H enc _ => dyePrices_lifted os started H enc)
end Go.Proofs.Ytkbnmanfoejoiaa
