/- PROVED: lampblacklaw09.DyeTurned returns true, and what it is given reads afterwards as before. CONDITIONS: those of the given row DyeTurnedSaid, no others. -/
import Derived.Test.YtkbnmanfoejoiaaD30
import Derived.Test.YtkbnmanfoejoiaaDK0
set_option linter.unusedSimpArgs false
set_option linter.unusedVariables false
set_option maxRecDepth 100000
namespace Go.Proofs.Ytkbnmanfoejoiaa
open Go Go.Abs Go.Proofs
theorem dyeTurned_lifted (os : Os) (started : os.Started) (H : Type) (enc : TypeId × Value → H) :
    ReturnsInHanded {} Try.checked os 9 .any (Rows.dyeTurnedSpec.pre6 enc Try.prog Try.f9 Rows.dyeTurnedRow.domain false) (Rows.dyeTurnedSpec.post enc Try.prog Try.f9 false true false false) := by
  refine returnsInHanded_of_change_sized (C := Try.checked) Try.own started (by kernel_rfl) Try.func9
    (ChangeSpec.witness6 (enc := enc) (C := Try.checked) false ⟨#[], #[.slice none 0 0, .agg #[.int .i64 0, .int .i64 0, .int .i64 0, .int .i64 0, .int .i64 0], .int .u8 0], []⟩ 8 (by kernel_rfl) (by kernel_rfl) (by kernel_rfl) (by kernel_rfl)) ?_
  intro W base args ds gs before hval hW hcnd hw _
  refine law_calls (X := tx) (n := 9) (tb := 4) Try.laidOut Try.rowed Try.full (by kernel_rfl) (by kernel_rfl) (by kernel_rfl) rfl (fun ds h => ?_) (by kernel_rfl) hval hW hw (fun xs hx => ?_)
  · rw [Try.params9] at h
    match ds, h with
    | [_, _, _], _ => rfl
  · rw [Try.params9] at hx
    obtain ⟨d1, r1, rfl, h1, d2, r2, rfl, h2, d3, r3, rfl, h3, hx⟩ := hx
    have hx : r3 = [] := hx
    subst hx
    obtain ⟨a1, e1⟩ := arg_shelf h1
    obtain ⟨a2, e2⟩ := arg_want h2
    obtain ⟨a3, e3, q3, p3⟩ := arg_u8 h3
    change Pure _ _ [argV Try.prog 22 d1, argV Try.prog 27 d2, argV Try.prog 5 d3] _
    rw [e1, e2, e3]
    exact turnedLaw a1 a2 a3 q3 p3

theorem dyeTurned_holds : Rows.DyeTurnedSaid :=
  OpenClaim.holds_of_wide 9 Try.f9 rfl rfl rfl rfl rfl rfl rfl ⟨rfl, rfl, rfl, rfl, rfl⟩ rfl rfl rfl rfl rfl (by kernel_rfl) Try.func9 (by kernel_rfl)
    (of_decide_eq_true (by kernel_rfl)) (by unfold Func.isWrapper; first | (rw [if_pos (by decide +kernel)]; kernel_rfl) | (rw [if_neg (by decide +kernel)]; exact ⟨rfl, rfl⟩))
    (fun os started H enc _ => dyeTurned_lifted os started H enc)
end Go.Proofs.Ytkbnmanfoejoiaa
