/- PROVED: lampblacklaw05.AtlasMore returns true, and what it is given reads afterwards as before. CONDITIONS: those of the given row AtlasMoreSaid, no others. -/
import Derived.Test.YtklmpopomokglaaY12
import Derived.Test.YtklmpopomokglaaK0
set_option linter.unusedSimpArgs false
set_option linter.unusedVariables false
namespace Go.Proofs.Ytklmpopomokglaa
open Go Go.Abs Go.Proofs
theorem atlasMore_lifted (os : Os) (started : os.Started) (H : Type) (enc : TypeId × Value → H) :
    ReturnsInHanded {} Try.checked os 12 .any (Rows.atlasMoreSpec.pre6 enc Try.prog Try.f12 Rows.atlasMoreRow.domain false) (Rows.atlasMoreSpec.post enc Try.prog Try.f12 false true false false) := by
  refine returnsInHanded_of_change_sized (C := Try.checked) Try.own started (by kernel_rfl) Try.func12
    (ChangeSpec.witness6 (enc := enc) (C := Try.checked) false ⟨#[], #[.agg #[.int .i64 0, .slice none 0 0], .slice none 0 0, .int .u8 0], []⟩ 8 (by kernel_rfl) (by kernel_rfl) (by kernel_rfl) (by kernel_rfl)) ?_
  intro W base args ds gs before hval hW hcnd hw _
  refine law_calls (X := tx) (n := 9) (tb := 4) Try.laidOut Try.rowed Try.full (by kernel_rfl) rfl rfl rfl (fun ds h => ?_) (by kernel_rfl) hval hW hw (fun xs hx => ?_)
  · rw [Try.params12] at h
    match ds, h with
    | [_, _, _], _ => rfl
  · rw [Try.params12] at hx
    obtain ⟨d1, r1, rfl, h1, d2, r2, rfl, h2, d3, r3, rfl, h3, hx⟩ := hx
    have hx : r3 = [] := hx
    subst hx
    obtain ⟨n, rows, ha, hw⟩ := arg_plan' h1
    obtain ⟨row, hb⟩ := arg_ints h2
    obtain ⟨k, hc, h2', h3'⟩ := arg_u8 h3
    change Pure _ _ [argV Try.prog 24 d1, argV Try.prog 29 d2, argV Try.prog 5 d3] _
    rw [ha, hb, hc]
    exact moreLaw_pure n rows row k h2' h3' hw

theorem atlasMore_holds : Rows.AtlasMoreSaid :=
  OpenClaim.holds_of_wide 12 Try.f12 rfl rfl rfl rfl rfl rfl rfl ⟨rfl, rfl, rfl, rfl, rfl⟩ rfl rfl rfl rfl rfl (by kernel_rfl) Try.func12 (by kernel_rfl)
    (of_decide_eq_true (by kernel_rfl)) (by unfold Func.isWrapper; first | (rw [if_pos (by decide +kernel)]; kernel_rfl) | (rw [if_neg (by decide +kernel)]; exact ⟨rfl, rfl⟩))
    (fun os started H enc _ => atlasMore_lifted os started H enc)
end Go.Proofs.Ytklmpopomokglaa
