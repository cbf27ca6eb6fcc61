/- PROVED: lampblacklaw07.StreetEither returns true, and what it is given reads afterwards as before. CONDITIONS: those of the given card StreetEitherCardSaid, no others. -/
import Derived.Test.YteamgbndnfjoaaaDoorKS0
import Derived.Test.YteamgbndnfjoaaaDoorS21
set_option linter.unusedSimpArgs false
set_option linter.unusedVariables false
set_option maxRecDepth 100000
namespace Go.Proofs.YteamgbndnfjoaaaDoor
open Go Go.Abs Go.Proofs
theorem streetEither_met (os : Os) : laidMet Tryd.prog Rows.streetEitherRow.laid ((laidWorld os).forCall (fun _ _ => 0) ⟨#[], #[.agg #[.int .i64 0, .int .i64 0, .int .i64 0, .slice none 0 0], .int .u32 0, .agg #[.int .u8 0, .int .u8 0], .int .u8 0], []⟩).memory :=
  laidMet_of_run' 8 (by kernel_rfl) (by kernel_rfl)
theorem streetEither_reads (os : Os) {H : Type} (enc : TypeId × Value → H) : ∃ x, DataW.whole enc Tryd.prog ((laidWorld os).forCall (fun _ _ => 0) ⟨#[], #[.agg #[.int .i64 0, .int .i64 0, .int .i64 0, .slice none 0 0], .int .u32 0, .agg #[.int .u8 0, .int .u8 0], .int .u8 0], []⟩).memory Tryd.f8.params.toList Rows.streetEitherSpec.vars false (#[.agg #[.int .i64 0, .int .i64 0, .int .i64 0, .slice none 0 0], .int .u32 0, .agg #[.int .u8 0, .int .u8 0], .int .u8 0] : Array Value).toList 8 = some x :=
  Option.isSome_iff_exists.1 (by kernel_rfl)
theorem streetEither_lifted (os : Os) (started : os.Started) (H : Type) (enc : TypeId × Value → H) (F : Stop.Interp) :
    ReturnsInHanded {} Tryd.checked os 8 .any ((OpenSpec.ofChange Rows.streetEitherSpec).preRow enc Tryd.prog Tryd.f8 Rows.streetEitherRow.domain false Rows.streetEitherRow.laid) (((OpenSpec.ofChange Rows.streetEitherSpec).at F).post enc Tryd.prog Tryd.f8 false true false false) := by
  obtain ⟨x, hx⟩ := streetEither_reads os enc
  refine returnsInHanded_of_row (C := Tryd.checked) (s := OpenSpec.ofChange Rows.streetEitherSpec) Tryd.own started (by kernel_rfl) Tryd.func8
    (witness_row_at (enc := enc) (C := Tryd.checked) false (laidWorld os) #[.agg #[.int .i64 0, .int .i64 0, .int .i64 0, .slice none 0 0], .int .u32 0, .agg #[.int .u8 0, .int .u8 0], .int .u8 0] rfl (by kernel_rfl) (by kernel_rfl) (by kernel_rfl)
      (OpenSpec.preRow_of_cond 8 hx rfl (fun k hk => by cases hk) (by kernel_rfl) (streetEither_met os))) ?_
  intro W base args ds gs before hval hW _ _ hw hL _ _
  refine law_calls_at (X := tx) (n := 9) (tb := 4) (H0 := GH) (s := Rows.streetEitherSpec) Tryd.laidOut Tryd.rowed Tryd.full (by kernel_rfl) rfl rfl rfl (fun ds h => ?_) (by kernel_rfl) hval hW hw (gl_rel hL) (fun xs hx => ?_)
  · rw [Tryd.params8] at h
    match ds, h with
    | [_, _, _, _], _ => rfl
  · rw [Tryd.params8] at hx
    obtain ⟨d1, r1, rfl, h1, d2, r2, rfl, h2, d3, r3, rfl, h3, d4, r4, rfl, h4, hx⟩ := hx
    have hx : r4 = [] := hx
    subst hx
    obtain ⟨r, ha⟩ := arg_road h1
    obtain ⟨b, hb, _⟩ := arg_u32 h2
    obtain ⟨a0, a1, hc, c1, c2⟩ := arg_two h3
    obtain ⟨p, hd, e1, e2⟩ := arg_u8 h4
    change ACall _ _ [argV Tryd.prog 24 d1, argV Tryd.prog 50 d2, argV Tryd.prog 55 d3, argV Tryd.prog 5 d4] _ _
    rw [ha, hb, hc, hd]
    exact eitherLaw r b a0 a1 p c1 c2 ⟨e1, e2⟩

theorem streetEither_said : Rows.StreetEitherSaid :=
  OpenClaim.holds_of_cond 8 Tryd.f8 rfl rfl rfl rfl rfl rfl rfl ⟨rfl, rfl, rfl, rfl, rfl⟩ rfl rfl rfl rfl rfl (by kernel_rfl) Tryd.func8 (by kernel_rfl)
    (of_decide_eq_true (by kernel_rfl)) (by unfold Func.isWrapper; first | (rw [if_pos (by decide +kernel)]; kernel_rfl) | (rw [if_neg (by decide +kernel)]; exact ⟨rfl, rfl⟩))
    (fun os started H enc _ F => by rw [OpenClaim.pre_eq_preRow]; exact streetEither_lifted os started H enc F)
theorem streetEither_plain (f : FuncId) (fn : Func) (hf : Tryd.pinned.checked.prog.funcNamed "lampblack/lampblacklaw07.StreetEither" = some f) (hfn : Tryd.pinned.checked.prog.funcs[f]? = some fn) :
    false = Tryd.pinned.checked.prog.looks [] ∧ ∀ (j : Nat) t, fn.params[j]? = some t → Tryd.pinned.checked.prog.wantsStandIn t = false := by
  obtain rfl : f = 8 := Option.some.inj ((show Tryd.prog.funcNamed "lampblack/lampblacklaw07.StreetEither" = some 8 by kernel_rfl).symm.trans hf) |>.symm
  obtain rfl : fn = Tryd.f8 := (Option.some.inj (Tryd.func8.symm.trans hfn)).symm
  refine ⟨by kernel_rfl, fun j t ht => ?_⟩
  rw [Tryd.params8] at ht
  have hm : t ∈ [24, 50, 55, 5] := by have := Array.mem_of_getElem? ht; simpa using this
  simp only [List.mem_cons, List.not_mem_nil, or_false] at hm
  rcases hm with rfl | rfl | rfl | rfl
  · exact (show Tryd.prog.wantsStandIn 24 = false by kernel_rfl)
  · exact (show Tryd.prog.wantsStandIn 50 = false by kernel_rfl)
  · exact (show Tryd.prog.wantsStandIn 55 = false by kernel_rfl)
  · exact (show Tryd.prog.wantsStandIn 5 = false by kernel_rfl)
theorem streetEither_holds : Rows.StreetEitherCardSaid :=
  Claim7.holds_tied_plain_at .later [] _ _ _ _ streetEither_said (fun _ h => by cases h) (by kernel_rfl) (fun _ h => by cases h) streetEither_row_tie rfl ⟨rfl, rfl⟩ (by kernel_rfl) rfl streetEither_plain (by kernel_rfl)
end Go.Proofs.YteamgbndnfjoaaaDoor
