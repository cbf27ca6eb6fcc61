/- PROVED: lampblacktop.TopStreetUnits returns true, and what it is given reads afterwards as before. CONDITIONS: those of the given card TopStreetUnitsCardSaid, no others. -/
import Derived.Test.YtfgdbeijjbijnaaGreatDoorG23
import Derived.Test.YtfgdbeijjbijnaaGreatDoorV2
set_option linter.unusedSimpArgs false
set_option linter.unusedVariables false
set_option linter.unusedSimpArgs false
set_option linter.unusedVariables false
set_option maxRecDepth 100000
namespace Go.Proofs.YtfgdbeijjbijnaaGreatDoor
open Go Go.Abs Go.Proofs
theorem topStreetUnits_met (os : Os) : laidMet Tryz.prog Rows.topStreetUnitsRow.laid ((laidWorld os).forCall (fun _ _ => 0) ⟨#[], #[.agg #[.int .i64 0, .int .i64 0, .int .i64 0, .slice none 0 0], .int .u8 0], []⟩).memory :=
  laidMet_of_run' 8 (by kernel_rfl) (by kernel_rfl)
theorem topStreetUnits_reads (os : Os) {H : Type} (enc : TypeId × Value → H) : ∃ x, DataW.whole enc Tryz.prog ((laidWorld os).forCall (fun _ _ => 0) ⟨#[], #[.agg #[.int .i64 0, .int .i64 0, .int .i64 0, .slice none 0 0], .int .u8 0], []⟩).memory Tryz.f6.params.toList Rows.topStreetUnitsSpec.vars false (#[.agg #[.int .i64 0, .int .i64 0, .int .i64 0, .slice none 0 0], .int .u8 0] : Array Value).toList 8 = some x :=
  Option.isSome_iff_exists.1 (by kernel_rfl)
theorem topStreetUnits_lifted (os : Os) (started : os.Started) (H : Type) (enc : TypeId × Value → H) (F : Stop.Interp) :
    ReturnsInHanded {} Tryz.checked os 6 .any ((OpenSpec.ofChange Rows.topStreetUnitsSpec).preRow enc Tryz.prog Tryz.f6 Rows.topStreetUnitsRow.domain false Rows.topStreetUnitsRow.laid) (((OpenSpec.ofChange Rows.topStreetUnitsSpec).at F).post enc Tryz.prog Tryz.f6 false true false false) := by
  obtain ⟨x, hx⟩ := topStreetUnits_reads os enc
  refine returnsInHanded_of_row (C := Tryz.checked) (s := OpenSpec.ofChange Rows.topStreetUnitsSpec) Tryz.own started (by kernel_rfl) Tryz.func6
    (witness_row_at (enc := enc) (C := Tryz.checked) false (laidWorld os) #[.agg #[.int .i64 0, .int .i64 0, .int .i64 0, .slice none 0 0], .int .u8 0] rfl (by kernel_rfl) (by kernel_rfl) (by kernel_rfl)
      (OpenSpec.preRow_of_cond 8 hx rfl (fun k hk => by cases hk) (by kernel_rfl) (topStreetUnits_met os))) ?_
  intro W base args ds gs before hval hW _ _ hw hL _ _
  refine law_calls_at (X := tx) (n := 9) (tb := 4) (H0 := GH3) (s := Rows.topStreetUnitsSpec) Tryz.laidOut Tryz.rowed Tryz.full (by kernel_rfl) rfl rfl rfl (fun ds h => ?_) (by kernel_rfl) hval hW hw (gl_rel hL) (fun xs hx => ?_)
  · rw [Tryz.params6] at h
    match ds, h with
    | [_, _], _ => rfl
  · rw [Tryz.params6] at hx
    obtain ⟨d1, r1, rfl, h1, d2, r2, rfl, h2, hx⟩ := hx
    have hx : r2 = [] := hx
    subst hx
    obtain ⟨r, ha⟩ := arg_road h1
    obtain ⟨b, hb, hb1, hb2⟩ := arg_u8 h2
    change ACall _ _ [argV Tryz.prog 77 d1, argV Tryz.prog 5 d2] _ _
    rw [ha, hb]
    exact unitsLaw r b hb1 hb2 (kn_WW7 (24, [], GH3, y_wy_works07) (by simp [KN_WW7]))

theorem topStreetUnits_said : Rows.TopStreetUnitsSaid :=
  OpenClaim.holds_of_cond 6 Tryz.f6 rfl rfl rfl rfl rfl rfl rfl ⟨rfl, rfl, rfl, rfl, rfl⟩ rfl rfl rfl rfl rfl (by as_aux_lemma => kernel_rfl) Tryz.func6 topStreetUnits_joined
    (of_decide_eq_true (by as_aux_lemma => kernel_rfl)) (by unfold Func.isWrapper; first | (rw [if_pos (by decide +kernel)]; as_aux_lemma => kernel_rfl) | (rw [if_neg (by decide +kernel)]; exact ⟨rfl, rfl⟩))
    (fun os started H enc _ F => by rw [OpenClaim.pre_eq_preRow]; exact topStreetUnits_lifted os started H enc F)
theorem topStreetUnits_plain (f : FuncId) (fn : Func) (hf : Tryz.pinned.checked.prog.funcNamed "lampblack/lampblacktop.TopStreetUnits" = some f) (hfn : Tryz.pinned.checked.prog.funcs[f]? = some fn) :
    false = Tryz.pinned.checked.prog.looks [] ∧ ∀ (j : Nat) t, fn.params[j]? = some t → Tryz.pinned.checked.prog.wantsStandIn t = false := by
  obtain rfl : f = 6 := Option.some.inj ((show Tryz.prog.funcNamed "lampblack/lampblacktop.TopStreetUnits" = some 6 by as_aux_lemma => kernel_rfl).symm.trans hf) |>.symm
  obtain rfl : fn = Tryz.f6 := (Option.some.inj (Tryz.func6.symm.trans hfn)).symm
  refine ⟨by as_aux_lemma => kernel_rfl, fun j t ht => ?_⟩
  rw [Tryz.params6] at ht
  have hm : t ∈ [77, 5] := by have := Array.mem_of_getElem? ht; simpa using this
  simp only [List.mem_cons, List.not_mem_nil, or_false] at hm
  rcases hm with rfl | rfl
  · exact (show Tryz.prog.wantsStandIn 77 = false by kernel_rfl)
  · exact (show Tryz.prog.wantsStandIn 5 = false by kernel_rfl)
theorem topStreetUnits_holds : Rows.TopStreetUnitsCardSaid :=
  Claim7.holds_tied_plain_at .later [] _ _ _ _ topStreetUnits_said (fun _ h => by cases h) (by as_aux_lemma => kernel_rfl) (fun _ h => by cases h) topStreetUnits_row_tie rfl ⟨rfl, rfl⟩ (by as_aux_lemma => kernel_rfl) rfl topStreetUnits_plain (by as_aux_lemma => kernel_rfl)
end Go.Proofs.YtfgdbeijjbijnaaGreatDoor

