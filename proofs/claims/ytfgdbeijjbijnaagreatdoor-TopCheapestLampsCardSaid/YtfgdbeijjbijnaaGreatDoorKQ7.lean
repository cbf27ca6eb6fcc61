/- PROVED: lampblacktop.TopCheapestLamps returns true, and what it is given reads afterwards as before. CONDITIONS: those of the given card TopCheapestLampsCardSaid, no others. -/
import Derived.Test.YtfgdbeijjbijnaaGreatDoorG22
import Derived.Test.YtfgdbeijjbijnaaGreatDoorV2
set_option linter.unusedSimpArgs false
set_option linter.unusedVariables false
set_option linter.unusedSimpArgs false
set_option linter.unusedVariables false
set_option maxRecDepth 100000
namespace Go.Proofs.YtfgdbeijjbijnaaGreatDoor
open Go Go.Abs Go.Proofs
theorem topCheapestLamps_met (os : Os) : laidMet Tryz.prog Rows.topCheapestLampsRow.laid ((laidWorld os).forCall (fun _ _ => 0) ⟨#[], #[.slice none 0 0, .int .u8 0, .int .u8 0], []⟩).memory :=
  laidMet_of_run' 8 (by kernel_rfl) (by kernel_rfl)
theorem topCheapestLamps_reads (os : Os) {H : Type} (enc : TypeId × Value → H) : ∃ x, DataW.whole enc Tryz.prog ((laidWorld os).forCall (fun _ _ => 0) ⟨#[], #[.slice none 0 0, .int .u8 0, .int .u8 0], []⟩).memory Tryz.f5.params.toList Rows.topCheapestLampsSpec.vars false (#[.slice none 0 0, .int .u8 0, .int .u8 0] : Array Value).toList 8 = some x :=
  Option.isSome_iff_exists.1 (by kernel_rfl)
theorem topCheapestLamps_lifted (os : Os) (started : os.Started) (H : Type) (enc : TypeId × Value → H) (F : Stop.Interp) :
    ReturnsInHanded {} Tryz.checked os 5 .any ((OpenSpec.ofChange Rows.topCheapestLampsSpec).preRow enc Tryz.prog Tryz.f5 Rows.topCheapestLampsRow.domain false Rows.topCheapestLampsRow.laid) (((OpenSpec.ofChange Rows.topCheapestLampsSpec).at F).post enc Tryz.prog Tryz.f5 false true false false) := by
  obtain ⟨x, hx⟩ := topCheapestLamps_reads os enc
  refine returnsInHanded_of_row (C := Tryz.checked) (s := OpenSpec.ofChange Rows.topCheapestLampsSpec) Tryz.own started (by kernel_rfl) Tryz.func5
    (witness_row_at (enc := enc) (C := Tryz.checked) false (laidWorld os) #[.slice none 0 0, .int .u8 0, .int .u8 0] rfl (by kernel_rfl) (by kernel_rfl) (by kernel_rfl)
      (OpenSpec.preRow_of_cond 8 hx rfl (fun k hk => by cases hk) (by kernel_rfl) (topCheapestLamps_met os))) ?_
  intro W base args ds gs before hval hW _ _ hw hL _ _
  refine law_calls_at (X := tx) (n := 9) (tb := 4) (H0 := GH3) (s := Rows.topCheapestLampsSpec) Tryz.laidOut Tryz.rowed Tryz.full (by kernel_rfl) rfl rfl rfl (fun ds h => ?_) (by kernel_rfl) hval hW hw (gl_rel hL) (fun xs hx => ?_)
  · rw [Tryz.params5] at h
    match ds, h with
    | [_, _, _], _ => rfl
  · rw [Tryz.params5] at hx
    obtain ⟨d1, r1, rfl, h1, d2, r2, rfl, h2, d3, r3, rfl, h3, hx⟩ := hx
    have hx : r3 = [] := hx
    subst hx
    obtain ⟨cs, ha, hcs⟩ := arg_u32s h1
    obtain ⟨b, hb, hb1, hb2⟩ := arg_u8 h2
    obtain ⟨q, hq, hq1, hq2⟩ := arg_u8 h3
    change ACall _ _ [argV Tryz.prog 90 d1, argV Tryz.prog 5 d2, argV Tryz.prog 5 d3] _ _
    rw [ha, hb, hq]
    exact cheapLaw cs hcs b q hb1 hb2 hq1 hq2 (kn_WW7 (24, [], GH3, y_wy_works07) (by simp [KN_WW7]))

theorem topCheapestLamps_said : Rows.TopCheapestLampsSaid :=
  OpenClaim.holds_of_cond 5 Tryz.f5 rfl rfl rfl rfl rfl rfl rfl ⟨rfl, rfl, rfl, rfl, rfl⟩ rfl rfl rfl rfl rfl (by as_aux_lemma => kernel_rfl) Tryz.func5 topCheapestLamps_joined
    (of_decide_eq_true (by as_aux_lemma => kernel_rfl)) (by unfold Func.isWrapper; first | (rw [if_pos (by decide +kernel)]; as_aux_lemma => kernel_rfl) | (rw [if_neg (by decide +kernel)]; exact ⟨rfl, rfl⟩))
    (fun os started H enc _ F => by rw [OpenClaim.pre_eq_preRow]; exact topCheapestLamps_lifted os started H enc F)
theorem topCheapestLamps_plain (f : FuncId) (fn : Func) (hf : Tryz.pinned.checked.prog.funcNamed "lampblack/lampblacktop.TopCheapestLamps" = some f) (hfn : Tryz.pinned.checked.prog.funcs[f]? = some fn) :
    false = Tryz.pinned.checked.prog.looks [] ∧ ∀ (j : Nat) t, fn.params[j]? = some t → Tryz.pinned.checked.prog.wantsStandIn t = false := by
  obtain rfl : f = 5 := Option.some.inj ((show Tryz.prog.funcNamed "lampblack/lampblacktop.TopCheapestLamps" = some 5 by as_aux_lemma => kernel_rfl).symm.trans hf) |>.symm
  obtain rfl : fn = Tryz.f5 := (Option.some.inj (Tryz.func5.symm.trans hfn)).symm
  refine ⟨by as_aux_lemma => kernel_rfl, fun j t ht => ?_⟩
  rw [Tryz.params5] at ht
  have hm : t ∈ [90, 5, 5] := by have := Array.mem_of_getElem? ht; simpa using this
  simp only [List.mem_cons, List.not_mem_nil, or_false] at hm
  rcases hm with rfl | rfl | rfl
  · exact (show Tryz.prog.wantsStandIn 90 = false by kernel_rfl)
  · exact (show Tryz.prog.wantsStandIn 5 = false by kernel_rfl)
  · exact (show Tryz.prog.wantsStandIn 5 = false by kernel_rfl)
theorem topCheapestLamps_holds : Rows.TopCheapestLampsCardSaid :=
  Claim7.holds_tied_plain_at .later [] _ _ _ _ topCheapestLamps_said (fun _ h => by cases h) (by as_aux_lemma => kernel_rfl) (fun _ h => by cases h) topCheapestLamps_row_tie rfl ⟨rfl, rfl⟩ (by as_aux_lemma => kernel_rfl) rfl topCheapestLamps_plain (by as_aux_lemma => kernel_rfl)
end Go.Proofs.YtfgdbeijjbijnaaGreatDoor

