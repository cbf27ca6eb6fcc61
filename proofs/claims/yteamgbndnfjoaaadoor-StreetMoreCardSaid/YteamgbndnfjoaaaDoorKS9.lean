/- PROVED: lampblacklaw07.StreetMore returns true, and what it is given reads afterwards as before. CONDITIONS: those of the given card StreetMoreCardSaid, no others. -/
import Derived.Test.YteamgbndnfjoaaaDoorKS0
import Derived.Test.YteamgbndnfjoaaaDoorS31
set_option linter.unusedSimpArgs false
set_option linter.unusedVariables false
set_option maxRecDepth 100000
namespace Go.Proofs.YteamgbndnfjoaaaDoor
open Go Go.Abs Go.Proofs
theorem streetMore_met (os : Os) : laidMet Tryd.prog Rows.streetMoreRow.laid ((laidWorld os).forCall (fun _ _ => 0) ⟨#[], #[.agg #[.int .i64 0, .int .i64 0, .int .i64 0, .slice none 0 0], .agg #[.int .i64 0, .int .i64 0, .int .i64 0], .int .u32 0], []⟩).memory :=
  laidMet_of_run' 8 (by kernel_rfl) (by kernel_rfl)
theorem streetMore_reads (os : Os) {H : Type} (enc : TypeId × Value → H) : ∃ x, DataW.whole enc Tryd.prog ((laidWorld os).forCall (fun _ _ => 0) ⟨#[], #[.agg #[.int .i64 0, .int .i64 0, .int .i64 0, .slice none 0 0], .agg #[.int .i64 0, .int .i64 0, .int .i64 0], .int .u32 0], []⟩).memory Tryd.f9.params.toList Rows.streetMoreSpec.vars false (#[.agg #[.int .i64 0, .int .i64 0, .int .i64 0, .slice none 0 0], .agg #[.int .i64 0, .int .i64 0, .int .i64 0], .int .u32 0] : Array Value).toList 8 = some x :=
  Option.isSome_iff_exists.1 (by kernel_rfl)
theorem streetMore_lifted (os : Os) (started : os.Started) (H : Type) (enc : TypeId × Value → H) (F : Stop.Interp) :
    ReturnsInHanded {} Tryd.checked os 9 .any ((OpenSpec.ofChange Rows.streetMoreSpec).preRow enc Tryd.prog Tryd.f9 Rows.streetMoreRow.domain false Rows.streetMoreRow.laid) (((OpenSpec.ofChange Rows.streetMoreSpec).at F).post enc Tryd.prog Tryd.f9 false true false false) := by
  obtain ⟨x, hx⟩ := streetMore_reads os enc
  refine returnsInHanded_of_row (C := Tryd.checked) (s := OpenSpec.ofChange Rows.streetMoreSpec) Tryd.own started (by kernel_rfl) Tryd.func9
    (witness_row_at (enc := enc) (C := Tryd.checked) false (laidWorld os) #[.agg #[.int .i64 0, .int .i64 0, .int .i64 0, .slice none 0 0], .agg #[.int .i64 0, .int .i64 0, .int .i64 0], .int .u32 0] rfl (by kernel_rfl) (by kernel_rfl) (by kernel_rfl)
      (OpenSpec.preRow_of_cond 8 hx rfl (fun k hk => by cases hk) (by kernel_rfl) (streetMore_met os))) ?_
  intro W base args ds gs before hval hW _ _ hw hL _ _
  refine law_calls_at (X := tx) (n := 9) (tb := 4) (H0 := GH) (s := Rows.streetMoreSpec) Tryd.laidOut Tryd.rowed Tryd.full (by kernel_rfl) rfl rfl rfl (fun ds h => ?_) (by kernel_rfl) hval hW hw (gl_rel hL) (fun xs hx => ?_)
  · rw [Tryd.params9] at h
    match ds, h with
    | [_, _, _], _ => rfl
  · rw [Tryd.params9] at hx
    obtain ⟨d1, r1, rfl, h1, d2, r2, rfl, h2, d3, r3, rfl, h3, hx⟩ := hx
    have hx : r3 = [] := hx
    subst hx
    obtain ⟨r, ha⟩ := arg_road h1
    obtain ⟨p, hp⟩ := arg_post h2
    obtain ⟨b, hb, _⟩ := arg_u32 h3
    change ACall _ _ [argV Tryd.prog 24 d1, argV Tryd.prog 58 d2, argV Tryd.prog 50 d3] _ _
    rw [ha, hp, hb]
    exact moreLaw r p b

theorem streetMore_said : Rows.StreetMoreSaid :=
  OpenClaim.holds_of_cond 9 Tryd.f9 rfl rfl rfl rfl rfl rfl rfl ⟨rfl, rfl, rfl, rfl, rfl⟩ rfl rfl rfl rfl rfl (by kernel_rfl) Tryd.func9 (by kernel_rfl)
    (of_decide_eq_true (by kernel_rfl)) (by unfold Func.isWrapper; first | (rw [if_pos (by decide +kernel)]; kernel_rfl) | (rw [if_neg (by decide +kernel)]; exact ⟨rfl, rfl⟩))
    (fun os started H enc _ F => by rw [OpenClaim.pre_eq_preRow]; exact streetMore_lifted os started H enc F)
theorem streetMore_plain (f : FuncId) (fn : Func) (hf : Tryd.pinned.checked.prog.funcNamed "lampblack/lampblacklaw07.StreetMore" = some f) (hfn : Tryd.pinned.checked.prog.funcs[f]? = some fn) :
    false = Tryd.pinned.checked.prog.looks [] ∧ ∀ (j : Nat) t, fn.params[j]? = some t → Tryd.pinned.checked.prog.wantsStandIn t = false := by
  obtain rfl : f = 9 := Option.some.inj ((show Tryd.prog.funcNamed "lampblack/lampblacklaw07.StreetMore" = some 9 by kernel_rfl).symm.trans hf) |>.symm
  obtain rfl : fn = Tryd.f9 := (Option.some.inj (Tryd.func9.symm.trans hfn)).symm
  refine ⟨by kernel_rfl, fun j t ht => ?_⟩
  rw [Tryd.params9] at ht
  have hm : t ∈ [24, 58, 50] := by have := Array.mem_of_getElem? ht; simpa using this
  simp only [List.mem_cons, List.not_mem_nil, or_false] at hm
  rcases hm with rfl | rfl | rfl
  · exact (show Tryd.prog.wantsStandIn 24 = false by kernel_rfl)
  · exact (show Tryd.prog.wantsStandIn 58 = false by kernel_rfl)
  · exact (show Tryd.prog.wantsStandIn 50 = false by kernel_rfl)
theorem streetMore_holds : Rows.StreetMoreCardSaid :=
  Claim7.holds_tied_plain_at .later [] _ _ _ _ streetMore_said (fun _ h => by cases h) (by kernel_rfl) (fun _ h => by cases h) streetMore_row_tie rfl ⟨rfl, rfl⟩ (by kernel_rfl) rfl streetMore_plain (by kernel_rfl)
end Go.Proofs.YteamgbndnfjoaaaDoor
