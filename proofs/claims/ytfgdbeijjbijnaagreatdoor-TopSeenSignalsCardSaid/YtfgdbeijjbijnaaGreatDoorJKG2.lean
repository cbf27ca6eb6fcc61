/- PROVED: lampblacktop.TopSeenSignals returns true, and what it is given reads afterwards as before. CONDITIONS: those of the given card TopSeenSignalsCardSaid, no others. -/
import Derived.Test.YtfgdbeijjbijnaaGreatDoorJG26
import Derived.Test.YtfgdbeijjbijnaaGreatDoorJV2
set_option linter.unusedSimpArgs false
set_option linter.unusedVariables false
set_option linter.unusedSimpArgs false
set_option linter.unusedVariables false
set_option maxRecDepth 100000
namespace Go.Proofs.YtfgdbeijjbijnaaGreatDoor
open Go Go.Abs Go.Proofs
theorem Hb (os : Os) : laidMet Tryz.prog Rows.topSeenSignalsRow.laid ((IJ os).forCall (fun _ _ => 0) ⟨#[], #[.agg #[.slice none 0 0, .slice none 0 0], .slice none 0 0, .slice none 0 0, .slice none 0 0], []⟩).memory :=
 laidMet_of_run' 8 (by kernel_rfl) (by kernel_rfl)
theorem F3 (os : Os) {H : Type} (enc : TypeId × Value → H) : ∃ x, DataW.whole enc Tryz.prog ((IJ os).forCall (fun _ _ => 0) ⟨#[], #[.agg #[.slice none 0 0, .slice none 0 0], .slice none 0 0, .slice none 0 0, .slice none 0 0], []⟩).memory Tryz.f3.params.toList Rows.topSeenSignalsSpec.vars false (#[.agg #[.slice none 0 0, .slice none 0 0], .slice none 0 0, .slice none 0 0, .slice none 0 0] : Array Value).toList 8 = some x :=
 Option.isSome_iff_exists.1 (by kernel_rfl)
theorem FD (os : Os) (started : os.Started) (H : Type) (enc : TypeId × Value → H) (F : Stop.Interp) :
  ReturnsInHanded {} Tryz.checked os 3 .any ((OpenSpec.ofChange Rows.topSeenSignalsSpec).preRow enc Tryz.prog Tryz.f3 Rows.topSeenSignalsRow.domain false Rows.topSeenSignalsRow.laid) (((OpenSpec.ofChange Rows.topSeenSignalsSpec).at F).post enc Tryz.prog Tryz.f3 false true false false) := by
 obtain ⟨x, hx⟩ := F3 os enc
 refine returnsInHanded_of_row (C := Tryz.checked) (s := OpenSpec.ofChange Rows.topSeenSignalsSpec) Tryz.own started (by kernel_rfl) Tryz.func3
  (witness_row_at (enc := enc) (C := Tryz.checked) false (IJ os) #[.agg #[.slice none 0 0, .slice none 0 0], .slice none 0 0, .slice none 0 0, .slice none 0 0] rfl (by kernel_rfl) (by kernel_rfl) (by kernel_rfl)
   (OpenSpec.preRow_of_cond 8 hx rfl (fun k hk => by cases hk) (by kernel_rfl) (Hb os))) ?_
 intro W base args ds gs before hval hW _ _ hw hL _ _
 refine Oc (X := tx) (n := 9) (tb := 4) (H0 := GH2) (s := Rows.topSeenSignalsSpec) Tryz.laidOut Tryz.rowed Tryz.full (by kernel_rfl) rfl rfl rfl (fun ds h => ?_) (by kernel_rfl) hval hW hw (aHe hL) (fun xs hx => ?_)
 ·rw [Tryz.params3] at h
  match ds, h with
  | [_, _, _, _], _ => rfl
 ·rw [Tryz.params3] at hx
  obtain ⟨d1, r1, rfl, h1, d2, r2, rfl, h2, d3, r3, rfl, h3, d4, r4, rfl, h4, hx⟩ := hx
  have hx : r4 = [] := hx
  subst hx
  obtain ⟨c, e1⟩ := aDb h1
  obtain ⟨a, e2⟩ := M5 h2
  obtain ⟨b, e3⟩ := M5 h3
  obtain ⟨y, e4, hy⟩ := aDa h4
  change Ad _ _ [FA Tryz.prog 25 d1, FA Tryz.prog 26 d2, FA Tryz.prog 26 d3, FA Tryz.prog 27 d4] _ _
  rw [e1, e2, e3, e4]
  exact aEU c a b y hy (aHI (9, [], GH2, EK) (by simp [aD1]))
theorem Gp : Rows.TopSeenSignalsSaid :=
 OpenClaim.holds_of_cond 3 Tryz.f3 rfl rfl rfl rfl rfl rfl rfl ⟨rfl, rfl, rfl, rfl, rfl⟩ rfl rfl rfl rfl rfl (by as_aux_lemma => kernel_rfl) Tryz.func3 FC
  (of_decide_eq_true (by as_aux_lemma => kernel_rfl)) (by unfold Func.isWrapper; first | (rw [if_pos (by decide +kernel)]; as_aux_lemma => kernel_rfl) | (rw [if_neg (by decide +kernel)]; exact ⟨rfl, rfl⟩))
  (fun os started H enc _ F => by rw [OpenClaim.pre_eq_preRow]; exact FD os started H enc F)
theorem F4 (f : FuncId) (fn : Func) (hf : Tryz.pinned.checked.prog.funcNamed "lampblack/lampblacktop.TopSeenSignals" = some f) (hfn : Tryz.pinned.checked.prog.funcs[f]? = some fn) :
  false = Tryz.pinned.checked.prog.looks [] ∧ ∀ (j : Nat) t, fn.params[j]? = some t → Tryz.pinned.checked.prog.wantsStandIn t = false := by
 obtain rfl : f = 3 := Option.some.inj ((show Tryz.prog.funcNamed "lampblack/lampblacktop.TopSeenSignals" = some 3 by as_aux_lemma => kernel_rfl).symm.trans hf) |>.symm
 obtain rfl : fn = Tryz.f3 := (Option.some.inj (Tryz.func3.symm.trans hfn)).symm
 refine ⟨by as_aux_lemma => kernel_rfl, fun j t ht => ?_⟩
 rw [Tryz.params3] at ht
 have hm : t ∈ [25, 26, 26, 27] := by have := Array.mem_of_getElem? ht; simpa using this
 simp only [List.mem_cons, List.not_mem_nil, or_false] at hm
 rcases hm with rfl | rfl | rfl | rfl
 ·exact (show Tryz.prog.wantsStandIn 25 = false by kernel_rfl)
 ·exact (show Tryz.prog.wantsStandIn 26 = false by kernel_rfl)
 ·exact (show Tryz.prog.wantsStandIn 26 = false by kernel_rfl)
 ·exact (show Tryz.prog.wantsStandIn 27 = false by kernel_rfl)
theorem topSeenSignals_holds : Rows.TopSeenSignalsCardSaid :=
 Claim7.holds_tied_plain_at .later [] _ _ _ _ Gp (fun _ h => by cases h) (by as_aux_lemma => kernel_rfl) (fun _ h => by cases h) topSeenSignals_row_tie rfl ⟨rfl, rfl⟩ (by as_aux_lemma => kernel_rfl) rfl F4 (by as_aux_lemma => kernel_rfl)
end Go.Proofs.YtfgdbeijjbijnaaGreatDoor
