/- The walk's rules for simp, under the kit's attribute. -/
import Derived.Test.YtjkpfojkkfopmaaMK
import Derived.Test.YtjkpfojkkfopmaaAbsG
set_option linter.unusedSimpArgs false
set_option linter.unusedVariables false
open Go Go.Abs
attribute [go_sem] goE contE_at goE_t goE_f dE_nil dE_cons de_t de_f holed m3of cntX cntN countMk callOp makeOp makes appOp appOwn Option.isNone_none Option.isNone_some mutOp storeOp mkOf MkK.at AB.newB C.freeL C.free effOf footOf quietOp addN Nat.le_refl Bool.or_true Bool.true_or Bool.or_false Bool.false_or Bool.and_false Bool.false_and and_self List.contains_cons List.contains_nil trimK trimL stopQ vecS hereS isMs srcC lenV fzNV fzN fzNB List.map_set nilS nilOp sureC
