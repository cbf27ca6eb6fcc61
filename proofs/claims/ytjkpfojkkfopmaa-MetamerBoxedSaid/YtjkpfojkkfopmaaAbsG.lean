/- The logic's rules for simp, under the kit's attribute. -/
import Derived.Attr
import Derived.Test.YtjkpfojkkfopmaaMG
import Derived.KernelRfl
set_option linter.unusedSimpArgs false
set_option linter.unusedVariables false
open Go Go.Abs
attribute [go_sem] go cont_at aW_nil aW_cons dW_nil dW_cons retG popM resList resOne resV guardOf op1 argS St.put St.get St.ev evS getS setS thenQ blockQ noGoto ofVal B I List.map_cons List.map_nil lenC rowsOf binV intOp intsOf Option.map_some true_and and_true List.length_map vIte bound Bool.not_true Bool.not_false Bool.true_and Bool.and_true decide_true decide_false mkV isAggD loudOp Option.bind_some Option.getD_some Bool.false_eq_true Bool.true_eq_false or_true true_or false_or go_t go_f aw_t aw_f dw_t dw_f true_implies false_implies implies_true beq_t beq_f List.getElem?_map Int.toNat_natCast List.getElem?_cons_zero List.getElem?_cons_succ List.take_succ_cons List.take_zero List.drop_succ_cons List.drop_zero List.length_cons List.length_nil Bool.and_self List.getElem?_toArray List.cons_append List.nil_append List.set_cons_zero List.set_cons_succ List.getElem?_nil Option.map_none Option.getD_none V.solid V.cs setMany wkSlots wkv_refl V.low C.low C.lowL V.lowL fld List.map Nat.zero_add Nat.add_zero wkv_own wkv_full wkv_tup wkvs_cons wkvs_nil wkv_agg wkcs_cons wkcs_nil wkc_refl wkc_own wkc_full Option.isSome_some cond_true cond_false List.append_nil List.isEmpty_toArray List.isEmpty_nil consOf
