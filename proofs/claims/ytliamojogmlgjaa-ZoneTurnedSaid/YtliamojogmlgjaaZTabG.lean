/- The seat's types for simp, under the kit's attribute. -/
import Derived.Test.YtliamojogmlgjaaZTab
import Derived.Test.YtliamojogmlgjaaEG
set_option linter.unusedSimpArgs false
set_option linter.unusedVariables false
namespace Go.Proofs.Ytliamojogmlgjaa
open Go Go.Abs
attribute [go_sem] tt2 tt3 tt4 tt5 tt12 tt21 tt22 tt23 tt24 tt25 tt26 tt29 tt39 tt40 tt51 tt54 tt57 tt66 tt78 tt79 tt83 tt99 tt100 tt101 tt102 tt103 tt109 tt113 tt114 tt115 tt124 tt128 eq39 eq40 eq57 eq78 eq79 eq99 eq100 eq101 eq113 eq114 eq115 ti2 ti3 ti4 ti5 ti12 ti21 ti22 ti23 ti24 ti25 ti26 ti29 ti39 ti40 ti51 ti54 ti57 ti66 ti78 ti79 ti83 ti99 ti100 ti101 ti102 ti103 ti109 ti113 ti114 ti115 ti124 ti128 tx_vm txv_vm txv_tt txv_eqs
attribute [go_sem] fillC zc List.replicate_zero List.flatten_cons List.flatten_nil toDs toD chunk placeS srcRows List.all_cons List.all_nil List.all_map Function.comp_def List.take_nil List.drop_nil List.toList_toArray C.eqbL eqCs eqC List.drop_one List.tail_cons lim
end Go.Proofs.Ytliamojogmlgjaa
