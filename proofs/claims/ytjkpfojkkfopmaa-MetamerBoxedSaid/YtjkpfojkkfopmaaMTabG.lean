/- The seat's types for simp, under the kit's attribute. -/
import Derived.Test.YtjkpfojkkfopmaaMTab
import Derived.Test.YtjkpfojkkfopmaaEG
set_option linter.unusedSimpArgs false
set_option linter.unusedVariables false
namespace Go.Proofs.Ytjkpfojkkfopmaa
open Go Go.Abs
attribute [go_sem] tt2 tt3 tt4 tt5 tt12 tt21 tt22 tt23 tt24 tt25 tt26 tt27 tt28 tt29 tt33 tt49 tt50 tt53 tt62 tt64 tt65 tt73 tt80 tt81 tt85 tt86 tt98 tt99 tt108 tt109 tt110 tt134 tt138 eq64 eq65 eq85 eq86 eq98 eq99 eq109 eq110 ti2 ti3 ti4 ti5 ti12 ti21 ti22 ti23 ti24 ti25 ti26 ti27 ti28 ti29 ti33 ti49 ti50 ti53 ti62 ti64 ti65 ti73 ti80 ti81 ti85 ti86 ti98 ti99 ti108 ti109 ti110 ti134 ti138 tx_vm txv_vm txv_tt txv_eqs
attribute [go_sem] fillC zc List.replicate_succ List.replicate_zero List.flatten_cons List.flatten_nil toDs toD chunk placeS srcRows List.all_cons List.all_nil List.all_map Function.comp_def List.take_nil List.drop_nil List.toList_toArray C.eqbL eqCs eqC List.drop_one List.tail_cons lim
end Go.Proofs.Ytjkpfojkkfopmaa
