/- The seat's types for simp, under the kit's attribute. -/
import Derived.Test.YtkbnmanfoejoiaaDTab
import Derived.Test.YtkbnmanfoejoiaaEG
set_option linter.unusedSimpArgs false
set_option linter.unusedVariables false
namespace Go.Proofs.Ytkbnmanfoejoiaa
open Go Go.Abs
attribute [go_sem] tt2 tt3 tt4 tt5 tt12 tt21 tt22 tt23 tt24 tt25 tt26 tt27 tt28 tt30 tt48 tt49 tt51 tt52 tt53 tt56 tt57 tt58 tt68 tt69 tt81 tt88 tt89 tt90 tt91 tt92 tt93 tt98 tt102 tt106 tt111 tt112 tt115 tt118 tt119 tt120 tt132 tt136 eq23 eq24 eq25 eq26 eq27 eq53 eq56 eq57 eq58 eq68 eq69 eq88 eq89 eq90 eq91 eq119 eq120 ti2 ti3 ti4 ti5 ti12 ti21 ti22 ti23 ti24 ti25 ti26 ti27 ti28 ti30 ti48 ti49 ti51 ti52 ti53 ti56 ti57 ti58 ti68 ti69 ti81 ti88 ti89 ti90 ti91 ti92 ti93 ti98 ti102 ti106 ti111 ti112 ti115 ti118 ti119 ti120 ti132 ti136 tx_vm txv_vm txv_tt txv_eqs
attribute [go_sem] fillC zc List.replicate_zero List.flatten_cons List.flatten_nil toDs toD chunk placeS srcRows List.all_cons List.all_nil List.all_map Function.comp_def List.take_nil List.drop_nil List.toList_toArray C.eqbL eqCs eqC List.drop_one List.tail_cons lim
end Go.Proofs.Ytkbnmanfoejoiaa
