/- The seat's types for simp, under the kit's attribute. -/
import Derived.Test.YteamgbndnfjoaaaDoorSTab
import Derived.Test.YteamgbndnfjoaaaDoorMK
import Derived.Test.YteamgbndnfjoaaaDoorAbsG
set_option linter.unusedSimpArgs false
set_option linter.unusedVariables false
namespace Go.Proofs.YteamgbndnfjoaaaDoor
open Go Go.Abs
attribute [go_sem] tt2 tt3 tt4 tt5 tt22 tt24 tt25 tt28 tt45 tt50 tt55 tt58 tt60 tt65 tt71 tt73 tt76 tt77 tt79 tt84 tt92 tt94 tt98 eq55 eq58 eq76 eq77 eq84 eq98 ti2 ti3 ti4 ti5 ti22 ti24 ti25 ti28 ti45 ti50 ti55 ti58 ti60 ti65 ti71 ti73 ti76 ti77 ti79 ti84 ti92 ti94 ti98
end Go.Proofs.YteamgbndnfjoaaaDoor
