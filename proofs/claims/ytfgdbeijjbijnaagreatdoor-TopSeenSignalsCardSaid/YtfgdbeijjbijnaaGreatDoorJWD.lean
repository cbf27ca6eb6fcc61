/- Data of the examples; what the executor is told is right. -/
import Derived.Test.YtfgdbeijjbijnaaGreatDoorJWOK
set_option linter.unusedSimpArgs false
set_option linter.unusedVariables false
set_option linter.unusedVariables false
set_option maxRecDepth 100000
namespace Go.Proofs.YtfgdbeijjbijnaaGreatDoor
open Go Go.Abs Go.Proofs
def i1 (n : Int) : List D := [.int .i64 n]
def is (l : List Int) : V := .c (.d (.sl (l.map i1)))
def iv (n : Int) : V := .c (.d (.int .i64 n))
def bv (b : Bool) : V := .c (.d (.bool b))
def r2 (a b : Int) : List D := [.int .i64 a, .int .i64 b]
def isC (l : List Int) : C := .d (.sl (l.map i1))
def Dn : V := .agg [isC [0, 3, 5], .d (.sl [r2 10 12, r2 4 6, r2 5 9]), .d (.sl [[.bool true], [.bool false]]), isC [1, 1, 1, 1, 1, 1]]
def Ha : V := .agg [isC [0, 3, 5], .d (.sl [r2 10 12, r2 13 14, r2 5 9]), .d (.sl [[.bool true], [.bool false]]), isC [1, 1, 1, 1, 1, 1]]
def rgV (a b : Int) : V := .agg [.d (.int .i64 a), .d (.int .i64 b)]
def AT : List D := [.sl [[.int .i64 0], [.int .i64 3], [.int .i64 5]], .sl [[.int .i64 10, .int .i64 12], [.int .i64 4, .int .i64 6], [.int .i64 5, .int .i64 9]], .sl [[.bool true], [.bool false]], .sl [[.int .i64 1], [.int .i64 1], [.int .i64 1], [.int .i64 1], [.int .i64 1], [.int .i64 1]], .int .i64 10, .int .i64 12, .int .i64 4, .int .i64 6, .int .i64 5, .int .i64 9, .int .i64 0, .int .i64 0, .int .i64 0, .int .i64 0, .int .i64 0, .int .i64 0, .int .i64 0, .int .i64 0, .int .i64 0, .int .i64 0, .int .i64 0, .int .i64 0, .int .i64 0, .int .i64 0, .int .i64 0, .int .i64 0, .int .i64 10, .int .i64 12, .int .i64 4, .int .i64 12, .int .i64 4, .int .i64 12, .int .i64 4, .int .i64 6, .int .i64 4, .int .i64 9, .int .i64 5, .int .i64 9] ++ List.replicate 170 (.int .i64 0)
def I4 : V := .agg [.d (.sl [[.sl [r2 1 1, r2 2 2, r2 0 0, r2 0 0]], [.sl [r2 0 0, r2 1 1, r2 1 1, r2 0 0]], [.sl [r2 0 0, r2 0 0, r2 2 2, r2 1 1]]]), .d (.sl [r2 1 2, r2 1 1, r2 1 1, r2 1 1])]
def It (e : Int) : V := .agg [.d (.sl [[.sl [i1 1]], [.sl [i1 2]], [.sl [i1 4]]]), .d (.int .i64 e)]
def CA : V := .agg [.d (.sl [r2 0 0, r2 4 0, r2 0 4]), .d (.sl [[.sl [r2 0 0, r2 1 0]]])]
def JL (x y : Int) : V := .agg [.d (.sl [r2 x y]), .d (.sl [])]
def aDf : List D := [.sl [r2 0 0, r2 4 0, r2 0 4], .sl [[.sl [r2 0 0, r2 1 0]]]]
def aEX (x y : Int) : List D := [.sl [r2 x y], .sl []]
def barV : V := .agg [.d (.int .i64 300), .d (.int .i64 50), .d (.int .i64 100), .d (.int .i64 100), .d (.int .i64 100), .d (.int .i64 150), .d (.int .i64 0), .d (.int .i64 1000)]
def ln (n : Int) : List D := (.int .u64 n) :: List.replicate 63 (.int .u64 0)
def tbl (p : List (List D)) (m : Int) (ls : List Int) : List D := [.sl p, .int .i64 m, .sl (ls.map ln)]
def p3 : List (List D) := [r2 0 1, r2 1 2, r2 0 1]
def p2 : List (List D) := [r2 0 1, r2 1 2]
def pm : List (List D) := [r2 0 2, r2 1 3]
def pu : List (List D) := [r2 0 1, r2 0 1, r2 1 2]
theorem wmo : tx.P.follows .mixedOrders = true := by kernel_rfl
theorem Al (l : List (Nat × List V × List AB × V)) (h : ∀ e ∈ l, PureG Tryz.prog e.2.2.1 e.1 e.2.1 e.2.2.2) : aEi tx (exW l) :=
 xe_ok (A := fnA) (N := 422) aPa rfl aHq wlm wok (fun g args H x H' h => by cases h) (fun g args gh y hh => lookP_ok h g args gh y hh)
theorem Ae : ∀ e ∈ ([] : List (Nat × List V × List AB × V)), PureG Tryz.prog e.2.2.1 e.1 e.2.1 e.2.2.2 := fun e h => by cases h
theorem Ab {f : Nat} {aa : List V} {gh : List AB} {y : V} {l : List (Nat × List V × List AB × V)} (h : PureG Tryz.prog gh f aa y) (hl : ∀ e ∈ l, PureG Tryz.prog e.2.2.1 e.1 e.2.1 e.2.2.2) : ∀ e ∈ (f, aa, gh, y) :: l, PureG Tryz.prog e.2.2.1 e.1 e.2.1 e.2.2.2 := fun e he => by
 rcases List.mem_cons.1 he with h1 | h1
 ·rw [h1]; exact h
 ·exact hl e h1
theorem Bb {l l' : List (Nat × List V × List AB × V)} (h : ∀ e ∈ l, PureG Tryz.prog e.2.2.1 e.1 e.2.1 e.2.2.2) (h' : ∀ e ∈ l', PureG Tryz.prog e.2.2.1 e.1 e.2.1 e.2.2.2) : ∀ e ∈ l ++ l', PureG Tryz.prog e.2.2.1 e.1 e.2.1 e.2.2.2 := fun e he => by
 rcases List.mem_append.1 he with h1 | h1
 ·exact h e h1
 ·exact h' e h1
end Go.Proofs.YtfgdbeijjbijnaaGreatDoor
