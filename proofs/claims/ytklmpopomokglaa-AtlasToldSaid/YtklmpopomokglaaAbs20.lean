/- Lengths that are told by the values themselves; contracts with them. -/
import Derived.Test.YtklmpopomokglaaAbs19
set_option linter.unusedSimpArgs false
set_option linter.unusedVariables false
namespace Go.Abs
open Go

inductive Fit : D → Prop
  | int (k : IntKind) (n : Int) : Fit (.int k n)
  | bool (b : Bool) : Fit (.bool b)
  | sl (rows : List (List D)) : rows.length ≤ lim → (∀ r ∈ rows, ∀ x ∈ r, Fit x) → Fit (.sl rows)
theorem Fit.len {rows : List (List D)} (h : Fit (.sl rows)) : rows.length ≤ lim := by cases h; assumption
theorem Fit.sub {rows : List (List D)} (h : Fit (.sl rows)) {r : List D} (hr : r ∈ rows) {x : D} (hx : x ∈ r) : Fit x := by cases h with | sl _ _ h => exact h r hr x hx
def FitC : C → Prop
  | .d x => Fit x
  | .full r => Fit (.sl r)
  | .own _ r => Fit (.sl r)
  | .dp ds => ∀ x ∈ ds, Fit x
  | _ => True
def FitV : V → Prop
  | .c x => FitC x
  | .agg cs => ∀ c ∈ cs, FitC c
  | .tup _ => True

theorem DRel.fit {w : World} {S : Nat → Nat → Prop} {x : D} {v : Value} (h : DRel w S x v) : Fit x := by
  induction h with
  | int k n => exact .int k n
  | bool b => exact .bool b
  | emp a cap => exact .sl [] (Nat.zero_le _) (fun r h => by cases h)
  | sl rows b o cap sz f hcap hlim hsz hcell hrel ih =>
    refine .sl rows hlim (fun r hr x hx => ?_)
    obtain ⟨i, hi⟩ := List.getElem?_of_mem hr
    obtain ⟨j, hj⟩ := List.getElem?_of_mem hx
    exact ih i j r x hi hj
theorem CRel.fit {w : World} {G : Gh} {H : List AB} {x : C} {v : Value} (h : CRel w G H x v) : FitC x := by
  cases h with
  | d x v h => exact h.fit
  | full rows a n hn h => exact h.fit
  | own id rows a n cap hid hn h hg => exact h.fit
  | dp ds b o f hcell hrel =>
    intro x hx
    obtain ⟨j, hj⟩ := List.getElem?_of_mem hx
    exact (hrel j x hj).fit
  | _ => trivial
theorem VRel.fit {w : World} {G : Gh} {H : List AB} {x : V} {v : Value} (h : VRel w G H x v) : FitV x := by
  cases h with
  | c x v h => exact h.fit
  | agg cs arr h =>
    intro c hc
    obtain ⟨i, hi⟩ := List.getElem?_of_mem hc
    have hlt : i < arr.toList.length := by rw [← h.1]; exact (List.getElem?_eq_some_iff.1 hi).1
    exact (h.2 i c _ hi (List.getElem?_eq_getElem hlt)).1.fit
  | tup vs arr hs h => trivial

theorem ACall.fit {P : Program} {f : FuncId} {args : List V} {H : List AB} {post : V → List AB → Prop} (h1 : ∀ (as : Array Value) (w : World), (callFunc f as).run P w = .ok (.enter f as) w)
    (h : (∀ x ∈ args, FitV x) → ACall P f args H post) : ACall P f args H post :=
  ⟨h1, fun w G vs R hl hr => (h (fun x hx => by
    obtain ⟨i, hi⟩ := List.getElem?_of_mem hx
    have hlt : i < vs.toList.length := by rw [← hl]; exact (List.getElem?_eq_some_iff.1 hi).1
    exact (hr i x _ hi (List.getElem?_eq_getElem hlt)).fit)).2 w G vs R hl hr⟩

theorem callFunc_runs {P : Program} {f : FuncId} {fn : Func} {c : Code} (hf : P.funcs[f]? = some fn) (hb : fn.body = some c) (hn0 : notNum fn = true) (as : Array Value) (w : World) : (callFunc f as).run P w = .ok (.enter f as) w := by
  have hn : (fn.name == "runtime.NumGoroutine") = false := by simpa [notNum] using hn0
  simp only [callFunc, Sem.run_bind, run_program, Result.andThen_ok, hf, hn, Bool.false_eq_true, if_false, hb, Option.isNone_some]
  rfl

/-- A function of data: its contract by the walk; the lengths of the arguments are told. -/
theorem pure_fit {X : Tx} {f : FuncId} {fn : Func} {c : Code} {args : List V} {r : V} {nt : Nat} {rs : List ResultVar} (hf : X.P.funcs[f]? = some fn) (hb : fn.body = some c) (hn0 : notNum fn = true)
    (hnt : args.length + (fn.ntmps - args.length) = nt) (hrs : fn.results.toList = rs) (hm : X.P.follows .mixedOrders = true) (hok : okC nt c = true) (ha : args.all (V.low 0) = true) (hr : r.low 0 = true)
    (h : (∀ x ∈ args, FitV x) → go X none 0 nt c (retG X rs (fun x _ => x = r)) { slots := argS 0 args, heap := [], marks := [] }) : Pure X.P f args r :=
  ⟨ACall.fit (callFunc_runs hf hb hn0) (fun hfit => acall_of (X := X) hf hb hn0 hnt hrs hm hok (h hfit)), ha, hr⟩
theorem pure_wk {X : Tx} {f : FuncId} {fn : Func} {c : Code} {args : List V} {r : V} {nt : Nat} {rs : List ResultVar} (hf : X.P.funcs[f]? = some fn) (hb : fn.body = some c) (hn0 : notNum fn = true)
    (hnt : args.length + (fn.ntmps - args.length) = nt) (hrs : fn.results.toList = rs) (hm : X.P.follows .mixedOrders = true) (hok : okC nt c = true) (ha : args.all (V.low 0) = true) (hr : r.low 0 = true)
    (h : (∀ x ∈ args, FitV x) → go X none 0 nt c (retG X rs (fun x _ => WkV x r)) { slots := argS 0 args, heap := [], marks := [] }) : Pure X.P f args r :=
  ⟨ACall.wkpost (ACall.fit (callFunc_runs hf hb hn0) (fun hfit => acall_of (X := X) hf hb hn0 hnt hrs hm hok (h hfit))), ha, hr⟩
/-- A call told by its arguments' lengths. -/
theorem Pure.of_fit {P : Program} {f : FuncId} {args : List V} {r : V} (h1 : ∀ (as : Array Value) (w : World), (callFunc f as).run P w = .ok (.enter f as) w) (ha : args.all (V.low 0) = true) (hr : r.low 0 = true)
    (h : (∀ x ∈ args, FitV x) → Pure P f args r) : Pure P f args r := ⟨ACall.fit h1 (fun hf => (h hf).1), ha, hr⟩

/-- At a state: what is told of a slot's lengths. -/
theorem awp_fit {X : Cx} {c : Code} {Q : Exit → St → Prop} {s : St} (j : Nat) (h : FitV (s.get j) → AWP X c Q s) : AWP X c Q s := fun bs w G a hR => h (hR.slots j).fit bs w G a hR

section
variable {X : Tx} {r : Option Nat} {nb nt : Nat} {s : St} {all : Array Oper} {Q : St → Prop} {o : Oper} {os : List Oper}
theorem aops_go (h : aW X r nb nt all os Q s) : AOps (X.cx r nb nt) all os Q s := aW_sound os s h
/-- A call of a function of data, and on. -/
theorem aops_pure' {g : FuncId} {args args' : List V} {y : V} (h : Pure X.P g args' y) (hg : guardOf all s.get o = some true) (hc : calleeOf s.ev o = some (g, args)) (hw : WkVs args args')
    (k : aW X r nb nt all os Q (s.put o.dst y s.heap)) : AOps (X.cx r nb nt) all (o :: os) Q s := aops_pure h hg hc hw (aW_sound _ _ k)
def loudsB (loud : Nat) : Nat → List Oper → Bool
  | _, [] => true
  | k, o :: os => (loud.testBit k == loudOp o.op) && loudsB loud (k + 1) os
theorem loudsB_spec {loud : Nat} : ∀ {os : List Oper} {k : Nat}, loudsB loud k os = true → ∀ (j : Nat) (o : Oper), os[j]? = some o → loud.testBit (k + j) = loudOp o.op
  | [], _, _, j, o, h => by simp at h
  | o' :: os, k, h, 0, o, ho => by simp at ho; subst ho; simp [loudsB] at h; simpa using h.1
  | o' :: os, k, h, j + 1, o, ho => by
    simp [loudsB] at h
    have := loudsB_spec h.2 j o (by simpa using ho)
    rw [← this]; congr 1; omega
theorem dops_pure' {loud k : Nat} {g : FuncId} {args args' : List V} {y : V} (h : Pure X.P g args' y) (hg : guardOf all s.get o = some true) (hc : calleeOf s.ev o = some (g, args)) (hw : WkVs args args') (hl : loudsB loud (k + 1) os = true)
    (n : dW X r nb nt all loud (k + 1) os Q (s.put o.dst y s.heap)) : DOps (X.cx r nb nt) all loud k (o :: os) Q s := dops_pure h hg hc hw (dW_sound _ _ _ (loudsB_spec hl) n)
end
end Go.Abs
