/- Results told otherwise; calls at a heap. -/
import Derived.Test.YtklmpopomokglaaAbs20
set_option linter.unusedSimpArgs false
set_option linter.unusedVariables false
namespace Go.Abs
open Go

inductive FzT (id : Nat) (ds : List D) : V → V → Prop
  | v {x y : V} : FzV id ds x y → FzT id ds x y
  | tup {xs ys : List V} : xs.length = ys.length → (∀ (i : Nat) (x y : V), xs[i]? = some x → ys[i]? = some y → FzV id ds x y) → FzT id ds (.tup xs) (.tup ys)

theorem FzV.rel {w : World} {G G' : Gh} {H H' : List AB} {id : Nat} {ds : List D} (L : Later w G H w G' H') (f : ∀ j, j < ds.length → G'.S (G.rho id) j ∧ (∃ v, w.cell? ⟨G.rho id, j, none⟩ = some v) ∧ ∀ v x, w.cell? ⟨G.rho id, j, none⟩ = some v → ds[j]? = some x → DRel w G'.S x v)
    {x y : V} {v : Value} (h : FzV id ds x y) (hr : VRel w G H x v) : VRel w G' H' y v := by
  cases h with
  | c h => cases hr with | c _ _ h0 => exact .c _ _ (h.rel L f h0)
  | same => exact hr.mono L
  | any => exact .c _ _ (.any _)
theorem FzT.rel {w : World} {G G' : Gh} {H H' : List AB} {id : Nat} {ds : List D} (L : Later w G H w G' H') (f : ∀ j, j < ds.length → G'.S (G.rho id) j ∧ (∃ v, w.cell? ⟨G.rho id, j, none⟩ = some v) ∧ ∀ v x, w.cell? ⟨G.rho id, j, none⟩ = some v → ds[j]? = some x → DRel w G'.S x v)
    {x y : V} {v : Value} (h : FzT id ds x y) (hr : VRel w G H x v) : VRel w G' H' y v := by
  cases h with
  | v h => exact h.rel L f hr
  | tup hl h =>
    cases hr with
    | tup _ arr hs hr =>
      refine .tup _ arr (by omega) (fun i y u hy hu => ?_)
      have hlt := hl ▸ (List.getElem?_eq_some_iff.1 hy).1
      exact (h i _ y (List.getElem?_eq_getElem hlt) hy).rel L f (hr i _ u (List.getElem?_eq_getElem hlt) hu)

/-- What comes back holds a block that nobody writes any more. -/
theorem ACall.fzpost {P : Program} {f : FuncId} {args : List V} {H : List AB} {r : V} (h : ACall P f args H (fun x H' => ∃ id cs ds y, H'[id]? = some (.cells cs) ∧ toDs cs = some ds ∧ FzT id ds x y ∧ WkV y r)) : ACall P f args H (fun x _ => x = r) :=
  ⟨h.1, fun w G vs R hl hr => (h.2 w G vs R hl hr).mono fun _ w' ⟨v, x, H', G', a, ⟨id, cs, ds, y, h1, h2, h3, h4⟩, c, d, e⟩ => by
    obtain ⟨R', L, f⟩ := c.freeze h1 h2
    exact ⟨v, r, _, _, a, rfl, R', h4.rel (h3.rel L f d), e.trans L⟩⟩
theorem pure_fz {X : Tx} {f : FuncId} {fn : Func} {c : Code} {args : List V} {r : V} {nt : Nat} {rs : List ResultVar} (hf : X.P.funcs[f]? = some fn) (hb : fn.body = some c) (hn0 : notNum fn = true)
    (hnt : args.length + (fn.ntmps - args.length) = nt) (hrs : fn.results.toList = rs) (hm : X.P.follows .mixedOrders = true) (hok : okC nt c = true) (ha : args.all (V.low 0) = true) (hr : r.low 0 = true)
    (h : (∀ x ∈ args, FitV x) → go X none 0 nt c (retG X rs (fun x H' => ∃ id cs ds y, H'[id]? = some (.cells cs) ∧ toDs cs = some ds ∧ FzT id ds x y ∧ WkV y r)) { slots := argS 0 args, heap := [], marks := [] }) : Pure X.P f args r :=
  ⟨ACall.fzpost (ACall.fit (callFunc_runs hf hb hn0) (fun hfit => acall_of (X := X) hf hb hn0 hnt hrs hm hok (h hfit))), ha, hr⟩

/-- Blocks that are left over are forgotten. -/
theorem ACall.drop {P : Program} {f : FuncId} {args : List V} {H : List AB} {r : V} (hr : r.low H.length = true) (hH : H.all (AB.low H.length) = true) (h : ACall P f args H (fun x H' => WkV x r ∧ ∃ T, H' = H ++ T)) : ACall P f args H (one r H) :=
  ⟨h.1, fun w G vs R hl hrel => (h.2 w G vs R hl hrel).mono fun _ w' ⟨v, x, H', G', a, ⟨h1, T, h2⟩, c, d, e⟩ => by
    subst h2
    exact ⟨v, r, H, G', a, ⟨rfl, rfl⟩, c.trunc hH, (h1.rel d).trunc hr, e.trunc (Nat.le_refl _)⟩⟩

/-- A contract at a heap, by the walk; the blocks made on the way are forgotten. -/
theorem acall_at {X : Tx} {f : FuncId} {fn : Func} {c : Code} {args : List V} {H : List AB} {r : V} {nt : Nat} {rs : List ResultVar} (hf : X.P.funcs[f]? = some fn) (hb : fn.body = some c) (hn0 : notNum fn = true)
    (hnt : args.length + (fn.ntmps - args.length) = nt) (hrs : fn.results.toList = rs) (hm : X.P.follows .mixedOrders = true) (hok : okC nt c = true) (hr : r.low H.length = true) (hH : H.all (AB.low H.length) = true)
    (h : (∀ x ∈ args, FitV x) → go X none H.length nt c (retG X rs (fun x H' => WkV x r ∧ ∃ T, H' = H ++ T)) { slots := argS 0 args, heap := H, marks := [] }) : ACall X.P f args H (one r H) :=
  ACall.drop hr hH (ACall.fit (callFunc_runs hf hb hn0) (fun hfit => acall_of (X := X) hf hb hn0 hnt hrs hm hok (h hfit)))
theorem acall_fit {X : Tx} {f : FuncId} {fn : Func} {c : Code} {args : List V} {H : List AB} {post : V → List AB → Prop} {nt : Nat} {rs : List ResultVar} (hf : X.P.funcs[f]? = some fn) (hb : fn.body = some c) (hn0 : notNum fn = true)
    (hnt : args.length + (fn.ntmps - args.length) = nt) (hrs : fn.results.toList = rs) (hm : X.P.follows .mixedOrders = true) (hok : okC nt c = true)
    (h : (∀ x ∈ args, FitV x) → go X none H.length nt c (retG X rs post) { slots := argS 0 args, heap := H, marks := [] }) : ACall X.P f args H post :=
  ACall.fit (callFunc_runs hf hb hn0) (fun hfit => acall_of (X := X) hf hb hn0 hnt hrs hm hok (h hfit))

section
variable {X : Tx} {r : Option Nat} {nb nt : Nat} {s : St} {all : Array Oper} {Q : St → Prop} {o : Oper} {os : List Oper}
theorem aops_at {g : FuncId} {args args' : List V} {y : V} {H' : List AB} (h : ACall X.P g args' s.heap (one y H')) (hg : guardOf all s.get o = some true) (hc : calleeOf s.ev o = some (g, args)) (hw : WkVs args args')
    (k : aW X r nb nt all os Q (s.put o.dst y H')) : AOps (X.cx r nb nt) all (o :: os) Q s :=
  aops_call hg hc hw h (fun x H2 ⟨h1, h2⟩ => by subst h1; subst h2; exact aW_sound _ _ k)
theorem dops_at {loud k : Nat} {g : FuncId} {args args' : List V} {y : V} (h : ACall X.P g args' s.heap (one y s.heap)) (hg : guardOf all s.get o = some true) (hc : calleeOf s.ev o = some (g, args)) (hw : WkVs args args') (hl : loudsB loud (k + 1) os = true)
    (n : dW X r nb nt all loud (k + 1) os Q (s.put o.dst y s.heap)) : DOps (X.cx r nb nt) all loud k (o :: os) Q s :=
  ⟨true, y, s.heap, hg, by simp only [if_true]; exact opAt_of_callee hc (h.weak hw), fun _ => rfl, dW_sound _ _ _ (loudsB_spec hl) n⟩
end
end Go.Abs
