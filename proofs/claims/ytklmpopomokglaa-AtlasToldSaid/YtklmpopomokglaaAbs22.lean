/- An executor on abstract states, for calls at given data: the kernel runs it. -/
import Derived.Test.YtklmpopomokglaaAbs24
import Derived.Test.YtklmpopomokglaaAbsV
set_option linter.unusedSimpArgs false
set_option linter.unusedVariables false
namespace Go.Abs
open Go

/-! ### Data out of what comes back -/
def dataC (x : C) : Option C := if x.low 0 then some x else match x with
  | .own _ r => some (.d (.sl r))
  | _ => none
def dataCs : List C → Option (List C)
  | [] => some []
  | c :: cs => match dataC c, dataCs cs with
    | some x, some xs => some (x :: xs)
    | _, _ => none
def dataS : V → Option V
  | .c x => (dataC x).map .c
  | .agg cs => (dataCs cs).map .agg
  | .tup _ => none
def dataVs : List V → Option (List V)
  | [] => some []
  | v :: vs => match dataS v, dataVs vs with
    | some x, some xs => some (x :: xs)
    | _, _ => none
def dataV : V → Option V
  | .tup vs => (dataVs vs).map .tup
  | v => dataS v

theorem dataC_wk {x y : C} (h : dataC x = some y) : WkC x y ∧ y.low 0 = true := by
  unfold dataC at h
  split at h
  · rename_i hl; cases h; exact ⟨.refl _, hl⟩
  · split at h
    · cases h; exact ⟨.own _ _, rfl⟩
    · cases h
theorem dataCs_wk : ∀ {x y : List C}, dataCs x = some y → WkCs x y ∧ C.lowL 0 y = true
  | [], y, h => by simp [dataCs] at h; subst h; exact ⟨.nil, rfl⟩
  | c :: cs, y, h => by
    simp only [dataCs] at h
    split at h
    · rename_i a b h1 h2
      cases h
      obtain ⟨e1, e2⟩ := dataC_wk h1
      obtain ⟨e3, e4⟩ := dataCs_wk h2
      exact ⟨.cons e1 e3, by simp [C.lowL, e2, e4]⟩
    · cases h
theorem dataS_wk {x y : V} (h : dataS x = some y) : WkV x y ∧ y.low 0 = true := by
  cases x with
  | c x =>
    simp only [dataS, Option.map_eq_some_iff] at h
    obtain ⟨z, h1, rfl⟩ := h
    obtain ⟨e1, e2⟩ := dataC_wk h1
    exact ⟨.c e1, e2⟩
  | agg cs =>
    simp only [dataS, Option.map_eq_some_iff] at h
    obtain ⟨z, h1, rfl⟩ := h
    obtain ⟨e1, e2⟩ := dataCs_wk h1
    exact ⟨.agg e1, e2⟩
  | tup vs => simp [dataS] at h
theorem dataVs_wk : ∀ {x y : List V}, dataVs x = some y → WkVs x y ∧ V.lowL 0 y = true
  | [], y, h => by simp [dataVs] at h; subst h; exact ⟨.nil, rfl⟩
  | c :: cs, y, h => by
    simp only [dataVs] at h
    split at h
    · rename_i a b h1 h2
      cases h
      obtain ⟨e1, e2⟩ := dataS_wk h1
      obtain ⟨e3, e4⟩ := dataVs_wk h2
      exact ⟨.cons e1 e3, by simp [V.lowL, e2, e4]⟩
    · cases h
theorem lowL_all : ∀ {l : List V}, V.lowL 0 l = true → l.all (V.low 0) = true
  | [], _ => rfl
  | v :: l, h => by simp [V.lowL] at h; simp [h.1]; simpa using lowL_all h.2
theorem dataV_wk {x y : V} (h : dataV x = some y) : WkV x y ∧ y.low 0 = true := by
  cases x with
  | tup vs =>
    simp only [dataV, Option.map_eq_some_iff] at h
    obtain ⟨z, h1, rfl⟩ := h
    obtain ⟨e1, e2⟩ := dataVs_wk h1
    exact ⟨by rw [wkv_tup]; exact e1, e2⟩
  | c x => exact dataS_wk h
  | agg cs => exact dataS_wk h

def fzC (id : Nat) (ds : List D) : C → C
  | .ptr i off => if i = id ∧ off ≤ ds.length then .dp (ds.drop off) else .ptr i off
  | c => c
def fzS (id : Nat) (ds : List D) : V → V
  | .c x => .c (fzC id ds x)
  | v => v
def fzV (id : Nat) (ds : List D) : V → V
  | .tup vs => .tup (vs.map (fzS id ds))
  | v => fzS id ds v
theorem fzS_rel (id : Nat) (ds : List D) (x : V) : FzV id ds x (fzS id ds x) := by
  cases x with
  | c x =>
    cases x with
    | ptr i off =>
      simp only [fzS, fzC]
      split
      · rename_i h; obtain ⟨rfl, h⟩ := h; exact .c (.ptr off h)
      · exact .same _
    | _ => exact .same _
  | _ => exact .same _
theorem fzV_rel (id : Nat) (ds : List D) (x : V) : FzT id ds x (fzV id ds x) := by
  cases x with
  | tup vs =>
    refine .tup (by simp) (fun i x y hx hy => ?_)
    rw [List.getElem?_map, hx] at hy
    cases hy
    exact fzS_rel id ds x
  | c x => exact .v (fzS_rel id ds _)
  | agg cs => exact .v (fzS_rel id ds _)
def ptrOf : V → Option Nat
  | .c (.ptr id _) => some id
  | _ => none
def firstPtr : V → Option Nat
  | .tup vs => vs.findSome? ptrOf
  | v => ptrOf v
def resD (H : List AB) (x : V) : Option V :=
  match dataV x with
  | some y => some y
  | none => match firstPtr x with
    | some id => match H[id]? with
      | some (.cells cs) => match toDs cs with
        | some ds => dataV (fzV id ds x)
        | none => none
      | _ => none
    | none => none

theorem ACall.resD {P : Program} {f : FuncId} {args : List V} {x y : V} {H' : List AB} (h : ACall P f args [] (one x H')) (hd : resD H' x = some y) (ha : args.all (V.low 0) = true) : Pure P f args y := by
  unfold Go.Abs.resD at hd
  split at hd
  · rename_i z hz
    cases hd
    obtain ⟨e1, e2⟩ := dataV_wk hz
    exact ⟨ACall.wkpost (h.mono fun a b ⟨h1, _⟩ => by subst h1; exact e1), ha, e2⟩
  · split at hd
    · rename_i id hid
      split at hd
      · rename_i cs hcs
        split at hd
        · rename_i ds hds
          obtain ⟨e1, e2⟩ := dataV_wk hd
          exact ⟨ACall.fzpost (h.mono fun a b ⟨h1, h2⟩ => by subst h1; subst h2; exact ⟨id, cs, ds, _, hcs, hds, fzV_rel id ds a, e1⟩), ha, e2⟩
        · cases hd
      · cases hd
    · cases hd

/-! ### The executor -/
def okFn (X : Tx) (f : Nat) : Bool := match X.P.funcs[f]? with
  | some fn => match fn.body with
    | some c => okX fn.ntmps c && notNum fn
    | none => false
  | none => false

/-- Which jump a round leaves. -/
def jOf : Exit → Option (Option Code)
  | .normal => some none
  | .ret => some (some .ret)
  | .exit i => some (some (.exit i))
  | .goto i => some (some (.goto i))
  | _ => none
/-- A call of yield. -/
def ydOf (E : Operand → V) (H : List AB) (o : Oper) : Option (Nat × LR × List V) :=
  match o.op with
  | .call { callee := .value x, args := as, argTypes := _ } => match E x with
    | .c (.yd id) => match H[id]? with
      | some (.lp r) => if as.size == r.ps.size && r.ps.toList.all (fun p => decide (p < r.nt)) && okX r.nt r.assign && okX r.nt r.body then some (id, r, as.toList.map E) else none
      | _ => none
    | _ => none
  | _ => none
/-- Behind a range over a function. -/
def overE (id : Nat) (s : St) (H2 : List AB) : Option (Option Code × St) := match H2[id]? with
  | some (.lp r) => match r.state with
    | .busy => none
    | _ => some (r.pend, { slots := s.slots, heap := H2.set id (.lp { r with state := .exhausted }), marks := s.heap.length :: s.marks })
  | _ => none
def xR (X : Tx) (fn : Func) (s : St) : Option (V × List AB) := match popM s.marks s.heap with
  | some H => match resList X { s with heap := H } fn.results.toList with
    | some xs => some (resV xs, H)
    | none => none
  | none => none
def fnOf : V → Option (FuncId × List C)
  | .c (.fn (.func g) caps) => some (g, caps)
  | _ => none
def okJ (nt : Nat) : Option Code → Bool
  | some c => okX nt c
  | none => true

mutual
/-- rd: in a round of a range over a function. -/
def xC (X : Tx) (L : List Nat) : Nat → Bool → Nat → Code → St → Option (Exit × St)
  | 0, _, _, _, _ => none
  | n + 1, rd, nt, c, s => match c with
    | .skip => some (.normal, s)
    | .label _ => some (.normal, s)
    | .exit id => some (.exit id, s)
    | .ret => some (.ret, s)
    | .seq x y => match xC X L n rd nt x s with
      | some (.normal, s') => xC X L n rd nt y s'
      | o => o
    | .block id c => match xC X L n rd nt c s with
      | some (.exit id', s') => some (if id' = id then .normal else .exit id', s')
      | o => o
    | .scope c => match xC X L n rd nt c s with
      | some (.goto _, _) => none
      | o => o
    | .cond c x y => match s.ev c with
      | .c (.d (.bool true)) => xC X L n rd nt x s
      | .c (.d (.bool false)) => xC X L n rd nt y s
      | _ => none
    | .loop c => match xC X L n rd nt c s with
      | some (.normal, s') => xC X L n rd nt (.loop c) s'
      | o => o
    | .region _ ops d => match (match d with | true => xP X L n (m3of ops) s.heap.length (holed (m3of ops) (countMk ops.toList) s).heap.length ops 0 s.heap.length ops.toList [] (holed (m3of ops) (countMk ops.toList) s) | false => xO X L n ops ops.toList s) with
      | some s' => some (.normal, s')
      | none => none
    | .rangeFunc g ps assign body => match rd, fnOf (s.ev g) with
      | false, some (gf, caps) => match xF X L n gf (.c (.yd (s.heap.length + 1)) :: caps.map .c) (overH s nt ps assign body) with
        | some (_, H2) => match overE (s.heap.length + 1) s H2 with
          | some (none, s') => some (.normal, s')
          | some (some c, s') => match okX nt c with
            | true => xC X L n rd nt c s'
            | false => none
          | none => none
        | none => none
      | _, _ => none
    | _ => none
def xO (X : Tx) (L : List Nat) : Nat → Array Oper → List Oper → St → Option St
  | 0, _, _, _ => none
  | _ + 1, _, [], s => some s
  | n + 1, all, o :: os, s => match guardOf all s.get o with
    | some true => match op1 X s.heap s.ev o.op with
      | some (true, x, H') => xO X L n all os (s.put o.dst x H')
      | some (false, _, _) => none
      | none => match calleeOf s.ev o with
        | some (g, args) => match xD X L n g args with
          | some y => xO X L n all os (s.put o.dst y s.heap)
          | none => match xF X L n g args s.heap with
            | some (x, H') => xO X L n all os (s.put o.dst x H')
            | none => none
        | none => match ydOf s.ev s.heap o with
          | some (id, r, args) => match xC X L n true r.nt r.assign { slots := putPs r.ps.toList args r.slots, heap := s.heap, marks := [] } with
            | some (.normal, t) => match busyH id t with
              | some t' => match xC X L n true r.nt r.body t' with
                | some (e, t2) => match jOf e with
                  | some j => match endR id t2.heap j with
                    | some H' => xO X L n all os (s.put o.dst (B j.isNone) H')
                    | none => none
                  | none => none
                | none => none
              | none => none
            | _ => none
          | none => none
    | some false => xO X L n all os (s.put o.dst (.tup []) s.heap)
    | none => none
/-- A drawn region; hc: the next hole. -/
def xP (X : Tx) (L : List Nat) : Nat → Bool → Nat → Nat → Array Oper → Nat → Nat → List Oper → List Note → St → Option St
  | 0, _, _, _, _, _, _, _, _, _ => none
  | _ + 1, m3, _, _, all, _, _, [], acc, s => if pairsOk m3 all acc then some s else none
  | n + 1, m3, n0, N0, all, k, hc, o :: os, acc, s => match guardOf all s.get o with
    | some true => match m3 && makeOp o.op with
      | true => match mkOf X s.ev o.op, s.heap[hc]? with
        | some (mk, b), some .gone => if decide (n0 ≤ hc) && b.newB hc N0 then xP X L n m3 n0 N0 all (k + 1) (hc + 1) os (addN m3 n0 k (.c (mk.at hc)) (.put hc b) (.blk hc) acc) (s.put o.dst (.c (mk.at hc)) (s.heap.set hc b)) else none
        | _, _ => none
      | false => match op1 X s.heap s.ev o.op with
        | some (true, x, H') => xP X L n m3 n0 N0 all (k + 1) hc os (addN m3 n0 k x (effOf s.ev o.op H') (footOf X s.ev o.op) acc) (s.put o.dst x H')
        | some (false, _, _) => none
        | none => match calleeOf s.ev o with
          | some (g, args) => match xD X L n g args with
            | some y => xP X L n m3 n0 N0 all (k + 1) hc os (addN m3 n0 k y .no .none acc) (s.put o.dst y s.heap)
            | none => none
          | none => none
    | some false => xP X L n m3 n0 N0 all (k + 1) hc os (addN m3 n0 k (.tup []) .no .none acc) (s.put o.dst (.tup []) s.heap)
    | none => none
/-- A call of a function of data. -/
def xD (X : Tx) (L : List Nat) : Nat → FuncId → List V → Option V
  | 0, _, _ => none
  | n + 1, g, args => match dataVs args with
    | some args' => match xF X L n g args' [] with
      | some (x, H') => resD H' x
      | none => none
    | none => none
def xF (X : Tx) (L : List Nat) : Nat → FuncId → List V → List AB → Option (V × List AB)
  | 0, _, _, _ => none
  | n + 1, f, args, H => match L.contains f, X.P.funcs[f]? with
    | true, some fn => match fn.body with
      | some c => match decide (args.length ≤ fn.ntmps), xC X L n false fn.ntmps c { slots := argS 0 args, heap := H, marks := [] } with
        | true, some (.normal, s) => xR X fn s
        | true, some (.ret, s) => xR X fn s
        | _, _ => none
      | none => none
    | _, _ => none
end
end Go.Abs
