/- An executor on abstract states, for calls at given data: the kernel runs it. -/
import Derived.Test.YtjkpfojkkfopmaaME
set_option linter.unusedSimpArgs false
set_option linter.unusedVariables false
namespace Go.Abs
open Go

/-! ### Data out of what comes back -/
def dataC (x : C) : Option C := if x.low 0 then some x else match x with
  | .own _ r => some (.d (.sl r))
  | _ => none
def dataCs : List C → Option (List C)
  | [] => some []
  | c :: cs => match dataC c, dataCs cs with
    | some x, some xs => some (x :: xs)
    | _, _ => none
def dataS : V → Option V
  | .c x => (dataC x).map .c
  | .agg cs => (dataCs cs).map .agg
  | .tup _ => none
def dataVs : List V → Option (List V)
  | [] => some []
  | v :: vs => match dataS v, dataVs vs with
    | some x, some xs => some (x :: xs)
    | _, _ => none
def dataV : V → Option V
  | .tup vs => (dataVs vs).map .tup
  | v => dataS v

theorem dataC_wk {x y : C} (h : dataC x = some y) : WkC x y ∧ y.low 0 = true := by
  unfold dataC at h
  split at h
  · rename_i hl; cases h; exact ⟨.refl _, hl⟩
  · split at h
    · cases h; exact ⟨.own _ _, rfl⟩
    · cases h
theorem dataCs_wk : ∀ {x y : List C}, dataCs x = some y → WkCs x y ∧ C.lowL 0 y = true
  | [], y, h => by simp [dataCs] at h; subst h; exact ⟨.nil, rfl⟩
  | c :: cs, y, h => by
    simp only [dataCs] at h
    split at h
    · rename_i a b h1 h2
      cases h
      obtain ⟨e1, e2⟩ := dataC_wk h1
      obtain ⟨e3, e4⟩ := dataCs_wk h2
      exact ⟨.cons e1 e3, by simp [C.lowL, e2, e4]⟩
    · cases h
theorem dataS_wk {x y : V} (h : dataS x = some y) : WkV x y ∧ y.low 0 = true := by
  cases x with
  | c x =>
    simp only [dataS, Option.map_eq_some_iff] at h
    obtain ⟨z, h1, rfl⟩ := h
    obtain ⟨e1, e2⟩ := dataC_wk h1
    exact ⟨.c e1, e2⟩
  | agg cs =>
    simp only [dataS, Option.map_eq_some_iff] at h
    obtain ⟨z, h1, rfl⟩ := h
    obtain ⟨e1, e2⟩ := dataCs_wk h1
    exact ⟨.agg e1, e2⟩
  | tup vs => simp [dataS] at h
theorem dataVs_wk : ∀ {x y : List V}, dataVs x = some y → WkVs x y ∧ V.lowL 0 y = true
  | [], y, h => by simp [dataVs] at h; subst h; exact ⟨.nil, rfl⟩
  | c :: cs, y, h => by
    simp only [dataVs] at h
    split at h
    · rename_i a b h1 h2
      cases h
      obtain ⟨e1, e2⟩ := dataS_wk h1
      obtain ⟨e3, e4⟩ := dataVs_wk h2
      exact ⟨.cons e1 e3, by simp [V.lowL, e2, e4]⟩
    · cases h
theorem lowL_all : ∀ {l : List V}, V.lowL 0 l = true → l.all (V.low 0) = true
  | [], _ => rfl
  | v :: l, h => by simp [V.lowL] at h; simp [h.1]; simpa using lowL_all h.2
theorem dataV_wk {x y : V} (h : dataV x = some y) : WkV x y ∧ y.low 0 = true := by
  cases x with
  | tup vs =>
    simp only [dataV, Option.map_eq_some_iff] at h
    obtain ⟨z, h1, rfl⟩ := h
    obtain ⟨e1, e2⟩ := dataVs_wk h1
    exact ⟨by rw [wkv_tup]; exact e1, e2⟩
  | c x => exact dataS_wk h
  | agg cs => exact dataS_wk h

def fzC (id : Nat) (ds : List D) : C → C
  | .ptr i off => if i = id ∧ off ≤ ds.length then .dp (ds.drop off) else .ptr i off
  | c => c
def fzS (id : Nat) (ds : List D) : V → V
  | .c x => .c (fzC id ds x)
  | v => v
def fzV (id : Nat) (ds : List D) : V → V
  | .tup vs => .tup (vs.map (fzS id ds))
  | v => fzS id ds v
theorem fzS_rel (id : Nat) (ds : List D) (x : V) : FzV id ds x (fzS id ds x) := by
  cases x with
  | c x =>
    cases x with
    | ptr i off =>
      simp only [fzS, fzC]
      split
      · rename_i h; obtain ⟨rfl, h⟩ := h; exact .c (.ptr off h)
      · exact .same _
    | _ => exact .same _
  | _ => exact .same _
theorem fzV_rel (id : Nat) (ds : List D) (x : V) : FzT id ds x (fzV id ds x) := by
  cases x with
  | tup vs =>
    refine .tup (by simp) (fun i x y hx hy => ?_)
    rw [List.getElem?_map, hx] at hy
    cases hy
    exact fzS_rel id ds x
  | c x => exact .v (fzS_rel id ds _)
  | agg cs => exact .v (fzS_rel id ds _)
def ptrOf : V → Option Nat
  | .c (.ptr id _) => some id
  | _ => none
def firstPtr : V → Option Nat
  | .tup vs => vs.findSome? ptrOf
  | v => ptrOf v
def resD (H : List AB) (x : V) : Option V :=
  match dataV x with
  | some y => some y
  | none => match firstPtr x with
    | some id => match H[id]? with
      | some (.cells cs) => match toDs cs with
        | some ds => dataV (fzV id ds x)
        | none => none
      | _ => none
    | none => none

theorem ACall.resD {P : Program} {f : FuncId} {args : List V} {x y : V} {H' : List AB} (h : ACall P f args [] (one x H')) (hd : resD H' x = some y) (ha : args.all (V.low 0) = true) : Pure P f args y := by
  unfold Go.Abs.resD at hd
  split at hd
  · rename_i z hz
    cases hd
    obtain ⟨e1, e2⟩ := dataV_wk hz
    exact ⟨ACall.wkpost (h.mono fun a b ⟨h1, _⟩ => by subst h1; exact e1), ha, e2⟩
  · split at hd
    · rename_i id hid
      split at hd
      · rename_i cs hcs
        split at hd
        · rename_i ds hds
          obtain ⟨e1, e2⟩ := dataV_wk hd
          exact ⟨ACall.fzpost (h.mono fun a b ⟨h1, h2⟩ => by subst h1; subst h2; exact ⟨id, cs, ds, _, hcs, hds, fzV_rel id ds a, e1⟩), ha, e2⟩
        · cases hd
      · cases hd
    · cases hd

/-! ### The executor -/
def okFn (X : Tx) (f : Nat) : Bool := match X.P.funcs[f]? with
  | some fn => match fn.body with
    | some c => okX fn.ntmps c && notNum fn
    | none => false
  | none => false

/-- Which jump a round leaves. -/
def jOf : Exit → Option (Option Code)
  | .normal => some none
  | .ret => some (some .ret)
  | .exit i => some (some (.exit i))
  | .goto i => some (some (.goto i))
  | _ => none
/-- A call of yield. -/
def ydOf (E : Operand → V) (H : List AB) (o : Oper) : Option (Nat × LR × List V) :=
  match o.op with
  | .call { callee := .value x, args := as, argTypes := _ } => match E x with
    | .c (.yd id) => match H[id]? with
      | some (.lp r) => if as.size == r.ps.size && r.ps.toList.all (fun p => decide (p < r.nt)) && okX r.nt r.assign && okX r.nt r.body then some (id, r, as.toList.map E) else none
      | _ => none
    | _ => none
  | _ => none
/-- Behind a range over a function. -/
def overE (id : Nat) (s : St) (H2 : List AB) : Option (Option Code × St) := match H2[id]? with
  | some (.lp r) => match r.state with
    | .busy => none
    | _ => some (r.pend, { slots := s.slots, heap := H2.set id (.lp { r with state := .exhausted }), marks := s.heap.length :: s.marks })
  | _ => none
def xR (X : Tx) (fn : Func) (s : St) : Option (V × List AB) := match popM s.marks s.heap with
  | some H => match resList X { s with heap := H } fn.results.toList with
    | some xs => some (resV xs, H)
    | none => none
  | none => none
def fnOf : V → Option (FuncId × List C)
  | .c (.fn (.func g) caps) => some (g, caps)
  | _ => none
def okJ (nt : Nat) : Option Code → Bool
  | some c => okX nt c
  | none => true

/-! ### The executor's slots: looked up by a test that the kernel does fast; what is not read any more is dropped -/
def getB : List (Nat × V) → Nat → V
  | [], _ => .c .any
  | (i, v) :: r, j => match Nat.beq i j with
    | true => v
    | false => getB r j
def setB : List (Nat × V) → Nat → V → List (Nat × V)
  | [], j, x => [(j, x)]
  | (i, v) :: r, j, x => match Nat.beq i j with
    | true => (i, x) :: r
    | false => (i, v) :: setB r j x
theorem getB_eq : ∀ (l : List (Nat × V)) (j : Nat), getB l j = getS l j
  | [], _ => rfl
  | (i, v) :: r, j => by
    simp only [getB, getS]
    by_cases h : i = j
    · subst h; simp
    · rw [if_neg h, getB_eq r j]
      have : Nat.beq i j = false := by cases hb : Nat.beq i j with | false => rfl | true => exact absurd (Nat.eq_of_beq_eq_true hb) h
      rw [this]
theorem setB_eq : ∀ (l : List (Nat × V)) (j : Nat) (x : V), setB l j x = setS l j x
  | [], _, _ => rfl
  | (i, v) :: r, j, x => by
    simp only [setB, setS]
    by_cases h : i = j
    · subst h; simp
    · rw [if_neg h, setB_eq r j x]
      have : Nat.beq i j = false := by cases hb : Nat.beq i j with | false => rfl | true => exact absurd (Nat.eq_of_beq_eq_true hb) h
      rw [this]
def evB (s : St) : Operand → V := evS (getB s.slots)
def putB (s : St) (dst : Option Nat) (x : V) (H : List AB) : St :=
  { slots := match dst with | some j => setB s.slots j x | none => s.slots, heap := H, marks := s.marks }
theorem get_eq (s : St) : getB s.slots = s.get := funext fun j => getB_eq s.slots j
theorem evB_eq (s : St) : evB s = s.ev := by unfold evB; rw [get_eq]; rfl
theorem putB_eq (s : St) (dst : Option Nat) (x : V) (H : List AB) : putB s dst x H = s.put dst x H := by
  cases dst with
  | none => rfl
  | some j => simp only [putB, St.put, setB_eq]
/-- The slots of a mask; 0: all. -/
def trimM (m : Nat) (s : St) : St := match Nat.beq m 0 with
  | true => s
  | false => { slots := s.slots.filter fun p => m.testBit p.1, heap := s.heap, marks := s.marks }
def maskOf : List Nat → Nat → Nat
  | [], _ => 0
  | a :: _, 0 => a
  | _ :: r, i + 1 => maskOf r i
theorem getS_filter (m : Nat) (i : Nat) : ∀ l : List (Nat × V), getS (l.filter fun p => m.testBit p.1) i = getS l i ∨ getS (l.filter fun p => m.testBit p.1) i = .c .any
  | [] => .inr rfl
  | (j, v) :: l => by
    by_cases hb : m.testBit j = true
    · rw [List.filter_cons_of_pos (by simpa using hb)]
      simp only [getS]
      by_cases h : j = i
      · simp [h]
      · rw [if_neg h, if_neg h]; exact getS_filter m i l
    · rw [List.filter_cons_of_neg (by simpa using hb)]
      by_cases h : j = i
      · subst h
        right
        have : ∀ l : List (Nat × V), getS (l.filter fun p => m.testBit p.1) j = .c .any := by
          intro l
          induction l with
          | nil => rfl
          | cons p l ih =>
            obtain ⟨k, u⟩ := p
            by_cases hk : m.testBit k = true
            · rw [List.filter_cons_of_pos (by simpa using hk)]
              simp only [getS]
              rw [if_neg (fun e => hb (by rw [← e]; exact hk))]; exact ih
            · rw [List.filter_cons_of_neg (by simpa using hk)]; exact ih
        exact this l
      · have h2 : getS ((j, v) :: l) i = getS l i := by simp only [getS, if_neg h]
        rw [h2]; exact getS_filter m i l
theorem ent_trimM {X : Cx} (m : Nat) (t : St) : Ent X t (trimM m t) := fun bs w G a hR => by
  unfold trimM
  split
  · exact ⟨G, hR⟩
  · refine ⟨G, { rel := hR.rel, later := hR.later, base := hR.base, size := hR.size, slots := fun i => ?_, defers := hR.defers, marks := hR.marks }⟩
    show VRel w G t.heap (getS (t.slots.filter fun p => m.testBit p.1) i) _
    rcases getS_filter m i t.slots with h | h
    · rw [h]; exact hR.slots i
    · rw [h]; exact .c _ _ (.any _)
/-- The blocks behind a place are dropped, if nobody names them. -/
def dropB (N : Nat) (s : St) : St := match Nat.blt N s.heap.length with
  | false => s
  | true => match (s.heap.take N).all (AB.low N) && (s.slots.all (fun p => p.2.low N) && s.marks.all (fun id => Nat.blt id N)) with
    | true => { slots := s.slots, heap := s.heap.take N, marks := s.marks }
    | false => s
theorem getB_low {N : Nat} : ∀ {l : List (Nat × V)}, l.all (fun p => p.2.low N) = true → ∀ i, (getS l i).low N = true
  | [], _, _ => rfl
  | (j, v) :: l, h, i => by
    simp only [List.all_cons, Bool.and_eq_true] at h
    simp only [getS]
    split
    · exact h.1
    · exact getB_low h.2 i
theorem ent_dropB {X : Cx} {N : Nat} (s : St) (hn : X.nb ≤ N) : Ent X s (dropB N s) := fun bs w G a hR => by
  unfold dropB
  split
  · exact ⟨G, hR⟩
  · rename_i hlt
    have hlt : N < s.heap.length := by simpa [Nat.blt_eq] using hlt
    split
    · rename_i hc
      simp only [Bool.and_eq_true] at hc
      obtain ⟨h1, h2, h3⟩ := hc
      have hlen : (s.heap.take N).length = N := by rw [List.length_take]; omega
      have hh : s.heap = s.heap.take N ++ s.heap.drop N := (List.take_append_drop N s.heap).symm
      have R := hR.rel
      rw [hh] at R
      exact ⟨G,
        { rel := R.trunc (by rw [hlen]; exact h1)
          later := by have := hR.later; rw [hh] at this; exact this.trunc (by rw [hR.base, hlen]; exact hn)
          base := hR.base
          size := hR.size
          slots := fun i => by
            have := hR.slots i
            rw [hh] at this
            exact this.trunc (by rw [hlen]; exact getB_low h2 i)
          defers := hR.defers
          marks := fun id hid => by
            have := List.all_eq_true.1 h3 id hid
            rw [hlen]
            simpa [Nat.blt_eq] using this }⟩
    · exact ⟨G, hR⟩
theorem dropB_len {N n : Nat} {s : St} (h : n ≤ s.heap.length) (hN : n ≤ N) : n ≤ (dropB N s).heap.length := by
  unfold dropB
  split
  · exact h
  · split
    · simp only [List.length_take]; omega
    · exact h
theorem awp_nb {X : Cx} {c : Code} {Q : Exit → St → Prop} {s : St} (h : X.nb ≤ s.heap.length → AWP X c Q s) : AWP X c Q s := fun bs w G a hR =>
  h (by rw [← hR.base]; exact hR.later.len) bs w G a hR
theorem awp_post {X : Cx} {c : Code} {Q : Exit → St → Prop} {s : St} (h : AWP X c (fun e t => ∃ t', Ent X t t' ∧ Q e t') s) : AWP X c Q s := fun bs w G a hR => by
  refine wpIn_mono (h bs w G a hR) ?_
  rintro e a' w' ⟨t, G1, ⟨t', he, hq⟩, hR'⟩
  obtain ⟨G2, hR2⟩ := he bs w' G1 a' hR'
  exact ⟨t', G2, hq, hR2⟩

mutual
/-- rd: in a round of a range over a function. -/
def xC (X : Tx) (L : List Nat) (KT : List (List Nat)) : Nat → Bool → Nat → List Nat → Code → St → Option (Exit × St)
  | 0, _, _, _, _, _ => none
  | n + 1, rd, nt, K, c, s => match c with
    | .skip => some (.normal, s)
    | .label _ => some (.normal, s)
    | .exit id => some (.exit id, s)
    | .ret => some (.ret, s)
    | .seq x y => match xC X L KT n rd nt K x s with
      | some (.normal, s') => xC X L KT n rd nt K y s'
      | o => o
    | .block id c => match xC X L KT n rd nt K c s with
      | some (.exit id', s') => some (if id' = id then .normal else .exit id', s')
      | o => o
    | .scope c => match xC X L KT n rd nt K c s with
      | some (.goto _, _) => none
      | o => o
    | .cond c x y => match (evB s) c with
      | .c (.d (.bool true)) => xC X L KT n rd nt K x s
      | .c (.d (.bool false)) => xC X L KT n rd nt K y s
      | _ => none
    | .loop c => match xC X L KT n rd nt K c s with
      | some (.normal, s') => xC X L KT n rd nt K (.loop c) (dropB s.heap.length s')
      | o => o
    | .region id ops d => match (match d with | true => xP X L KT n (m3of ops) s.heap.length (holed (m3of ops) (countMk ops.toList) s).heap.length ops 0 s.heap.length ops.toList [] (holed (m3of ops) (countMk ops.toList) s) | false => xO X L KT n ops ops.toList s) with
      | some s' => some (.normal, trimM (maskOf K id) s')
      | none => none
    | .rangeFunc g ps assign body => match rd, fnOf ((evB s) g) with
      | false, some (gf, caps) => match xF X L KT n gf (.c (.yd (s.heap.length + 1)) :: caps.map .c) (overH s nt ps assign body) with
        | some (_, H2) => match overE (s.heap.length + 1) s H2 with
          | some (none, s') => some (.normal, s')
          | some (some c, s') => match okX nt c with
            | true => xC X L KT n rd nt K c s'
            | false => none
          | none => none
        | none => none
      | _, _ => none
    | _ => none
def xO (X : Tx) (L : List Nat) (KT : List (List Nat)) : Nat → Array Oper → List Oper → St → Option St
  | 0, _, _, _ => none
  | _ + 1, _, [], s => some s
  | n + 1, all, o :: os, s => match guardOf all (getB s.slots) o with
    | some true => match op1 X s.heap (evB s) o.op with
      | some (true, x, H') => xO X L KT n all os (putB s o.dst x H')
      | some (false, _, _) => none
      | none => match calleeOf (evB s) o with
        | some (g, args) => match (match KT.getD (g + 500) [] with | [] => xD X L KT n g args | _ => none) with
          | some y => xO X L KT n all os (putB s o.dst y s.heap)
          | none => match xF X L KT n g args s.heap with
            | some (x, H') => xO X L KT n all os (putB s o.dst x H')
            | none => none
        | none => match ydOf (evB s) s.heap o with
          | some (id, r, args) => match xC X L KT n true r.nt [] r.assign { slots := putPs r.ps.toList args r.slots, heap := s.heap, marks := [] } with
            | some (.normal, t) => match busyH id t with
              | some t' => match xC X L KT n true r.nt [] r.body t' with
                | some (e, t2) => match jOf e with
                  | some j => match endR id t2.heap j with
                    | some H' => xO X L KT n all os (putB s o.dst (B j.isNone) H')
                    | none => none
                  | none => none
                | none => none
              | none => none
            | _ => none
          | none => none
    | some false => xO X L KT n all os (putB s o.dst (.tup []) s.heap)
    | none => none
/-- A drawn region; hc: the next hole. -/
def xP (X : Tx) (L : List Nat) (KT : List (List Nat)) : Nat → Bool → Nat → Nat → Array Oper → Nat → Nat → List Oper → List Note → St → Option St
  | 0, _, _, _, _, _, _, _, _, _ => none
  | _ + 1, m3, _, _, all, _, _, [], acc, s => if pairsOk m3 all acc then some s else none
  | n + 1, m3, n0, N0, all, k, hc, o :: os, acc, s => match guardOf all (getB s.slots) o with
    | some true => match m3 && makes (evB s) o.op with
      | true => match mkOf X (evB s) o.op, s.heap[hc]? with
        | some (mk, b), some .gone => if decide (n0 ≤ hc) && b.newB hc N0 then xP X L KT n m3 n0 N0 all (k + 1) (hc + 1) os (addN m3 n0 k (.c (mk.at hc)) (.put hc b) (.blk hc) acc) (putB s o.dst (.c (mk.at hc)) (s.heap.set hc b)) else none
        | _, _ => none
      | false => match op1 X s.heap (evB s) o.op with
        | some (true, x, H') => xP X L KT n m3 n0 N0 all (k + 1) hc os (addN m3 n0 k x (effOf (evB s) o.op H') (footOf X (evB s) o.op) acc) (putB s o.dst x H')
        | some (false, _, _) => none
        | none => match calleeOf (evB s) o with
          | some (g, args) => match (match KT.getD (g + 500) [] with | [] => xD X L KT n g args | _ => none) with
            | some y => xP X L KT n m3 n0 N0 all (k + 1) hc os (addN m3 n0 k y .no .none acc) (putB s o.dst y s.heap)
            | none => none
          | none => none
    | some false => xP X L KT n m3 n0 N0 all (k + 1) hc os (addN m3 n0 k (.tup []) .no .none acc) (putB s o.dst (.tup []) s.heap)
    | none => none
/-- A call of a function of data. -/
def xD (X : Tx) (L : List Nat) (KT : List (List Nat)) : Nat → FuncId → List V → Option V
  | 0, _, _ => none
  | n + 1, g, args => match dataVs args with
    | some args' => match xF X L KT n g args' [] with
      | some (x, H') => resD H' x
      | none => none
    | none => none
def xF (X : Tx) (L : List Nat) (KT : List (List Nat)) : Nat → FuncId → List V → List AB → Option (V × List AB)
  | 0, _, _, _ => none
  | n + 1, f, args, H => match L.contains f, X.P.funcs[f]? with
    | true, some fn => match fn.body with
      | some c => match decide (args.length ≤ fn.ntmps), xC X L KT n false fn.ntmps (KT.getD f []) c { slots := argS 0 args, heap := H, marks := [] } with
        | true, some (.normal, s) => xR X fn s
        | true, some (.ret, s) => xR X fn s
        | _, _ => none
      | none => none
    | _, _ => none
end
end Go.Abs
/- The executor is right. -/
namespace Go.Abs
open Go

theorem AOps.mono {X : Cx} {all : Array Oper} {Q Q' : St → Prop} (hq : ∀ s, Q s → Q' s) : ∀ {os : List Oper} {s : St}, AOps X all os Q s → AOps X all os Q' s
  | [], s, h => hq s h
  | o :: os, s, h => by
    simp only [AOps] at h ⊢
    split
    · rename_i hg; rw [hg] at h; exact OpAt.mono h fun x H' h => AOps.mono hq h
    · rename_i hg; rw [hg] at h; exact AOps.mono hq h
    · rename_i hg; rw [hg] at h; exact h
theorem DOps.mono {X : Cx} {all : Array Oper} {loud : Nat} {Q Q' : St → Prop} (hq : ∀ s, Q s → Q' s) : ∀ {os : List Oper} {k : Nat} {s : St}, DOps X all loud k os Q s → DOps X all loud k os Q' s
  | [], _, s, h => hq s h
  | o :: os, k, s, ⟨t, x, H', h1, h2, h3, h4⟩ => ⟨t, x, H', h1, h2, h3, DOps.mono hq h4⟩

theorem ydOf_spec {E : Operand → V} {H : List AB} {o : Oper} {id : Nat} {r : LR} {args : List V} (h : ydOf E H o = some (id, r, args)) :
    ∃ (x : Operand) (as : Array Operand) (ts : Array TypeId), o.op = .call { callee := .value x, args := as, argTypes := ts } ∧ E x = .c (.yd id) ∧ H[id]? = some (.lp r) ∧ as.size = r.ps.size ∧
      r.ps.toList.all (fun p => decide (p < r.nt)) = true ∧ okX r.nt r.assign = true ∧ okX r.nt r.body = true ∧ args = as.toList.map E := by
  unfold ydOf at h
  split at h
  · rename_i x as ts ho
    split at h
    · rename_i id' hx
      split at h
      · rename_i r' hid
        split at h
        · rename_i hc
          cases h
          simp only [Bool.and_eq_true, beq_iff_eq] at hc
          exact ⟨x, as, ts, ho, hx, hid, hc.1.1.1, hc.1.1.2, hc.1.2, hc.2, rfl⟩
        · cases h
      · cases h
    · cases h
  · cases h

section
variable {X : Tx} {L : List Nat} {KT : List (List Nat)}

def eq1 (e : Exit) (s : St) : Exit → St → Prop := fun e' s' => e' = e ∧ s' = s

theorem xall (hm : X.P.follows .mixedOrders = true) (hL : L.all (okFn X) = true) : ∀ (n : Nat),
    (∀ (c : Code) (s : St) (e : Exit) (s' : St) (rd : Bool) (r : Option Nat) (nb nt : Nat) (K : List Nat), xC X L KT n rd nt K c s = some (e, s') → okX nt c = true → (rd = false → r = none) → AWP (X.cx r nb nt) c (eq1 e s') s) ∧
    (∀ (all : Array Oper) (os : List Oper) (s s' : St) (r : Option Nat) (nb nt : Nat), xO X L KT n all os s = some s' → AOps (X.cx r nb nt) all os (fun t => t = s') s) ∧
    (∀ (m3 : Bool) (n0 N0 : Nat) (all : Array Oper) (os : List Oper) (acc : List Note) (s s' : St) (r : Option Nat) (nb nt k hc : Nat), xP X L KT n m3 n0 N0 all k hc os acc s = some s' → DOps2 (X.cx r nb nt) m3 n0 N0 all k os acc (fun acc t => pairsOk m3 all acc = true ∧ t = s') s) ∧
    (∀ (f : FuncId) (args : List V) (H H' : List AB) (x : V), xF X L KT n f args H = some (x, H') → ACall X.P f args H (one x H')) ∧
    (∀ (f : FuncId) (args : List V) (H : List AB) (y : V), xD X L KT n f args = some y → ACall X.P f args H (one y H)) := by
  intro n
  induction n using Nat.strongRecOn with
  | _ n ihs =>
  cases n with
  | zero => exact ⟨fun c s e s' rd r nb nt K h => by simp [xC] at h, fun all os s s' r nb nt h => by simp [xO] at h, fun m3 n0 N0 all os acc s s' r nb nt k hc h => by simp [xP] at h, fun f args H H' x h => by simp [xF] at h, fun f args H y h => by simp [xD] at h⟩
  | succ n =>
    obtain ⟨ihC, ihO, ihD, ihF, ihX⟩ := ihs n (by omega)
    refine ⟨fun c s e s' rd r nb nt K h hok hrd => ?_, fun all os s s' r nb nt h => ?_, fun m3 n0 N0 all os acc s s' r nb nt k hc h => ?_, fun f args H H' x h => ?_, fun f args H y h => ?_⟩
    · cases c with
      | skip => simp [xC] at h; obtain ⟨rfl, rfl⟩ := h; exact awp_skip ⟨rfl, rfl⟩
      | label l => simp [xC] at h; obtain ⟨rfl, rfl⟩ := h; exact awp_label ⟨rfl, rfl⟩
      | exit id => simp [xC] at h; obtain ⟨rfl, rfl⟩ := h; exact awp_exit ⟨rfl, rfl⟩
      | ret => simp [xC] at h; obtain ⟨rfl, rfl⟩ := h; exact awp_ret ⟨rfl, rfl⟩
      | seq x y =>
        simp only [okX, Bool.and_eq_true] at hok
        simp only [xC, evB_eq, get_eq, putB_eq] at h
        refine awp_seq ?_
        split at h
        · rename_i s1 h1
          refine (ihC x s _ s1 rd r nb nt _ h1 hok.1 hrd).mono fun e' t ⟨e1, e2⟩ => ?_
          subst e1; subst e2
          exact ihC y _ e s' rd r nb nt _ h hok.2 hrd
        · rename_i o hne
          refine (ihC x s e s' rd r nb nt _ h hok.1 hrd).mono fun e' t ⟨e1, e2⟩ => ?_
          subst e1; subst e2
          cases e' with
          | normal => exact absurd h (hne _)
          | _ => exact ⟨rfl, rfl⟩
      | block id c =>
        simp only [xC, evB_eq, get_eq, putB_eq] at h
        refine awp_block ?_
        split at h
        · rename_i id' s1 h1
          simp at h
          obtain ⟨h2, rfl⟩ := h
          refine (ihC c s _ s1 rd r nb nt _ h1 hok hrd).mono fun e' t ⟨e1, e2⟩ => ?_
          subst e1; subst e2
          simp only [blockQ]
          by_cases hid : id' = id
          · rw [if_pos hid] at h2 ⊢; exact ⟨h2, rfl⟩
          · rw [if_neg hid] at h2 ⊢; exact ⟨h2, rfl⟩
        · rename_i o hne
          refine (ihC c s e s' rd r nb nt _ h hok hrd).mono fun e' t ⟨e1, e2⟩ => ?_
          subst e1; subst e2
          cases e' with
          | exit id' => exact absurd h (hne _ _)
          | _ => exact ⟨rfl, rfl⟩
      | scope c =>
        simp only [xC, evB_eq, get_eq, putB_eq] at h
        split at h
        · cases h
        · rename_i o hne
          refine awp_scope ((ihC c s e s' rd r nb nt _ h hok hrd).mono fun e' t ⟨e1, e2⟩ => ?_)
          subst e1; subst e2
          cases e' with
          | goto l => exact absurd h (hne _ _)
          | _ => exact ⟨rfl, rfl⟩
      | cond c x y =>
        simp only [okX, Bool.and_eq_true] at hok
        simp only [xC, evB_eq, get_eq, putB_eq] at h
        split at h
        · rename_i hc
          exact awp_cond hc (fun _ => ihC x s e s' rd r nb nt _ h hok.1 hrd) (fun e => by cases e)
        · rename_i hc
          exact awp_cond hc (fun e => by cases e) (fun _ => ihC y s e s' rd r nb nt _ h hok.2 hrd)
        · cases h
      | loop c =>
        refine awp_loop (fun m t => m ≤ n ∧ xC X L KT (m + 1) rd nt K (.loop c) t = some (e, s')) n ⟨Nat.le_refl _, h⟩ ?_
        rintro m t ⟨hmn, ht⟩
        refine awp_nb (fun hnb => ?_)
        have ihm := (ihs m (by omega)).1
        simp only [xC, evB_eq, get_eq, putB_eq] at ht
        split at ht
        · rename_i s1 h1
          refine awp_post ((ihm c t _ s1 rd r nb nt K h1 hok hrd).mono fun e' u ⟨e1, e2⟩ => ⟨_, ent_dropB u hnb, ?_⟩)
          subst e1; subst e2
          cases m with
          | zero => simp [xC] at ht
          | succ m => exact ⟨m, by omega, by omega, ht⟩
        · rename_i o hne
          refine (ihm c t e s' rd r nb nt K ht hok hrd).mono fun e' u ⟨e1, e2⟩ => ?_
          subst e1; subst e2
          cases e' with
          | normal => exact absurd ht (hne _)
          | _ => exact ⟨rfl, rfl⟩
      | region id ops d =>
        cases d with
        | false =>
          simp only [xC, evB_eq, get_eq, putB_eq] at h
          split at h
          · rename_i s1 h1
            simp at h
            obtain ⟨rfl, rfl⟩ := h
            exact awp_post (awp_region (X := X.cx r nb nt) (Q := fun e t => ∃ t', Ent (X.cx r nb nt) t t' ∧ eq1 .normal (trimM (maskOf K id) s1) e t') hok ((ihO ops _ s s1 r nb nt h1).mono fun t ht => ⟨_, ent_trimM (maskOf K id) t, rfl, by rw [ht]⟩))
          · cases h
        | true =>
          simp only [xC, evB_eq, get_eq, putB_eq] at h
          split at h
          · rename_i s1 h1
            simp at h
            obtain ⟨rfl, rfl⟩ := h
            simp only [okX, Bool.and_eq_true] at hok
            exact awp_post (awp_region_drawn2 (X := X.cx r nb nt) (Q := fun e t => ∃ t', Ent (X.cx r nb nt) t t' ∧ eq1 .normal (trimM (maskOf K id) s1) e t') (m3of ops) (countMk ops.toList) hm hok.1 hok.2 ((ihD _ _ _ ops _ [] _ s1 r nb nt 0 _ h1).mono fun a t ⟨h2, ht⟩ => ⟨h2, _, ent_trimM (maskOf K id) t, rfl, by rw [ht]⟩))
          · cases h
      | rangeFunc g ps assign body =>
        rw [xC.eq_def] at h
        dsimp only at h
        rw [evB_eq] at h
        split at h
        · rename_i gf caps hg
          have hr := hrd rfl
          have hg' : s.ev g = .c (.fn (.func gf) caps) := by
            unfold fnOf at hg
            split at hg
            · rename_i g' caps' he; cases hg; exact he
            · cases hg
          split at h
          · rename_i x H2 hx
            have hcall := ihF gf _ _ H2 x hx
            have hover : ∀ (j : Option Code) (s1 : St), overE (s.heap.length + 1) s H2 = some (j, s1) → (match j with | none => eq1 e s' .normal s1 | some c => AWP (X.cx r nb nt) c (eq1 e s') s1) → overK (X.cx r nb nt) (s.heap.length + 1) (eq1 e s') s H2 := by
              intro j s1 h1 h2
              unfold overE at h1
              unfold overK
              split at h1
              · rename_i r2 hid
                rw [hid]
                split at h1
                · cases h1
                · rename_i hnb
                  simp only [Option.some.injEq, Prod.mk.injEq] at h1
                  obtain ⟨rfl, rfl⟩ := h1
                  exact ⟨fun e => hnb e, h2⟩
              · cases h1
            split at h
            · rename_i s1 h1
              simp at h
              obtain ⟨rfl, rfl⟩ := h
              exact awp_rangeFunc hr hg' (hcall.mono fun y H3 ⟨_, e2⟩ => by subst e2; exact hover none _ h1 ⟨rfl, rfl⟩)
            · rename_i c s1 h1
              split at h
              · rename_i hokc
                exact awp_rangeFunc hr hg' (hcall.mono fun y H3 ⟨_, e2⟩ => by subst e2; exact hover (some c) _ h1 (ihC c s1 e s' _ r nb nt K h hokc hrd))
              · cases h
            · cases h
          · cases h
        · cases h
      | _ => simp [xC] at h
    · cases os with
      | nil => simp [xO] at h; exact h
      | cons o os =>
        simp only [xO, evB_eq, get_eq, putB_eq] at h
        simp only [AOps]
        split at h
        · rename_i hg
          rw [hg]
          simp only
          split at h
          · rename_i x H' hop
            exact (op1_sound _ hop).mono fun y H2 ⟨e1, e2⟩ => by subst e1; subst e2; exact ihO all os _ s' r nb nt h
          · cases h
          · split at h
            · rename_i g args hc
              split at h
              · rename_i y hy
                have hy : xD X L KT n g args = some y := by
                  split at hy
                  · exact hy
                  · cases hy
                exact (opAt_of_callee hc (ihX g args s.heap y hy)).mono fun z H2 ⟨e1, e2⟩ => by subst e1; subst e2; exact ihO all os _ s' r nb nt h
              · split at h
                · rename_i x H' hx
                  exact (opAt_of_callee hc (ihF g args s.heap H' x hx)).mono fun z H2 ⟨e1, e2⟩ => by subst e1; subst e2; exact ihO all os _ s' r nb nt h
                · cases h
            · split at h
              · rename_i id r2 args hy
                obtain ⟨x, as, ts, ho, hx, hid, hsz, hnt, ha, hb, rfl⟩ := ydOf_spec hy
                split at h
                · rename_i t h1
                  split at h
                  · rename_i t' h2
                    split at h
                    · rename_i e2 t2 h3
                      split at h
                      · rename_i j hj
                        split at h
                        · rename_i H' h4
                          refine opAt_yield (tt := X.tt) (post := fun x H2 => AOps (X.cx r nb nt) all os (fun t => t = s') (s.put o.dst x H2)) ho hx hid hsz hnt (fun l => ?_)
                          refine (ihC _ _ _ t true (some l) s.heap.length r2.nt _ h1 ha (fun e => by cases e)).mono fun e' u ⟨e1, e3⟩ => ?_
                          subst e1; subst e3
                          refine ⟨t', h2, (ihC _ _ e2 t2 true (some l) s.heap.length r2.nt _ h3 hb (fun e => by cases e)).mono fun e' u ⟨e1, e3⟩ => ?_⟩
                          subst e1; subst e3
                          have hk := ihO all os _ s' r nb nt h
                          cases e' with
                          | normal => simp [jOf] at hj; subst hj; exact ⟨H', h4, hk⟩
                          | ret => simp [jOf] at hj; subst hj; exact ⟨H', h4, hk⟩
                          | exit i => simp [jOf] at hj; subst hj; exact ⟨H', h4, hk⟩
                          | goto i => simp [jOf] at hj; subst hj; exact ⟨H', h4, hk⟩
                          | _ => simp [jOf] at hj
                        · cases h
                      · cases h
                    · cases h
                  · cases h
                · cases h
              · cases h
        · rename_i hg
          rw [hg]
          exact ihO all os _ s' r nb nt h
        · cases h
    · cases os with
      | nil =>
        simp only [xP, evB_eq, get_eq, putB_eq] at h
        split at h
        · rename_i hp; simp at h; exact ⟨hp, h⟩
        · cases h
      | cons o os =>
        simp only [xP, evB_eq, get_eq, putB_eq] at h
        split at h
        · rename_i hg
          split at h
          · rename_i hmk
            simp only [Bool.and_eq_true] at hmk
            split at h
            · rename_i mk b hm1 hgone
              split at h
              · rename_i hc0
                simp only [Bool.and_eq_true, decide_eq_true_eq] at hc0
                obtain ⟨g1, g2⟩ := AB.newB_spec hc0.2
                obtain ⟨f1', f2⟩ := mkOf_spec hm1
                refine ⟨true, _, .put hc b, .blk hc, hg, ?_, kindP_mk hmk.1 f1', ihD m3 n0 N0 all os _ _ s' r nb nt (k + 1) _ h⟩
                simp only [if_true]
                exact .inr ⟨mk, b, rfl, rfl, hgone, rfl, hc0.1, g1, g2, fun H2 _ => op1_sound _ (f2 H2)⟩
              · cases h
            · cases h
          · rename_i hmk
            split at h
            · rename_i x H' hop
              obtain ⟨f1, f2⟩ := op1_foot hop
              refine ⟨true, x, effOf s.ev o.op H', footOf X s.ev o.op, hg, ?_, kindP_of m3 (fun h3 => makes_not (by rw [h3] at hmk; simpa using hmk)) hop, ?_⟩
              · simp only [if_true]
                unfold StepP
                rw [effOf_hole]
                exact fun H2 hs => op1_sound _ (f1 H2 hs)
              · rw [f2]; exact ihD m3 n0 N0 all os _ _ s' r nb nt (k + 1) _ h
            · cases h
            · split at h
              · rename_i g args hcl
                split at h
                · rename_i y hy
                  have hy : xD X L KT n g args = some y := by
                    split at hy
                    · exact hy
                    · cases hy
                  refine ⟨true, y, .no, .none, hg, ?_, kindP_no _ _, ihD m3 n0 N0 all os _ _ s' r nb nt (k + 1) _ h⟩
                  simp only [if_true]; exact fun H2 _ => opAt_of_callee hcl (ihX g args H2 y hy)
                · cases h
              · cases h
        · rename_i hg
          exact ⟨false, .tup [], .no, .none, hg, by simp, kindP_no _ _, ihD m3 n0 N0 all os _ _ s' r nb nt (k + 1) _ h⟩
        · cases h
    · simp only [xF] at h
      split at h
      · rename_i fn hc hf
        have hok := List.all_eq_true.1 hL f (by simpa using hc)
        simp only [okFn, hf] at hok
        split at h
        · rename_i c hb
          simp only [hb, Bool.and_eq_true] at hok
          have fin : ∀ (e : Exit) (s : St), (e = .normal ∨ e = .ret) → args.length ≤ fn.ntmps → xC X L KT n false fn.ntmps (KT.getD f []) c { slots := argS 0 args, heap := H, marks := [] } = some (e, s) → xR X fn s = some (x, H') → ACall X.P f args H (one x H') := by
            intro e s he hlen hx hr
            refine acall_of_awp (X := X) (nt := fn.ntmps) hf hb hok.2 (by omega) ((ihC c _ e s false none H.length fn.ntmps _ hx hok.1 (fun _ => rfl)).mono fun e' t ⟨e1, e2⟩ => ?_)
            subst e1; subst e2
            unfold xR at hr
            split at hr
            · rename_i H1 hp
              split at hr
              · rename_i xs hxs
                cases hr
                rcases he with rfl | rfl <;> exact ⟨H', xs, hp, hxs, rfl, rfl⟩
              · cases hr
            · cases hr
          split at h
          · rename_i s h1 h2
            exact fin _ s (.inl rfl) (by simpa using h1) h2 h
          · rename_i s h1 h2
            exact fin _ s (.inr rfl) (by simpa using h1) h2 h
          · cases h
        · cases h
      · cases h
    · simp only [xD] at h
      split at h
      · rename_i args' hd
        split at h
        · rename_i x H' hx
          obtain ⟨e1, e2⟩ := dataVs_wk hd
          exact ((ACall.resD (ihF f args' [] H' x hx) h (lowL_all e2)).at H).weak e1
        · cases h
      · cases h
end

/-- A call that the kernel runs. -/
theorem pure_run {X : Tx} (L : List Nat) (KT : List (List Nat)) (n : Nat) {f : FuncId} {args : List V} {x y : V} {H' : List AB} (hm : X.P.follows .mixedOrders = true) (hL : L.all (okFn X) = true) (h : xF X L KT n f args [] = some (x, H')) (hd : resD H' x = some y) (ha : args.all (V.low 0) = true) : Pure X.P f args y :=
  ACall.resD ((xall (KT := KT) hm hL n).2.2.2.1 f args [] H' x h) hd ha
/-- What a call of data hands back, run by the kernel. -/
def xRes (X : Tx) (L : List Nat) (KT : List (List Nat)) (n : Nat) (f : FuncId) (args : List V) : Option V := match xF X L KT n f args [] with
  | some (x, H) => resD H x
  | none => none
theorem pure_res {X : Tx} (L : List Nat) (KT : List (List Nat)) (n : Nat) {f : FuncId} {args : List V} {y : V} (hm : X.P.follows .mixedOrders = true) (hL : L.all (okFn X) = true) (h : xRes X L KT n f args = some y) (ha : args.all (V.low 0) = true) : Pure X.P f args y := by
  unfold xRes at h
  split at h
  · rename_i x H hx; exact pure_run L KT n hm hL hx h ha
  · cases h
mutual
def D.eqb : D → D → Bool
  | .int k n, .int k' n' => k == k' && n == n'
  | .bool b, .bool b' => b == b'
  | .sl r, .sl r' => D.eqbR r r'
  | _, _ => false
def D.eqbR : List (List D) → List (List D) → Bool
  | [], [] => true
  | r :: rs, r' :: rs' => D.eqbL r r' && D.eqbR rs rs'
  | _, _ => false
def D.eqbL : List D → List D → Bool
  | [], [] => true
  | d :: ds, d' :: ds' => D.eqb d d' && D.eqbL ds ds'
  | _, _ => false
end
mutual
theorem D.eqb_eq : ∀ {a b : D}, D.eqb a b = true → a = b
  | .int k n, .int k' n', h => by simp [D.eqb] at h; rw [h.1, h.2]
  | .bool b, .bool b', h => by simp [D.eqb] at h; rw [h]
  | .sl r, .sl r', h => by simp only [D.eqb] at h; rw [D.eqbR_eq h]
  | .int _ _, .bool _, h => by simp [D.eqb] at h
  | .int _ _, .sl _, h => by simp [D.eqb] at h
  | .bool _, .int _ _, h => by simp [D.eqb] at h
  | .bool _, .sl _, h => by simp [D.eqb] at h
  | .sl _, .int _ _, h => by simp [D.eqb] at h
  | .sl _, .bool _, h => by simp [D.eqb] at h
theorem D.eqbR_eq : ∀ {a b : List (List D)}, D.eqbR a b = true → a = b
  | [], [], _ => rfl
  | r :: rs, r' :: rs', h => by simp only [D.eqbR, Bool.and_eq_true] at h; rw [D.eqbL_eq h.1, D.eqbR_eq h.2]
  | [], _ :: _, h => by simp [D.eqbR] at h
  | _ :: _, [], h => by simp [D.eqbR] at h
theorem D.eqbL_eq : ∀ {a b : List D}, D.eqbL a b = true → a = b
  | [], [], _ => rfl
  | r :: rs, r' :: rs', h => by simp only [D.eqbL, Bool.and_eq_true] at h; rw [D.eqb_eq h.1, D.eqbL_eq h.2]
  | [], _ :: _, h => by simp [D.eqbL] at h
  | _ :: _, [], h => by simp [D.eqbL] at h
end
def C.eqb : C → C → Bool
  | .d x, .d y => D.eqb x y
  | .nilp, .nilp => true
  | .dp x, .dp y => D.eqbL x y
  | .full x, .full y => D.eqbR x y
  | _, _ => false
theorem C.eqb_eq {a b : C} (h : C.eqb a b = true) : a = b := by
  cases a <;> cases b <;> simp [C.eqb] at h ⊢
  · exact D.eqb_eq h
  · exact D.eqbL_eq h
  · exact D.eqbR_eq h
def C.eqbL : List C → List C → Bool
  | [], [] => true
  | x :: xs, y :: ys => C.eqb x y && C.eqbL xs ys
  | _, _ => false
theorem C.eqbL_eq : ∀ {a b : List C}, C.eqbL a b = true → a = b
  | [], [], _ => rfl
  | r :: rs, r' :: rs', h => by simp only [C.eqbL, Bool.and_eq_true] at h; rw [C.eqb_eq h.1, C.eqbL_eq h.2]
  | [], _ :: _, h => by simp [C.eqbL] at h
  | _ :: _, [], h => by simp [C.eqbL] at h
mutual
def V.eqb : V → V → Bool
  | .c x, .c y => C.eqb x y
  | .agg x, .agg y => C.eqbL x y
  | .tup x, .tup y => V.eqbL x y
  | _, _ => false
def V.eqbL : List V → List V → Bool
  | [], [] => true
  | x :: xs, y :: ys => V.eqb x y && V.eqbL xs ys
  | _, _ => false
end
mutual
theorem V.eqb_eq : ∀ {a b : V}, V.eqb a b = true → a = b
  | .c x, .c y, h => by simp only [V.eqb] at h; rw [C.eqb_eq h]
  | .agg x, .agg y, h => by simp only [V.eqb] at h; rw [C.eqbL_eq h]
  | .tup x, .tup y, h => by simp only [V.eqb] at h; rw [V.eqbL_eq h]
  | .c _, .agg _, h => by simp [V.eqb] at h
  | .c _, .tup _, h => by simp [V.eqb] at h
  | .agg _, .c _, h => by simp [V.eqb] at h
  | .agg _, .tup _, h => by simp [V.eqb] at h
  | .tup _, .c _, h => by simp [V.eqb] at h
  | .tup _, .agg _, h => by simp [V.eqb] at h
theorem V.eqbL_eq : ∀ {a b : List V}, V.eqbL a b = true → a = b
  | [], [], _ => rfl
  | r :: rs, r' :: rs', h => by simp only [V.eqbL, Bool.and_eq_true] at h; rw [V.eqb_eq h.1, V.eqbL_eq h.2]
  | [], _ :: _, h => by simp [V.eqbL] at h
  | _ :: _, [], h => by simp [V.eqbL] at h
end
/-- It is this. -/
def isV (y : V) : Option V → Bool
  | some x => V.eqb x y
  | none => false
theorem isV_eq {y : V} {o : Option V} (h : isV y o = true) : o = some y := by
  cases o with
  | none => simp [isV] at h
  | some x => rw [V.eqb_eq h]
def isB (b : Bool) : Option (V × List AB) → Bool
  | some (.c (.d (.bool c)), _) => c == b
  | _ => false
theorem pure_bool {X : Tx} (L : List Nat) (KT : List (List Nat)) (n : Nat) {f : FuncId} {args : List V} {b : Bool} (hm : X.P.follows .mixedOrders = true) (hL : L.all (okFn X) = true) (h : isB b (xF X L KT n f args []) = true) (ha : args.all (V.low 0) = true) : Pure X.P f args (B b) := by
  unfold isB at h
  split at h
  · rename_i c H' hx
    have hc : c = b := by simpa using h
    subst hc
    exact pure_run L KT n hm hL hx rfl ha
  · cases h
end Go.Abs
