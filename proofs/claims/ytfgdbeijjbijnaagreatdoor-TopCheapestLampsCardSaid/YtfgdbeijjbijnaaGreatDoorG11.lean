/- An executor on abstract states, for calls at given data: the kernel runs it. -/
import Derived.Test.YtfgdbeijjbijnaaGreatDoorG07
import Derived.Test.YtfgdbeijjbijnaaGreatDoorG10
set_option linter.unusedSimpArgs false
set_option linter.unusedVariables false
namespace Go.Abs
open Go

/-! ### Data out of what comes back -/
def dataC (x : C) : Option C := if x.low 0 then some x else match x with
  | .own _ r => some (.d (.sl r))
  | _ => none
def dataCs : List C → Option (List C)
  | [] => some []
  | c :: cs => match dataC c, dataCs cs with
    | some x, some xs => some (x :: xs)
    | _, _ => none
def dataS : V → Option V
  | .c x => (dataC x).map .c
  | .agg cs => (dataCs cs).map .agg
  | .tup _ => none
def dataVs : List V → Option (List V)
  | [] => some []
  | v :: vs => match dataS v, dataVs vs with
    | some x, some xs => some (x :: xs)
    | _, _ => none
theorem dataC_wk {x y : C} (h : dataC x = some y) : WkC x y ∧ y.low 0 = true := by
  unfold dataC at h
  split at h
  · rename_i hl; cases h; exact ⟨.refl _, hl⟩
  · split at h
    · cases h; exact ⟨.own _ _, rfl⟩
    · cases h
theorem dataCs_wk : ∀ {x y : List C}, dataCs x = some y → WkCs x y ∧ C.lowL 0 y = true
  | [], y, h => by simp [dataCs] at h; subst h; exact ⟨.nil, rfl⟩
  | c :: cs, y, h => by
    simp only [dataCs] at h
    split at h
    · rename_i a b h1 h2
      cases h
      obtain ⟨e1, e2⟩ := dataC_wk h1
      obtain ⟨e3, e4⟩ := dataCs_wk h2
      exact ⟨.cons e1 e3, by simp [C.lowL, e2, e4]⟩
    · cases h
theorem dataS_wk {x y : V} (h : dataS x = some y) : WkV x y ∧ y.low 0 = true := by
  cases x with
  | c x =>
    simp only [dataS, Option.map_eq_some_iff] at h
    obtain ⟨z, h1, rfl⟩ := h
    obtain ⟨e1, e2⟩ := dataC_wk h1
    exact ⟨.c e1, e2⟩
  | agg cs =>
    simp only [dataS, Option.map_eq_some_iff] at h
    obtain ⟨z, h1, rfl⟩ := h
    obtain ⟨e1, e2⟩ := dataCs_wk h1
    exact ⟨.agg e1, e2⟩
  | tup vs => simp [dataS] at h
theorem dataVs_wk : ∀ {x y : List V}, dataVs x = some y → WkVs x y ∧ V.lowL 0 y = true
  | [], y, h => by simp [dataVs] at h; subst h; exact ⟨.nil, rfl⟩
  | c :: cs, y, h => by
    simp only [dataVs] at h
    split at h
    · rename_i a b h1 h2
      cases h
      obtain ⟨e1, e2⟩ := dataS_wk h1
      obtain ⟨e3, e4⟩ := dataVs_wk h2
      exact ⟨.cons e1 e3, by simp [V.lowL, e2, e4]⟩
    · cases h
theorem lowL_all : ∀ {l : List V}, V.lowL 0 l = true → l.all (V.low 0) = true
  | [], _ => rfl
  | v :: l, h => by simp [V.lowL] at h; simp [h.1]; simpa using lowL_all h.2
/-! ### The executor -/
def okFn (X : Tx) (f : Nat) : Bool := match X.P.funcs[f]? with
  | some fn => match fn.body with
    | some c => okX fn.ntmps c && notNum fn
    | none => false
  | none => false

/-- Which jump a round leaves. -/
def jOf : Exit → Option (Option Code)
  | .normal => some none
  | .ret => some (some .ret)
  | .exit i => some (some (.exit i))
  | .goto i => some (some (.goto i))
  | _ => none
/-- A call of yield. -/
def ydOf (E : Operand → V) (H : List AB) (o : Oper) : Option (Nat × LR × List V) :=
  match o.op with
  | .call { callee := .value x, args := as, argTypes := _ } => match E x with
    | .c (.yd id) => match H[id]? with
      | some (.lp r) => if as.size == r.ps.size && r.ps.toList.all (fun p => decide (p < r.nt)) && okX r.nt r.assign && okX r.nt r.body then some (id, r, as.toList.map E) else none
      | _ => none
    | _ => none
  | _ => none
/-- Behind a range over a function. -/
def overE (id : Nat) (s : St) (H2 : List AB) : Option (Option Code × St) := match H2[id]? with
  | some (.lp r) => match r.state with
    | .busy => none
    | _ => some (r.pend, { slots := s.slots, heap := H2.set id (.lp { r with state := .exhausted }), marks := s.heap.length :: s.marks })
  | _ => none
def xR (X : Tx) (fn : Func) (s : St) : Option (V × List AB) := match popM s.marks s.heap with
  | some H => match resList X { s with heap := H } fn.results.toList with
    | some xs => some (resV xs, H)
    | none => none
  | none => none
def fnOf : V → Option (FuncId × List C)
  | .c (.fn (.func g) caps) => some (g, caps)
  | _ => none
/-! ### The executor's slots: looked up by a test that the kernel does fast; what is not read any more is dropped -/
def getB : List (Nat × V) → Nat → V
  | [], _ => .c .any
  | (i, v) :: r, j => match Nat.beq i j with
    | true => v
    | false => getB r j
def setB : List (Nat × V) → Nat → V → List (Nat × V)
  | [], j, x => [(j, x)]
  | (i, v) :: r, j, x => match Nat.beq i j with
    | true => (i, x) :: r
    | false => (i, v) :: setB r j x
theorem getB_eq : ∀ (l : List (Nat × V)) (j : Nat), getB l j = getS l j
  | [], _ => rfl
  | (i, v) :: r, j => by
    simp only [getB, getS]
    by_cases h : i = j
    · subst h; simp
    · rw [if_neg h, getB_eq r j]
      have : Nat.beq i j = false := by cases hb : Nat.beq i j with | false => rfl | true => exact absurd (Nat.eq_of_beq_eq_true hb) h
      rw [this]
theorem setB_eq : ∀ (l : List (Nat × V)) (j : Nat) (x : V), setB l j x = setS l j x
  | [], _, _ => rfl
  | (i, v) :: r, j, x => by
    simp only [setB, setS]
    by_cases h : i = j
    · subst h; simp
    · rw [if_neg h, setB_eq r j x]
      have : Nat.beq i j = false := by cases hb : Nat.beq i j with | false => rfl | true => exact absurd (Nat.eq_of_beq_eq_true hb) h
      rw [this]
def evB (s : St) : Operand → V := evS (getB s.slots)
def putB (s : St) (dst : Option Nat) (x : V) (H : List AB) : St :=
  { slots := match dst with | some j => setB s.slots j x | none => s.slots, heap := H, marks := s.marks }
theorem get_eq (s : St) : getB s.slots = s.get := funext fun j => getB_eq s.slots j
theorem evB_eq (s : St) : evB s = s.ev := by unfold evB; rw [get_eq]; rfl
theorem putB_eq (s : St) (dst : Option Nat) (x : V) (H : List AB) : putB s dst x H = s.put dst x H := by
  cases dst with
  | none => rfl
  | some j => simp only [putB, St.put, setB_eq]
/-- The slots of a mask; 0: all. -/
def trimM (m : Nat) (s : St) : St := match Nat.beq m 0 with
  | true => s
  | false => { slots := s.slots.filter fun p => m.testBit p.1, heap := s.heap, marks := s.marks }
def maskOf : List Nat → Nat → Nat
  | [], _ => 0
  | a :: _, 0 => a
  | _ :: r, i + 1 => maskOf r i
theorem getS_filter (m : Nat) (i : Nat) : ∀ l : List (Nat × V), getS (l.filter fun p => m.testBit p.1) i = getS l i ∨ getS (l.filter fun p => m.testBit p.1) i = .c .any
  | [] => .inr rfl
  | (j, v) :: l => by
    by_cases hb : m.testBit j = true
    · rw [List.filter_cons_of_pos (by simpa using hb)]
      simp only [getS]
      by_cases h : j = i
      · simp [h]
      · rw [if_neg h, if_neg h]; exact getS_filter m i l
    · rw [List.filter_cons_of_neg (by simpa using hb)]
      by_cases h : j = i
      · subst h
        right
        have : ∀ l : List (Nat × V), getS (l.filter fun p => m.testBit p.1) j = .c .any := by
          intro l
          induction l with
          | nil => rfl
          | cons p l ih =>
            obtain ⟨k, u⟩ := p
            by_cases hk : m.testBit k = true
            · rw [List.filter_cons_of_pos (by simpa using hk)]
              simp only [getS]
              rw [if_neg (fun e => hb (by rw [← e]; exact hk))]; exact ih
            · rw [List.filter_cons_of_neg (by simpa using hk)]; exact ih
        exact this l
      · have h2 : getS ((j, v) :: l) i = getS l i := by simp only [getS, if_neg h]
        rw [h2]; exact getS_filter m i l
theorem ent_trimM {X : Cx} (m : Nat) (t : St) : Ent X t (trimM m t) := fun bs w G a hR => by
  unfold trimM
  split
  · exact ⟨G, hR⟩
  · refine ⟨G, { rel := hR.rel, later := hR.later, base := hR.base, size := hR.size, slots := fun i => ?_, defers := hR.defers, marks := hR.marks }⟩
    show VRel w G t.heap (getS (t.slots.filter fun p => m.testBit p.1) i) _
    rcases getS_filter m i t.slots with h | h
    · rw [h]; exact hR.slots i
    · rw [h]; exact .c _ _ (.any _)
/-- The blocks behind a place are dropped, if nobody names them. -/
def dropB (N : Nat) (s : St) : St := match Nat.blt N s.heap.length with
  | false => s
  | true => match (s.heap.take N).all (AB.low N) && (s.slots.all (fun p => p.2.low N) && s.marks.all (fun id => Nat.blt id N)) with
    | true => { slots := s.slots, heap := s.heap.take N, marks := s.marks }
    | false => s
theorem getB_low {N : Nat} : ∀ {l : List (Nat × V)}, l.all (fun p => p.2.low N) = true → ∀ i, (getS l i).low N = true
  | [], _, _ => rfl
  | (j, v) :: l, h, i => by
    simp only [List.all_cons, Bool.and_eq_true] at h
    simp only [getS]
    split
    · exact h.1
    · exact getB_low h.2 i
theorem ent_dropB {X : Cx} {N : Nat} (s : St) (hn : X.nb ≤ N) : Ent X s (dropB N s) := fun bs w G a hR => by
  unfold dropB
  split
  · exact ⟨G, hR⟩
  · rename_i hlt
    have hlt : N < s.heap.length := by simpa [Nat.blt_eq] using hlt
    split
    · rename_i hc
      simp only [Bool.and_eq_true] at hc
      obtain ⟨h1, h2, h3⟩ := hc
      have hlen : (s.heap.take N).length = N := by rw [List.length_take]; omega
      have hh : s.heap = s.heap.take N ++ s.heap.drop N := (List.take_append_drop N s.heap).symm
      have R := hR.rel
      rw [hh] at R
      exact ⟨G,
        { rel := R.trunc (by rw [hlen]; exact h1)
          later := by have := hR.later; rw [hh] at this; exact this.trunc (by rw [hR.base, hlen]; exact hn)
          base := hR.base
          size := hR.size
          slots := fun i => by
            have := hR.slots i
            rw [hh] at this
            exact this.trunc (by rw [hlen]; exact getB_low h2 i)
          defers := hR.defers
          marks := fun id hid => by
            have := List.all_eq_true.1 h3 id hid
            rw [hlen]
            simpa [Nat.blt_eq] using this }⟩
    · exact ⟨G, hR⟩
theorem awp_nb {X : Cx} {c : Code} {Q : Exit → St → Prop} {s : St} (h : X.nb ≤ s.heap.length → AWP X c Q s) : AWP X c Q s := fun bs w G a hR =>
  h (by rw [← hR.base]; exact hR.later.len) bs w G a hR
theorem awp_post {X : Cx} {c : Code} {Q : Exit → St → Prop} {s : St} (h : AWP X c (fun e t => ∃ t', Ent X t t' ∧ Q e t') s) : AWP X c Q s := fun bs w G a hR => by
  refine wpIn_mono (h bs w G a hR) ?_
  rintro e a' w' ⟨t, G1, ⟨t', he, hq⟩, hR'⟩
  obtain ⟨G2, hR2⟩ := he bs w' G1 a' hR'
  exact ⟨t', G2, hq, hR2⟩

end Go.Abs

/- The executor is right. -/
namespace Go.Abs
open Go

theorem AOps.mono {X : Cx} {all : Array Oper} {Q Q' : St → Prop} (hq : ∀ s, Q s → Q' s) : ∀ {os : List Oper} {s : St}, AOps X all os Q s → AOps X all os Q' s
  | [], s, h => hq s h
  | o :: os, s, h => by
    simp only [AOps] at h ⊢
    split
    · rename_i hg; rw [hg] at h; exact OpAt.mono h fun x H' h => AOps.mono hq h
    · rename_i hg; rw [hg] at h; exact AOps.mono hq h
    · rename_i hg; rw [hg] at h; exact h
theorem DOps.mono {X : Cx} {all : Array Oper} {loud : Nat} {Q Q' : St → Prop} (hq : ∀ s, Q s → Q' s) : ∀ {os : List Oper} {k : Nat} {s : St}, DOps X all loud k os Q s → DOps X all loud k os Q' s
  | [], _, s, h => hq s h
  | o :: os, k, s, ⟨t, x, H', h1, h2, h3, h4⟩ => ⟨t, x, H', h1, h2, h3, DOps.mono hq h4⟩

theorem ydOf_spec {E : Operand → V} {H : List AB} {o : Oper} {id : Nat} {r : LR} {args : List V} (h : ydOf E H o = some (id, r, args)) :
    ∃ (x : Operand) (as : Array Operand) (ts : Array TypeId), o.op = .call { callee := .value x, args := as, argTypes := ts } ∧ E x = .c (.yd id) ∧ H[id]? = some (.lp r) ∧ as.size = r.ps.size ∧
      r.ps.toList.all (fun p => decide (p < r.nt)) = true ∧ okX r.nt r.assign = true ∧ okX r.nt r.body = true ∧ args = as.toList.map E := by
  unfold ydOf at h
  split at h
  · rename_i x as ts ho
    split at h
    · rename_i id' hx
      split at h
      · rename_i r' hid
        split at h
        · rename_i hc
          cases h
          simp only [Bool.and_eq_true, beq_iff_eq] at hc
          exact ⟨x, as, ts, ho, hx, hid, hc.1.1.1, hc.1.1.2, hc.1.2, hc.2, rfl⟩
        · cases h
      · cases h
    · cases h
  · cases h

section
variable {X : Tx} {L : List Nat} {KT : List (List Nat)}

def eq1 (e : Exit) (s : St) : Exit → St → Prop := fun e' s' => e' = e ∧ s' = s

end

mutual
def D.eqb : D → D → Bool
  | .int k n, .int k' n' => k == k' && n == n'
  | .bool b, .bool b' => b == b'
  | .sl r, .sl r' => D.eqbR r r'
  | .ptr r, .ptr r' => D.eqbL r r'
  | _, _ => false
def D.eqbR : List (List D) → List (List D) → Bool
  | [], [] => true
  | r :: rs, r' :: rs' => D.eqbL r r' && D.eqbR rs rs'
  | _, _ => false
def D.eqbL : List D → List D → Bool
  | [], [] => true
  | d :: ds, d' :: ds' => D.eqb d d' && D.eqbL ds ds'
  | _, _ => false
end
mutual
theorem D.eqb_eq : ∀ {a b : D}, D.eqb a b = true → a = b
  | .int k n, .int k' n', h => by simp [D.eqb] at h; rw [h.1, h.2]
  | .bool b, .bool b', h => by simp [D.eqb] at h; rw [h]
  | .sl r, .sl r', h => by simp only [D.eqb] at h; rw [D.eqbR_eq h]
  | .int _ _, .bool _, h => by simp [D.eqb] at h
  | .int _ _, .sl _, h => by simp [D.eqb] at h
  | .bool _, .int _ _, h => by simp [D.eqb] at h
  | .bool _, .sl _, h => by simp [D.eqb] at h
  | .sl _, .int _ _, h => by simp [D.eqb] at h
  | .sl _, .bool _, h => by simp [D.eqb] at h
  | .ptr r, .ptr r', h => by simp only [D.eqb] at h; rw [D.eqbL_eq h]
  | .ptr _, .int _ _, h => by simp [D.eqb] at h
  | .ptr _, .bool _, h => by simp [D.eqb] at h
  | .ptr _, .sl _, h => by simp [D.eqb] at h
  | .int _ _, .ptr _, h => by simp [D.eqb] at h
  | .bool _, .ptr _, h => by simp [D.eqb] at h
  | .sl _, .ptr _, h => by simp [D.eqb] at h
theorem D.eqbR_eq : ∀ {a b : List (List D)}, D.eqbR a b = true → a = b
  | [], [], _ => rfl
  | r :: rs, r' :: rs', h => by simp only [D.eqbR, Bool.and_eq_true] at h; rw [D.eqbL_eq h.1, D.eqbR_eq h.2]
  | [], _ :: _, h => by simp [D.eqbR] at h
  | _ :: _, [], h => by simp [D.eqbR] at h
theorem D.eqbL_eq : ∀ {a b : List D}, D.eqbL a b = true → a = b
  | [], [], _ => rfl
  | r :: rs, r' :: rs', h => by simp only [D.eqbL, Bool.and_eq_true] at h; rw [D.eqb_eq h.1, D.eqbL_eq h.2]
  | [], _ :: _, h => by simp [D.eqbL] at h
  | _ :: _, [], h => by simp [D.eqbL] at h
end
def C.eqb : C → C → Bool
  | .d x, .d y => D.eqb x y
  | .nilp, .nilp => true
  | .dp x, .dp y => D.eqbL x y
  | .full x, .full y => D.eqbR x y
  | _, _ => false
theorem C.eqb_eq {a b : C} (h : C.eqb a b = true) : a = b := by
  cases a <;> cases b <;> simp [C.eqb] at h ⊢
  · exact D.eqb_eq h
  · exact D.eqbL_eq h
  · exact D.eqbR_eq h
def C.eqbL : List C → List C → Bool
  | [], [] => true
  | x :: xs, y :: ys => C.eqb x y && C.eqbL xs ys
  | _, _ => false
theorem C.eqbL_eq : ∀ {a b : List C}, C.eqbL a b = true → a = b
  | [], [], _ => rfl
  | r :: rs, r' :: rs', h => by simp only [C.eqbL, Bool.and_eq_true] at h; rw [C.eqb_eq h.1, C.eqbL_eq h.2]
  | [], _ :: _, h => by simp [C.eqbL] at h
  | _ :: _, [], h => by simp [C.eqbL] at h
mutual
def V.eqb : V → V → Bool
  | .c x, .c y => C.eqb x y
  | .agg x, .agg y => C.eqbL x y
  | .tup x, .tup y => V.eqbL x y
  | _, _ => false
def V.eqbL : List V → List V → Bool
  | [], [] => true
  | x :: xs, y :: ys => V.eqb x y && V.eqbL xs ys
  | _, _ => false
end
mutual
theorem V.eqb_eq : ∀ {a b : V}, V.eqb a b = true → a = b
  | .c x, .c y, h => by simp only [V.eqb] at h; rw [C.eqb_eq h]
  | .agg x, .agg y, h => by simp only [V.eqb] at h; rw [C.eqbL_eq h]
  | .tup x, .tup y, h => by simp only [V.eqb] at h; rw [V.eqbL_eq h]
  | .c _, .agg _, h => by simp [V.eqb] at h
  | .c _, .tup _, h => by simp [V.eqb] at h
  | .agg _, .c _, h => by simp [V.eqb] at h
  | .agg _, .tup _, h => by simp [V.eqb] at h
  | .tup _, .c _, h => by simp [V.eqb] at h
  | .tup _, .agg _, h => by simp [V.eqb] at h
theorem V.eqbL_eq : ∀ {a b : List V}, V.eqbL a b = true → a = b
  | [], [], _ => rfl
  | r :: rs, r' :: rs', h => by simp only [V.eqbL, Bool.and_eq_true] at h; rw [V.eqb_eq h.1, V.eqbL_eq h.2]
  | [], _ :: _, h => by simp [V.eqbL] at h
  | _ :: _, [], h => by simp [V.eqbL] at h
end
/-- It is this. -/
def isV (y : V) : Option V → Bool
  | some x => V.eqb x y
  | none => false
theorem isV_eq {y : V} {o : Option V} (h : isV y o = true) : o = some y := by
  cases o with
  | none => simp [isV] at h
  | some x => rw [V.eqb_eq h]
end Go.Abs

