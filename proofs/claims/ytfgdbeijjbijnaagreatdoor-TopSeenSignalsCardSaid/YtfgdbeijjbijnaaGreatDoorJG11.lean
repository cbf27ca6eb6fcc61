/- An executor on abstract states, for calls at given data: the kernel runs it. -/
import Derived.Test.YtfgdbeijjbijnaaGreatDoorJG07
import Derived.Test.YtfgdbeijjbijnaaGreatDoorJG10
set_option linter.unusedSimpArgs false
set_option linter.unusedVariables false
namespace Go.Abs
open Go
def S4 (x : C) : Option C := if x.low 0 then some x else match x with
 | .own _ r => some (.d (.sl r))
 | _ => none
def KG : List C → Option (List C)
 | [] => some []
 | c :: cs => match S4 c, KG cs with
  | some x, some xs => some (x :: xs)
  | _, _ => none
def Ph : V → Option V
 | .c x => (S4 x).map .c
 | .agg cs => (KG cs).map .agg
 | .tup _ => none
def Il : List V → Option (List V)
 | [] => some []
 | v :: vs => match Ph v, Il vs with
  | some x, some xs => some (x :: xs)
  | _, _ => none
theorem Pi {x y : C} (h : S4 x = some y) : WkC x y ∧ y.low 0 = true := by
 unfold S4 at h
 split at h
 ·rename_i hl; cases h; exact ⟨.refl _, hl⟩
 ·split at h
  ·cases h; exact ⟨.own _ _, rfl⟩
  ·cases h
theorem MJ : ∀ {x y : List C}, KG x = some y → WkCs x y ∧ C.lowL 0 y = true
 | [], y, h => by simp [KG] at h; subst h; exact ⟨.nil, rfl⟩
 | c :: cs, y, h => by
  simp only [KG] at h
  split at h
  ·rename_i a b h1 h2
   cases h
   obtain ⟨e1, e2⟩ := Pi h1
   obtain ⟨e3, e4⟩ := MJ h2
   exact ⟨.cons e1 e3, by simp [C.lowL, e2, e4]⟩
  ·cases h
theorem Vt {x y : V} (h : Ph x = some y) : WkV x y ∧ y.low 0 = true := by
 cases x with
 | c x =>
  simp only [Ph, Option.map_eq_some_iff] at h
  obtain ⟨z, h1, rfl⟩ := h
  obtain ⟨e1, e2⟩ := Pi h1
  exact ⟨.c e1, e2⟩
 | agg cs =>
  simp only [Ph, Option.map_eq_some_iff] at h
  obtain ⟨z, h1, rfl⟩ := h
  obtain ⟨e1, e2⟩ := MJ h1
  exact ⟨.agg e1, e2⟩
 | tup vs => simp [Ph] at h
theorem Im : ∀ {x y : List V}, Il x = some y → WkVs x y ∧ V.lowL 0 y = true
 | [], y, h => by simp [Il] at h; subst h; exact ⟨.nil, rfl⟩
 | c :: cs, y, h => by
  simp only [Il] at h
  split at h
  ·rename_i a b h1 h2
   cases h
   obtain ⟨e1, e2⟩ := Vt h1
   obtain ⟨e3, e4⟩ := Im h2
   exact ⟨.cons e1 e3, by simp [V.lowL, e2, e4]⟩
  ·cases h
theorem KH : ∀ {l : List V}, V.lowL 0 l = true → l.all (V.low 0) = true
 | [], _ => rfl
 | v :: l, h => by simp [V.lowL] at h; simp [h.1]; simpa using KH h.2
def fzC (id : Nat) (ds : List D) : C → C
 | .ptr i off => if i = id ∧ off ≤ ds.length then .dp (ds.drop off) else .ptr i off
 | c => c
def fzS (id : Nat) (ds : List D) : V → V
 | .c x => .c (fzC id ds x)
 | v => v
def aEa (X : Tx) (f : Nat) : Bool := match X.P.funcs[f]? with
 | some fn => match fn.body with
  | some c => okX fn.ntmps c && C7 fn
  | none => false
 | none => false
def jOf : Exit → Option (Option Code)
 | .normal => some none
 | .ret => some (some .ret)
 | .exit i => some (some (.exit i))
 | .goto i => some (some (.goto i))
 | _ => none
def aFt (E : Operand → V) (H : List AB) (o : Oper) : Option (Nat × LR × List V) :=
 match o.op with
 | .call { callee := .value x, args := as, argTypes := _ } => match E x with
  | .c (.yd id) => match H[id]? with
   | some (.lp r) => if as.size == r.ps.size && r.ps.toList.all (fun p => decide (p < r.nt)) && okX r.nt r.assign && okX r.nt r.body then some (id, r, as.toList.map E) else none
   | _ => none
  | _ => none
 | _ => none
def Vu (id : Nat) (s : St) (H2 : List AB) : Option (Option Code × St) := match H2[id]? with
 | some (.lp r) => match r.state with
  | .busy => none
  | _ => some (r.pend, { slots := s.slots, heap := H2.set id (.lp { r with state := .exhausted }), marks := s.heap.length :: s.marks })
 | _ => none
def xR (X : Tx) (fn : Func) (s : St) : Option (V × List AB) := match NT s.marks s.heap with
 | some H => match DF X { s with heap := H } fn.results.toList with
  | some xs => some (NS xs, H)
  | none => none
 | none => none
def fnOf : V → Option (FuncId × List C)
 | .c (.fn (.func g) caps) => some (g, caps)
 | _ => none
def N5 : List (Nat × V) → Nat → V
 | [], _ => .c .any
 | (i, v) :: r, j => match Nat.beq i j with
  | true => v
  | false => N5 r j
def aEb : List (Nat × V) → Nat → V → List (Nat × V)
 | [], j, x => [(j, x)]
 | (i, v) :: r, j, x => match Nat.beq i j with
  | true => (i, x) :: r
  | false => (i, v) :: aEb r j x
theorem S5 : ∀ (l : List (Nat × V)) (j : Nat), N5 l j = Aw l j
 | [], _ => rfl
 | (i, v) :: r, j => by
  simp only [N5, Aw]
  by_cases h : i = j
  ·subst h; simp
  ·rw [if_neg h, S5 r j]
   have : Nat.beq i j = false := by cases hb : Nat.beq i j with | false => rfl | true => exact absurd (Nat.eq_of_beq_eq_true hb) h
   rw [this]
theorem S6 : ∀ (l : List (Nat × V)) (j : Nat) (x : V), aEb l j x = EM l j x
 | [], _, _ => rfl
 | (i, v) :: r, j, x => by
  simp only [aEb, EM]
  by_cases h : i = j
  ·subst h; simp
  ·rw [if_neg h, S6 r j x]
   have : Nat.beq i j = false := by cases hb : Nat.beq i j with | false => rfl | true => exact absurd (Nat.eq_of_beq_eq_true hb) h
   rw [this]
def evB (s : St) : Operand → V := evS (N5 s.slots)
def GR (s : St) (dst : Option Nat) (x : V) (H : List AB) : St :=
 {slots := match dst with | some j => aEb s.slots j x | none => s.slots, heap := H, marks := s.marks }
theorem Dc (s : St) : N5 s.slots = s.get := funext fun j => S5 s.slots j
theorem Eg (s : St) : evB s = s.ev := by unfold evB; rw [Dc]; rfl
theorem CV (s : St) (dst : Option Nat) (x : V) (H : List AB) : GR s dst x H = s.put dst x H := by
 cases dst with
 | none => rfl
 | some j => simp only [GR, St.put, S6]
def S7 (m : Nat) (s : St) : St := match Nat.beq m 0 with
 | true => s
 | false => { slots := s.slots.filter fun p => m.testBit p.1, heap := s.heap, marks := s.marks }
def Rz : List Nat → Nat → Nat
 | [], _ => 0
 | a :: _, 0 => a
 | _ :: r, i + 1 => Rz r i
theorem FP (m : Nat) (i : Nat) : ∀ l : List (Nat × V), Aw (l.filter fun p => m.testBit p.1) i = Aw l i ∨ Aw (l.filter fun p => m.testBit p.1) i = .c .any
 | [] => .inr rfl
 | (j, v) :: l => by
  by_cases hb : m.testBit j = true
  ·rw [List.filter_cons_of_pos (by simpa using hb)]
   simp only [Aw]
   by_cases h : j = i
   ·simp [h]
   ·rw [if_neg h, if_neg h]; exact FP m i l
  ·rw [List.filter_cons_of_neg (by simpa using hb)]
   by_cases h : j = i
   ·subst h
    right
    have : ∀ l : List (Nat × V), Aw (l.filter fun p => m.testBit p.1) j = .c .any := by
     intro l
     induction l with
     | nil => rfl
     | cons p l ih =>
      obtain ⟨k, u⟩ := p
      by_cases hk : m.testBit k = true
      ·rw [List.filter_cons_of_pos (by simpa using hk)]
       simp only [Aw]
       rw [if_neg (fun e => hb (by rw [← e]; exact hk))]; exact ih
      ·rw [List.filter_cons_of_neg (by simpa using hk)]; exact ih
    exact this l
   ·have h2 : Aw ((j, v) :: l) i = Aw l i := by simp only [Aw, if_neg h]
    rw [h2]; exact FP m i l
theorem MK {X : Cx} (m : Nat) (t : St) : Ent X t (S7 m t) := fun bs w G a hR => by
 unfold S7
 split
 ·exact ⟨G, hR⟩
 ·refine ⟨G, { rel := hR.rel, later := hR.later, base := hR.base, size := hR.size, slots := fun i => ?_, defers := hR.defers, marks := hR.marks }⟩
  show Ag w G t.heap (Aw (t.slots.filter fun p => m.testBit p.1) i) _
  rcases FP m i t.slots with h | h
  ·rw [h]; exact hR.slots i
  ·rw [h]; exact .c _ _ (.any _)
def Vv (N : Nat) (s : St) : St := match Nat.blt N s.heap.length with
 | false => s
 | true => match (s.heap.take N).all (AB.low N) && (s.slots.all (fun p => p.2.low N) && s.marks.all (fun id => Nat.blt id N)) with
  | true => { slots := s.slots, heap := s.heap.take N, marks := s.marks }
  | false => s
theorem Pj {N : Nat} : ∀ {l : List (Nat × V)}, l.all (fun p => p.2.low N) = true → ∀ i, (Aw l i).low N = true
 | [], _, _ => rfl
 | (j, v) :: l, h, i => by
  simp only [List.all_cons, Bool.and_eq_true] at h
  simp only [Aw]
  split
  ·exact h.1
  ·exact Pj h.2 i
theorem T4 {X : Cx} {N : Nat} (s : St) (hn : X.nb ≤ N) : Ent X s (Vv N s) := fun bs w G a hR => by
 unfold Vv
 split
 ·exact ⟨G, hR⟩
 ·rename_i hlt
  have hlt : N < s.heap.length := by simpa [Nat.blt_eq] using hlt
  split
  ·rename_i hc
   simp only [Bool.and_eq_true] at hc
   obtain ⟨h1, h2, h3⟩ := hc
   have hlen : (s.heap.take N).length = N := by rw [List.length_take]; omega
   have hh : s.heap = s.heap.take N ++ s.heap.drop N := (List.take_append_drop N s.heap).symm
   have R := hR.rel
   rw [hh] at R
   exact ⟨G,
    {rel := R.trunc (by rw [hlen]; exact h1)
     later := by have := hR.later; rw [hh] at this; exact this.trunc (by rw [hR.base, hlen]; exact hn)
     base := hR.base
     size := hR.size
     slots := fun i => by
      have := hR.slots i
      rw [hh] at this
      exact this.trunc (by rw [hlen]; exact Pj h2 i)
     defers := hR.defers
     marks := fun id hid => by
      have := List.all_eq_true.1 h3 id hid
      rw [hlen]
      simpa [Nat.blt_eq] using this }⟩
  ·exact ⟨G, hR⟩
theorem aFu {X : Cx} {c : Code} {Q : Exit → St → Prop} {s : St} (h : X.nb ≤ s.heap.length → AWP X c Q s) : AWP X c Q s := fun bs w G a hR =>
 h (by rw [← hR.base]; exact hR.later.len) bs w G a hR
theorem FQ {X : Cx} {c : Code} {Q : Exit → St → Prop} {s : St} (h : AWP X c (fun e t => ∃ t', Ent X t t' ∧ Q e t') s) : AWP X c Q s := fun bs w G a hR => by
 refine wpIn_mono (h bs w G a hR) ?_
 rintro e a' w' ⟨t, G1, ⟨t', he, hq⟩, hR'⟩
 obtain ⟨G2, hR2⟩ := he bs w' G1 a' hR'
 exact ⟨t', G2, hq, hR2⟩
end Go.Abs
namespace Go.Abs
open Go
theorem CS.mono {X : Cx} {all : Array Oper} {Q Q' : St → Prop} (hq : ∀ s, Q s → Q' s) : ∀ {os : List Oper} {s : St}, CS X all os Q s → CS X all os Q' s
 | [], s, h => hq s h
 | o :: os, s, h => by
  simp only [CS] at h ⊢
  split
  ·rename_i hg; rw [hg] at h; exact AL.mono h fun x H' h => CS.mono hq h
  ·rename_i hg; rw [hg] at h; exact CS.mono hq h
  ·rename_i hg; rw [hg] at h; exact h
theorem EG.mono {X : Cx} {all : Array Oper} {loud : Nat} {Q Q' : St → Prop} (hq : ∀ s, Q s → Q' s) : ∀ {os : List Oper} {k : Nat} {s : St}, EG X all loud k os Q s → EG X all loud k os Q' s
 | [], _, s, h => hq s h
 | o :: os, k, s, ⟨t, x, H', h1, h2, h3, h4⟩ => ⟨t, x, H', h1, h2, h3, EG.mono hq h4⟩
theorem T5 {E : Operand → V} {H : List AB} {o : Oper} {id : Nat} {r : LR} {args : List V} (h : aFt E H o = some (id, r, args)) :
  ∃ (x : Operand) (as : Array Operand) (ts : Array TypeId), o.op = .call { callee := .value x, args := as, argTypes := ts } ∧ E x = .c (.yd id) ∧ H[id]? = some (.lp r) ∧ as.size = r.ps.size ∧
   r.ps.toList.all (fun p => decide (p < r.nt)) = true ∧ okX r.nt r.assign = true ∧ okX r.nt r.body = true ∧ args = as.toList.map E := by
 unfold aFt at h
 split at h
 ·rename_i x as ts ho
  split at h
  ·rename_i id' hx
   split at h
   ·rename_i r' hid
    split at h
    ·rename_i hc
     cases h
     simp only [Bool.and_eq_true, beq_iff_eq] at hc
     exact ⟨x, as, ts, ho, hx, hid, hc.1.1.1, hc.1.1.2, hc.1.2, hc.2, rfl⟩
    ·cases h
   ·cases h
  ·cases h
 ·cases h
section
variable {X : Tx} {L : List Nat} {KT : List (List Nat)}
def eq1 (e : Exit) (s : St) : Exit → St → Prop := fun e' s' => e' = e ∧ s' = s
end
mutual
def D.eqb : D → D → Bool
 | .int k n, .int k' n' => k == k' && n == n'
 | .bool b, .bool b' => b == b'
 | .sl r, .sl r' => D.eqbR r r'
 | .ptr r, .ptr r' => D.eqbL r r'
 | _, _ => false
def D.eqbR : List (List D) → List (List D) → Bool
 | [], [] => true
 | r :: rs, r' :: rs' => D.eqbL r r' && D.eqbR rs rs'
 | _, _ => false
def D.eqbL : List D → List D → Bool
 | [], [] => true
 | d :: ds, d' :: ds' => D.eqb d d' && D.eqbL ds ds'
 | _, _ => false
end
mutual
theorem D.eqb_eq : ∀ {a b : D}, D.eqb a b = true → a = b
 | .int k n, .int k' n', h => by simp [D.eqb] at h; rw [h.1, h.2]
 | .bool b, .bool b', h => by simp [D.eqb] at h; rw [h]
 | .sl r, .sl r', h => by simp only [D.eqb] at h; rw [D.eqbR_eq h]
 | .int _ _, .bool _, h => by simp [D.eqb] at h
 | .int _ _, .sl _, h => by simp [D.eqb] at h
 | .bool _, .int _ _, h => by simp [D.eqb] at h
 | .bool _, .sl _, h => by simp [D.eqb] at h
 | .sl _, .int _ _, h => by simp [D.eqb] at h
 | .sl _, .bool _, h => by simp [D.eqb] at h
 | .ptr r, .ptr r', h => by simp only [D.eqb] at h; rw [D.eqbL_eq h]
 | .ptr _, .int _ _, h => by simp [D.eqb] at h
 | .ptr _, .bool _, h => by simp [D.eqb] at h
 | .ptr _, .sl _, h => by simp [D.eqb] at h
 | .int _ _, .ptr _, h => by simp [D.eqb] at h
 | .bool _, .ptr _, h => by simp [D.eqb] at h
 | .sl _, .ptr _, h => by simp [D.eqb] at h
theorem D.eqbR_eq : ∀ {a b : List (List D)}, D.eqbR a b = true → a = b
 | [], [], _ => rfl
 | r :: rs, r' :: rs', h => by simp only [D.eqbR, Bool.and_eq_true] at h; rw [D.eqbL_eq h.1, D.eqbR_eq h.2]
 | [], _ :: _, h => by simp [D.eqbR] at h
 | _ :: _, [], h => by simp [D.eqbR] at h
theorem D.eqbL_eq : ∀ {a b : List D}, D.eqbL a b = true → a = b
 | [], [], _ => rfl
 | r :: rs, r' :: rs', h => by simp only [D.eqbL, Bool.and_eq_true] at h; rw [D.eqb_eq h.1, D.eqbL_eq h.2]
 | [], _ :: _, h => by simp [D.eqbL] at h
 | _ :: _, [], h => by simp [D.eqbL] at h
end
def C.eqb : C → C → Bool
 | .d x, .d y => D.eqb x y
 | .nilp, .nilp => true
 | .dp x, .dp y => D.eqbL x y
 | .full x, .full y => D.eqbR x y
 | _, _ => false
theorem C.eqb_eq {a b : C} (h : C.eqb a b = true) : a = b := by
 cases a <;> cases b <;> simp [C.eqb] at h ⊢
 ·exact D.eqb_eq h
 ·exact D.eqbL_eq h
 ·exact D.eqbR_eq h
def C.eqbL : List C → List C → Bool
 | [], [] => true
 | x :: xs, y :: ys => C.eqb x y && C.eqbL xs ys
 | _, _ => false
theorem C.eqbL_eq : ∀ {a b : List C}, C.eqbL a b = true → a = b
 | [], [], _ => rfl
 | r :: rs, r' :: rs', h => by simp only [C.eqbL, Bool.and_eq_true] at h; rw [C.eqb_eq h.1, C.eqbL_eq h.2]
 | [], _ :: _, h => by simp [C.eqbL] at h
 | _ :: _, [], h => by simp [C.eqbL] at h
mutual
def V.eqb : V → V → Bool
 | .c x, .c y => C.eqb x y
 | .agg x, .agg y => C.eqbL x y
 | .tup x, .tup y => V.eqbL x y
 | _, _ => false
def V.eqbL : List V → List V → Bool
 | [], [] => true
 | x :: xs, y :: ys => V.eqb x y && V.eqbL xs ys
 | _, _ => false
end
mutual
theorem V.eqb_eq : ∀ {a b : V}, V.eqb a b = true → a = b
 | .c x, .c y, h => by simp only [V.eqb] at h; rw [C.eqb_eq h]
 | .agg x, .agg y, h => by simp only [V.eqb] at h; rw [C.eqbL_eq h]
 | .tup x, .tup y, h => by simp only [V.eqb] at h; rw [V.eqbL_eq h]
 | .c _, .agg _, h => by simp [V.eqb] at h
 | .c _, .tup _, h => by simp [V.eqb] at h
 | .agg _, .c _, h => by simp [V.eqb] at h
 | .agg _, .tup _, h => by simp [V.eqb] at h
 | .tup _, .c _, h => by simp [V.eqb] at h
 | .tup _, .agg _, h => by simp [V.eqb] at h
theorem V.eqbL_eq : ∀ {a b : List V}, V.eqbL a b = true → a = b
 | [], [], _ => rfl
 | r :: rs, r' :: rs', h => by simp only [V.eqbL, Bool.and_eq_true] at h; rw [V.eqb_eq h.1, V.eqbL_eq h.2]
 | [], _ :: _, h => by simp [V.eqbL] at h
 | _ :: _, [], h => by simp [V.eqbL] at h
end
def isV (y : V) : Option V → Bool
 | some x => V.eqb x y
 | none => false
theorem isV_eq {y : V} {o : Option V} (h : isV y o = true) : o = some y := by
 cases o with
 | none => simp [isV] at h
 | some x => rw [V.eqb_eq h]
end Go.Abs
