/- Contracts of functions that own nothing; and the walk as a function on code. -/
import Derived.Test.YtfgdbeijjbijnaaGreatDoorJG05
set_option linter.unusedSimpArgs false
set_option linter.unusedVariables false
namespace Go.Abs
open Go
section
variable {P : Program} {w : World} {G G' : Gh} {H : List AB}
theorem Ap.data {x : C} {v : Value} (hS : ∀ b o, G.S b o → G'.S b o) (h : Ap w G [] x v) : Ap w G' H x v := by
 induction h with
 | any v => exact .any v
 | d x v h => exact .d x v (h.mono fun b o hb => ⟨hS b o hb, rfl⟩)
 | ptr id off h => simp at h
 | nilp => exact .nilp
 | dp ds b o f hcell hrel => exact .dp ds b o f (fun j hj => ⟨hS _ _ (hcell j hj).1, (hcell j hj).2⟩) (fun j x hx => (hrel j x hx).mono fun b o hb => ⟨hS b o hb, rfl⟩)
 | full rows a n hn h => exact .full rows a n hn (h.mono fun b o hb => ⟨hS b o hb, rfl⟩)
 | own id rows a n cap hid hn h hg => simp at hid
 | ms id off n cap h => simp at h
 | fn f caps arr hs _ ih => exact .fn f caps arr hs ih
 | ma f cs arr hs ho _ ih => exact .ma f cs arr hs ho ih
 | mv f x v _ ih => exact .mv f x v ih
 | mp id h => simp at h
 | yd id h => simp at h
 | gp g => exact .gp g
 | vs id n a cap hid ha hg => simp at hid
 | vc id n a hid ha hg => simp at hid
 | fs n sz cs b o vs hl hn hcell _ ih => exact .fs n sz cs b o vs hl hn (fun j v hj => ⟨⟨hS _ _ (hcell j v hj).1.1, (hcell j v hj).1.2⟩, (hcell j v hj).2⟩) ih
 | vp id n off a hid hg => simp at hid
theorem Ag.data {x : V} {v : Value} (hS : ∀ b o, G.S b o → G'.S b o) (h : Ag w G [] x v) : Ag w G' H x v := by
 induction h with
 | c x v h => exact .c x v (h.data hS)
 | agg cs arr h => exact .agg cs arr ⟨h.1, fun i x v hx hv => ⟨(h.2 i x v hx hv).1.data hS, (h.2 i x v hx hv).2⟩⟩
 | tup vs arr hs _ ih => exact .tup vs arr hs ih
def AF (P : Program) (f : FuncId) (args : List V) (r : V) : Prop := Ad P f args [] (fun x _ => x = r) ∧ args.all (V.low 0) = true ∧ r.low 0 = true
theorem AF.at {f : FuncId} {args : List V} {r : V} (h : AF P f args r) (H : List AB) : Ad P f args H (one r H) := by
 obtain ⟨h, ha, hr⟩ := h
 refine ⟨h.1, fun w G vs R hl hrel => ?_⟩
 have R0 : Rel w { G with role := fun _ => none } [] := ⟨R.sex, fun b id h => (by cases h), fun id x hx => (by simp at hx)⟩
 refine (h.2 w { G with role := fun _ => none } vs R0 hl (fun i x v hx hv => ?_)).mono ?_
 ·have h1 := List.all_eq_true.1 ha x (List.mem_of_getElem? hx)
  exact Ag.data (G := G) (fun _ _ h => h) (Ag.trunc (H := []) (T := H) (hrel i x v hx hv) h1)
 ·rintro e w' ⟨v, x, H', G0, rfl, rfl, R', hv, L⟩
  have Lr : Am w G H w' { S := G0.S, rho := G.rho, g := G.g, role := fun b => if b < w.heap.size then G.role b else none } H :=
   {size := L.size
    S := L.S
    Snew := fun b o hb _ h => L.Snew b o hb rfl h
    len := Nat.le_refl _
    rho := fun _ _ => rfl
    grow := fun id n sz _ h => ⟨n, h, .inr ⟨rfl, rfl⟩⟩
    vec := fun _ n sz cs _ h => ⟨n, sz, cs, h, .inr ⟨rfl, rfl⟩⟩
    role := fun b hb => by simp [hb]
    frame := fun b hb _ => L.frame b hb rfl
    os := L.os
    out := L.out }
  refine ⟨v, x, H, { S := G0.S, rho := G.rho, g := G.g, role := fun b => if b < w.heap.size then G.role b else none }, rfl, ⟨rfl, rfl⟩, ⟨R'.sex, fun b id hb => ?_, fun id y hy => ?_⟩, Ag.data (G := G0) (fun _ _ h => h) (Ag.trunc (H := []) (T := H') hv hr), Lr⟩
  ·by_cases h : b < w.heap.size
   ·exact Nat.lt_of_lt_of_le h L.size
   ·simp [h] at hb
  ·refine AW.mono R Lr (List.getElem?_eq_some_iff.1 hy).1 (R.ab id y hy) (fun b hb => L.frame b (R.roleLt b id hb) rfl) (fun b o hb h => L.Snew b o (R.roleLt b id hb) rfl h) rfl
theorem Ad.weak {f : FuncId} {args args' : List V} {post : V → List AB → Prop} (hw : WkVs args args') (h : Ad P f args' H post) : Ad P f args H post :=
 ⟨h.1, fun w G vs R hl hr => h.2 w G vs R (by rw [← hw.len]; exact hl) (fun i y v hy hv => by
  have hlt : i < args.length := by rw [hw.len]; exact (List.getElem?_eq_some_iff.1 hy).1
  have hx : args[i]? = some args[i] := List.getElem?_eq_getElem hlt
  exact (hw.get i _ y hx hy).rel (hr i _ v hx hv))⟩
end
def Tx.cx (X : Tx) (r : Option Nat) (nb nt : Nat) : Cx := { P := X.P, tt := X.tt, r := r, nb := nb, nt := nt }
def Bt (E : Operand → V) (o : Oper) : Option (FuncId × List V) :=
 match o.op with
 | .call { callee := .value x, args := as, argTypes := _ } => match E x with
  | .c (.fn (.func g) caps) => some (g, as.toList.map E ++ caps.map .c)
  | .c (.mv (.func g) x) => some (g, .c x :: as.toList.map E)
  | .c (.ma (.func g) cs) => some (g, .agg cs :: as.toList.map E)
  | _ => none
 | _ => none
theorem AI {P : Program} {ro : Option Nat} {o : Oper} {H : List AB} {E : Operand → V} {g : FuncId} {args : List V} {post : V → List AB → Prop} (hc : Bt E o = some (g, args)) (h : Ad P g args H post) : AL P ro o H E post := by
 unfold Bt at hc
 split at hc
 ·rename_i x as ts ho
  split at hc
  ·rename_i g' caps hx
   cases hc
   exact TR ho hx h
  ·rename_i g' x' hx
   cases hc
   exact Rl ho hx h
  ·rename_i g' x' hx
   cases hc
   exact Rm ho hx h
  ·cases hc
 ·cases hc
section
variable {X : Tx} {r : Option Nat} {nb nt : Nat} {s : St} {all : Array Oper} {Q : St → Prop} {o : Oper} {os : List Oper}
theorem MA {g : FuncId} {args args' : List V} {post : V → List AB → Prop} (hg : Ay all s.get o = some true) (hc : Bt s.ev o = some (g, args)) (hw : WkVs args args') (h : Ad X.P g args' s.heap post)
  (k : ∀ x H', post x H' → CS (X.cx r nb nt) all os Q (s.put o.dst x H')) : CS (X.cx r nb nt) all (o :: os) Q s := by
 simp only [CS, hg]
 exact (AI hc (h.weak hw)).mono k
theorem MB {g : FuncId} {args args' : List V} {y : V} (h : AF X.P g args' y) (hg : Ay all s.get o = some true) (hc : Bt s.ev o = some (g, args)) (hw : WkVs args args')
  (k : CS (X.cx r nb nt) all os Q (s.put o.dst y s.heap)) : CS (X.cx r nb nt) all (o :: os) Q s :=
 MA hg hc hw (h.at _) (fun x H' ⟨h1, h2⟩ => by subst h1; subst h2; exact k)
theorem TU {loud k : Nat} {g : FuncId} {args args' : List V} {y : V} (h : AF X.P g args' y) (hg : Ay all s.get o = some true) (hc : Bt s.ev o = some (g, args)) (hw : WkVs args args')
  (n : EG (X.cx r nb nt) all loud (k + 1) os Q (s.put o.dst y s.heap)) : EG (X.cx r nb nt) all loud k (o :: os) Q s :=
 ⟨true, y, s.heap, hg, by simp only [if_true]; exact AI hc ((h.at _).weak hw), fun _ => rfl, n⟩
theorem TV {loud k : Nat} (hg : Ay all s.get o = some false) (n : EG (X.cx r nb nt) all loud (k + 1) os Q (s.put o.dst (.tup []) s.heap)) : EG (X.cx r nb nt) all loud k (o :: os) Q s :=
 ⟨false, _, _, hg, by simp, fun _ => rfl, n⟩
def AC : Op → Bool
 | .alloc _ | .box _ _ | .store _ _ _ | .makeSlice _ _ _ | .makeMap _ _ | .mapUpdate _ _ _ _ => true
 | .call { callee := .builtin b, args := _, argTypes := _ } => match b with
  | .append | .copy | .clear | .delete => true
  | _ => false
 | _ => false
def IT : List Oper → Nat
 | [] => 0
 | o :: os => 2 * IT os + (if AC o.op then 1 else 0)
theorem Ii : ∀ (os : List Oper) (k : Nat) (o : Oper), os[k]? = some o → (IT os).testBit k = AC o.op
 | [], k, o, h => by simp at h
 | o' :: os, 0, o, h => by
  simp at h; subst h
  simp only [IT, Nat.testBit_zero]
  cases AC o'.op <;> simp <;> omega
 | o' :: os, k + 1, o, h => by
  have ih := Ii os k o (by simpa using h)
  rw [IT, Nat.testBit_succ, ← ih]
  congr 1
  split <;> omega
def BY (t : Bool) (a b : Prop) : Prop := (t = true → a) ∧ (t = false → b)
theorem Ep (a b : Prop) : BY true a b = a := by simp [BY]
theorem Er (a b : Prop) : BY false a b = b := by simp [BY]
mutual
def aW (X : Tx) (r : Option Nat) (nb nt : Nat) (all : Array Oper) (os : List Oper) (Q : St → Prop) (s : St) : Prop :=
 match os with
 | [] => Q s
 | o :: os => match Ay all s.get o with
  | some g => BY g (Vf X r nb nt all (o :: os) Q s) (Vg X r nb nt all os Q (s.put o.dst (.tup []) s.heap))
  | none => CS (X.cx r nb nt) all (o :: os) Q s
 termination_by (os.length, 1)
def Vf (X : Tx) (r : Option Nat) (nb nt : Nat) (all : Array Oper) (os : List Oper) (Q : St → Prop) (s : St) : Prop :=
 match os with
 | [] => Q s
 | o :: os => match op1 X s.heap s.ev o.op with
   | some (c, x, H') => c = true ∧ aW X r nb nt all os Q (s.put o.dst x H')
   | none => CS (X.cx r nb nt) all (o :: os) Q s
 termination_by (os.length, 0)
def Vg (X : Tx) (r : Option Nat) (nb nt : Nat) (all : Array Oper) (os : List Oper) (Q : St → Prop) (s : St) : Prop := aW X r nb nt all os Q s
 termination_by (os.length, 2)
end
mutual
def dW (X : Tx) (r : Option Nat) (nb nt : Nat) (all : Array Oper) (loud : Nat) (k : Nat) (os : List Oper) (Q : St → Prop) (s : St) : Prop :=
 match os with
 | [] => Q s
 | o :: os => match Ay all s.get o with
  | some g => BY g (Vh X r nb nt all loud k (o :: os) Q s) (Vi X r nb nt all loud (k + 1) os Q (s.put o.dst (.tup []) s.heap))
  | none => EG (X.cx r nb nt) all loud k (o :: os) Q s
 termination_by (os.length, 1)
def Vh (X : Tx) (r : Option Nat) (nb nt : Nat) (all : Array Oper) (loud : Nat) (k : Nat) (os : List Oper) (Q : St → Prop) (s : St) : Prop :=
 match os with
 | [] => Q s
 | o :: os => match op1 X s.heap s.ev o.op with
   | some (c, x, H') => c = true ∧ (AC o.op = true ∨ H' = s.heap) ∧ dW X r nb nt all loud (k + 1) os Q (s.put o.dst x H')
   | none => EG (X.cx r nb nt) all loud k (o :: os) Q s
 termination_by (os.length, 0)
def Vi (X : Tx) (r : Option Nat) (nb nt : Nat) (all : Array Oper) (loud : Nat) (k : Nat) (os : List Oper) (Q : St → Prop) (s : St) : Prop := dW X r nb nt all loud k os Q s
 termination_by (os.length, 2)
end
theorem aArm_at (X : Tx) (r : Option Nat) (nb nt : Nat) (all : Array Oper) (os : List Oper) (Q : St → Prop) (s : St) : Vg X r nb nt all os Q s = aW X r nb nt all os Q s := by rw [Vg]
theorem dArm_at (X : Tx) (r : Option Nat) (nb nt : Nat) (all : Array Oper) (loud k : Nat) (os : List Oper) (Q : St → Prop) (s : St) : Vi X r nb nt all loud k os Q s = dW X r nb nt all loud k os Q s := by rw [Vi]
theorem aW_nil : aW X r nb nt all [] Q s = Q s := by rw [aW]
theorem dW_nil {loud k : Nat} : dW X r nb nt all loud k [] Q s = Q s := by rw [dW]
theorem aW_cons : aW X r nb nt all (o :: os) Q s = (match Ay all s.get o with
  | some g => BY g (Vf X r nb nt all (o :: os) Q s) (Vg X r nb nt all os Q (s.put o.dst (.tup []) s.heap))
  | none => CS (X.cx r nb nt) all (o :: os) Q s) := by rw [aW]
theorem dW_cons {loud k : Nat} : dW X r nb nt all loud k (o :: os) Q s = (match Ay all s.get o with
  | some g => BY g (Vh X r nb nt all loud k (o :: os) Q s) (Vi X r nb nt all loud (k + 1) os Q (s.put o.dst (.tup []) s.heap))
  | none => EG (X.cx r nb nt) all loud k (o :: os) Q s) := by rw [dW]
theorem aRun_cons : Vf X r nb nt all (o :: os) Q s = (match op1 X s.heap s.ev o.op with
      | some (c, x, H') => c = true ∧ aW X r nb nt all os Q (s.put o.dst x H')
      | none => CS (X.cx r nb nt) all (o :: os) Q s) := by rw [Vf]
theorem dRun_cons {loud k : Nat} : Vh X r nb nt all loud k (o :: os) Q s = (match op1 X s.heap s.ev o.op with
      | some (c, x, H') => c = true ∧ (AC o.op = true ∨ H' = s.heap) ∧ dW X r nb nt all loud (k + 1) os Q (s.put o.dst x H')
      | none => EG (X.cx r nb nt) all loud k (o :: os) Q s) := by rw [Vh]
theorem aw_t (b : Prop) : BY true (Vf X r nb nt all (o :: os) Q s) b = (match op1 X s.heap s.ev o.op with
      | some (c, x, H') => c = true ∧ aW X r nb nt all os Q (s.put o.dst x H')
      | none => CS (X.cx r nb nt) all (o :: os) Q s) := by rw [Ep, aRun_cons]
theorem aw_f (a : Prop) : BY false a (Vg X r nb nt all os Q s) = aW X r nb nt all os Q s := by rw [Er, aArm_at]
theorem dw_t {loud k : Nat} (b : Prop) : BY true (Vh X r nb nt all loud k (o :: os) Q s) b = (match op1 X s.heap s.ev o.op with
      | some (c, x, H') => c = true ∧ (AC o.op = true ∨ H' = s.heap) ∧ dW X r nb nt all loud (k + 1) os Q (s.put o.dst x H')
      | none => EG (X.cx r nb nt) all loud k (o :: os) Q s) := by rw [Ep, dRun_cons]
theorem dw_f {loud k : Nat} (a : Prop) : BY false a (Vi X r nb nt all loud k os Q s) = dW X r nb nt all loud k os Q s := by rw [Er, dArm_at]
theorem aW_sound : ∀ (os : List Oper) (s : St), aW X r nb nt all os Q s → CS (X.cx r nb nt) all os Q s
 | [], _, h => by rw [aW_nil] at h; exact h
 | o :: os, s, h => by
  rw [aW_cons] at h
  split at h
  ·rename_i g hg
   cases g with
   | true =>
    rw [Ep, aRun_cons] at h
    split at h
    ·rename_i c x H' hop
     obtain ⟨rfl, h⟩ := h
     simp only [CS, hg]
     exact (CK _ hop).mono fun y H2 ⟨e1, e2⟩ => by subst e1; subst e2; exact aW_sound os _ h
    ·exact h
   | false =>
    rw [Er, aArm_at] at h
    simp only [CS, hg]
    exact aW_sound os _ h
  ·exact h
theorem dW_sound {loud : Nat} : ∀ (os : List Oper) (k : Nat) (s : St), (∀ (j : Nat) (o : Oper), os[j]? = some o → AC o.op = true → loud.testBit (k + j) = true) → dW X r nb nt all loud k os Q s → EG (X.cx r nb nt) all loud k os Q s
 | [], _, _, _, h => by rw [dW_nil] at h; exact h
 | o :: os, k, s, hl, h => by
  have hl0 := hl 0 o rfl
  have hl' : ∀ (j : Nat) (o : Oper), os[j]? = some o → AC o.op = true → loud.testBit (k + 1 + j) = true := fun j o' ho hlo => by
   have := hl (j + 1) o' (by simpa using ho) hlo
   rw [← this]; congr 1; omega
  rw [dW_cons] at h
  split at h
  ·rename_i g hg
   cases g with
   | true =>
    rw [Ep, dRun_cons] at h
    split at h
    ·rename_i c x H' hop
     obtain ⟨rfl, hq, h⟩ := h
     refine ⟨true, x, H', hg, ?_, fun hf => ?_, dW_sound os (k + 1) _ hl' h⟩
     ·simp only [if_true]; exact CK _ hop
     ·rcases hq with hq | hq
      ·rw [Nat.add_zero] at hl0; rw [hl0 hq] at hf; cases hf
      ·exact hq
    ·exact h
   | false =>
    rw [Er, dArm_at] at h
    exact TV hg (dW_sound os (k + 1) _ hl' h)
  ·exact h
end
def okC (nt : Nat) : Code → Bool
 | .seq x y => okC nt x && okC nt y
 | .block _ c => okC nt c
 | .loop c => okC nt c
 | .scope c => okC nt c
 | .cond _ x y => okC nt x && okC nt y
 | .region _ ops false => C6 nt ops.toList
 | .region _ ops true => C6 nt ops.toList && NU (IT ops.toList) ops
 | .rangeFunc _ _ a b => okC nt a && okC nt b
 | _ => true
def retG (X : Tx) (rs : List ResultVar) (post : V → List AB → Prop) : Exit → St → Prop
 | .normal, s | .ret, s => match NT s.marks s.heap with
  | some H => match DF X { s with heap := H } rs with
   | some xs => post (NS xs) H
   | none => False
  | none => False
 | _, _ => False
mutual
def go (X : Tx) (r : Option Nat) (nb nt : Nat) (c : Code) (Q : Exit → St → Prop) (s : St) : Prop :=
 match c with
 | .skip => Q .normal s
 | .label _ => Q .normal s
 | .exit id => Q (.exit id) s
 | .ret => Q .ret s
 | .seq x y => go X r nb nt x (DV (cont X r nb nt y Q) Q) s
 | .block id c => go X r nb nt c (GI id Q) s
 | .scope c => go X r nb nt c (NM Q) s
 | .cond c x y => match s.ev c with
  | .c (.d (.bool t)) => BY t (arm X r nb nt x Q s) (arm X r nb nt y Q s)
  | _ => False
 | .region _ ops false => aW X r nb nt ops ops.toList (Q .normal) s
 | .region _ ops true => dW X r nb nt ops (IT ops.toList) 0 ops.toList (Q .normal) s
 | c => AWP (X.cx r nb nt) c Q s
def cont (X : Tx) (r : Option Nat) (nb nt : Nat) (c : Code) (Q : Exit → St → Prop) (s : St) : Prop := go X r nb nt c Q s
def arm (X : Tx) (r : Option Nat) (nb nt : Nat) (c : Code) (Q : Exit → St → Prop) (s : St) : Prop := go X r nb nt c Q s
end
theorem cont_at (X : Tx) (r : Option Nat) (nb nt : Nat) (c : Code) (Q : Exit → St → Prop) (s : St) : cont X r nb nt c Q s = go X r nb nt c Q s := by rw [cont]
theorem arm_at (X : Tx) (r : Option Nat) (nb nt : Nat) (c : Code) (Q : Exit → St → Prop) (s : St) : arm X r nb nt c Q s = go X r nb nt c Q s := by rw [arm]
theorem go_t {X : Tx} {r : Option Nat} {nb nt : Nat} {c : Code} {Q : Exit → St → Prop} {s : St} (b : Prop) : BY true (arm X r nb nt c Q s) b = go X r nb nt c Q s := by rw [Ep, arm_at]
theorem go_f {X : Tx} {r : Option Nat} {nb nt : Nat} {c : Code} {Q : Exit → St → Prop} {s : St} (a : Prop) : BY false a (arm X r nb nt c Q s) = go X r nb nt c Q s := by rw [Er, arm_at]
theorem go_if {X : Tx} {r : Option Nat} {nb nt : Nat} {c c' : Code} {Q : Exit → St → Prop} {s : St} {t : Bool} (h1 : t = true → go X r nb nt c Q s) (h2 : t = false → go X r nb nt c' Q s) : BY t (arm X r nb nt c Q s) (arm X r nb nt c' Q s) :=
 ⟨fun h => by rw [arm_at]; exact h1 h, fun h => by rw [arm_at]; exact h2 h⟩
theorem beq_t (b : Bool) : (b == true) = b := by simp
theorem beq_f (b : Bool) : (b == false) = !b := by simp
theorem thenQ_mono {K K' : St → Prop} {Q : Exit → St → Prop} (h : ∀ s, K s → K' s) : ∀ e s, DV K Q e s → DV K' Q e s := fun e s hq => by
 cases e <;> first | exact h _ hq | exact hq
theorem go_sound {X : Tx} {r : Option Nat} {nb nt : Nat} (hm : X.P.follows .mixedOrders = true) (c : Code) : okC nt c = true → ∀ {Q : Exit → St → Prop} {s : St}, go X r nb nt c Q s → AWP (X.cx r nb nt) c Q s := by
 induction c with
 | skip => intro _ Q s h; rw [go] at h; exact Ki h
 | label l => intro _ Q s h; rw [go] at h; exact Ie h
 | exit id => intro _ Q s h; rw [go] at h; exact Hp h
 | ret => intro _ Q s h; rw [go] at h; exact NK h
 | seq x y ihx ihy =>
  intro hok Q s h
  simp only [okC, Bool.and_eq_true] at hok
  rw [go] at h
  exact NL ((ihx hok.1 h).mono (thenQ_mono fun s h => ihy hok.2 (by rw [cont_at] at h; exact h)))
 | block id c ih => intro hok Q s h; rw [go] at h; exact If (ih hok h)
 | scope c ih => intro hok Q s h; rw [go] at h; exact Ig (ih hok h)
 | cond c x y ihx ihy =>
  intro hok Q s h
  simp only [okC, Bool.and_eq_true] at hok
  rw [go] at h
  split at h
  ·rename_i t hc
   rw [BY, arm_at, arm_at] at h
   exact Hq hc (fun e => ihx hok.1 (h.1 e)) (fun e => ihy hok.2 (h.2 e))
  ·exact h.elim
 | region id ops d =>
  intro hok Q s h
  cases d with
  | false => rw [go] at h; exact GK (X := X.cx r nb nt) hok (aW_sound _ _ h)
  | true =>
   rw [go] at h
   simp only [okC, Bool.and_eq_true] at hok
   exact Dr (X := X.cx r nb nt) (IT ops.toList) hm hok.1 hok.2 (dW_sound _ _ _ (fun j o ho hlo => by rw [Nat.zero_add, Ii _ j o ho]; exact hlo) h)
 | _ => intro _ Q s h; unfold go at h; exact h
theorem retG_sound {X : Tx} {fn : Func} {post : V → List AB → Prop} : ∀ e s, retG X fn.results.toList post e s → aFm X fn post e s := fun e s h => by
 cases e <;> simp only [retG, aFm] at h ⊢
 all_goals
  split at h
  ·rename_i H hp
   split at h
   ·rename_i xs hx
    exact ⟨H, xs, hp, hx, h⟩
   ·exact h.elim
  ·exact h.elim
theorem acall_of {X : Tx} {f : FuncId} {fn : Func} {c : Code} {args : List V} {H : List AB} {nt : Nat} {rs : List ResultVar} {post : V → List AB → Prop} (hf : X.P.funcs[f]? = some fn) (hb : fn.body = some c) (hn0 : C7 fn = true)
  (hnt : args.length + (fn.ntmps - args.length) = nt) (hrs : fn.results.toList = rs) (hm : X.P.follows .mixedOrders = true) (hok : okC nt c = true)
  (h : go X none H.length nt c (retG X rs post) { slots := FK 0 args, heap := H, marks := [] }) : Ad X.P f args H post := by
 subst hrs
 exact E8 (X := X) hf hb hn0 hnt ((go_sound hm c hok h).mono retG_sound)
theorem go_loop {X : Tx} {r : Option Nat} {nb nt : Nat} {c : Code} {Q : Exit → St → Prop} {s : St} {α : Type} (S : α → St) (Inv : α → Prop) (μ : α → Nat) (a0 : α) (hm : X.P.follows .mixedOrders = true) (hok : okC nt c = true)
  (h0 : Ent (X.cx r nb nt) s (S a0)) (hI : Inv a0)
  (round : ∀ a, Inv a → go X r nb nt c (DV (fun s' => ∃ a', Inv a' ∧ μ a' < μ a ∧ Ent (X.cx r nb nt) s' (S a')) Q) (S a)) : AWP (X.cx r nb nt) (.loop c) Q s := by
 refine AWP.ent h0 (Hr (fun m s' => ∃ a, Inv a ∧ μ a = m ∧ Ent (X.cx r nb nt) s' (S a)) (μ a0) ⟨a0, hI, rfl, Ent.refl⟩ ?_)
 rintro m s' ⟨a, hI, rfl, he⟩
 refine AWP.ent he ((go_sound hm c hok (round a hI)).mono ?_)
 exact thenQ_mono fun s'' ⟨a', h1, h2, h3⟩ => ⟨μ a', h2, a', h1, rfl, h3⟩
theorem wkv_refl (x : V) : WkV x x = True := by simp only [eq_iff_iff, iff_true]; exact .refl x
theorem wkv_full (r : List (List D)) : WkV (.c (.full r)) (.c (.d (.sl r))) = True := by simp only [eq_iff_iff, iff_true]; exact .c (.full r)
theorem wkv_own (id : Nat) (r : List (List D)) : WkV (.c (.own id r)) (.c (.d (.sl r))) = True := by simp only [eq_iff_iff, iff_true]; exact .c (.own id r)
theorem wkv_tup (xs ys : List V) : WkV (.tup xs) (.tup ys) = WkVs xs ys := by
 simp only [eq_iff_iff]
 refine ⟨fun h => ?_, fun h => .tup h.len h.get⟩
 have refl : ∀ l : List V, WkVs l l := fun l => by
  induction l with
  | nil => exact .nil
  | cons v l ih => exact .cons (.refl v) ih
 cases h with
 | refl => exact refl _
 | tup hl h =>
  induction xs generalizing ys with
  | nil => cases ys with | nil => exact .nil | cons y ys => simp at hl
  | cons x xs ih =>
   cases ys with
   | nil => simp at hl
   | cons y ys => exact .cons (h 0 x y rfl rfl) (ih ys (by simpa using hl) (fun i a b ha hb => h (i + 1) a b (by simpa using ha) (by simpa using hb)))
theorem wkv_agg (x y : List C) : WkV (.agg x) (.agg y) = WkCs x y := by
 simp only [eq_iff_iff]
 refine ⟨fun h => ?_, .agg⟩
 cases h with
 | refl =>
  induction x with
  | nil => exact .nil
  | cons a l ih => exact .cons (.refl a) ih
 | agg h => exact h
theorem wkc_refl (x : C) : WkC x x = True := by simp only [eq_iff_iff, iff_true]; exact .refl x
theorem wkc_full (r : List (List D)) : WkC (.full r) (.d (.sl r)) = True := by simp only [eq_iff_iff, iff_true]; exact .full r
theorem wkc_own (id : Nat) (r : List (List D)) : WkC (.own id r) (.d (.sl r)) = True := by simp only [eq_iff_iff, iff_true]; exact .own id r
theorem wkcs_nil : WkCs [] [] = True := by simp only [eq_iff_iff, iff_true]; exact .nil
theorem wkcs_cons (x y : C) (xs ys : List C) : WkCs (x :: xs) (y :: ys) = (WkC x y ∧ WkCs xs ys) := by
 simp only [eq_iff_iff]
 exact ⟨fun h => by cases h with | cons a b => exact ⟨a, b⟩, fun ⟨a, b⟩ => .cons a b⟩
theorem wkvs_nil : WkVs [] [] = True := by simp only [eq_iff_iff, iff_true]; exact .nil
theorem wkvs_cons (x y : V) (xs ys : List V) : WkVs (x :: xs) (y :: ys) = (WkV x y ∧ WkVs xs ys) := by
 simp only [eq_iff_iff]
 exact ⟨fun h => by cases h with | cons a b => exact ⟨a, b⟩, fun ⟨a, b⟩ => .cons a b⟩
theorem Ad.wkpost {P : Program} {f : FuncId} {args : List V} {H : List AB} {r : V} (h : Ad P f args H (fun x _ => WkV x r)) : Ad P f args H (fun x _ => x = r) :=
 ⟨h.1, fun w G vs R hl hr => (h.2 w G vs R hl hr).mono fun _ _ ⟨v, x, H', G', a, b, c, d, e⟩ => ⟨v, r, H', G', a, rfl, c, b.rel d, e⟩⟩
theorem wk_refls : ∀ (x : List V), WkVs x x
 | [] => .nil
 | v :: vs => .cons (.refl v) (wk_refls vs)
end Go.Abs
namespace Go.Abs
open Go
inductive Fit : D → Prop
 | int (k : IntKind) (n : Int) : Fit (.int k n)
 | bool (b : Bool) : Fit (.bool b)
 | sl (rows : List (List D)) : rows.length ≤ lim → (∀ r ∈ rows, ∀ x ∈ r, Fit x) → Fit (.sl rows)
 | ptr (ds : List D) : (∀ x ∈ ds, Fit x) → Fit (.ptr ds)
theorem Fit.len {rows : List (List D)} (h : Fit (.sl rows)) : rows.length ≤ lim := by cases h; assumption
theorem Fit.sub {rows : List (List D)} (h : Fit (.sl rows)) {r : List D} (hr : r ∈ rows) {x : D} (hx : x ∈ r) : Fit x := by cases h with | sl _ _ h => exact h r hr x hx
def aFn : C → Prop
 | .d x => Fit x
 | .full r => Fit (.sl r)
 | .own _ r => Fit (.sl r)
 | .dp ds => ∀ x ∈ ds, Fit x
 | _ => True
def FL : V → Prop
 | .c x => aFn x
 | .agg cs => ∀ c ∈ cs, aFn c
 | .tup _ => True
theorem Br.fit {w : World} {S : Nat → Nat → Prop} {x : D} {v : Value} (h : Br w S x v) : Fit x := by
 induction h with
 | int k n => exact .int k n
 | bool b => exact .bool b
 | emp a cap => exact .sl [] (Nat.zero_le _) (fun r h => by cases h)
 | sl rows b o cap sz f hcap hlim hsz hcell hrel ih =>
  refine .sl rows hlim (fun r hr x hx => ?_)
  obtain ⟨i, hi⟩ := List.getElem?_of_mem hr
  obtain ⟨j, hj⟩ := List.getElem?_of_mem hx
  exact ih i j r x hi hj
 | ptr ds b o f hcell hrel ih =>
  refine .ptr ds (fun x hx => ?_)
  obtain ⟨j, hj⟩ := List.getElem?_of_mem hx
  exact ih j x hj
theorem Ap.fit {w : World} {G : Gh} {H : List AB} {x : C} {v : Value} (h : Ap w G H x v) : aFn x := by
 cases h with
 | d x v h => exact h.fit
 | full rows a n hn h => exact h.fit
 | own id rows a n cap hid hn h hg => exact h.fit
 | dp ds b o f hcell hrel =>
  intro x hx
  obtain ⟨j, hj⟩ := List.getElem?_of_mem hx
  exact (hrel j x hj).fit
 | _ => trivial
theorem Ag.fit {w : World} {G : Gh} {H : List AB} {x : V} {v : Value} (h : Ag w G H x v) : FL x := by
 cases h with
 | c x v h => exact h.fit
 | agg cs arr h =>
  intro c hc
  obtain ⟨i, hi⟩ := List.getElem?_of_mem hc
  have hlt : i < arr.toList.length := by rw [← h.1]; exact (List.getElem?_eq_some_iff.1 hi).1
  exact (h.2 i c _ hi (List.getElem?_eq_getElem hlt)).1.fit
 | tup vs arr hs h => trivial
theorem Ad.fit {P : Program} {f : FuncId} {args : List V} {H : List AB} {post : V → List AB → Prop} (h1 : ∀ (as : Array Value) (w : World), (callFunc f as).run P w = .ok (.enter f as) w)
  (h : (∀ x ∈ args, FL x) → Ad P f args H post) : Ad P f args H post :=
 ⟨h1, fun w G vs R hl hr => (h (fun x hx => by
  obtain ⟨i, hi⟩ := List.getElem?_of_mem hx
  have hlt : i < vs.toList.length := by rw [← hl]; exact (List.getElem?_eq_some_iff.1 hi).1
  exact (hr i x _ hi (List.getElem?_eq_getElem hlt)).fit)).2 w G vs R hl hr⟩
theorem B0 {P : Program} {f : FuncId} {fn : Func} {c : Code} (hf : P.funcs[f]? = some fn) (hb : fn.body = some c) (hn0 : C7 fn = true) (as : Array Value) (w : World) : (callFunc f as).run P w = .ok (.enter f as) w := by
 have hn : (fn.name == "runtime.NumGoroutine") = false := by simpa [C7] using hn0
 simp only [callFunc, Sem.run_bind, run_program, Result.andThen_ok, hf, hn, Bool.false_eq_true, if_false, hb, Option.isNone_some]
 rfl
theorem JO {X : Tx} {f : FuncId} {fn : Func} {c : Code} {args : List V} {r : V} {nt : Nat} {rs : List ResultVar} (hf : X.P.funcs[f]? = some fn) (hb : fn.body = some c) (hn0 : C7 fn = true)
  (hnt : args.length + (fn.ntmps - args.length) = nt) (hrs : fn.results.toList = rs) (hm : X.P.follows .mixedOrders = true) (hok : okC nt c = true) (ha : args.all (V.low 0) = true) (hr : r.low 0 = true)
  (h : (∀ x ∈ args, FL x) → go X none 0 nt c (retG X rs (fun x _ => WkV x r)) { slots := FK 0 args, heap := [], marks := [] }) : AF X.P f args r :=
 ⟨Ad.wkpost (Ad.fit (B0 hf hb hn0) (fun hfit => acall_of (X := X) hf hb hn0 hnt hrs hm hok (h hfit))), ha, hr⟩
section
variable {X : Tx} {r : Option Nat} {nb nt : Nat} {s : St} {all : Array Oper} {Q : St → Prop} {o : Oper} {os : List Oper}
theorem Ac {g : FuncId} {args args' : List V} {y : V} (h : AF X.P g args' y) (hg : Ay all s.get o = some true) (hc : Bt s.ev o = some (g, args)) (hw : WkVs args args')
  (k : aW X r nb nt all os Q (s.put o.dst y s.heap)) : CS (X.cx r nb nt) all (o :: os) Q s := MB h hg hc hw (aW_sound _ _ k)
def GM (loud : Nat) : Nat → List Oper → Bool
 | _, [] => true
 | k, o :: os => (loud.testBit k || !AC o.op) && GM loud (k + 1) os
theorem Es {loud : Nat} : ∀ {os : List Oper} {k : Nat}, GM loud k os = true → ∀ (j : Nat) (o : Oper), os[j]? = some o → AC o.op = true → loud.testBit (k + j) = true
 | [], _, _, j, o, h, _ => by simp at h
 | o' :: os, k, h, 0, o, ho, hlo => by simp at ho; subst ho; simp [GM, hlo] at h; simpa using h.1
 | o' :: os, k, h, j + 1, o, ho, hlo => by
  simp only [GM, Bool.and_eq_true] at h
  have := Es h.2 j o (by simpa using ho) hlo
  rw [← this]; congr 1; omega
theorem Af {loud k : Nat} {g : FuncId} {args args' : List V} {y : V} (h : AF X.P g args' y) (hg : Ay all s.get o = some true) (hc : Bt s.ev o = some (g, args)) (hw : WkVs args args') (hl : GM loud (k + 1) os = true)
  (n : dW X r nb nt all loud (k + 1) os Q (s.put o.dst y s.heap)) : EG (X.cx r nb nt) all loud k (o :: os) Q s := TU h hg hc hw (dW_sound _ _ _ (Es hl) n)
end
end Go.Abs
namespace Go.Abs
open Go
inductive FzT (id : Nat) (ds : List D) : V → V → Prop
 | v {x y : V} : FzV id ds x y → FzT id ds x y
 | tup {xs ys : List V} : xs.length = ys.length → (∀ (i : Nat) (x y : V), xs[i]? = some x → ys[i]? = some y → FzV id ds x y) → FzT id ds (.tup xs) (.tup ys)
theorem FzV.rel {w : World} {G G' : Gh} {H H' : List AB} {id : Nat} {ds : List D} (L : Am w G H w G' H') (f : ∀ j, j < ds.length → G'.S (G.rho id) j ∧ (∃ v, w.cell? ⟨G.rho id, j, none⟩ = some v) ∧ ∀ v x, w.cell? ⟨G.rho id, j, none⟩ = some v → ds[j]? = some x → Br w G'.S x v)
  {x y : V} {v : Value} (h : FzV id ds x y) (hr : Ag w G H x v) : Ag w G' H' y v := by
 cases h with
 | c h => cases hr with | c _ _ h0 => exact .c _ _ (h.rel L f h0)
 | same => exact hr.mono L
 | any => exact .c _ _ (.any _)
theorem FzT.rel {w : World} {G G' : Gh} {H H' : List AB} {id : Nat} {ds : List D} (L : Am w G H w G' H') (f : ∀ j, j < ds.length → G'.S (G.rho id) j ∧ (∃ v, w.cell? ⟨G.rho id, j, none⟩ = some v) ∧ ∀ v x, w.cell? ⟨G.rho id, j, none⟩ = some v → ds[j]? = some x → Br w G'.S x v)
  {x y : V} {v : Value} (h : FzT id ds x y) (hr : Ag w G H x v) : Ag w G' H' y v := by
 cases h with
 | v h => exact h.rel L f hr
 | tup hl h =>
  cases hr with
  | tup _ arr hs hr =>
   refine .tup _ arr (by omega) (fun i y u hy hu => ?_)
   have hlt := hl ▸ (List.getElem?_eq_some_iff.1 hy).1
   exact (h i _ y (List.getElem?_eq_getElem hlt) hy).rel L f (hr i _ u (List.getElem?_eq_getElem hlt) hu)
theorem Ad.fzpost {P : Program} {f : FuncId} {args : List V} {H : List AB} {r : V} (h : Ad P f args H (fun x H' => ∃ id cs ds y, H'[id]? = some (.cells cs) ∧ DY cs = some ds ∧ FzT id ds x y ∧ WkV y r)) : Ad P f args H (fun x _ => x = r) :=
 ⟨h.1, fun w G vs R hl hr => (h.2 w G vs R hl hr).mono fun _ w' ⟨v, x, H', G', a, ⟨id, cs, ds, y, h1, h2, h3, h4⟩, c, d, e⟩ => by
  obtain ⟨R', L, f⟩ := c.freeze h1 h2
  exact ⟨v, r, _, _, a, rfl, R', h4.rel (h3.rel L f d), e.trans L⟩⟩
theorem Ad.drop {P : Program} {f : FuncId} {args : List V} {H : List AB} {r : V} (hr : r.low H.length = true) (hH : H.all (AB.low H.length) = true) (h : Ad P f args H (fun x H' => WkV x r ∧ ∃ T, H' = H ++ T)) : Ad P f args H (one r H) :=
 ⟨h.1, fun w G vs R hl hrel => (h.2 w G vs R hl hrel).mono fun _ w' ⟨v, x, H', G', a, ⟨h1, T, h2⟩, c, d, e⟩ => by
  subst h2
  exact ⟨v, r, H, G', a, ⟨rfl, rfl⟩, c.trunc hH, (h1.rel d).trunc hr, e.trunc (Nat.le_refl _)⟩⟩
theorem BB {X : Tx} {f : FuncId} {fn : Func} {c : Code} {args : List V} {H : List AB} {r : V} {nt : Nat} {rs : List ResultVar} (hf : X.P.funcs[f]? = some fn) (hb : fn.body = some c) (hn0 : C7 fn = true)
  (hnt : args.length + (fn.ntmps - args.length) = nt) (hrs : fn.results.toList = rs) (hm : X.P.follows .mixedOrders = true) (hok : okC nt c = true) (hr : r.low H.length = true) (hH : H.all (AB.low H.length) = true)
  (h : (∀ x ∈ args, FL x) → go X none H.length nt c (retG X rs (fun x H' => WkV x r ∧ ∃ T, H' = H ++ T)) { slots := FK 0 args, heap := H, marks := [] }) : Ad X.P f args H (one r H) :=
 Ad.drop hr hH (Ad.fit (B0 hf hb hn0) (fun hfit => acall_of (X := X) hf hb hn0 hnt hrs hm hok (h hfit)))
section
variable {X : Tx} {r : Option Nat} {nb nt : Nat} {s : St} {all : Array Oper} {Q : St → Prop} {o : Oper} {os : List Oper}
theorem Ar {g : FuncId} {args args' : List V} {y : V} {H' : List AB} (h : Ad X.P g args' s.heap (one y H')) (hg : Ay all s.get o = some true) (hc : Bt s.ev o = some (g, args)) (hw : WkVs args args')
  (k : aW X r nb nt all os Q (s.put o.dst y H')) : CS (X.cx r nb nt) all (o :: os) Q s :=
 MA hg hc hw h (fun x H2 ⟨h1, h2⟩ => by subst h1; subst h2; exact aW_sound _ _ k)
theorem S2 {loud k : Nat} {g : FuncId} {args args' : List V} {y : V} (h : Ad X.P g args' s.heap (one y s.heap)) (hg : Ay all s.get o = some true) (hc : Bt s.ev o = some (g, args)) (hw : WkVs args args') (hl : GM loud (k + 1) os = true)
  (n : dW X r nb nt all loud (k + 1) os Q (s.put o.dst y s.heap)) : EG (X.cx r nb nt) all loud k (o :: os) Q s :=
 ⟨true, y, s.heap, hg, by simp only [if_true]; exact AI hc (h.weak hw), fun _ => rfl, dW_sound _ _ _ (Es hl) n⟩
end
end Go.Abs
