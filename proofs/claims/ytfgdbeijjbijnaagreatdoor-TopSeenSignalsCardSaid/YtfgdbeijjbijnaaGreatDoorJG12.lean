/- A table of types that is looked up fast. -/
import Derived.Test.YtfgdbeijjbijnaaGreatDoorJG02
import Derived.Test.YtfgdbeijjbijnaaGreatDoorJG07
import Derived.Test.YtfgdbeijjbijnaaGreatDoorJG08
import Derived.Test.YtfgdbeijjbijnaaGreatDoorJG09
import Derived.Test.YtfgdbeijjbijnaaGreatDoorJG11
import Derived.Attr
import Derived.KernelRfl
set_option linter.unusedSimpArgs false
set_option linter.unusedVariables false
namespace Go.Abs
open Go
def Mg {α : Type} (d : α) : List α → Nat → α
 | [], _ => d
 | a :: _, 0 => a
 | _ :: r, i + 1 => Mg d r i
theorem Pk {α : Type} (d : α) : ∀ (l : List α) (i : Nat), l.length ≤ i → Mg d l i = d
 | [], _, _ => rfl
 | _ :: _, 0, h => by simp at h
 | _ :: r, i + 1, h => Pk d r i (by simpa using h)
def ML (A : List (List (Option TI))) (t : Nat) : Option TI := Mg none (Mg [] A (t / 16)) (t % 16)
theorem Vw {A : List (List (Option TI))} {t : Nat} {i : TI} (h : ML A t = some i) : t < 16 * A.length := by
 refine Classical.byContradiction fun hn => ?_
 unfold ML at h
 rw [Pk [] A _ (by omega)] at h
 cases h
theorem Vx {P : Program} {tt : Nat → Option TI} (key : ∀ t i, tt t = some i → Q3 P t i = true) : By P tt := by
 refine ⟨fun t i hi => ?_, fun t i hi => ?_, fun t i hi ha => ?_, fun t i hi ha => ?_⟩
 all_goals
  have hc := key t i hi
  simp only [Q3, Bool.and_eq_true] at hc
  obtain ⟨⟨⟨h1, h2⟩, h3⟩, h4⟩ := hc
 ·split at h1
  ·rename_i d hd; exact ⟨d, hd, TJ h1 h4⟩
  ·cases h1
 ·split at h2
  ·rename_i inf hinf
   simp only [Bool.and_eq_true, beq_iff_eq] at h2
   obtain ⟨⟨e1, e2⟩, e3⟩ := h2
   split at e3
   ·rename_i z hz
    simp only [Bool.and_eq_true, beq_iff_eq] at e3
    obtain ⟨⟨f1, f3⟩, f4⟩ := e3
    exact ⟨inf, hinf, e1, e2, z, hz, f1, f3, f4⟩
   ·cases e3
  ·cases h2
 ·rw [ha] at h3; simpa using h3
 ·rw [ha] at h3
  simp only [if_true] at h3
  split at h3
  ·rename_i cs hz; exact ⟨cs, hz⟩
  ·cases h3
theorem T6 {P : Program} {A : List (List (Option TI))} (h : (List.range (16 * A.length)).all (fun t => match ML A t with | some i => Q3 P t i | none => true) = true) : By P (ML A) :=
 Vx fun t i hi => by
  have := List.all_eq_true.1 h t (List.mem_range.2 (Vw hi))
  rw [hi] at this; exact this
theorem Vy {P : Program} {tt : Nat → Option TI} {m N : Nat} (hN : m < 2 ^ N) (h : (List.range N).all (fun t => !m.testBit t || (CR P tt 20 t && !(P.eqGuardType P.depth t))) = true) (t : Nat) (ht : m.testBit t = true) : CR P tt 20 t = true ∧ P.eqGuardType P.depth t = false := by
 have hlt : t < N := by
  refine Classical.byContradiction fun hn => ?_
  have := Nat.testBit_lt_two_pow (Nat.lt_of_lt_of_le hN (Nat.pow_le_pow_right (by decide) (by omega : N ≤ t)))
  rw [this] at ht; cases ht
 have := List.all_eq_true.1 h t (List.mem_range.2 hlt)
 rw [ht] at this
 simpa using this
end Go.Abs
namespace Go.Abs
open Go
def YC (P : Program) (id : Nat) (H : List AB) (x : V) (post : V → List AB → Prop) : Prop :=
 ∀ (ro : Option Nat) (o : Oper) (E : Operand → V) (xo : Operand) (as : Array Operand) (ts : Array TypeId), o.op = .call { callee := .value xo, args := as, argTypes := ts } → E xo = .c (.yd id) → as.toList.map E = [x] → AL P ro o H E post
def JP (E : Operand → V) (o : Oper) : Option (Nat × List V) := match o.op with
 | .call { callee := .value xo, args := as, argTypes := _ } => match E xo with
  | .c (.yd id) => some (id, as.toList.map E)
  | _ => none
 | _ => none
theorem AWP.post {X : Cx} {c : Code} {Q : Exit → St → Prop} {s : St} (h : AWP X c (fun e t => ∃ t', Ent X t t' ∧ Q e t') s) : AWP X c Q s := fun bs w G a hR => by
 refine wpIn_mono (h bs w G a hR) ?_
 rintro e a' w' ⟨t, G1, ⟨t', he, hq⟩, hR'⟩
 obtain ⟨G2, hR2⟩ := he bs w' G1 a' hR'
 exact ⟨t', G2, hq, hR2⟩
section
variable {X : Tx} {r : Option Nat} {nb nt : Nat} {s : St} {all : Array Oper} {Q : St → Prop} {o : Oper} {os : List Oper}
theorem S8 {id : Nat} {x : V} {post : V → List AB → Prop} (hy : YC X.P id s.heap x post) (hg : Ay all s.get o = some true) (hc : JP s.ev o = some (id, [x])) (k : ∀ y H', post y H' → aW X r nb nt all os Q (s.put o.dst y H')) :
  CS (X.cx r nb nt) all (o :: os) Q s := by
 simp only [CS, hg]
 unfold JP at hc
 split at hc
 ·rename_i xo as ts ho
  split at hc
  ·rename_i id' hx
   simp only [Option.some.injEq, Prod.mk.injEq] at hc
   obtain ⟨rfl, h2⟩ := hc
   exact (hy r o s.ev xo as ts ho hx h2).mono fun y H' h => aW_sound _ _ (k y H' h)
  ·cases hc
 ·cases hc
end
theorem Fd {X : Cx} {s : St} (k i sz : Nat) {cs : List C} {rows : List (List D)} (hk : s.heap[k]? = some (.cells cs)) (hi : cs[i]? = some (.full rows)) :
  Ent X s { slots := s.slots, heap := (s.heap.set k (.cells (cs.set i (.own s.heap.length rows)))) ++ [.grow rows.length sz], marks := s.marks } := fun bs w G a hR => by
 have hkl := (List.getElem?_eq_some_iff.1 hk).1
 cases hR.rel.ab k _ hk with
 | cells _ arr t hb hr hrole hS =>
 obtain ⟨v0, hv0, hc0, ho0⟩ := hr.get hi
 cases hc0 with
 | full _ ad n hn h =>
 have hget : ∀ j, j < s.heap.length → j ≠ k → ((s.heap.set k (.cells (cs.set i (.own s.heap.length rows)))) ++ [AB.grow rows.length sz])[j]? = s.heap[j]? := fun j hj hne => by
  rw [List.getElem?_append_left (by simpa using hj), List.getElem?_set_ne (Ne.symm hne)]
 have hgk : ((s.heap.set k (.cells (cs.set i (.own s.heap.length rows)))) ++ [AB.grow rows.length sz])[k]? = some (.cells (cs.set i (.own s.heap.length rows))) := by
  rw [List.getElem?_append_left (by simpa using hkl)]; simp [hkl]
 have L : Am w G s.heap w { G with g := upd G.g s.heap.length (ad, n) } ((s.heap.set k (.cells (cs.set i (.own s.heap.length rows)))) ++ [.grow rows.length sz]) :=
  {size := Nat.le_refl _
   S := fun b o h => ⟨h, rfl⟩
   Snew := fun b o _ _ h => h
   len := by simp
   rho := fun _ _ => rfl
   grow := fun j m z hj h => by
    by_cases e : j = k
    ·subst e; rw [hgk] at h; cases h
    ·rw [hget j hj e] at h
     exact ⟨m, h, .inr ⟨rfl, AJ _ _ (by omega)⟩⟩
   vec := fun j m z ds hj h => by
    by_cases e : j = k
    ·subst e; rw [hgk] at h; cases h
    ·rw [hget j hj e] at h
     exact ⟨m, z, ds, h, .inr ⟨rfl, AJ _ _ (by omega)⟩⟩
   role := fun _ _ => rfl
   frame := fun _ _ _ => rfl
   os := rfl
   out := rfl }
 have hown : Ap w { G with g := upd G.g s.heap.length (ad, n) } ((s.heap.set k (.cells (cs.set i (.own s.heap.length rows)))) ++ [.grow rows.length sz]) (.own s.heap.length rows) (.slice ad n n) := by
  refine .own _ rows ad n n (by simp) hn h (fun m z hm => ?_)
  rw [List.getElem?_append_right (by simp)] at hm
  simp at hm
  obtain ⟨rfl, rfl⟩ := hm
  exact ⟨Nat.le_refl _, fun _ => Ao _ _ _⟩
 have R' : Rel w { G with g := upd G.g s.heap.length (ad, n) } ((s.heap.set k (.cells (cs.set i (.own s.heap.length rows)))) ++ [.grow rows.length sz]) :=
  {sex := hR.rel.sex
   roleLt := hR.rel.roleLt
   ab := fun j x hx => by
    by_cases hj : j < s.heap.length
    ·by_cases e : j = k
     ·subst e
      rw [hgk] at hx
      cases hx
      have hset := (hr.mono L).set (i := i) hown rfl
      have harr : arr.toList.set i (.slice ad n n) = arr.toList := by
       refine List.ext_getElem? fun q => ?_
       by_cases hq : i = q
       ·subst hq
        have hlt := (List.getElem?_eq_some_iff.1 hv0).1
        rw [List.getElem?_set_self hlt, hv0]
       ·rw [List.getElem?_set_ne hq]
      rw [harr] at hset
      exact .cells _ arr t hb hset hrole hS
     ·rw [hget j hj e] at hx
      exact AW.mono hR.rel L hj (hR.rel.ab j x hx) (fun _ _ => rfl) (fun _ _ _ h => h) (AJ _ _ (by omega))
    ·have hlt := (List.getElem?_eq_some_iff.1 hx).1
     simp at hlt
     obtain rfl : j = s.heap.length := by omega
     rw [List.getElem?_append_right (by simp)] at hx
     simp at hx
     subst hx
     refine .grow rows.length sz ad n (Ao _ _ _) (by omega) (fun x _ hlt => absurd hlt (by omega)) (fun e => ?_)
     subst e
     cases h with
     | emp => rfl }
 exact ⟨{ G with g := upd G.g s.heap.length (ad, n) },
  {rel := R', later := hR.later.trans L, base := hR.base, size := hR.size, slots := fun i => (hR.slots i).mono L, defers := (by obtain ⟨hs, hh, e⟩ := hR.defers; exact ⟨hs, hh.mono L, e⟩), marks := fun i hi => Nat.lt_of_lt_of_le (hR.marks i hi) L.len }⟩
theorem Ad.frame {P : Program} {f : FuncId} {args : List V} {H : List AB} {y : V} (h : Ad P f args H (one y H)) (hH : H.all (AB.low H.length) = true) (ha : args.all (V.low H.length) = true) (hy : y.low H.length = true) (T : List AB) :
  Ad P f args (H ++ T) (one y (H ++ T)) := by
 refine ⟨h.1, fun w G vs R hl hr => ?_⟩
 have R1 : Rel w (G.clean H.length) H := (R.trunc hH).clean
 refine (h.2 w (G.clean H.length) vs R1 hl (fun i x v hx hv => ?_)).mono ?_
 ·have h1 := List.all_eq_true.1 ha x (List.mem_of_getElem? hx)
  exact (Ag.trunc (hr i x v hx hv) h1).clean
 ·rintro e w' ⟨v, x, H', G2, rfl, ⟨rfl, rfl⟩, R', hv, L⟩
  let G3 : Gh := { S := G2.S, rho := fun i => if i < H'.length then G2.rho i else G.rho i, g := fun i => if i < H'.length then G2.g i else G.g i, role := fun b => if b < w.heap.size then G.role b else G2.role b }
  have rho_lt : ∀ i, i < H'.length → G3.rho i = G2.rho i := fun i hi => if_pos hi
  have g_lt : ∀ i, i < H'.length → G3.g i = G2.g i := fun i hi => if_pos hi
  have hlen : (H' ++ T).length = H'.length + T.length := by simp
  have cr : ∀ (x : C) (u : Value), x.low H'.length = true → Ap w' G2 H' x u → Ap w' G3 (H' ++ T) x u := by
   intro x u hl h
   induction h with
   | any v => exact .any v
   | d x v h => exact .d x v h
   | ptr i off h =>
    have := Ap.ptr (w := w') (G := G3) (H := H' ++ T) i off (by rw [hlen]; omega)
    rwa [rho_lt i h] at this
   | nilp => exact .nilp
   | dp ds b o f hcell hrel => exact .dp ds b o f hcell hrel
   | full rows a n hn h => exact .full rows a n hn h
   | own i rows a m cap hid hn h hg =>
    refine .own i rows a m cap (by rw [hlen]; omega) hn h (fun m' sz hm => ?_)
    rw [List.getElem?_append_left hid] at hm
    rw [g_lt i hid]
    exact hg m' sz hm
   | ms i off len cap h =>
    have := Ap.ms (w := w') (G := G3) (H := H' ++ T) i off len cap (by rw [hlen]; omega)
    rwa [rho_lt i h] at this
   | fn f caps arr hs _ ih =>
    simp only [C.low] at hl
    exact .fn f caps arr hs (fun i x v hx hv => ih i x v hx hv (C.lowL_get hl hx))
   | mv f x v _ ih => exact .mv f x v (ih (by simpa [C.low] using hl))
   | ma f cs arr hs ho _ ih =>
    simp only [C.low] at hl
    exact .ma f cs arr hs ho (fun i x v hx hv => ih i x v hx hv (C.lowL_get hl hx))
   | mp i h =>
    have := Ap.mp (w := w') (G := G3) (H := H' ++ T) i (by rw [hlen]; omega)
    rwa [rho_lt i h] at this
   | yd i h =>
    have := Ap.yd (w := w') (G := G3) (H := H' ++ T) i (by rw [hlen]; omega)
    rwa [rho_lt i h] at this
   | gp g => exact .gp g
   | fs n sz cs b o vs hl' hn hcell _ ih =>
    simp only [C.low] at hl
    exact .fs n sz cs b o vs hl' hn hcell (fun i x v hx hv => ih i x v hx hv (C.lowL_get hl hx))
   | vc i n a hid ha hg =>
    refine .vc i n a (by rw [hlen]; omega) ha (fun m sz cs hm => ?_)
    rw [List.getElem?_append_left hid] at hm
    rw [g_lt i hid]
    exact hg m sz cs hm
   | vs i n a cap hid ha hg =>
    refine .vs i n a cap (by rw [hlen]; omega) ha (fun m sz cs hm => ?_)
    rw [List.getElem?_append_left hid] at hm
    rw [g_lt i hid]
    exact hg m sz cs hm
   | vp i n off a hid hg =>
    refine .vp i n off a (by rw [hlen]; omega) (fun m sz cs hm => ?_)
    rw [List.getElem?_append_left hid] at hm
    rw [g_lt i hid]
    exact hg m sz cs hm
  have vr : ∀ (x : V) (u : Value), x.low H'.length = true → Ag w' G2 H' x u → Ag w' G3 (H' ++ T) x u := by
   intro x u hl h
   induction h with
   | c x v h => exact .c x v (cr x v (by simpa [V.low] using hl) h)
   | agg cs arr h =>
    simp only [V.low] at hl
    exact .agg cs arr ⟨h.1, fun i x v hx hv => ⟨cr x v (C.lowL_get hl hx) (h.2 i x v hx hv).1, (h.2 i x v hx hv).2⟩⟩
   | tup vs arr hs _ ih =>
    simp only [V.low] at hl
    exact .tup vs arr hs (fun i x v hx hv => ih i x v hx hv (V.lowL_get hl hx))
  have hrole : ∀ b k, G2.role b = some k → b < w.heap.size → k < H'.length ∧ G.role b = some k := fun b k hb hlt => by
   have h1 := L.role b hlt
   rw [hb] at h1
   simp only [Gh.clean] at h1
   cases hg : G.role b with
   | none => rw [hg] at h1; cases h1
   | some j =>
    rw [hg] at h1
    simp only at h1
    split at h1
    ·cases h1; rename_i hj; exact ⟨hj, rfl⟩
    ·cases h1
  have L3 : Am w G (H' ++ T) w' G3 (H' ++ T) :=
   {size := L.size
    S := L.S
    Snew := fun b o hb hr h => L.Snew b o hb (by simp [Gh.clean, hr]) h
    len := Nat.le_refl _
    rho := fun i hi => by
     show (if i < H'.length then G2.rho i else G.rho i) = _
     split
     ·rename_i h; exact L.rho i h
     ·rfl
    grow := fun i n sz hi hx => by
     refine ⟨n, hx, .inr ⟨rfl, ?_⟩⟩
     show (if i < H'.length then G2.g i else G.g i) = _
     split
     ·rename_i h
      rw [List.getElem?_append_left h] at hx
      obtain ⟨m, hm, hc⟩ := L.grow i n sz h hx
      rw [hx] at hm
      cases hm
      rcases hc with hc | ⟨_, hc⟩
      ·exact absurd hc (Nat.lt_irrefl _)
      ·exact hc
     ·rfl
    vec := fun i n sz cs hi hx => by
     refine ⟨n, sz, cs, hx, .inr ⟨rfl, ?_⟩⟩
     show (if i < H'.length then G2.g i else G.g i) = _
     split
     ·rename_i h
      rw [List.getElem?_append_left h] at hx
      obtain ⟨m, sz0, cs0, hm, hc⟩ := L.vec i n sz cs h hx
      rw [hx] at hm
      cases hm
      rcases hc with hc | ⟨_, hc⟩
      ·exact absurd hc (Nat.lt_irrefl _)
      ·exact hc
     ·rfl
    role := fun b hb => if_pos hb
    frame := fun b hb hr => L.frame b hb (by simp [Gh.clean, hr])
    os := L.os
    out := L.out }
  refine ⟨v, x, H' ++ T, G3, rfl, ⟨rfl, rfl⟩, ⟨R'.sex, fun b k hb => ?_, fun i z hz => ?_⟩, vr x v hy hv, L3⟩
  ·have hb' : (if b < w.heap.size then G.role b else G2.role b) = some k := hb
   by_cases hlt : b < w.heap.size
   ·exact Nat.lt_of_lt_of_le hlt L.size
   ·rw [if_neg hlt] at hb'; exact R'.roleLt b k hb'
  ·by_cases hi : i < H'.length
   ·rw [List.getElem?_append_left hi] at hz
    have hab := R'.ab i z hz
    refine hab.ren (q := H'.length) (n := H'.length) (fun x u _ hl h => cr x u hl h) (fun x u _ hl h => vr x u hl h) (AB.low_free (Nat.le_refl _) hab.lows) hab.lows i (rho_lt i hi) (g_lt i hi) (fun b hb => ?_) (fun _ _ h => h) (fun j _ hj => ⟨rho_lt j hj, by rw [hlen]; omega⟩)
    show (if b < w.heap.size then G.role b else G2.role b) = some i
    split
    ·rename_i hlt; exact (hrole b i hb hlt).2
    ·exact hb
   ·refine (R.ab i z hz).mono R L3 (List.getElem?_eq_some_iff.1 hz).1 (fun b hb => L.frame b (R.roleLt b i hb) ?_) (fun b o hb hs => L.Snew b o (R.roleLt b i hb) ?_ hs) ?_
    ·simp [Gh.clean, hb, hi]
    ·simp [Gh.clean, hb, hi]
    ·show (if i < H'.length then G2.g i else G.g i) = _
     rw [if_neg hi]
end Go.Abs
namespace Go.Abs
open Go
end Go.Abs
namespace Go.Abs
open Go
def dS (X : Tx) (r : Option Nat) (nb nt : Nat) (m3 : Bool) (n0 N0 : Nat) (all : Array Oper) (k _hc : Nat) (os : List Oper) (acc : List BO) (Q : St → Prop) (s : St) : Prop :=
 Ef (X.cx r nb nt) m3 n0 N0 all k os acc (fun acc t => CC m3 all acc = true ∧ Q t) s
mutual
def dE (X : Tx) (r : Option Nat) (nb nt : Nat) (m3 : Bool) (n0 N0 : Nat) (all : Array Oper) (k hc : Nat) (os : List Oper) (acc : List BO) (Q : St → Prop) (s : St) : Prop :=
 match os with
 | [] => CC m3 all acc = true ∧ Q s
 | o :: os => match Ay all s.get o with
  | some g => BY g (Vz X r nb nt m3 n0 N0 all k hc (o :: os) acc Q s) (VA X r nb nt m3 n0 N0 all (k + 1) hc os (D1 m3 n0 k (.tup []) .no .none acc) Q (s.put o.dst (.tup []) s.heap))
  | none => dS X r nb nt m3 n0 N0 all k hc (o :: os) acc Q s
 termination_by (os.length, 1)
def Vz (X : Tx) (r : Option Nat) (nb nt : Nat) (m3 : Bool) (n0 N0 : Nat) (all : Array Oper) (k hc : Nat) (os : List Oper) (acc : List BO) (Q : St → Prop) (s : St) : Prop :=
 match os with
 | [] => CC m3 all acc = true ∧ Q s
 | o :: os => match m3 && KE s.ev o.op with
  | true => match Rx X s.ev o.op with
   | some (mk, b) => match s.heap[hc]? with
    | some .gone => (n0 ≤ hc ∧ b.newB hc N0 = true) ∧ dE X r nb nt m3 n0 N0 all (k + 1) (hc + 1) os (D1 m3 n0 k (.c (mk.at hc)) (.put hc b) (.blk hc) acc) Q (s.put o.dst (.c (mk.at hc)) (s.heap.set hc b))
    | _ => dS X r nb nt m3 n0 N0 all k hc (o :: os) acc Q s
   | none => dS X r nb nt m3 n0 N0 all k hc (o :: os) acc Q s
  | false => match op1 X s.heap s.ev o.op with
   | some (c, x, H') => c = true ∧ dE X r nb nt m3 n0 N0 all (k + 1) hc os (D1 m3 n0 k x (Ca s.ev o.op H') (B9 X s.ev o.op) acc) Q (s.put o.dst x H')
   | none => dS X r nb nt m3 n0 N0 all k hc (o :: os) acc Q s
 termination_by (os.length, 0)
def VA (X : Tx) (r : Option Nat) (nb nt : Nat) (m3 : Bool) (n0 N0 : Nat) (all : Array Oper) (k hc : Nat) (os : List Oper) (acc : List BO) (Q : St → Prop) (s : St) : Prop := dE X r nb nt m3 n0 N0 all k hc os acc Q s
 termination_by (os.length, 2)
end
section
variable {X : Tx} {r : Option Nat} {nb nt : Nat} {m3 : Bool} {n0 N0 : Nat} {all : Array Oper} {k hc : Nat} {os : List Oper} {o : Oper} {acc : List BO} {Q : St → Prop} {s : St}
theorem eArm_at : VA X r nb nt m3 n0 N0 all k hc os acc Q s = dE X r nb nt m3 n0 N0 all k hc os acc Q s := by rw [VA]
theorem dE_nil : dE X r nb nt m3 n0 N0 all k hc [] acc Q s = (CC m3 all acc = true ∧ Q s) := by rw [dE]
theorem dE_cons : dE X r nb nt m3 n0 N0 all k hc (o :: os) acc Q s = (match Ay all s.get o with
  | some g => BY g (Vz X r nb nt m3 n0 N0 all k hc (o :: os) acc Q s) (VA X r nb nt m3 n0 N0 all (k + 1) hc os (D1 m3 n0 k (.tup []) .no .none acc) Q (s.put o.dst (.tup []) s.heap))
  | none => dS X r nb nt m3 n0 N0 all k hc (o :: os) acc Q s) := by rw [dE]
theorem eRun_cons : Vz X r nb nt m3 n0 N0 all k hc (o :: os) acc Q s = (match m3 && KE s.ev o.op with
  | true => match Rx X s.ev o.op with
   | some (mk, b) => match s.heap[hc]? with
    | some .gone => (n0 ≤ hc ∧ b.newB hc N0 = true) ∧ dE X r nb nt m3 n0 N0 all (k + 1) (hc + 1) os (D1 m3 n0 k (.c (mk.at hc)) (.put hc b) (.blk hc) acc) Q (s.put o.dst (.c (mk.at hc)) (s.heap.set hc b))
    | _ => dS X r nb nt m3 n0 N0 all k hc (o :: os) acc Q s
   | none => dS X r nb nt m3 n0 N0 all k hc (o :: os) acc Q s
  | false => match op1 X s.heap s.ev o.op with
   | some (c, x, H') => c = true ∧ dE X r nb nt m3 n0 N0 all (k + 1) hc os (D1 m3 n0 k x (Ca s.ev o.op H') (B9 X s.ev o.op) acc) Q (s.put o.dst x H')
   | none => dS X r nb nt m3 n0 N0 all k hc (o :: os) acc Q s) := by rw [Vz]
theorem de_t (b : Prop) : BY true (Vz X r nb nt m3 n0 N0 all k hc (o :: os) acc Q s) b = (match m3 && KE s.ev o.op with
  | true => match Rx X s.ev o.op with
   | some (mk, b) => match s.heap[hc]? with
    | some .gone => (n0 ≤ hc ∧ b.newB hc N0 = true) ∧ dE X r nb nt m3 n0 N0 all (k + 1) (hc + 1) os (D1 m3 n0 k (.c (mk.at hc)) (.put hc b) (.blk hc) acc) Q (s.put o.dst (.c (mk.at hc)) (s.heap.set hc b))
    | _ => dS X r nb nt m3 n0 N0 all k hc (o :: os) acc Q s
   | none => dS X r nb nt m3 n0 N0 all k hc (o :: os) acc Q s
  | false => match op1 X s.heap s.ev o.op with
   | some (c, x, H') => c = true ∧ dE X r nb nt m3 n0 N0 all (k + 1) hc os (D1 m3 n0 k x (Ca s.ev o.op H') (B9 X s.ev o.op) acc) Q (s.put o.dst x H')
   | none => dS X r nb nt m3 n0 N0 all k hc (o :: os) acc Q s) := by rw [Ep, eRun_cons]
theorem de_f (a : Prop) : BY false a (VA X r nb nt m3 n0 N0 all k hc os acc Q s) = dE X r nb nt m3 n0 N0 all k hc os acc Q s := by rw [Er, eArm_at]
theorem dE_sound : ∀ (os : List Oper) (k hc : Nat) (acc : List BO) (s : St), dE X r nb nt m3 n0 N0 all k hc os acc Q s → dS X r nb nt m3 n0 N0 all k hc os acc Q s
 | [], k, hc, acc, s, h => by rw [dE_nil] at h; exact h
 | o :: os, k, hc, acc, s, h => by
  rw [dE_cons] at h
  split at h
  ·rename_i g hg
   cases g with
   | false =>
    rw [de_f] at h
    exact ⟨false, .tup [], .no, .none, hg, by simp, KC _ _, dE_sound os _ hc _ _ h⟩
   | true =>
    rw [de_t] at h
    split at h
    ·rename_i hmk
     simp only [Bool.and_eq_true] at hmk
     split at h
     ·rename_i mk b hm1
      split at h
      ·rename_i hgone
       obtain ⟨⟨hc0, hc1⟩, h⟩ := h
       obtain ⟨g1, g2⟩ := AB.newB_spec hc1
       obtain ⟨f1', f2⟩ := MH hm1
       refine ⟨true, _, .put hc b, .blk hc, hg, ?_, Pf hmk.1 f1', dE_sound os _ _ _ _ h⟩
       simp only [if_true]
       exact .inr ⟨mk, b, rfl, rfl, hgone, rfl, hc0, g1, g2, fun H2 _ => CK _ (f2 H2)⟩
      ·exact h
     ·exact h
    ·rename_i hmk
     split at h
     ·rename_i c x H' hop
      obtain ⟨hc1, h⟩ := h
      subst hc1
      obtain ⟨f1, f2⟩ := KB hop
      refine ⟨true, x, Ca s.ev o.op H', B9 X s.ev o.op, hg, ?_, Hy m3 (fun h3 => MI (by rw [h3] at hmk; simpa using hmk)) hop, ?_⟩
      ·simp only [if_true]
       unfold IW
       rw [KD]
       exact fun H2 hs => CK _ (f1 H2 hs)
      ·rw [f2]; exact dE_sound os _ hc _ _ h
     ·exact h
  ·exact h
theorem de_pure {g : FuncId} {args args' : List V} {y : V} (h : AF X.P g args' y) (hg : Ay all s.get o = some true) (hcl : Bt s.ev o = some (g, args)) (hw : WkVs args args')
  (n : dE X r nb nt m3 n0 N0 all (k + 1) hc os (D1 m3 n0 k y .no .none acc) Q (s.put o.dst y s.heap)) : dS X r nb nt m3 n0 N0 all k hc (o :: os) acc Q s :=
 ⟨true, y, .no, .none, hg, by simp only [if_true]; exact fun H2 _ => AI hcl ((h.at _).weak hw), KC _ _, dE_sound os _ hc _ _ n⟩
theorem callee_kind {E : Operand → V} {o : Oper} {p : FuncId × List V} (h : Bt E o = some p) (m3 : Bool) (w : DR) : Gu m3 o.op .no w := by
 have hq : Bg o.op = false := by
  unfold Bt at h
  split at h
  ·rename_i ho; rw [ho]; rfl
  ·cases h
 exact ⟨fun e => (by rw [hq] at e; cases e), fun _ => rfl, fun _ => .inl rfl, fun _ => rfl⟩
end
section
variable {X : Tx} {r : Option Nat} {nb nt : Nat} {m3 : Bool} {n0 N0 : Nat} {all : Array Oper} {k hc : Nat} {os : List Oper} {o : Oper} {acc : List BO} {Q : St → Prop} {s : St}
theorem de_make {g : FuncId} {args args' : List V} {mk : MkK} {b : AB} (h : ∀ H, Ad X.P g args' H (one (.c (mk.at H.length)) (H ++ [b]))) (hg : Ay all s.get o = some true) (hcl : Bt s.ev o = some (g, args)) (hw : WkVs args args') (hm3 : m3 = true) (hco : Db o.op = true)
  (hgone : s.heap[hc]? = some .gone) (hc0 : n0 ≤ hc) (hb : b.newB hc N0 = true)
  (n : dE X r nb nt m3 n0 N0 all (k + 1) (hc + 1) os (D1 m3 n0 k (.c (mk.at hc)) (.put hc b) (.blk hc) acc) Q (s.put o.dst (.c (mk.at hc)) (s.heap.set hc b))) : dS X r nb nt m3 n0 N0 all k hc (o :: os) acc Q s := by
 obtain ⟨g1, g2⟩ := AB.newB_spec hb
 refine ⟨true, _, .put hc b, .blk hc, hg, ?_, Ry hm3 hco, dE_sound os _ _ _ _ n⟩
 simp only [if_true]
 exact .inr ⟨mk, b, rfl, rfl, hgone, rfl, hc0, g1, g2, fun H2 _ => AI hcl ((h H2).weak hw)⟩
end
def lookK : List (Nat × List Nat) → Nat → Option (List Nat)
 | [], _ => none
 | (i, l) :: r, j => if i = j then some l else lookK r j
def trimL (sl : List (Nat × V)) : Option (List Nat) → List (Nat × V)
 | some l => l.map fun j => (j, Aw sl j)
 | none => sl
def trimK (kp : List (Nat × List Nat)) (id : Nat) (t : St) : St := { slots := trimL t.slots (lookK kp id), heap := t.heap, marks := t.marks }
theorem getS_keep (sl : List (Nat × V)) (i : Nat) : ∀ l : List Nat, Aw (l.map fun j => (j, Aw sl j)) i = Aw sl i ∨ Aw (l.map fun j => (j, Aw sl j)) i = .c .any
 | [] => .inr rfl
 | j :: l => by
  simp only [List.map_cons, Aw]
  by_cases h : j = i
  ·subst h; simp
  ·rw [if_neg h]; exact getS_keep sl i l
theorem ent_trim {X : Cx} (kp : List (Nat × List Nat)) (id : Nat) (t : St) : Ent X t (trimK kp id t) := fun bs w G a hR => by
 refine ⟨G, { rel := hR.rel, later := hR.later, base := hR.base, size := hR.size, slots := fun i => ?_, defers := hR.defers, marks := hR.marks }⟩
 show Ag w G t.heap (Aw (trimL t.slots (lookK kp id)) i) _
 cases lookK kp id with
 | none => exact hR.slots i
 | some l =>
  rcases getS_keep t.slots i l with h | h
  ·simp only [trimL, h]; exact hR.slots i
  ·simp only [trimL, h]; exact .c _ _ (.any _)
def StopP (X : Cx) (Q : St → Prop) (t : St) : Prop := ∃ t', Ent X t t' ∧ Q t'
theorem stop_mk {X : Cx} {Q : St → Prop} {t : St} (t' : St) (h : Ent X t t') (k : Q t') : StopP X Q t := ⟨t', h, k⟩
def stopQ (bad : List Nat) (X : Cx) (id : Nat) (Q : St → Prop) (t : St) : Prop := match bad.contains (id + 10000) with
 | true => StopP X Q t
 | false => Q t
theorem stop_ent {bad : List Nat} {X : Cx} {id : Nat} {Q : St → Prop} {t : St} (h : stopQ bad X id Q t) : ∃ t', Ent X t t' ∧ Q t' := by
 unfold stopQ at h
 split at h
 ·exact h
 ·exact ⟨t, Ent.refl, h⟩
theorem post_trim {X : Cx} {c : Code} {Q : Exit → St → Prop} {s : St} {bad : List Nat} {kp : List (Nat × List Nat)} {id : Nat} (h : AWP X c (fun e t => stopQ bad X id (Q e) (trimK kp id t)) s) : AWP X c Q s :=
 AWP.post (h.mono fun e t ht => by
  obtain ⟨t', h1, h2⟩ := stop_ent ht
  exact ⟨t', (ent_trim kp id t).trans h1, h2⟩)
def loudL2 : List Oper → Nat
 | [] => 0
 | o :: os => 2 * loudL2 os + (if AC o.op || (match o.op with | .call { callee := .value (.tmp _), args := _, argTypes := _ } => true | _ => false) then 1 else 0)
theorem loudL2_bit : ∀ (os : List Oper) (k : Nat) (o : Oper), os[k]? = some o → AC o.op = true → (loudL2 os).testBit k = true
 | [], k, o, h, _ => by simp at h
 | o' :: os, 0, o, h, hl => by
  simp at h; subst h
  rw [loudL2, hl, Bool.true_or, if_pos rfl, Nat.testBit_zero]
  simp
 | o' :: os, k + 1, o, h, hl => by
  have ih := loudL2_bit os k o (by simpa using h) hl
  rw [loudL2, Nat.testBit_succ]
  have e : ∀ (n : Nat) (b : Prop) [Decidable b], (2 * n + (if b then 1 else 0)) / 2 = n := fun n b _ => by split <;> omega
  rw [e]; exact ih
def valOp : Op → Bool
 | .call { callee := .value (.tmp _), args := _, argTypes := _ } => true
 | _ => false
def loudL3 : List Oper → Nat
 | [] => 0
 | o :: os => 2 * loudL3 os + (if AC o.op || (valOp o.op && os.all fun p => !valOp p.op) then 1 else 0)
theorem loudL3_bit : ∀ (os : List Oper) (k : Nat) (o : Oper), os[k]? = some o → AC o.op = true → (loudL3 os).testBit k = true
 | [], k, o, h, _ => by simp at h
 | o' :: os, 0, o, h, hl => by
  simp at h; subst h
  rw [loudL3, hl, Bool.true_or, if_pos rfl, Nat.testBit_zero]
  simp
 | o' :: os, k + 1, o, h, hl => by
  have ih := loudL3_bit os k o (by simpa using h) hl
  rw [loudL3, Nat.testBit_succ]
  have e : ∀ (n : Nat) (b : Prop) [Decidable b], (2 * n + (if b then 1 else 0)) / 2 = n := fun n b _ => by split <;> omega
  rw [e]; exact ih
def loudX (bad : List Nat) (id : Nat) (os : List Oper) : Nat := match bad.contains (id + 20000) with
 | true => loudL2 os
 | false => match bad.contains (id + 50000) with
  | true => loudL3 os
  | false => IT os
theorem loudX_bit {bad : List Nat} {id : Nat} (os : List Oper) (k : Nat) (o : Oper) (h : os[k]? = some o) (hl : AC o.op = true) : (loudX bad id os).testBit k = true := by
 unfold loudX
 split
 ·exact loudL2_bit os k o h hl
 ·split
  ·exact loudL3_bit os k o h hl
  ·rw [Ii os k o h]; exact hl
def cntN : List Nat → Nat → Nat
 | [], _ => 0
 | b :: l, i => match b == i with
  | true => cntN l i + 1
  | false => cntN l i
def cntX (bad : List Nat) (id : Nat) (os : List Oper) : Nat := Fc os + cntN bad (id + 30000)
def okE (bad : List Nat) (nt : Nat) : Code → Bool
 | .seq x y => okE bad nt x && okE bad nt y
 | .block _ c => okE bad nt c
 | .loop c => okE bad nt c
 | .scope c => okE bad nt c
 | .cond _ x y => okE bad nt x && okE bad nt y
 | .region _ ops false => C6 nt ops.toList
 | .region id ops true => C6 nt ops.toList && (if bad.contains id then Fa (KF ops) ops else NU (loudX bad id ops.toList) ops)
 | .rangeFunc _ _ a b => okE bad nt a && okE bad nt b
 | _ => true
mutual
def goE (bad : List Nat) (kp : List (Nat × List Nat)) (X : Tx) (r : Option Nat) (nb nt : Nat) (c : Code) (Q : Exit → St → Prop) (s : St) : Prop :=
 match c with
 | .skip => Q .normal s
 | .label _ => Q .normal s
 | .exit id => Q (.exit id) s
 | .ret => Q .ret s
 | .seq x y => goE bad kp X r nb nt x (DV (contE bad kp X r nb nt y Q) Q) s
 | .block id c => goE bad kp X r nb nt c (GI id Q) s
 | .scope c => goE bad kp X r nb nt c (NM Q) s
 | .cond c x y => match s.ev c with
  | .c (.d (.bool t)) => BY t (armE bad kp X r nb nt x Q s) (armE bad kp X r nb nt y Q s)
  | _ => False
 | .region id ops false => match bad.contains (id + 40000) with
  | true => AWP (X.cx r nb nt) (.region id ops false) (fun e t => stopQ bad (X.cx r nb nt) id (Q e) (trimK kp id t)) s
  | false => aW X r nb nt ops ops.toList (fun t => stopQ bad (X.cx r nb nt) id (Q .normal) (trimK kp id t)) s
 | .region id ops true => match bad.contains id with
  | true => dE X r nb nt (KF ops) s.heap.length (FO (KF ops) (cntX bad id ops.toList) s).heap.length ops 0 s.heap.length ops.toList [] (fun t => stopQ bad (X.cx r nb nt) id (Q .normal) (trimK kp id t)) (FO (KF ops) (cntX bad id ops.toList) s)
  | false => dW X r nb nt ops (loudX bad id ops.toList) 0 ops.toList (fun t => stopQ bad (X.cx r nb nt) id (Q .normal) (trimK kp id t)) s
 | c => AWP (X.cx r nb nt) c Q s
def contE (bad : List Nat) (kp : List (Nat × List Nat)) (X : Tx) (r : Option Nat) (nb nt : Nat) (c : Code) (Q : Exit → St → Prop) (s : St) : Prop := goE bad kp X r nb nt c Q s
def armE (bad : List Nat) (kp : List (Nat × List Nat)) (X : Tx) (r : Option Nat) (nb nt : Nat) (c : Code) (Q : Exit → St → Prop) (s : St) : Prop := goE bad kp X r nb nt c Q s
end
theorem contE_at (bad : List Nat) (kp : List (Nat × List Nat)) (X : Tx) (r : Option Nat) (nb nt : Nat) (c : Code) (Q : Exit → St → Prop) (s : St) : contE bad kp X r nb nt c Q s = goE bad kp X r nb nt c Q s := by rw [contE]
theorem armE_at (bad : List Nat) (kp : List (Nat × List Nat)) (X : Tx) (r : Option Nat) (nb nt : Nat) (c : Code) (Q : Exit → St → Prop) (s : St) : armE bad kp X r nb nt c Q s = goE bad kp X r nb nt c Q s := by rw [armE]
theorem goE_sound {bad : List Nat} {kp : List (Nat × List Nat)} {X : Tx} {r : Option Nat} {nb nt : Nat} (hm : X.P.follows .mixedOrders = true) (c : Code) : okE bad nt c = true → ∀ {Q : Exit → St → Prop} {s : St}, goE bad kp X r nb nt c Q s → AWP (X.cx r nb nt) c Q s := by
 induction c with
 | skip => intro _ Q s h; rw [goE] at h; exact Ki h
 | label l => intro _ Q s h; rw [goE] at h; exact Ie h
 | exit id => intro _ Q s h; rw [goE] at h; exact Hp h
 | ret => intro _ Q s h; rw [goE] at h; exact NK h
 | seq x y ihx ihy =>
  intro hok Q s h
  simp only [okE, Bool.and_eq_true] at hok
  rw [goE] at h
  exact NL ((ihx hok.1 h).mono (thenQ_mono fun s h => ihy hok.2 (by rw [contE_at] at h; exact h)))
 | block id c ih => intro hok Q s h; rw [goE] at h; exact If (ih hok h)
 | scope c ih => intro hok Q s h; rw [goE] at h; exact Ig (ih hok h)
 | cond c x y ihx ihy =>
  intro hok Q s h
  simp only [okE, Bool.and_eq_true] at hok
  rw [goE] at h
  split at h
  ·rename_i t hc
   rw [BY, armE_at, armE_at] at h
   exact Hq hc (fun e => ihx hok.1 (h.1 e)) (fun e => ihy hok.2 (h.2 e))
  ·exact h.elim
 | region id ops d =>
  intro hok Q s h
  cases d with
  | false =>
   rw [goE] at h
   split at h
   ·exact post_trim h
   ·exact post_trim (GK (X := X.cx r nb nt) (Q := fun e t => stopQ bad (X.cx r nb nt) id (Q e) (trimK kp id t)) hok (aW_sound _ _ h))
  | true =>
   rw [goE] at h
   simp only [okE, Bool.and_eq_true] at hok
   split at h
   ·rename_i hb
    rw [if_pos hb] at hok
    exact post_trim (Hv (X := X.cx r nb nt) (Q := fun e t => stopQ bad (X.cx r nb nt) id (Q e) (trimK kp id t)) (KF ops) (cntX bad id ops.toList) hm hok.1 hok.2 (dE_sound _ _ _ _ _ h))
   ·rename_i hb
    rw [if_neg (by rw [hb]; simp)] at hok
    exact post_trim (Dr (X := X.cx r nb nt) (Q := fun e t => stopQ bad (X.cx r nb nt) id (Q e) (trimK kp id t)) (loudX bad id ops.toList) hm hok.1 hok.2 (dW_sound _ _ _ (fun j o ho hlo => by rw [Nat.zero_add]; exact loudX_bit _ j o ho hlo) h))
 | _ => intro _ Q s h; unfold goE at h; exact h
theorem acall_ofE {bad : List Nat} {kp : List (Nat × List Nat)} {X : Tx} {f : FuncId} {fn : Func} {c : Code} {args : List V} {H : List AB} {nt : Nat} {rs : List ResultVar} {post : V → List AB → Prop} (hf : X.P.funcs[f]? = some fn) (hb : fn.body = some c) (hn0 : C7 fn = true)
  (hnt : args.length + (fn.ntmps - args.length) = nt) (hrs : fn.results.toList = rs) (hm : X.P.follows .mixedOrders = true) (hok : okE bad nt c = true)
  (h : goE bad kp X none H.length nt c (retG X rs post) { slots := FK 0 args, heap := H, marks := [] }) : Ad X.P f args H post := by
 subst hrs
 exact E8 (X := X) hf hb hn0 hnt ((goE_sound hm c hok h).mono retG_sound)
theorem pure_wkE {bad : List Nat} {kp : List (Nat × List Nat)} {X : Tx} {f : FuncId} {fn : Func} {c : Code} {args : List V} {r : V} {nt : Nat} {rs : List ResultVar} (hf : X.P.funcs[f]? = some fn) (hb : fn.body = some c) (hn0 : C7 fn = true)
  (hnt : args.length + (fn.ntmps - args.length) = nt) (hrs : fn.results.toList = rs) (hm : X.P.follows .mixedOrders = true) (hok : okE bad nt c = true) (ha : args.all (V.low 0) = true) (hr : r.low 0 = true)
  (h : (∀ x ∈ args, FL x) → goE bad kp X none 0 nt c (retG X rs (fun x _ => WkV x r)) { slots := FK 0 args, heap := [], marks := [] }) : AF X.P f args r :=
 ⟨Ad.wkpost (Ad.fit (B0 hf hb hn0) (fun hfit => acall_ofE (bad := bad) (X := X) hf hb hn0 hnt hrs hm hok (h hfit))), ha, hr⟩
theorem acall_atE {bad : List Nat} {kp : List (Nat × List Nat)} {X : Tx} {f : FuncId} {fn : Func} {c : Code} {args : List V} {H : List AB} {r : V} {nt : Nat} {rs : List ResultVar} (hf : X.P.funcs[f]? = some fn) (hb : fn.body = some c) (hn0 : C7 fn = true)
  (hnt : args.length + (fn.ntmps - args.length) = nt) (hrs : fn.results.toList = rs) (hm : X.P.follows .mixedOrders = true) (hok : okE bad nt c = true) (hr : r.low H.length = true) (hH : H.all (AB.low H.length) = true)
  (h : (∀ x ∈ args, FL x) → goE bad kp X none H.length nt c (retG X rs (fun x H' => WkV x r ∧ ∃ T, H' = H ++ T)) { slots := FK 0 args, heap := H, marks := [] }) : Ad X.P f args H (one r H) :=
 Ad.drop hr hH (Ad.fit (B0 hf hb hn0) (fun hfit => acall_ofE (bad := bad) (kp := kp) (X := X) hf hb hn0 hnt hrs hm hok (h hfit)))
theorem acall_fitE {bad : List Nat} {kp : List (Nat × List Nat)} {X : Tx} {f : FuncId} {fn : Func} {c : Code} {args : List V} {H : List AB} {post : V → List AB → Prop} {nt : Nat} {rs : List ResultVar} (hf : X.P.funcs[f]? = some fn) (hb : fn.body = some c) (hn0 : C7 fn = true)
  (hnt : args.length + (fn.ntmps - args.length) = nt) (hrs : fn.results.toList = rs) (hm : X.P.follows .mixedOrders = true) (hok : okE bad nt c = true)
  (h : (∀ x ∈ args, FL x) → goE bad kp X none H.length nt c (retG X rs post) { slots := FK 0 args, heap := H, marks := [] }) : Ad X.P f args H post :=
 Ad.fit (B0 hf hb hn0) (fun hfit => acall_ofE (bad := bad) (kp := kp) (X := X) hf hb hn0 hnt hrs hm hok (h hfit))
theorem pure_fzE {bad : List Nat} {kp : List (Nat × List Nat)} {X : Tx} {f : FuncId} {fn : Func} {c : Code} {args : List V} {r : V} {nt : Nat} {rs : List ResultVar} (hf : X.P.funcs[f]? = some fn) (hb : fn.body = some c) (hn0 : C7 fn = true)
  (hnt : args.length + (fn.ntmps - args.length) = nt) (hrs : fn.results.toList = rs) (hm : X.P.follows .mixedOrders = true) (hok : okE bad nt c = true) (ha : args.all (V.low 0) = true) (hr : r.low 0 = true)
  (h : (∀ x ∈ args, FL x) → goE bad kp X none 0 nt c (retG X rs (fun x H' => ∃ id cs ds y, H'[id]? = some (.cells cs) ∧ DY cs = some ds ∧ FzT id ds x y ∧ WkV y r)) { slots := FK 0 args, heap := [], marks := [] }) : AF X.P f args r :=
 ⟨Ad.fzpost (Ad.fit (B0 hf hb hn0) (fun hfit => acall_ofE (bad := bad) (kp := kp) (X := X) hf hb hn0 hnt hrs hm hok (h hfit))), ha, hr⟩
theorem goE_t {bad : List Nat} {kp : List (Nat × List Nat)} {X : Tx} {r : Option Nat} {nb nt : Nat} {c : Code} {Q : Exit → St → Prop} {s : St} (b : Prop) : BY true (armE bad kp X r nb nt c Q s) b = goE bad kp X r nb nt c Q s := by rw [Ep, armE_at]
theorem goE_f {bad : List Nat} {kp : List (Nat × List Nat)} {X : Tx} {r : Option Nat} {nb nt : Nat} {c : Code} {Q : Exit → St → Prop} {s : St} (a : Prop) : BY false a (armE bad kp X r nb nt c Q s) = goE bad kp X r nb nt c Q s := by rw [Er, armE_at]
theorem goE_if {bad : List Nat} {kp : List (Nat × List Nat)} {X : Tx} {r : Option Nat} {nb nt : Nat} {c c' : Code} {Q : Exit → St → Prop} {s : St} {t : Bool} (h1 : t = true → goE bad kp X r nb nt c Q s) (h2 : t = false → goE bad kp X r nb nt c' Q s) : BY t (armE bad kp X r nb nt c Q s) (armE bad kp X r nb nt c' Q s) :=
 ⟨fun h => by rw [armE_at]; exact h1 h, fun h => by rw [armE_at]; exact h2 h⟩
theorem goE_loop {bad : List Nat} {kp : List (Nat × List Nat)} {X : Tx} {r : Option Nat} {nb nt : Nat} {c : Code} {Q : Exit → St → Prop} {s : St} {α : Type} (S : α → St) (Inv : α → Prop) (μ : α → Nat) (a0 : α) (hm : X.P.follows .mixedOrders = true) (hok : okE bad nt c = true)
  (h0 : Ent (X.cx r nb nt) s (S a0)) (hI : Inv a0)
  (round : ∀ a, Inv a → goE bad kp X r nb nt c (DV (fun s' => ∃ a', Inv a' ∧ μ a' < μ a ∧ Ent (X.cx r nb nt) s' (S a')) Q) (S a)) : AWP (X.cx r nb nt) (.loop c) Q s := by
 refine AWP.ent h0 (Hr (fun m s' => ∃ a, Inv a ∧ μ a = m ∧ Ent (X.cx r nb nt) s' (S a)) (μ a0) ⟨a0, hI, rfl, Ent.refl⟩ ?_)
 rintro m s' ⟨a, hI, rfl, he⟩
 refine AWP.ent he ((goE_sound hm c hok (round a hI)).mono ?_)
 exact thenQ_mono fun s'' ⟨a', h1, h2, h3⟩ => ⟨μ a', h2, a', h1, rfl, h3⟩
end Go.Abs
open Go Go.Abs
attribute [go_sem] go cont_at aW_nil aW_cons dW_nil dW_cons retG NT DF Km NS Ay op1 FK St.put St.get St.ev evS Aw EM DV GI NM SX B I List.map_cons List.map_nil Q9 CW aD3 SU E5 Option.map_some true_and and_true List.length_map aD5 Ed Bool.not_true Bool.not_false Bool.true_and Bool.and_true decide_true decide_false mkV BS AC Option.bind_some Option.getD_some Bool.false_eq_true Bool.true_eq_false or_true true_or false_or go_t go_f aw_t aw_f dw_t dw_f true_implies false_implies implies_true beq_t beq_f List.getElem?_map Int.toNat_natCast List.getElem?_cons_zero List.getElem?_cons_succ List.take_succ_cons List.take_zero List.drop_succ_cons List.drop_zero List.length_cons List.length_nil Bool.and_self List.getElem?_toArray List.cons_append List.nil_append List.set_cons_zero List.set_cons_succ List.getElem?_nil Option.map_none Option.getD_none V.solid V.cs setMany wkSlots wkv_refl V.low C.low C.lowL V.lowL fld List.map Nat.zero_add Nat.add_zero wkv_own wkv_full wkv_tup wkvs_cons wkvs_nil wkv_agg wkcs_cons wkcs_nil wkc_refl wkc_own wkc_full Option.isSome_some cond_true cond_false List.append_nil List.isEmpty_toArray List.isEmpty_nil E7
namespace Go.Abs
open Go
section
variable {X : Cx} {s s' : St}
theorem aEc (j sz : Nat) (hj : s.get j = .c (.full [])) : Ent X s { slots := EM s.slots j (.c (.vs s.heap.length 0)), heap := s.heap ++ [.vec 0 sz []], marks := s.marks } := fun bs w G a hR => by
 have h0 := hR.slots j
 rw [hj] at h0
 generalize hv0 : a.tmps.getD j undef = v0 at h0
 cases h0 with
 | c _ _ h0 =>
  obtain ⟨G', ad, R', L, rfl, hg⟩ := Ic hR.rel h0 sz
  refine ⟨G',
   {rel := R'
    later := hR.later.trans L
    base := hR.base
    size := hR.size
    slots := fun i => ?_
    defers := ?_
    marks := fun i hi => Nat.lt_of_lt_of_le (hR.marks i hi) L.len }⟩
  ·show Ag w _ _ (Aw (EM s.slots j _) i) _
   rw [Bv]
   by_cases e : j = i
   ·subst e
    rw [if_pos rfl, hv0]
    refine .c _ _ (.vs _ 0 ad 0 (by simp) ⟨Nat.le_refl _, fun e => absurd rfl e⟩ (fun m z cs hm => ?_))
    exact ⟨Nat.zero_le _, fun _ => hg⟩
   ·rw [if_neg e]; exact (hR.slots i).mono L
  ·obtain ⟨hs, hh, e⟩ := hR.defers
   refine ⟨hs, hh.mono L, ?_⟩
   rw [e]
   congr 1
   refine List.map_congr_left fun id hid => ?_
   simp only [CX, L.rho id (hR.marks id hid)]
theorem N6 (k i sz : Nat) {cs : List C} (hk : s.heap[k]? = some (.cells cs)) (hi : cs[i]? = some (.full [])) : Ent X s { slots := s.slots, heap := (s.heap.set k (.cells (cs.set i (.vs s.heap.length 0)))) ++ [.vec 0 sz []], marks := s.marks } := fun bs w G a hR => by
 have hkl : k < s.heap.length := (List.getElem?_eq_some_iff.1 hk).1
 cases hR.rel.ab k _ hk with
 | cells _ arr t hb hr hrole hS =>
 obtain ⟨v0, hv0, hc0, ho0⟩ := hr.get hi
 obtain ⟨G', ad, R', L, rfl, hg⟩ := Ic hR.rel hc0 sz
 have hown : Ap w G' (s.heap ++ [.vec 0 sz []]) (.vs s.heap.length 0) (.slice ad 0 0) := .vs _ 0 ad 0 (by simp) ⟨Nat.le_refl _, fun e => absurd rfl e⟩ (fun m z cs hm => ⟨Nat.zero_le _, fun _ => hg⟩)
 have hk2 : (s.heap ++ [AB.vec 0 sz []])[k]? = some (.cells cs) := by rw [List.getElem?_append_left hkl]; exact hk
 have hb2 : w.heap[G'.rho k]? = some (.cells arr t (0, 0)) := by rw [L.rho k hkl]; exact hb
 have hset : (s.heap ++ [AB.vec 0 sz []]).set k (.cells (cs.set i (.vs s.heap.length 0))) = (s.heap.set k (.cells (cs.set i (.vs s.heap.length 0)))) ++ [.vec 0 sz []] := by rw [List.set_append_left _ _ hkl]
 have hr2 : An w G' (s.heap ++ [.vec 0 sz []]) (cs.set i (.vs s.heap.length 0)) arr.toList := by
  have h1 := (hr.mono L).set (x := .vs s.heap.length 0) (v := .slice ad 0 0) hown ho0 i
  have h2 : arr.toList.set i (.slice ad 0 0) = arr.toList := by
   refine List.ext_getElem? fun j => ?_
   by_cases e : i = j
   ·subst e
    have hlt := (List.getElem?_eq_some_iff.1 hv0).1
    rw [List.getElem?_set_self hlt]; exact hv0.symm
   ·rw [List.getElem?_set_ne e]
  rwa [h2] at h1
 have he : w.putObj (G'.rho k) (.cells arr t (0, 0)) = w := J0 hb2
 obtain ⟨R2, L2⟩ := R'.put_cells (cs' := cs.set i (.vs s.heap.length 0)) (arr' := arr) hk2 hb2 hr2
 rw [he, hset] at R2 L2
 refine ⟨G',
  {rel := R2
   later := hR.later.trans (L.trans L2)
   base := hR.base
   size := hR.size
   slots := fun i => (hR.slots i).mono (L.trans L2)
   defers := ?_
   marks := fun i hi => Nat.lt_of_lt_of_le (hR.marks i hi) (L.trans L2).len }⟩
 obtain ⟨hs, hh, e⟩ := hR.defers
 refine ⟨hs, hh.mono (L.trans L2), ?_⟩
 rw [e]
 congr 1
 refine List.map_congr_left fun id hid => ?_
 simp only [CX, L.rho id (hR.marks id hid)]
def fzN (id n : Nat) (d : D) : C → C
 | .vs i m => if i = id ∧ m = n then .d d else .vs i m
 | c => c
def RA (id n : Nat) (d : D) : V → V
 | .c x => .c (fzN id n d x)
 | .agg cs => .agg (cs.map (fzN id n d))
 | .tup vs => .tup vs
def Mh (id n : Nat) (d : D) : AB → AB
 | .cells cs => .cells (cs.map (fzN id n d))
 | .vec m sz cs => .vec m sz (cs.map (fzN id n d))
 | b => b
theorem EP (id : Nat) {n sz : Nat} {cs : List C} {ds : List D} (hid : s.heap[id]? = some (.vec n sz cs)) (hd : DY cs = some ds) (hz : 0 < sz) (hn : n ≤ lim) (hm : s'.marks = s.marks)
  (hh : s'.heap = (s.heap.map (Mh id n (.sl (BC sz n ds)))).set id .gone) (hsl : ∀ i, Aw s'.slots i = RA id n (.sl (BC sz n ds)) (s.get i) ∨ Aw s'.slots i = .c .any) : Ent X s s' := fun bs w G a hR => by
 have hidl := (List.getElem?_eq_some_iff.1 hid).1
 have R := hR.rel
 obtain ⟨e1, e2⟩ := toDs_get hd
 generalize hdd : (D.sl (BC sz n ds)) = dd at hh hsl
 obtain ⟨S1, s1, s2, s3, hD⟩ : ∃ S1 : Nat → Nat → Prop, (∀ b o, G.S b o → S1 b o) ∧ (∀ b o, S1 b o → G.S b o ∨ G.role b = some id) ∧ (∀ b o, S1 b o → ∃ v, w.cell? ⟨b, o, none⟩ = some v) ∧ ∀ v, Ap w G s.heap (.vs id n) v → Br w S1 dd v := by
  subst hdd
  by_cases hne : 0 < cs.length
  ·obtain ⟨b, arr, t, cap, hg, hcap, hrole, hb, hsz, hr, hS, hl⟩ := Kg R hid hne
   have hlen : cs.length ≤ arr.size := by have := hr.1; simp at this; omega
   have hcell : ∀ j, j < cs.length → w.cell? ⟨b, j, none⟩ = some (arr.toList.getD j undef) := fun j hj => by
    rw [Cr hb]
    have : j < arr.toList.length := by simp; omega
    simp [List.getD_eq_getElem?_getD, List.getElem?_eq_getElem this]
   refine ⟨fun b' o => G.S b' o ∨ (b' = b ∧ o < cs.length), fun _ _ h => .inl h, fun b' o h => ?_, fun b' o h => ?_, fun v hv => ?_⟩
   ·rcases h with h | ⟨rfl, _⟩
    ·exact .inl h
    ·exact .inr hrole
   ·rcases h with h | ⟨rfl, h⟩
    ·exact R.sex b' o h
    ·exact ⟨_, hcell o h⟩
   ·cases hv with
    | vs _ _ a' cap' _ hne' hg' =>
     have h1 := (hg' _ _ _ hid).2 rfl
     rw [hg] at h1
     cases h1
     refine D9 (f := fun k => arr.toList.getD k undef) hcap hn (by omega) (fun k hk => ?_) (fun k x hx => ?_)
     ·rw [Nat.zero_add]
      exact ⟨.inr ⟨rfl, by omega⟩, hcell k (by omega)⟩
     ·have hk : k < cs.length := by rw [e1]; exact (List.getElem?_eq_some_iff.1 hx).1
      have hk2 : k < arr.toList.length := by simp; omega
      have h3 := (hr.2 k cs[k] arr.toList[k] (by simp [hk]) (by rw [List.getElem?_take, if_pos hk]; exact List.getElem?_eq_getElem hk2)).1
      have h4 := e2 k cs[k] x (by simp [hk]) hx
      have h5 : arr.toList.getD k undef = arr.toList[k] := by rw [List.getD_eq_getElem?_getD, List.getElem?_eq_getElem hk2]; rfl
      show Br w _ x (arr.toList.getD k undef)
      rw [h5]
      exact (JM h4 h3).mono (fun b o h => ⟨.inl h, rfl⟩)
  ·have hn0 : n = 0 := by
    cases R.ab id _ hid with
    | vec _ _ _ _ _ _ _ hl _ =>
     have h0 : n * sz = 0 := by omega
     rcases Nat.mul_eq_zero.1 h0 with h | h
     ·exact h
     ·omega
   subst hn0
   refine ⟨G.S, fun _ _ h => h, fun _ _ h => .inl h, R.sex, fun v hv => ?_⟩
   cases hv with
   | vs _ _ a' cap' _ _ _ => exact .emp _ _
 let G1 : Gh := { G with S := S1 }
 have hlook : ∀ (i : Nat) (x : AB), s'.heap[i]? = some x → (i = id ∧ x = .gone) ∨ (i ≠ id ∧ ∃ y, s.heap[i]? = some y ∧ x = Mh id n dd y) := fun i x hx => by
  rw [hh] at hx
  by_cases e : i = id
  ·subst e
   rw [List.getElem?_set_self (by simpa using hidl)] at hx
   cases hx; exact .inl ⟨rfl, rfl⟩
  ·rw [List.getElem?_set_ne (Ne.symm e), List.getElem?_map] at hx
   cases hy : s.heap[i]? with
   | none => rw [hy] at hx; cases hx
   | some y => rw [hy] at hx; cases hx; exact .inr ⟨e, y, rfl, rfl⟩
 have L : Am w G s.heap w G1 s'.heap :=
  {size := Nat.le_refl _
   S := fun b o h => ⟨s1 b o h, rfl⟩
   Snew := fun b o _ hr h => by
    rcases s2 b o h with h | h
    ·exact h
    ·rw [hr] at h; cases h
   len := by rw [hh]; simp
   rho := fun _ _ => rfl
   grow := fun i m z hi h => by
    rcases hlook i _ h with ⟨_, h⟩ | ⟨_, y, hy, h⟩
    ·cases h
    ·cases y <;> simp [Mh] at h
     obtain ⟨rfl, rfl⟩ := h
     exact ⟨m, hy, .inr ⟨rfl, rfl⟩⟩
   vec := fun i m z cs hi h => by
    rcases hlook i _ h with ⟨_, h⟩ | ⟨_, y, hy, h⟩
    ·cases h
    ·cases y <;> simp [Mh] at h
     obtain ⟨rfl, rfl, _⟩ := h
     exact ⟨_, _, _, hy, .inr ⟨rfl, rfl⟩⟩
   role := fun _ _ => rfl
   frame := fun _ _ _ => rfl
   os := rfl
   out := rfl }
 have conv : ∀ (c : C) (v : Value), Ap w G s.heap c v → Ap w G1 s'.heap (fzN id n dd c) v := fun c v h => by
  unfold fzN
  split
  ·rename_i i m
   split
   ·rename_i e
    obtain ⟨rfl, rfl⟩ := e
    exact .d _ _ (hD v h)
   ·exact h.mono L
  ·exact h.mono L
 have convs : ∀ (cs : List C) (vs : List Value), An w G s.heap cs vs → An w G1 s'.heap (cs.map (fzN id n dd)) vs := fun cs vs h =>
  ⟨by rw [List.length_map]; exact h.1, fun i x v hx hv => by
   rw [List.getElem?_map] at hx
   cases hc : cs[i]? with
   | none => rw [hc] at hx; cases hx
   | some y => rw [hc] at hx; cases hx; exact ⟨conv y v (h.2 i y v hc hv).1, (h.2 i y v hc hv).2⟩⟩
 have hnS : ∀ b o i, G.role b = some i → i ≠ id → S1 b o → G.S b o := fun b o i hr hi h => by
  rcases s2 b o h with h | h
  ·exact h
  ·rw [hr] at h; cases h; exact absurd rfl hi
 refine ⟨G1,
  {rel := ⟨s3, R.roleLt, fun i x hx => ?_⟩
   later := hR.later.trans L
   base := hR.base
   size := hR.size
   slots := fun i => ?_
   defers := ?_
   marks := fun i hi => by rw [hm] at hi; exact Nat.lt_of_lt_of_le (hR.marks i hi) L.len }⟩
 ·rcases hlook i x hx with ⟨_, rfl⟩ | ⟨hi, y, hy, rfl⟩
  ·exact .gone
  ·have h0 := R.ab i y hy
   have hil := (List.getElem?_eq_some_iff.1 hy).1
   cases y with
   | cells cs =>
    cases h0 with
    | cells _ arr t hb hr hrole hS => exact .cells _ arr t hb (convs _ _ hr) hrole (fun o ho => hS o (hnS _ _ _ hrole hi ho))
   | vec m z cs =>
    cases h0 with
    | vec _ _ _ a cap hg hcap hl h =>
     refine .vec _ _ _ a cap hg hcap (by rw [List.length_map]; exact hl) (fun hz => ?_)
     obtain ⟨b, arr, t, h1, h2, h3, h4, h5, h6⟩ := h hz
     exact ⟨b, arr, t, h1, h2, h3, h4, by rw [List.length_map]; exact convs _ _ h5, fun o ho => h6 o (hnS _ _ _ h2 hi ho)⟩
   | _ => exact AW.mono R L hil h0 (fun _ _ => rfl) (fun b o hb h => hnS b o i hb hi h) rfl
 ·have h0 := hR.slots i
  show Ag w _ _ (Aw s'.slots i) _
  rcases hsl i with e | e
  ·rw [e]
   generalize s.get i = x at h0
   generalize a.tmps.getD i undef = u at h0
   cases h0 with
   | c _ _ h => exact .c _ _ (conv _ _ h)
   | agg _ _ h => exact .agg _ _ (convs _ _ h)
   | tup _ _ hs h => exact .tup _ _ hs (fun j x v hx hv => (h j x v hx hv).mono L)
  ·rw [e]; exact .c _ _ (.any _)
 ·obtain ⟨hs, hh', e⟩ := hR.defers
  refine ⟨hs, hh'.mono L, ?_⟩
  rw [hm, e]
  rfl
end
theorem VB {n : Nat} {b : AB} (h : b.lowP n) : b.low n = true := by
 cases b with
 | cells cs => exact h
 | vec m z cs => exact h
 | mp es =>
  simp only [AB.low, List.all_eq_true, Bool.and_eq_true]
  exact h
 | mpb es _ =>
  simp only [AB.low, List.all_eq_true, Bool.and_eq_true]
  exact h
 | lp r =>
  simp only [AB.low, Bool.and_eq_true, decide_eq_true_eq, List.all_eq_true]
  exact ⟨h.1, fun p _ => h.2 p.1⟩
 | _ => rfl
theorem Rel.low {w : World} {G : Gh} {H : List AB} (R : Rel w G H) : H.all (AB.low H.length) = true := List.all_eq_true.2 fun y hy => by
 obtain ⟨k, hk⟩ := List.getElem?_of_mem hy
 exact VB (R.ab k y hk).lows
theorem Ad.low_of {P : Program} {f : FuncId} {fn : Func} {c : Code} {args : List V} {H : List AB} {post : V → List AB → Prop} (hf : P.funcs[f]? = some fn) (hb : fn.body = some c) (hn0 : C7 fn = true) (h : H.all (AB.low H.length) = true → Ad P f args H post) : Ad P f args H post :=
 ⟨B0 hf hb hn0, fun w G vs R hl ha => (h (Rel.low R)).2 w G vs R hl ha⟩
theorem Ad.ent {X : Tx} {f : FuncId} {args : List V} {H : List AB} {post post' : V → List AB → Prop} (h : Ad X.P f args H post)
  (he : ∀ x H', post x H' → ∃ y H'', Ent (X.cx none H.length 1) { slots := [(0, x)], heap := H', marks := [] } { slots := [(0, y)], heap := H'', marks := [] } ∧ post' y H'') : Ad X.P f args H post' :=
 ⟨h.1, fun w G vs R hl hr => (h.2 w G vs R hl hr).mono fun _ w' ⟨v, x, H', G', a, hp, R', hv, L⟩ => by
  obtain ⟨y, H'', hE, hp'⟩ := he x H' hp
  obtain ⟨G2, hR2⟩ := hE ⟨w, G, H⟩ w' G' { tmps := #[v], defers := [] }
   {rel := R', later := L, base := rfl, size := rfl
    slots := fun i => by
     show Ag w' G' H' (Aw [(0, x)] i) _
     simp only [Aw]
     split
     ·rename_i e; subst e; exact hv
     ·exact .c _ _ (.any _)
    defers := ⟨[], Hid.nil _ _ _, rfl⟩
    marks := fun i hi => by cases hi }
  exact ⟨v, y, H'', G2, a, hp', hR2.rel, hR2.slots 0, hR2.later⟩⟩
end Go.Abs
open Go Go.Abs
attribute [go_sem] goE contE_at goE_t goE_f dE_nil dE_cons de_t de_f FO KF cntX cntN Fc Db Da KE DL BN Option.isNone_none Option.isNone_some CT BA Rx MkK.at AB.newB C.freeL C.free Ca B9 Bg D1 Nat.le_refl Bool.or_true Bool.true_or Bool.or_false Bool.false_or Bool.and_false Bool.false_and and_self List.contains_cons List.contains_nil trimK trimL stopQ NO aE1 aD8 Fz Rc RA fzN Mh List.map_set TO SY Mx
namespace Go.Abs
open Go
theorem aFv {bad : List Nat} {kp : List (Nat × List Nat)} {X : Tx} {id : Nat} {H : List AB} {r : LR} {x : V} {post : V → List AB → Prop} (hm : X.P.follows .mixedOrders = true) (hid : H[id]? = some (.lp r)) (hps : r.ps.size = 1) (hnt : r.ps.toList.all (fun p => decide (p < r.nt)) = true) (hoka : okE bad r.nt r.assign = true) (hokb : okE bad r.nt r.body = true)
  (h : ∀ l, goE bad kp X (some l) H.length r.nt r.assign (DV (fun t => ∃ t', MD id t = some t' ∧ goE bad kp X (some l) H.length r.nt r.body (fun e u => ∃ u', Ent (X.cx (some l) H.length r.nt) u u' ∧ NW id post e u') t') (fun _ _ => False)) { slots := DW r.ps.toList [x] r.slots, heap := H, marks := [] }) :
  YC X.P id H x post := by
 intro ro o E xo as ts ho hx hv
 have hsz : as.size = r.ps.size := by rw [hps, ← Array.length_toList, ← List.length_map (as := as.toList) E, hv]; rfl
 refine GN (tt := X.tt) ho hx hid hsz hnt (fun l => ?_)
 rw [hv]
 refine (goE_sound (X := X) (r := some l) (nb := H.length) hm r.assign hoka (h l)).mono ?_
 refine thenQ_mono fun t ht => ?_
 obtain ⟨t', h1, h2⟩ := ht
 exact ⟨t', h1, AWP.post (goE_sound (X := X) (r := some l) (nb := H.length) hm r.body hokb h2)⟩
theorem VC {bad : List Nat} {kp : List (Nat × List Nat)} {X : Tx} {id : Nat} {H : List AB} {r : LR} {cA cB : Code} {x : V} {post : V → List AB → Prop} (hm : X.P.follows .mixedOrders = true) (hid : H[id]? = some (.lp r)) (hA : r.assign = cA) (hB : r.body = cB) (hps : r.ps.size = 1) (hnt : r.ps.toList.all (fun p => decide (p < r.nt)) = true) (hoka : okE bad r.nt cA = true) (hokb : okE bad r.nt cB = true)
  (h : ∀ l, goE bad kp X (some l) H.length r.nt cA (DV (fun t => ∃ t', MD id t = some t' ∧ goE bad kp X (some l) H.length r.nt cB (fun e u => ∃ u', Ent (X.cx (some l) H.length r.nt) u u' ∧ NW id post e u') t') (fun _ _ => False)) { slots := DW r.ps.toList [x] r.slots, heap := H, marks := [] }) :
  YC X.P id H x post := by
 subst hA; subst hB
 exact aFv hm hid hps hnt hoka hokb h
def YCs (P : Program) (id : Nat) (H : List AB) (xs : List V) (post : V → List AB → Prop) : Prop :=
 ∀ (ro : Option Nat) (o : Oper) (E : Operand → V) (xo : Operand) (as : Array Operand) (ts : Array TypeId), o.op = .call { callee := .value xo, args := as, argTypes := ts } → E xo = .c (.yd id) → as.toList.map E = xs → AL P ro o H E post
theorem aEd {bad : List Nat} {kp : List (Nat × List Nat)} {X : Tx} {id : Nat} {H : List AB} {r : LR} {cA cB : Code} {xs : List V} {post : V → List AB → Prop} (hm : X.P.follows .mixedOrders = true) (hid : H[id]? = some (.lp r)) (hA : r.assign = cA) (hB : r.body = cB) (hps : r.ps.size = xs.length) (hnt : r.ps.toList.all (fun p => decide (p < r.nt)) = true) (hoka : okE bad r.nt cA = true) (hokb : okE bad r.nt cB = true)
  (h : ∀ l, goE bad kp X (some l) H.length r.nt cA (DV (fun t => ∃ t', MD id t = some t' ∧ goE bad kp X (some l) H.length r.nt cB (fun e u => ∃ u', Ent (X.cx (some l) H.length r.nt) u u' ∧ NW id post e u') t') (fun _ _ => False)) { slots := DW r.ps.toList xs r.slots, heap := H, marks := [] }) :
  YCs X.P id H xs post := by
 subst hA; subst hB
 intro ro o E xo as ts ho hx hv
 have hsz : as.size = r.ps.size := by rw [hps, ← Array.length_toList, ← List.length_map (as := as.toList) E, hv]
 refine GN (tt := X.tt) ho hx hid hsz hnt (fun l => ?_)
 rw [hv]
 refine (goE_sound (X := X) (r := some l) (nb := H.length) hm r.assign hoka (h l)).mono ?_
 refine thenQ_mono fun t ht => ?_
 obtain ⟨t', h1, h2⟩ := ht
 exact ⟨t', h1, AWP.post (goE_sound (X := X) (r := some l) (nb := H.length) hm r.body hokb h2)⟩
section
variable {X : Tx} {r : Option Nat} {nb nt : Nat} {s : St} {all : Array Oper} {Q : St → Prop} {o : Oper} {os : List Oper}
theorem VD {loud k : Nat} {id : Nat} {xs : List V} {y : V} {H' : List AB} (hy : YCs X.P id s.heap xs (one y H')) (hg : Ay all s.get o = some true) (hc : JP s.ev o = some (id, xs)) (hk : loud.testBit k = true) (hl : GM loud (k + 1) os = true)
  (n : dW X r nb nt all loud (k + 1) os Q (s.put o.dst y H')) : EG (X.cx r nb nt) all loud k (o :: os) Q s := by
 refine ⟨true, y, H', hg, ?_, fun h => (by rw [hk] at h; cases h), dW_sound _ _ _ (Es hl) n⟩
 simp only [if_true]
 unfold JP at hc
 split at hc
 ·rename_i xo as ts ho
  split at hc
  ·rename_i id' hx
   simp only [Option.some.injEq, Prod.mk.injEq] at hc
   obtain ⟨rfl, h2⟩ := hc
   exact hy r o s.ev xo as ts ho hx h2
  ·cases hc
 ·cases hc
end
theorem KI {X : Cx} {g : Operand} {ps : Array Tmp} {A B : Code} {Q : Exit → St → Prop} {s : St} (h : ∀ A' B', A' = A → B' = B → AWP X (.rangeFunc g ps A' B') Q s) : AWP X (.rangeFunc g ps A B) Q s := h A B rfl rfl
theorem Ad.drop2 {P : Program} {f : FuncId} {args : List V} {H H1 : List AB} {r : V} (hl : H.length ≤ H1.length) (hr : r.low H1.length = true) (hH : H1.all (AB.low H1.length) = true) (h : Ad P f args H (fun x H' => WkV x r ∧ ∃ T, H' = H1 ++ T)) : Ad P f args H (one r H1) :=
 ⟨h.1, fun w G vs R hl' hrel => (h.2 w G vs R hl' hrel).mono fun _ w' ⟨v, x, H', G', a, ⟨h1, T, h2⟩, c, d, e⟩ => by
  subst h2
  exact ⟨v, r, H1, G', a, ⟨rfl, rfl⟩, c.trunc hH, (h1.rel d).trunc hr, e.trunc hl⟩⟩
section
variable {X : Tx} {r : Option Nat} {nb nt : Nat} {s : St} {all : Array Oper} {Q : St → Prop} {o : Oper} {os : List Oper}
end
def RB (m3 : Bool) (tab : List Nat) (ops : Array Oper) (acc : List BO) : Bool := acc.all fun b => GO m3 ops b.at' || acc.all fun a => a.at' == b.at' || !Kv m3 ops a.at' || (JF tab a.at' b.at' || FM a.w b.w)
theorem AE {m3 : Bool} {ops : Array Oper} {acc : List BO} (h : (RB m3 (DJ ops.toList 0 []) ops acc && (!m3 || (Kw (DJ ops.toList 0 []) acc && acc.all fun a => a.e.loc))) = true) : CC m3 ops acc = true := by
 have e : Ik m3 (DJ ops.toList 0 []) ops acc = RB m3 (DJ ops.toList 0 []) ops acc := by
  unfold Ik RB
  congr 1
  funext b
  congr 2
  funext a
  rw [Bool.or_assoc _ (FM a.w b.w), Bool.or_comm (FM a.w b.w)]
 rw [Bool.and_eq_true] at h
 unfold CC
 rw [e, h.1, Bool.or_true, Bool.true_and]
 exact h.2
end Go.Abs
set_option linter.unusedSimpArgs false
set_option linter.unusedVariables false
namespace Go.Abs
open Go
def VE (X : Cx) (c : Code) (Q : Exit → St → Prop) : Nat → St → Prop
 | 0, _ => False
 | n + 1, s => AWP X c (DV (fun s' => VE X c Q n s') Q) s
theorem Ah {X : Cx} {c : Code} {Q : Exit → St → Prop} (n : Nat) {s : St} (h : VE X c Q n s) : AWP X (.loop c) Q s := by
 refine Hr (fun m s => VE X c Q m s) n h (fun m s h => ?_)
 cases m with
 | zero => exact h.elim
 | succ m => exact h.mono (thenQ_mono fun s' h' => ⟨m, Nat.lt_succ_self m, h'⟩)
theorem Aa {bad : List Nat} {kp : List (Nat × List Nat)} {X : Tx} {r : Option Nat} {nb nt n : Nat} {c : Code} {Q : Exit → St → Prop} {s : St} (hm : X.P.follows .mixedOrders = true) (hok : okE bad nt c = true)
  (h : goE bad kp X r nb nt c (DV (fun s' => VE (X.cx r nb nt) c Q n s') Q) s) : VE (X.cx r nb nt) c Q (n + 1) s := goE_sound hm c hok h
end Go.Abs
namespace Go.Abs
open Go
end Go.Abs
namespace Go.Abs
open Go
theorem C.shift0 (c : C) : c.shift 0 = c := by cases c <;> simp [C.shift]
theorem KJ (cs : List C) : cs.map (C.shift 0) = cs := by
 induction cs with
 | nil => rfl
 | cons c cs ih => rw [List.map_cons, ih, C.shift0]
theorem V.shift0 (v : V) : v.shift 0 = v := by
 cases v with
 | c x => simp only [V.shift, C.shift0]
 | agg cs => simp only [V.shift, KJ]
 | tup vs => rfl
theorem AB.shift0 (b : AB) : b.shift 0 = b := by
 cases b <;> simp only [AB.shift, KJ]
theorem Ad.lift0 {P : Program} {f : FuncId} {args : List V} {x0 : V} {B : List AB} (h : Ad P f args [] (one x0 B)) (ha : args.all (V.low 0) = true) (hx : x0.shB B.length = true) (hB : B.all (AB.shB B.length) = true) (H : List AB) :
  Ad P f args H (one (x0.shift H.length) (H ++ B.map (AB.shift H.length))) := by
 refine ⟨h.1, fun w G vs R hl hr => ?_⟩
 have hx' := hx
 have R0 : Rel w G ([] ++ H) := R
 have R1 : Rel w (G.clean 0) [] := (R0.trunc (H := []) rfl).clean
 refine (h.2 w (G.clean 0) vs R1 hl (fun i x v hx hv => ?_)).mono ?_
 ·have h1 := List.all_eq_true.1 ha x (List.mem_of_getElem? hx)
  exact (Ag.trunc (H := []) (T := H) (hr i x v hx hv) h1).clean
 ·rintro e w' ⟨v, x, H', G2, rfl, ⟨rfl, rfl⟩, R', hv, L⟩
  let n := H.length
  let m := H'.length
  let G3 : Gh := { S := G2.S, rho := fun i => if i < n then G.rho i else G2.rho (i - n), g := fun i => if i < n then G.g i else G2.g (i - n), role := fun b => if b < w.heap.size then G.role b else (G2.role b).map (n + ·) }
  have hlen : (H ++ H'.map (AB.shift n)).length = n + m := by simp [n, m]
  have rho_id : ∀ i, G3.rho (n + i) = G2.rho i := fun i => by
   show (if n + i < n then G.rho (n + i) else G2.rho (n + i - n)) = _
   rw [if_neg (by omega), Nat.add_sub_cancel_left]
  have g_id : ∀ i, G3.g (n + i) = G2.g i := fun i => by
   show (if n + i < n then G.g (n + i) else G2.g (n + i - n)) = _
   rw [if_neg (by omega), Nat.add_sub_cancel_left]
  have get_id : ∀ i, (H ++ H'.map (AB.shift n))[n + i]? = (H'[i]?).map (AB.shift n) := fun i => by
   rw [List.getElem?_append_right (by omega), Nat.add_sub_cancel_left, List.getElem?_map]
  have sr : ∀ (x : C) (u : Value), x.shB m = true → Ap w' G2 H' x u → Ap w' G3 (H ++ H'.map (AB.shift n)) (x.shift n) u := by
   intro x u hs h
   cases x with
   | any => exact .any u
   | nilp => cases h; exact .nilp
   | d x => cases h with
    | d _ _ h => exact .d _ _ h
   | dp ds => cases h with
    | dp _ b o f hcell hrel => exact .dp ds b o f hcell hrel
   | full rows => cases h with
    | full _ a n hn h => exact .full rows a n hn h
   | ptr i off =>
    have hs : i < m := by simpa [C.shB] using hs
    cases h with
    | ptr _ _ h =>
     have := Ap.ptr (w := w') (G := G3) (H := H ++ H'.map (AB.shift n)) (n + i) off (by rw [hlen]; omega)
     rwa [rho_id i] at this
   | ms i off len cap =>
    have hs : i < m := by simpa [C.shB] using hs
    cases h with
    | ms _ _ _ _ h =>
     have := Ap.ms (w := w') (G := G3) (H := H ++ H'.map (AB.shift n)) (n + i) off len cap (by rw [hlen]; omega)
     rwa [rho_id i] at this
   | mp i =>
    have hs : i < m := by simpa [C.shB] using hs
    cases h with
    | mp _ h =>
     have := Ap.mp (w := w') (G := G3) (H := H ++ H'.map (AB.shift n)) (n + i) (by rw [hlen]; omega)
     rwa [rho_id i] at this
   | vs i len =>
    have hs : i < m := by simpa [C.shB] using hs
    cases h with
    | vs _ _ a cap hid' ha hg =>
     refine .vs (n + i) len a cap (by rw [hlen]; omega) ha (fun m' sz cs hm => ?_)
     rw [get_id i, Option.map_eq_some_iff] at hm
     obtain ⟨b, hb, hm⟩ := hm
     rw [g_id i]
     cases b with
     | vec n1 sz1 cs1 =>
      simp only [AB.shift, AB.vec.injEq] at hm
      obtain ⟨rfl, rfl, _⟩ := hm
      exact hg n1 sz1 _ hb
     | _ => cases hm
   | _ => cases hs
  have hrole : ∀ b k, G2.role b = some k → w.heap.size ≤ b := fun b k hb => by
   cases Nat.lt_or_ge b w.heap.size with
   | inr h => exact h
   | inl hlt =>
    exfalso
    have h1 := L.role b hlt
    rw [hb] at h1
    simp only [Gh.clean] at h1
    cases hg : G.role b with
    | none => rw [hg] at h1; cases h1
    | some j => rw [hg] at h1; simp at h1
  have cl : ∀ b, (G.clean 0).role b = none := fun b => by
   simp only [Gh.clean]
   cases G.role b <;> simp
  have L3 : Am w G H w' G3 (H ++ H'.map (AB.shift n)) :=
   {size := L.size
    S := L.S
    Snew := fun b o hb hr h => L.Snew b o hb (cl b) h
    len := by rw [hlen]; exact Nat.le_add_right _ _
    rho := fun i hi => if_pos hi
    grow := fun i m0 sz hi hx => by
     rw [List.getElem?_append_left hi] at hx
     exact ⟨m0, hx, .inr ⟨rfl, if_pos hi⟩⟩
    vec := fun i m0 sz cs hi hx => by
     rw [List.getElem?_append_left hi] at hx
     exact ⟨m0, sz, cs, hx, .inr ⟨rfl, if_pos hi⟩⟩
    role := fun b hb => if_pos hb
    frame := fun b hb hr => L.frame b hb (cl b)
    os := L.os
    out := L.out }
  refine ⟨v, x.shift n, H ++ H'.map (AB.shift n), G3, rfl, ⟨rfl, rfl⟩, ⟨R'.sex, fun b k hb => ?_, fun i z hz => ?_⟩, ?_, L3⟩
  ·have hb' : (if b < w.heap.size then G.role b else (G2.role b).map (n + ·)) = some k := hb
   by_cases hlt : b < w.heap.size
   ·exact Nat.lt_of_lt_of_le hlt L.size
   ·rw [if_neg hlt, Option.map_eq_some_iff] at hb'
    obtain ⟨k', hk, _⟩ := hb'
    exact R'.roleLt b k' hk
  ·by_cases hi : i < n
   ·rw [List.getElem?_append_left hi] at hz
    exact (R.ab i z hz).mono R L3 hi (fun b hb => L.frame b (R.roleLt b i hb) (cl b)) (fun b o hb hs => L.Snew b o (R.roleLt b i hb) (cl b) hs) (if_pos hi)
   ·obtain ⟨j, rfl⟩ : ∃ j, i = n + j := ⟨i - n, by omega⟩
    rw [get_id j, Option.map_eq_some_iff] at hz
    obtain ⟨b, hb, rfl⟩ := hz
    refine AW.shift (m := m) (n := 0) (G := G2) (H := H') (k := j) (by rw [AB.shift0]; exact R'.ab j b hb) (fun x v hs h => sr x v hs (by rw [C.shift0] at h; exact h)) (List.all_eq_true.1 hB b (List.mem_of_getElem? hb)) (rho_id j) (g_id j) (fun c hc => ?_) (fun _ _ h => h)
    show (if c < w.heap.size then G.role c else (G2.role c).map (n + ·)) = some (n + j)
    rw [if_neg (by have := hrole c j hc; omega), hc]; rfl
  ·cases x with
   | c y =>
    cases hv with
    | c _ _ h => exact .c _ _ (sr y v hx' h)
   | agg cs =>
    simp only [V.shB, List.all_eq_true] at hx'
    cases hv with
    | agg _ arr h =>
     refine .agg _ arr ⟨by simpa using h.1, fun i x v hx hv => ?_⟩
     rw [List.getElem?_map, Option.map_eq_some_iff] at hx
     obtain ⟨y, hy, rfl⟩ := hx
     have := h.2 i y v hy hv
     exact ⟨sr y v (hx' y (List.mem_of_getElem? hy)) this.1, this.2⟩
   | tup vs => cases hx'
end Go.Abs
