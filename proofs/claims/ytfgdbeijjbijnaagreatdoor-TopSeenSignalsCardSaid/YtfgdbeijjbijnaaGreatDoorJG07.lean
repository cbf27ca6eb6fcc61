/- Ranges over functions. -/
import Derived.Test.YtfgdbeijjbijnaaGreatDoorJG06
import Derived.RangeFuncFrom
set_option linter.unusedSimpArgs false
set_option linter.unusedVariables false
namespace Go.Abs
open Go
section
variable {P : Program} {w : World} {G : Gh} {H : List AB} {id : Nat} {r : LR}
theorem MC (R : Rel w G H) (hid : H[id]? = some (.lp r)) : ∃ fn tmps, w.heap[G.rho id]? = some (.loop { state := r.state, pending := r.pend, fn := fn, tmps := tmps, params := r.ps, assign := r.assign, body := r.body, defers := G.rho r.D }) ∧
  tmps.size = r.nt ∧ r.D < H.length ∧ (∀ i, Ag w G H (Aw r.slots i) (tmps.getD i undef)) ∧ G.role (G.rho id) = some id := by
 cases R.ab id _ hid with
 | lp _ fn tmps hb hsz hD hs hrole => exact ⟨fn, tmps, hb, hsz, hD, hs, hrole⟩
theorem NV (R : Rel w G H) (hid : H[id]? = some (.lp r)) {fn : FuncId} {tmps : Array Value} {st : LoopState} {pe : Option Code}
  (hb : w.heap[G.rho id]? = some (.loop { state := r.state, pending := r.pend, fn := fn, tmps := tmps, params := r.ps, assign := r.assign, body := r.body, defers := G.rho r.D })) (hsz : tmps.size = r.nt)
  (hs : ∀ i, Ag w G H (Aw r.slots i) (tmps.getD i undef)) :
  Rel (w.putObj (G.rho id) (.loop { state := st, pending := pe, fn := fn, tmps := tmps, params := r.ps, assign := r.assign, body := r.body, defers := G.rho r.D })) G (H.set id (.lp { r with state := st, pend := pe })) ∧
   Am w G H (w.putObj (G.rho id) (.loop { state := st, pending := pe, fn := fn, tmps := tmps, params := r.ps, assign := r.assign, body := r.body, defers := G.rho r.D })) G (H.set id (.lp { r with state := st, pend := pe })) := by
 obtain ⟨_, _, _, _, hD, _, hrole⟩ := MC R hid
 have hnc : ∀ j, w.cell? ⟨G.rho id, j, none⟩ = none := fun j => by simp [World.cell?, hb]
 have L : Am w G H (w.putObj (G.rho id) (.loop { state := st, pending := pe, fn := fn, tmps := tmps, params := r.ps, assign := r.assign, body := r.body, defers := G.rho r.D })) G (H.set id (.lp { r with state := st, pend := pe })) :=
  Am.put_own hrole (fun j hj => by obtain ⟨v, hv⟩ := R.sex _ j hj; rw [hnc] at hv; cases hv) (fun n sz e => by cases e) (fun n sz cs e => by cases e)
 exact ⟨R.put_own hrole L (fun _ => .lp _ fn tmps (DH hb) hsz (by simpa using hD) (fun i => (hs i).mono L) hrole), L⟩
end
def O9 (id : Nat) (H : List AB) (j : Option Code) : Option (List AB) := match H[id]? with
 | some (.lp r) => some (H.set id (.lp { r with state := if j.isNone then .ready else .done, pend := j }))
 | _ => none
def NW (id : Nat) (post : V → List AB → Prop) : Exit → St → Prop
 | .normal, t => ∃ H', O9 id t.heap none = some H' ∧ post (B true) H'
 | .ret, t => ∃ H', O9 id t.heap (some .ret) = some H' ∧ post (B false) H'
 | .exit i, t => ∃ H', O9 id t.heap (some (.exit i)) = some H' ∧ post (B false) H'
 | .goto i, t => ∃ H', O9 id t.heap (some (.goto i)) = some H' ∧ post (B false) H'
 | _, _ => False
def DW : List Nat → List V → List (Nat × V) → List (Nat × V)
 | p :: ps, v :: vs, sl => DW ps vs (EM sl p v)
 | _, _, sl => sl
def MD (id : Nat) (t : St) : Option St := match t.heap[id]? with
 | some (.lp r) => match r.state with
  | .ready => some { t with heap := t.heap.set id (.lp { r with state := .busy }) }
  | _ => none
 | _ => none
theorem Vj {P : Program} {w : World} {G : Gh} {H H' : List AB} {id : Nat} {j : Option Code} (R : Rel w G H) (h : O9 id H j = some H') :
  ∃ w', (Instr.endRound (G.rho id) j).run P w = .ok (.bool j.isNone) w' ∧ Rel w' G H' ∧ Am w G H w' G H' := by
 unfold O9 at h
 split at h
 ·rename_i r hid
  cases h
  obtain ⟨fn, tmps, hb, hsz, hD, hs, hrole⟩ := MC R hid
  obtain ⟨R', L⟩ := NV (st := if j.isNone then .ready else .done) (pe := j) R hid hb hsz hs
  exact ⟨_, run_endRound (P := P) j hb, R', L⟩
 ·cases h
theorem ME {w : World} {G : Gh} {H : List AB} {nt : Nat} : ∀ (ps : List Nat) (vs : List V) (us : List Value) (sl : List (Nat × V)) (tm : Array Value), vs.length = us.length → (∀ p ∈ ps, p < nt) → tm.size = nt →
  (∀ (i : Nat) (x : V) (v : Value), vs[i]? = some x → us[i]? = some v → Ag w G H x v) → (∀ i, Ag w G H (Aw sl i) (tm.getD i undef)) →
  ((ps.zip us).foldl (fun t (p, v) => t.setIfInBounds p v) tm).size = nt ∧ ∀ i, Ag w G H (Aw (DW ps vs sl) i) (((ps.zip us).foldl (fun t (p, v) => t.setIfInBounds p v) tm).getD i undef)
 | [], vs, us, sl, tm, _, _, hsz, _, hs => by
  have e : DW [] vs sl = sl := by cases vs <;> rfl
  rw [e]
  exact ⟨hsz, hs⟩
 | p :: ps, [], us, sl, tm, hl, _, hsz, _, hs => by
  have : us = [] := by simpa using hl.symm
  subst this
  exact ⟨hsz, hs⟩
 | p :: ps, v :: vs, [], sl, tm, hl, _, _, _, _ => by simp at hl
 | p :: ps, v :: vs, u :: us, sl, tm, hl, hp, hsz, hr, hs => by
  simp only [List.zip_cons_cons, List.foldl_cons, DW]
  refine ME ps vs us _ _ (by simpa using hl) (fun q hq => hp q (List.mem_cons_of_mem _ hq)) (by simp [hsz]) (fun i x w' hx hw => hr (i + 1) x w' (by simpa using hx) (by simpa using hw)) (fun i => ?_)
  rw [Bv, Ht]
  have hlt : p < tm.size := by rw [hsz]; exact hp p (by simp)
  by_cases e : p = i
  ·simp only [e, if_true]
   have h2 : i < tm.size := e ▸ hlt
   simp only [h2, and_self, if_true]
   exact hr 0 v u rfl rfl
  ·simp only [e, if_false, false_and]; exact hs i
theorem aFo {w : World} {G : Gh} {H : List AB} {id : Nat} {v : Value} (h : Ag w G H (.c (.yd id)) v) : v = .func (.yield (G.rho id)) #[] #[] := by
 cases h with | c _ _ h => cases h; rfl
theorem GN {P : Program} {tt : Nat → Option TI} {ro : Option Nat} {o : Oper} {H : List AB} {E : Operand → V} {x : Operand} {as : Array Operand} {ts : Array TypeId} {id : Nat} {r : LR} {post : V → List AB → Prop}
  (ho : o.op = .call { callee := .value x, args := as, argTypes := ts }) (hx : E x = .c (.yd id)) (hid : H[id]? = some (.lp r)) (hps : as.size = r.ps.size) (hnt : r.ps.toList.all (fun p => decide (p < r.nt)) = true)
  (h : ∀ l, AWP { P := P, tt := tt, r := some l, nb := H.length, nt := r.nt } r.assign (DV (fun t => ∃ t', MD id t = some t' ∧ AWP { P := P, tt := tt, r := some l, nb := H.length, nt := r.nt } r.body (NW id post) t') (fun _ _ => False))
   {slots := DW r.ps.toList (as.toList.map E) r.slots, heap := H, marks := [] }) : AL P ro o H E post := by
 intro w G a next Q R hE hn
 have hfx := hE x (by simp [ho, Op.operands, Call.operands])
 rw [hx] at hfx
 have e1 := aFo hfx
 obtain ⟨m1, m2⟩ := D0 (a := a) (fun y hy => hE y (by simp [ho, Op.operands, Call.operands]; exact .inr hy))
 obtain ⟨fn, tmps, hb, hsz, hD, hs, hrole⟩ := MC R hid
 refine ⟨fun _ _ => trivial, ?_⟩
 rw [Oper.semAt_eq _ _ _ (by simp [ho])]
 have hsza : (as.map a.eval).size = r.ps.size := by simp [hps]
 have hy := run_yield (P := P) (args := as.map a.eval) hb hsza
 have hrun : (execOp a.eval o).run P w = .ok (.round (G.rho id) fn ((r.ps.zip (as.map a.eval)).foldl (fun tmps (t, a) => tmps.setIfInBounds t a) tmps) r.assign r.body) w := by
  have e2 : (execOp a.eval o).run P w = (Instr.yield (G.rho id) (as.map a.eval)).run P w := by
   simp [execOp, ho, resolve, e1, Deferred.ofValue, invoke]
  rw [e2]
  exact hy
 rw [hrun, Oper.uponIn_round]
 refine ⟨fun e => by simp [Fence.wide] at e, ?_⟩
 refine roundIn_of_wpIn trivial ?_
 have hps' := ME (w := w) (G := G) (H := H) (nt := r.nt) r.ps.toList (as.toList.map E) (as.map a.eval).toList r.slots tmps m1 (fun p hp => by simpa using List.all_eq_true.1 hnt p hp) hsz m2 hs
 have hfold : (r.ps.zip (as.map a.eval)).foldl (fun tmps (t, a) => tmps.setIfInBounds t a) tmps = (r.ps.toList.zip (as.map a.eval).toList).foldl (fun t (p, v) => t.setIfInBounds p v) tmps := by
  rw [← Array.foldl_toList, Array.toList_zip]
 rw [hfold]
 have hst : AP ⟨w, G, H⟩ H.length r.nt w G { slots := DW r.ps.toList (as.toList.map E) r.slots, heap := H, marks := [] } { tmps := (r.ps.toList.zip (as.map a.eval).toList).foldl (fun t (p, v) => t.setIfInBounds p v) tmps, defers := [] } :=
  {rel := R, later := Am.refl _ _ _, base := rfl, size := hps'.1, slots := hps'.2, defers := ⟨[], Hid.nil _ _ _, rfl⟩, marks := fun i hi => by simp at hi }
 refine wpIn_mono (h (G.rho id) _ w G _ hst) ?_
 rintro e a1 w1 ⟨t, G1, hq, hR⟩
 cases e with
 | normal =>
  obtain ⟨t', hb', hbody⟩ := hq
  unfold MD at hb'
  split at hb'
  ·rename_i r1 hid1
   split at hb'
   ·rename_i hst1
    cases hb'
    obtain ⟨fn1, tmps1, hb1, hsz1, hD1, hs1, hrole1⟩ := MC hR.rel hid1
    have hlt : id < H.length := (List.getElem?_eq_some_iff.1 hid).1
    have hrho : G1.rho id = G.rho id := hR.later.rho id hlt
    obtain ⟨R1, L1⟩ := NV (st := .busy) (pe := r1.pend) hR.rel hid1 hb1 hsz1 hs1
    refine ⟨_, by rw [← hrho]; exact run_beginRound hb1 hst1, ?_⟩
    have hst2 : AP ⟨w, G, H⟩ H.length r.nt (w1.putObj (G1.rho id) (.loop { state := .busy, pending := r1.pend, fn := fn1, tmps := tmps1, params := r1.ps, assign := r1.assign, body := r1.body, defers := G1.rho r1.D })) G1 { t with heap := t.heap.set id (.lp { r1 with state := .busy }) } a1 :=
     {rel := R1, later := hR.later.trans L1, base := rfl, size := hR.size, slots := fun i => (hR.slots i).mono L1, defers := (by obtain ⟨hs, hh, e⟩ := hR.defers; exact ⟨hs, hh.mono L1, e⟩), marks := fun i hi => by simpa using hR.marks i hi }
    refine wpIn_mono (hbody _ _ G1 a1 hst2) ?_
    rintro e2 a2 w2 ⟨t2, G2, hq2, hR2⟩
    have hrho2 : G2.rho id = G.rho id := hR2.later.rho id hlt
    have fin : ∀ (j : Option Code) (H' : List AB), O9 id t2.heap j = some H' → post (B j.isNone) H' → ∃ v w', (Instr.endRound (G.rho id) j).run P w2 = .ok v w' ∧ next (a.put o.dst v) w' := by
     intro j H' h1 h2
     obtain ⟨w3, h3, R3, L3⟩ := Vj (P := P) hR2.rel h1
     refine ⟨_, w3, by rw [← hrho2]; exact h3, hn _ _ H' G2 w3 h2 (.c _ _ (.d _ _ (.bool _))) R3 (hR2.later.trans L3)⟩
    cases e2 with
    | normal => obtain ⟨H', h1, h2⟩ := hq2; exact fin none H' h1 h2
    | ret => obtain ⟨H', h1, h2⟩ := hq2; exact fin (some .ret) H' h1 h2
    | exit i => obtain ⟨H', h1, h2⟩ := hq2; exact fin (some (.exit i)) H' h1 h2
    | goto i => obtain ⟨H', h1, h2⟩ := hq2; exact fin (some (.goto i)) H' h1 h2
    | _ => exact hq2.elim
   ·cases hb'
  ·cases hb'
 | _ => exact hq.elim
def S3 (X : Cx) (id : Nat) (Q : Exit → St → Prop) (s : St) (H2 : List AB) : Prop := match H2[id]? with
 | some (.lp r) => r.state ≠ .busy ∧ match r.pend with
  | none => Q .normal { slots := s.slots, heap := H2.set id (.lp { r with state := .exhausted }), marks := s.heap.length :: s.marks }
  | some c => AWP X c Q { slots := s.slots, heap := H2.set id (.lp { r with state := .exhausted }), marks := s.heap.length :: s.marks }
 | _ => False
def Vk (s : St) (nt : Nat) (ps : Array Tmp) (assign body : Code) : List AB :=
 s.heap ++ [.df] ++ [.lp { state := .ready, pend := none, slots := s.slots, nt := nt, ps := ps, assign := assign, body := body, D := s.heap.length }]
theorem EH {X : Cx} {g : Operand} {ps : Array Tmp} {assign body : Code} {Q : Exit → St → Prop} {s : St} {gf : FuncId} {caps : List C} (hr : X.r = none) (hg : s.ev g = .c (.fn (.func gf) caps))
  (h : Ad X.P gf (.c (.yd (s.heap.length + 1)) :: caps.map .c) (Vk s X.nt ps assign body) (fun _ H2 => S3 X (s.heap.length + 1) Q s H2)) : AWP X (.rangeFunc g ps assign body) Q s := fun bs w G a hR => by
 have hv := hR.ev g
 rw [hg] at hv
 obtain ⟨arr, e1, e2, e3⟩ := Rk hv
 have hdf : Rel (w.alloc (.deferred (some []))) (G.own s.heap.length w.heap.size) (s.heap ++ [.df]) :=
  hR.rel.alloc_own _ _ (.df (by simp only [Gh.own, Ao]; exact Bx w _) (by simp [Gh.own, Ao]))
 have L1 := Am.alloc_own hR.rel (.deferred (some [])) .df
 refine wpIn_rangeFunc (fun fn hfn => ?_)
 have hlen : (s.heap ++ [AB.df]).length = s.heap.length + 1 := by simp
 have hsz1 : (w.alloc (.deferred (some []))).heap.size = w.heap.size + 1 := by simp
 have hrhoD : (G.own s.heap.length w.heap.size).rho s.heap.length = w.heap.size := by simp [Gh.own, Ao]
 let rec0 : Loop := { state := .ready, pending := none, fn := fn, tmps := a.tmps, params := ps, assign := assign, body := body, defers := w.heap.size }
 let lr : LR := { state := .ready, pend := none, slots := s.slots, nt := X.nt, ps := ps, assign := assign, body := body, D := s.heap.length }
 have L2 := Am.alloc_own hdf (.loop rec0) (.lp lr)
 have hG2 : ∀ i, i < s.heap.length + 1 → ((G.own s.heap.length w.heap.size).own (s.heap ++ [AB.df]).length (w.alloc (.deferred (some []))).heap.size).rho i = (G.own s.heap.length w.heap.size).rho i := fun i hi => AJ _ _ (by rw [hlen]; omega)
 have hlp : Rel ((w.alloc (.deferred (some []))).alloc (.loop rec0)) ((G.own s.heap.length w.heap.size).own (s.heap ++ [AB.df]).length (w.alloc (.deferred (some []))).heap.size) (s.heap ++ [.df] ++ [.lp lr]) := by
  refine hdf.alloc_own _ _ (.lp lr fn a.tmps ?_ hR.size (by simp [lr]) (fun i => ((hR.slots i).mono L1).mono L2) (by simp [Gh.own, Ao]))
  rw [show ((G.own s.heap.length w.heap.size).own (s.heap ++ [AB.df]).length (w.alloc (.deferred (some []))).heap.size).rho lr.D = w.heap.size by rw [hG2 _ (by simp [lr]), hrhoD]]
  have : ((G.own s.heap.length w.heap.size).own (s.heap ++ [AB.df]).length (w.alloc (.deferred (some []))).heap.size).rho (s.heap ++ [AB.df]).length = (w.alloc (.deferred (some []))).heap.size := by simp [Gh.own, Ao]
  rw [this]
  exact Bx _ _
 have hrhoL : ((G.own s.heap.length w.heap.size).own (s.heap ++ [AB.df]).length (w.alloc (.deferred (some []))).heap.size).rho (s.heap.length + 1) = w.heap.size + 1 := by
  rw [← hlen, ← hsz1]; simp [Gh.own, Ao]
 have hround : (Wd X.r).round = none := hr
 refine ⟨w.heap.size + 1, [{ target := .collected w.heap.size, args := #[] }], ((w.alloc (.deferred (some []))).alloc (.loop rec0)), { target := .fn (.func gf) arr, args := #[.func (.yield (w.heap.size + 1)) #[] #[]] }, ((w.alloc (.deferred (some []))).alloc (.loop rec0)), gf, #[.func (.yield (w.heap.size + 1)) #[] #[]] ++ arr, ((w.alloc (.deferred (some []))).alloc (.loop rec0)), by rw [hround]; exact run_enterLoop_outer _ _ _ _ _, ?_, fun _ _ => trivial, ?_, fun e => by simp [Fence.wide] at e, ?_⟩
 ·simp only [resolve, e1]
  simp [go_sem, Deferred.ofValue]
 ·simp [invoke, h.1]
 ·have hc := h.2 _ _ (#[.func (.yield (w.heap.size + 1)) #[] #[]] ++ arr) hlp (by simp at e2 ⊢; omega) (fun i x v hx hv => by
   cases i with
   | zero =>
    simp at hx hv
    subst hx; subst hv
    have := Ap.yd (w := (w.alloc (.deferred (some []))).alloc (.loop rec0)) (G := (G.own s.heap.length w.heap.size).own (s.heap ++ [AB.df]).length (w.alloc (.deferred (some []))).heap.size) (H := s.heap ++ [.df] ++ [.lp lr]) (s.heap.length + 1) (by simp)
    rw [hrhoL] at this
    exact .c _ _ this
   | succ i =>
    simp only [List.getElem?_cons_succ, List.getElem?_map] at hx
    have hv' : arr.toList[i]? = some v := by simpa using hv
    cases hq : caps[i]? with
    | none => rw [hq] at hx; cases hx
    | some q =>
     rw [hq] at hx; cases hx
     exact .c _ _ (((e3 i q v hq hv').mono L1).mono L2))
  refine (CallsIn.at_round X.r hc).mono ?_
  rintro e w' ⟨v, y, H2, G', rfl, hk, R', hvv, L⟩
  unfold S3 at hk
  split at hk
  ·rename_i r2 hid
   obtain ⟨hnb, hk⟩ := hk
   obtain ⟨fn2, tmps2, hb2, hsz2, hD2, hs2, hrole2⟩ := MC R' hid
   have hlenH : (s.heap ++ [AB.df] ++ [AB.lp lr]).length = s.heap.length + 2 := by rw [List.length_append, hlen]; rfl
   have hl : G'.rho (s.heap.length + 1) = w.heap.size + 1 := (L.rho _ (by show _ < (s.heap ++ [AB.df] ++ [AB.lp lr]).length; rw [hlenH]; omega)).trans hrhoL
   have hD' : G'.rho s.heap.length = w.heap.size := (L.rho _ (by show _ < (s.heap ++ [AB.df] ++ [AB.lp lr]).length; rw [hlenH]; omega)).trans ((hG2 _ (by omega)).trans hrhoD)
   obtain ⟨R3, L3⟩ := NV (st := .exhausted) (pe := r2.pend) R' hid hb2 hsz2 hs2
   have hend := run_endLoop (P := X.P) hb2 hnb
   rw [hl] at hend
   have L0 := ((L1.trans L2).trans L).trans L3
   have hst : AP bs X.nb X.nt _ G' { slots := s.slots, heap := H2.set (s.heap.length + 1) (.lp { r2 with state := .exhausted }), marks := s.heap.length :: s.marks } { a with defers := [{ target := .collected w.heap.size, args := #[] }] ++ a.defers } :=
    {rel := R3
     later := hR.later.trans L0
     base := hR.base
     size := hR.size
     slots := fun i => (hR.slots i).mono L0
     defers := by
      obtain ⟨hs, hh, e⟩ := hR.defers
      refine ⟨hs, hh.mono L0, ?_⟩
      have hmap : s.marks.map (CX G) = s.marks.map (CX G') := List.map_congr_left fun id hid => by
       have := L0.rho id (hR.marks id hid)
       simp only [CX, this]
      rw [e, hmap, List.map_cons]
      simp only [CX, hD', List.cons_append, List.nil_append]
     marks := fun i hi => by
      have hlt : s.heap.length + 1 < H2.length := (List.getElem?_eq_some_iff.1 hid).1
      simp only [List.length_set]
      rcases List.mem_cons.1 hi with rfl | hi
      ·omega
      ·have := hR.marks i hi; omega }
   rw [hl] at hst
   cases hpd : r2.pend with
   | none =>
    rw [hpd] at hk
    exact ⟨none, _, by rw [← hpd]; exact hend, _, G', hk, by simpa only [hpd] using hst⟩
   | some c =>
    rw [hpd] at hk
    exact ⟨some c, _, by rw [← hpd]; exact hend, hk bs _ G' _ (by simpa only [hpd] using hst)⟩
  ·exact hk.elim
end Go.Abs
