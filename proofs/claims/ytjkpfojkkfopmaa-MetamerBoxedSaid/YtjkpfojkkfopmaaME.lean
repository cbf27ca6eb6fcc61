/- Ranges over functions. -/
import Derived.Test.YtjkpfojkkfopmaaMD
import Derived.RangeFuncFrom
set_option linter.unusedSimpArgs false
set_option linter.unusedVariables false
namespace Go.Abs
open Go

section
variable {P : Program} {w : World} {G : Gh} {H : List AB} {id : Nat} {r : LR}

theorem lp_at (R : Rel w G H) (hid : H[id]? = some (.lp r)) : ∃ fn tmps, w.heap[G.rho id]? = some (.loop { state := r.state, pending := r.pend, fn := fn, tmps := tmps, params := r.ps, assign := r.assign, body := r.body, defers := G.rho r.D }) ∧
    tmps.size = r.nt ∧ r.D < H.length ∧ (∀ i, VRel w G H (getS r.slots i) (tmps.getD i undef)) ∧ G.role (G.rho id) = some id := by
  cases R.ab id _ hid with
  | lp _ fn tmps hb hsz hD hs hrole => exact ⟨fn, tmps, hb, hsz, hD, hs, hrole⟩

/-- The record, with another state. -/
theorem lp_put (R : Rel w G H) (hid : H[id]? = some (.lp r)) {fn : FuncId} {tmps : Array Value} {st : LoopState} {pe : Option Code}
    (hb : w.heap[G.rho id]? = some (.loop { state := r.state, pending := r.pend, fn := fn, tmps := tmps, params := r.ps, assign := r.assign, body := r.body, defers := G.rho r.D })) (hsz : tmps.size = r.nt)
    (hs : ∀ i, VRel w G H (getS r.slots i) (tmps.getD i undef)) :
    Rel (w.putObj (G.rho id) (.loop { state := st, pending := pe, fn := fn, tmps := tmps, params := r.ps, assign := r.assign, body := r.body, defers := G.rho r.D })) G (H.set id (.lp { r with state := st, pend := pe })) ∧
      Later w G H (w.putObj (G.rho id) (.loop { state := st, pending := pe, fn := fn, tmps := tmps, params := r.ps, assign := r.assign, body := r.body, defers := G.rho r.D })) G (H.set id (.lp { r with state := st, pend := pe })) := by
  obtain ⟨_, _, _, _, hD, _, hrole⟩ := lp_at R hid
  have hnc : ∀ j, w.cell? ⟨G.rho id, j, none⟩ = none := fun j => by simp [World.cell?, hb]
  have L : Later w G H (w.putObj (G.rho id) (.loop { state := st, pending := pe, fn := fn, tmps := tmps, params := r.ps, assign := r.assign, body := r.body, defers := G.rho r.D })) G (H.set id (.lp { r with state := st, pend := pe })) :=
    Later.put_own hrole (fun j hj => by obtain ⟨v, hv⟩ := R.sex _ j hj; rw [hnc] at hv; cases hv) (fun n sz e => by cases e) (fun n sz cs e => by cases e)
  exact ⟨R.put_own hrole L (fun _ => .lp _ fn tmps (put_same hb) hsz (by simpa using hD) (fun i => (hs i).mono L) hrole), L⟩
end

def endR (id : Nat) (H : List AB) (j : Option Code) : Option (List AB) := match H[id]? with
  | some (.lp r) => some (H.set id (.lp { r with state := if j.isNone then .ready else .done, pend := j }))
  | _ => none
def roundQ (id : Nat) (post : V → List AB → Prop) : Exit → St → Prop
  | .normal, t => ∃ H', endR id t.heap none = some H' ∧ post (B true) H'
  | .ret, t => ∃ H', endR id t.heap (some .ret) = some H' ∧ post (B false) H'
  | .exit i, t => ∃ H', endR id t.heap (some (.exit i)) = some H' ∧ post (B false) H'
  | .goto i, t => ∃ H', endR id t.heap (some (.goto i)) = some H' ∧ post (B false) H'
  | _, _ => False
def putPs : List Nat → List V → List (Nat × V) → List (Nat × V)
  | p :: ps, v :: vs, sl => putPs ps vs (setS sl p v)
  | _, _, sl => sl
/-- The state in which a round's body begins, out of that behind the assignments. -/
def busyH (id : Nat) (t : St) : Option St := match t.heap[id]? with
  | some (.lp r) => match r.state with
    | .ready => some { t with heap := t.heap.set id (.lp { r with state := .busy }) }
    | _ => none
  | _ => none

theorem endR_run {P : Program} {w : World} {G : Gh} {H H' : List AB} {id : Nat} {j : Option Code} (R : Rel w G H) (h : endR id H j = some H') :
    ∃ w', (Instr.endRound (G.rho id) j).run P w = .ok (.bool j.isNone) w' ∧ Rel w' G H' ∧ Later w G H w' G H' := by
  unfold endR at h
  split at h
  · rename_i r hid
    cases h
    obtain ⟨fn, tmps, hb, hsz, hD, hs, hrole⟩ := lp_at R hid
    obtain ⟨R', L⟩ := lp_put (st := if j.isNone then .ready else .done) (pe := j) R hid hb hsz hs
    exact ⟨_, run_endRound (P := P) j hb, R', L⟩
  · cases h

theorem putPs_rel {w : World} {G : Gh} {H : List AB} {nt : Nat} : ∀ (ps : List Nat) (vs : List V) (us : List Value) (sl : List (Nat × V)) (tm : Array Value), vs.length = us.length → (∀ p ∈ ps, p < nt) → tm.size = nt →
    (∀ (i : Nat) (x : V) (v : Value), vs[i]? = some x → us[i]? = some v → VRel w G H x v) → (∀ i, VRel w G H (getS sl i) (tm.getD i undef)) →
    ((ps.zip us).foldl (fun t (p, v) => t.setIfInBounds p v) tm).size = nt ∧ ∀ i, VRel w G H (getS (putPs ps vs sl) i) (((ps.zip us).foldl (fun t (p, v) => t.setIfInBounds p v) tm).getD i undef)
  | [], vs, us, sl, tm, _, _, hsz, _, hs => by
    have e : putPs [] vs sl = sl := by cases vs <;> rfl
    rw [e]
    exact ⟨hsz, hs⟩
  | p :: ps, [], us, sl, tm, hl, _, hsz, _, hs => by
    have : us = [] := by simpa using hl.symm
    subst this
    exact ⟨hsz, hs⟩
  | p :: ps, v :: vs, [], sl, tm, hl, _, _, _, _ => by simp at hl
  | p :: ps, v :: vs, u :: us, sl, tm, hl, hp, hsz, hr, hs => by
    simp only [List.zip_cons_cons, List.foldl_cons, putPs]
    refine putPs_rel ps vs us _ _ (by simpa using hl) (fun q hq => hp q (List.mem_cons_of_mem _ hq)) (by simp [hsz]) (fun i x w' hx hw => hr (i + 1) x w' (by simpa using hx) (by simpa using hw)) (fun i => ?_)
    rw [getS_setS, getD_set]
    have hlt : p < tm.size := by rw [hsz]; exact hp p (by simp)
    by_cases e : p = i
    · simp only [e, if_true]
      have h2 : i < tm.size := e ▸ hlt
      simp only [h2, and_self, if_true]
      exact hr 0 v u rfl rfl
    · simp only [e, if_false, false_and]; exact hs i

theorem yd_rel {w : World} {G : Gh} {H : List AB} {id : Nat} {v : Value} (h : VRel w G H (.c (.yd id)) v) : v = .func (.yield (G.rho id)) #[] #[] := by
  cases h with | c _ _ h => cases h; rfl

/-- A call of yield: a round of the loop. -/
theorem opAt_yield {P : Program} {tt : Nat → Option TI} {ro : Option Nat} {o : Oper} {H : List AB} {E : Operand → V} {x : Operand} {as : Array Operand} {ts : Array TypeId} {id : Nat} {r : LR} {post : V → List AB → Prop}
    (ho : o.op = .call { callee := .value x, args := as, argTypes := ts }) (hx : E x = .c (.yd id)) (hid : H[id]? = some (.lp r)) (hps : as.size = r.ps.size) (hnt : r.ps.toList.all (fun p => decide (p < r.nt)) = true)
    (h : ∀ l, AWP { P := P, tt := tt, r := some l, nb := H.length, nt := r.nt } r.assign (thenQ (fun t => ∃ t', busyH id t = some t' ∧ AWP { P := P, tt := tt, r := some l, nb := H.length, nt := r.nt } r.body (roundQ id post) t') (fun _ _ => False))
      { slots := putPs r.ps.toList (as.toList.map E) r.slots, heap := H, marks := [] }) : OpAt P ro o H E post := by
  intro w G a next Q R hE hn
  have hfx := hE x (by simp [ho, Op.operands, Call.operands])
  rw [hx] at hfx
  have e1 := yd_rel hfx
  obtain ⟨m1, m2⟩ := map_rel (a := a) (fun y hy => hE y (by simp [ho, Op.operands, Call.operands]; exact .inr hy))
  obtain ⟨fn, tmps, hb, hsz, hD, hs, hrole⟩ := lp_at R hid
  refine ⟨fun _ _ => trivial, ?_⟩
  rw [Oper.semAt_eq _ _ _ (by simp [ho])]
  have hsza : (as.map a.eval).size = r.ps.size := by simp [hps]
  have hy := run_yield (P := P) (args := as.map a.eval) hb hsza
  have hrun : (execOp a.eval o).run P w = .ok (.round (G.rho id) fn ((r.ps.zip (as.map a.eval)).foldl (fun tmps (t, a) => tmps.setIfInBounds t a) tmps) r.assign r.body) w := by
    have e2 : (execOp a.eval o).run P w = (Instr.yield (G.rho id) (as.map a.eval)).run P w := by
      simp [execOp, ho, resolve, e1, Deferred.ofValue, invoke]
    rw [e2]
    exact hy
  rw [hrun, Oper.uponIn_round]
  refine ⟨fun e => by simp [Fence.wide] at e, ?_⟩
  refine roundIn_of_wpIn trivial ?_
  have hps' := putPs_rel (w := w) (G := G) (H := H) (nt := r.nt) r.ps.toList (as.toList.map E) (as.map a.eval).toList r.slots tmps m1 (fun p hp => by simpa using List.all_eq_true.1 hnt p hp) hsz m2 hs
  have hfold : (r.ps.zip (as.map a.eval)).foldl (fun tmps (t, a) => tmps.setIfInBounds t a) tmps = (r.ps.toList.zip (as.map a.eval).toList).foldl (fun t (p, v) => t.setIfInBounds p v) tmps := by
    rw [← Array.foldl_toList, Array.toList_zip]
  rw [hfold]
  have hst : RelSt ⟨w, G, H⟩ H.length r.nt w G { slots := putPs r.ps.toList (as.toList.map E) r.slots, heap := H, marks := [] } { tmps := (r.ps.toList.zip (as.map a.eval).toList).foldl (fun t (p, v) => t.setIfInBounds p v) tmps, defers := [] } :=
    { rel := R, later := Later.refl _ _ _, base := rfl, size := hps'.1, slots := hps'.2, defers := ⟨[], Hid.nil _ _ _, rfl⟩, marks := fun i hi => by simp at hi }
  refine wpIn_mono (h (G.rho id) _ w G _ hst) ?_
  rintro e a1 w1 ⟨t, G1, hq, hR⟩
  cases e with
  | normal =>
    obtain ⟨t', hb', hbody⟩ := hq
    unfold busyH at hb'
    split at hb'
    · rename_i r1 hid1
      split at hb'
      · rename_i hst1
        cases hb'
        obtain ⟨fn1, tmps1, hb1, hsz1, hD1, hs1, hrole1⟩ := lp_at hR.rel hid1
        have hlt : id < H.length := (List.getElem?_eq_some_iff.1 hid).1
        have hrho : G1.rho id = G.rho id := hR.later.rho id hlt
        obtain ⟨R1, L1⟩ := lp_put (st := .busy) (pe := r1.pend) hR.rel hid1 hb1 hsz1 hs1
        refine ⟨_, by rw [← hrho]; exact run_beginRound hb1 hst1, ?_⟩
        have hst2 : RelSt ⟨w, G, H⟩ H.length r.nt (w1.putObj (G1.rho id) (.loop { state := .busy, pending := r1.pend, fn := fn1, tmps := tmps1, params := r1.ps, assign := r1.assign, body := r1.body, defers := G1.rho r1.D })) G1 { t with heap := t.heap.set id (.lp { r1 with state := .busy }) } a1 :=
          { rel := R1, later := hR.later.trans L1, base := rfl, size := hR.size, slots := fun i => (hR.slots i).mono L1, defers := (by obtain ⟨hs, hh, e⟩ := hR.defers; exact ⟨hs, hh.mono L1, e⟩), marks := fun i hi => by simpa using hR.marks i hi }
        refine wpIn_mono (hbody _ _ G1 a1 hst2) ?_
        rintro e2 a2 w2 ⟨t2, G2, hq2, hR2⟩
        have hrho2 : G2.rho id = G.rho id := hR2.later.rho id hlt
        have fin : ∀ (j : Option Code) (H' : List AB), endR id t2.heap j = some H' → post (B j.isNone) H' → ∃ v w', (Instr.endRound (G.rho id) j).run P w2 = .ok v w' ∧ next (a.put o.dst v) w' := by
          intro j H' h1 h2
          obtain ⟨w3, h3, R3, L3⟩ := endR_run (P := P) hR2.rel h1
          refine ⟨_, w3, by rw [← hrho2]; exact h3, hn _ _ H' G2 w3 h2 (.c _ _ (.d _ _ (.bool _))) R3 (hR2.later.trans L3)⟩
        cases e2 with
        | normal => obtain ⟨H', h1, h2⟩ := hq2; exact fin none H' h1 h2
        | ret => obtain ⟨H', h1, h2⟩ := hq2; exact fin (some .ret) H' h1 h2
        | exit i => obtain ⟨H', h1, h2⟩ := hq2; exact fin (some (.exit i)) H' h1 h2
        | goto i => obtain ⟨H', h1, h2⟩ := hq2; exact fin (some (.goto i)) H' h1 h2
        | _ => exact hq2.elim
      · cases hb'
    · cases hb'
  | _ => exact hq.elim

/-- How it goes on behind a range over a function. -/
def overK (X : Cx) (id : Nat) (Q : Exit → St → Prop) (s : St) (H2 : List AB) : Prop := match H2[id]? with
  | some (.lp r) => r.state ≠ .busy ∧ match r.pend with
    | none => Q .normal { slots := s.slots, heap := H2.set id (.lp { r with state := .exhausted }), marks := s.heap.length :: s.marks }
    | some c => AWP X c Q { slots := s.slots, heap := H2.set id (.lp { r with state := .exhausted }), marks := s.heap.length :: s.marks }
  | _ => False
def overH (s : St) (nt : Nat) (ps : Array Tmp) (assign body : Code) : List AB :=
  s.heap ++ [.df] ++ [.lp { state := .ready, pend := none, slots := s.slots, nt := nt, ps := ps, assign := assign, body := body, D := s.heap.length }]

/-- A range over a function, outermost. -/
theorem awp_rangeFunc {X : Cx} {g : Operand} {ps : Array Tmp} {assign body : Code} {Q : Exit → St → Prop} {s : St} {gf : FuncId} {caps : List C} (hr : X.r = none) (hg : s.ev g = .c (.fn (.func gf) caps))
    (h : ACall X.P gf (.c (.yd (s.heap.length + 1)) :: caps.map .c) (overH s X.nt ps assign body) (fun _ H2 => overK X (s.heap.length + 1) Q s H2)) : AWP X (.rangeFunc g ps assign body) Q s := fun bs w G a hR => by
  have hv := hR.ev g
  rw [hg] at hv
  obtain ⟨arr, e1, e2, e3⟩ := fn_rel hv
  have hdf : Rel (w.alloc (.deferred (some []))) (G.own s.heap.length w.heap.size) (s.heap ++ [.df]) :=
    hR.rel.alloc_own _ _ (.df (by simp only [Gh.own, upd_same]; exact heap_alloc_at w _) (by simp [Gh.own, upd_same]))
  have L1 := Later.alloc_own hR.rel (.deferred (some [])) .df
  refine wpIn_rangeFunc (fun fn hfn => ?_)
  have hlen : (s.heap ++ [AB.df]).length = s.heap.length + 1 := by simp
  have hsz1 : (w.alloc (.deferred (some []))).heap.size = w.heap.size + 1 := by simp
  have hrhoD : (G.own s.heap.length w.heap.size).rho s.heap.length = w.heap.size := by simp [Gh.own, upd_same]
  let rec0 : Loop := { state := .ready, pending := none, fn := fn, tmps := a.tmps, params := ps, assign := assign, body := body, defers := w.heap.size }
  let lr : LR := { state := .ready, pend := none, slots := s.slots, nt := X.nt, ps := ps, assign := assign, body := body, D := s.heap.length }
  have L2 := Later.alloc_own hdf (.loop rec0) (.lp lr)
  have hG2 : ∀ i, i < s.heap.length + 1 → ((G.own s.heap.length w.heap.size).own (s.heap ++ [AB.df]).length (w.alloc (.deferred (some []))).heap.size).rho i = (G.own s.heap.length w.heap.size).rho i := fun i hi => upd_ne _ _ (by rw [hlen]; omega)
  have hlp : Rel ((w.alloc (.deferred (some []))).alloc (.loop rec0)) ((G.own s.heap.length w.heap.size).own (s.heap ++ [AB.df]).length (w.alloc (.deferred (some []))).heap.size) (s.heap ++ [.df] ++ [.lp lr]) := by
    refine hdf.alloc_own _ _ (.lp lr fn a.tmps ?_ hR.size (by simp [lr]) (fun i => ((hR.slots i).mono L1).mono L2) (by simp [Gh.own, upd_same]))
    rw [show ((G.own s.heap.length w.heap.size).own (s.heap ++ [AB.df]).length (w.alloc (.deferred (some []))).heap.size).rho lr.D = w.heap.size by rw [hG2 _ (by simp [lr]), hrhoD]]
    have : ((G.own s.heap.length w.heap.size).own (s.heap ++ [AB.df]).length (w.alloc (.deferred (some []))).heap.size).rho (s.heap ++ [AB.df]).length = (w.alloc (.deferred (some []))).heap.size := by simp [Gh.own, upd_same]
    rw [this]
    exact heap_alloc_at _ _
  have hrhoL : ((G.own s.heap.length w.heap.size).own (s.heap ++ [AB.df]).length (w.alloc (.deferred (some []))).heap.size).rho (s.heap.length + 1) = w.heap.size + 1 := by
    rw [← hlen, ← hsz1]; simp [Gh.own, upd_same]
  have hround : (Wd X.r).round = none := hr
  refine ⟨w.heap.size + 1, [{ target := .collected w.heap.size, args := #[] }], ((w.alloc (.deferred (some []))).alloc (.loop rec0)), { target := .fn (.func gf) arr, args := #[.func (.yield (w.heap.size + 1)) #[] #[]] }, ((w.alloc (.deferred (some []))).alloc (.loop rec0)), gf, #[.func (.yield (w.heap.size + 1)) #[] #[]] ++ arr, ((w.alloc (.deferred (some []))).alloc (.loop rec0)), by rw [hround]; exact run_enterLoop_outer _ _ _ _ _, ?_, fun _ _ => trivial, ?_, fun e => by simp [Fence.wide] at e, ?_⟩
  · simp only [resolve, e1]
    simp [go_sem, Deferred.ofValue]
  · simp [invoke, h.1]
  · have hc := h.2 _ _ (#[.func (.yield (w.heap.size + 1)) #[] #[]] ++ arr) hlp (by simp at e2 ⊢; omega) (fun i x v hx hv => by
      cases i with
      | zero =>
        simp at hx hv
        subst hx; subst hv
        have := CRel.yd (w := (w.alloc (.deferred (some []))).alloc (.loop rec0)) (G := (G.own s.heap.length w.heap.size).own (s.heap ++ [AB.df]).length (w.alloc (.deferred (some []))).heap.size) (H := s.heap ++ [.df] ++ [.lp lr]) (s.heap.length + 1) (by simp)
        rw [hrhoL] at this
        exact .c _ _ this
      | succ i =>
        simp only [List.getElem?_cons_succ, List.getElem?_map] at hx
        have hv' : arr.toList[i]? = some v := by simpa using hv
        cases hq : caps[i]? with
        | none => rw [hq] at hx; cases hx
        | some q =>
          rw [hq] at hx; cases hx
          exact .c _ _ (((e3 i q v hq hv').mono L1).mono L2))
    refine (CallsIn.at_round X.r hc).mono ?_
    rintro e w' ⟨v, y, H2, G', rfl, hk, R', hvv, L⟩
    unfold overK at hk
    split at hk
    · rename_i r2 hid
      obtain ⟨hnb, hk⟩ := hk
      obtain ⟨fn2, tmps2, hb2, hsz2, hD2, hs2, hrole2⟩ := lp_at R' hid
      have hlenH : (s.heap ++ [AB.df] ++ [AB.lp lr]).length = s.heap.length + 2 := by rw [List.length_append, hlen]; rfl
      have hl : G'.rho (s.heap.length + 1) = w.heap.size + 1 := (L.rho _ (by show _ < (s.heap ++ [AB.df] ++ [AB.lp lr]).length; rw [hlenH]; omega)).trans hrhoL
      have hD' : G'.rho s.heap.length = w.heap.size := (L.rho _ (by show _ < (s.heap ++ [AB.df] ++ [AB.lp lr]).length; rw [hlenH]; omega)).trans ((hG2 _ (by omega)).trans hrhoD)
      obtain ⟨R3, L3⟩ := lp_put (st := .exhausted) (pe := r2.pend) R' hid hb2 hsz2 hs2
      have hend := run_endLoop (P := X.P) hb2 hnb
      rw [hl] at hend
      have L0 := ((L1.trans L2).trans L).trans L3
      have hst : RelSt bs X.nb X.nt _ G' { slots := s.slots, heap := H2.set (s.heap.length + 1) (.lp { r2 with state := .exhausted }), marks := s.heap.length :: s.marks } { a with defers := [{ target := .collected w.heap.size, args := #[] }] ++ a.defers } :=
        { rel := R3
          later := hR.later.trans L0
          base := hR.base
          size := hR.size
          slots := fun i => (hR.slots i).mono L0
          defers := by
            obtain ⟨hs, hh, e⟩ := hR.defers
            refine ⟨hs, hh.mono L0, ?_⟩
            have hmap : s.marks.map (markOf G) = s.marks.map (markOf G') := List.map_congr_left fun id hid => by
              have := L0.rho id (hR.marks id hid)
              simp only [markOf, this]
            rw [e, hmap, List.map_cons]
            simp only [markOf, hD', List.cons_append, List.nil_append]
          marks := fun i hi => by
            have hlt : s.heap.length + 1 < H2.length := (List.getElem?_eq_some_iff.1 hid).1
            simp only [List.length_set]
            rcases List.mem_cons.1 hi with rfl | hi
            · omega
            · have := hR.marks i hi; omega }
      rw [hl] at hst
      cases hpd : r2.pend with
      | none =>
        rw [hpd] at hk
        exact ⟨none, _, by rw [← hpd]; exact hend, _, G', hk, by simpa only [hpd] using hst⟩
      | some c =>
        rw [hpd] at hk
        exact ⟨some c, _, by rw [← hpd]; exact hend, hk bs _ G' _ (by simpa only [hpd] using hst)⟩
    · exact hk.elim
end Go.Abs
/- A new block in the place of a hole. -/
namespace Go.Abs
open Go

mutual
def C.free (n : Nat) : C → Bool
  | .ptr id _ => id != n
  | .own id _ => id != n
  | .ms id _ _ _ => id != n
  | .mp id => id != n
  | .yd id => id != n
  | .vs id _ => id != n
  | .vc id _ => id != n
  | .fs _ _ cs => C.freeL n cs
  | .vp id _ _ => id != n
  | .fn _ cs => C.freeL n cs
  | .mv _ x => C.free n x
  | .ma _ cs => C.freeL n cs
  | _ => true
def C.freeL (n : Nat) : List C → Bool
  | [] => true
  | c :: cs => C.free n c && C.freeL n cs
end
theorem C.freeL_get {n : Nat} : ∀ {cs : List C} {i : Nat} {x : C}, C.freeL n cs = true → cs[i]? = some x → C.free n x = true
  | c :: cs, 0, x, h, hx => by simp [C.freeL] at h hx; rw [← hx]; exact h.1
  | c :: cs, i + 1, x, h, hx => by simp [C.freeL] at h; exact C.freeL_get h.2 (by simpa using hx)
  | [], i, x, h, hx => by simp at hx
mutual
def V.free (n : Nat) : V → Bool
  | .c x => x.free n
  | .agg cs => C.freeL n cs
  | .tup vs => V.freeL n vs
def V.freeL (n : Nat) : List V → Bool
  | [] => true
  | v :: vs => V.free n v && V.freeL n vs
end
theorem V.freeL_get {n : Nat} : ∀ {cs : List V} {i : Nat} {x : V}, V.freeL n cs = true → cs[i]? = some x → V.free n x = true
  | v :: vs, 0, x, h, hx => by simp [V.freeL] at h hx; rw [← hx]; exact h.1
  | v :: vs, i + 1, x, h, hx => by simp [V.freeL] at h; exact V.freeL_get h.2 (by simpa using hx)
  | [], i, x, h, hx => by simp at hx
/-- As far as it is read. -/
def AB.freeP (n : Nat) : AB → Prop
  | .cells cs => C.freeL n cs = true
  | .vec _ _ cs => C.freeL n cs = true
  | .mp es => ∀ e ∈ es, e.1.free n = true ∧ e.2.free n = true
  | .lp r => r.D ≠ n ∧ ∀ i, (getS r.slots i).free n = true
  | _ => True
def AB.lowP (n : Nat) : AB → Prop
  | .cells cs => C.lowL n cs = true
  | .vec _ _ cs => C.lowL n cs = true
  | .mp es => ∀ e ∈ es, e.1.low n = true ∧ e.2.low n = true
  | .lp r => r.D < n ∧ ∀ i, (getS r.slots i).low n = true
  | _ => True

mutual
theorem C.low_free {n id : Nat} (h : n ≤ id) : ∀ {c : C}, c.low n = true → c.free id = true
  | .ptr i _, hc => by simp [C.low] at hc; simp [C.free]; omega
  | .own i _, hc => by simp [C.low] at hc; simp [C.free]; omega
  | .ms i _ _ _, hc => by simp [C.low] at hc; simp [C.free]; omega
  | .mp i, hc => by simp [C.low] at hc; simp [C.free]; omega
  | .yd i, hc => by simp [C.low] at hc; simp [C.free]; omega
  | .vs i _, hc => by simp [C.low] at hc; simp [C.free]; omega
  | .vc i _, hc => by simp [C.low] at hc; simp [C.free]; omega
  | .fs _ _ cs, hc => by simp only [C.low] at hc; simp only [C.free]; exact C.lowL_free h hc
  | .vp i _ _, hc => by simp [C.low] at hc; simp [C.free]; omega
  | .gp _, _ => rfl
  | .fn _ cs, hc => by simp only [C.low] at hc; simp only [C.free]; exact C.lowL_free h hc
  | .mv _ x, hc => by simp only [C.low] at hc; simp only [C.free]; exact C.low_free h hc
  | .ma _ cs, hc => by simp only [C.low] at hc; simp only [C.free]; exact C.lowL_free h hc
  | .any, _ => rfl
  | .d _, _ => rfl
  | .nilp, _ => rfl
  | .dp _, _ => rfl
  | .full _, _ => rfl
theorem C.lowL_free {n id : Nat} (h : n ≤ id) : ∀ {cs : List C}, C.lowL n cs = true → C.freeL id cs = true
  | [], _ => rfl
  | c :: cs, hc => by simp only [C.lowL, Bool.and_eq_true] at hc; simp only [C.freeL, Bool.and_eq_true]; exact ⟨C.low_free h hc.1, C.lowL_free h hc.2⟩
end
mutual
theorem V.low_free {n id : Nat} (h : n ≤ id) : ∀ {v : V}, v.low n = true → v.free id = true
  | .c x, hc => C.low_free h (by simpa [V.low] using hc)
  | .agg cs, hc => by simp only [V.low] at hc; simp only [V.free]; exact C.lowL_free h hc
  | .tup vs, hc => by simp only [V.low] at hc; simp only [V.free]; exact V.lowL_free h hc
theorem V.lowL_free {n id : Nat} (h : n ≤ id) : ∀ {cs : List V}, V.lowL n cs = true → V.freeL id cs = true
  | [], _ => rfl
  | x :: xs, hc => by simp only [V.lowL, Bool.and_eq_true] at hc; simp only [V.freeL, Bool.and_eq_true]; exact ⟨V.low_free h hc.1, V.lowL_free h hc.2⟩
end
theorem AB.low_free {n id : Nat} (h : n ≤ id) {b : AB} (hb : b.lowP n) : b.freeP id := by
  cases b with
  | cells cs => exact C.lowL_free h hb
  | vec _ _ cs => exact C.lowL_free h hb
  | mp es => exact fun e he => ⟨V.low_free h (hb e he).1, V.low_free h (hb e he).2⟩
  | lp r => exact ⟨by have := hb.1; omega, fun i => V.low_free h (hb.2 i)⟩
  | _ => trivial

/-! ### What stands in a world names only blocks that are there -/
section
variable {w : World} {G : Gh} {H : List AB}
theorem lowL_of {n : Nat} : ∀ {cs : List C}, (∀ (i : Nat) (x : C), cs[i]? = some x → x.low n = true) → C.lowL n cs = true
  | [], _ => rfl
  | c :: cs, h => by simp only [C.lowL, Bool.and_eq_true]; exact ⟨h 0 c rfl, lowL_of (fun i x hx => h (i + 1) x (by simpa using hx))⟩
theorem vlowL_of {n : Nat} : ∀ {cs : List V}, (∀ (i : Nat) (x : V), cs[i]? = some x → x.low n = true) → V.lowL n cs = true
  | [], _ => rfl
  | c :: cs, h => by simp only [V.lowL, Bool.and_eq_true]; exact ⟨h 0 c rfl, vlowL_of (fun i x hx => h (i + 1) x (by simpa using hx))⟩
theorem CRel.lows {x : C} {v : Value} (h : CRel w G H x v) : x.low H.length = true := by
  induction h with
  | any v => rfl
  | d x v h => rfl
  | ptr id off h => simpa [C.low] using h
  | nilp => rfl
  | dp ds b o f hcell hrel => rfl
  | full rows a n hn h => rfl
  | own id rows a n cap hid hn h hg => simpa [C.low] using hid
  | ms id off n cap h => simpa [C.low] using h
  | fn f caps arr hs h ih =>
    simp only [C.low]
    refine lowL_of (fun i x hx => ?_)
    have hlt : i < arr.size := by rw [hs]; exact (List.getElem?_eq_some_iff.1 hx).1
    exact ih i x _ hx (Array.getElem?_eq_getElem hlt)
  | mv f x v h ih => simpa [C.low] using ih
  | ma f cs arr hs ho h ih =>
    simp only [C.low]
    refine lowL_of (fun i x hx => ?_)
    have hlt : i < arr.size := by rw [hs]; exact (List.getElem?_eq_some_iff.1 hx).1
    exact ih i x _ hx (Array.getElem?_eq_getElem hlt)
  | mp id h => simpa [C.low] using h
  | yd id h => simpa [C.low] using h
  | gp g => rfl
  | vs id n a cap hid ha hg => simpa [C.low] using hid
  | vc id n a hid ha hg => simpa [C.low] using hid
  | fs n sz cs b o vs hl hn hcell h ih =>
    simp only [C.low]
    refine lowL_of (fun i x hx => ?_)
    have hlt : i < vs.length := by rw [← hl]; exact (List.getElem?_eq_some_iff.1 hx).1
    exact ih i x _ hx (List.getElem?_eq_getElem hlt)
  | vp id n off a hid hg => simpa [C.low] using hid
theorem CsRel.lows {cs : List C} {vs : List Value} (h : CsRel w G H cs vs) : C.lowL H.length cs = true := by
  refine lowL_of (fun i x hx => ?_)
  have hlt : i < vs.length := by rw [← h.1]; exact (List.getElem?_eq_some_iff.1 hx).1
  exact (h.2 i x _ hx (List.getElem?_eq_getElem hlt)).1.lows
theorem VRel.lows {x : V} {v : Value} (h : VRel w G H x v) : x.low H.length = true := by
  induction h with
  | c x v h => simpa [V.low] using h.lows
  | agg cs arr h => simp only [V.low]; exact h.lows
  | tup vs arr hs h ih =>
    simp only [V.low]
    refine vlowL_of (fun i x hx => ?_)
    have hlt : i < arr.size := by rw [hs]; exact (List.getElem?_eq_some_iff.1 hx).1
    exact ih i x _ hx (Array.getElem?_eq_getElem hlt)
theorem ABRel.lows {k : Nat} {b : AB} (h : ABRel w G H k b) : b.lowP H.length := by
  cases h with
  | cells cs arr t hb hr hro hS => exact hr.lows
  | vec n sz cs a cap hg hcap hl h =>
    by_cases hz : cap = 0
    · have : cs = [] := List.eq_nil_of_length_eq_zero (by rw [hl]; have : n = 0 := by omega
                                                          rw [this, Nat.zero_mul])
      subst this; rfl
    · obtain ⟨b, arr, t, h1, h2, h3, h4, h5, h6⟩ := h hz
      exact h5.lows
  | mp es rs clock hb hr hro =>
    intro e he
    obtain ⟨i, hi⟩ := List.getElem?_of_mem he
    have hlt : i < rs.toList.length := by rw [← hr.1]; exact (List.getElem?_eq_some_iff.1 hi).1
    have := hr.2 i e _ hi (List.getElem?_eq_getElem hlt)
    exact ⟨this.1.lows, this.2.lows⟩
  | lp r fn tmps hb hsz hD hs hro => exact ⟨hD, fun i => (hs i).lows⟩
  | _ => trivial
/-- A block told under another number. -/
theorem ABRel.ren {G' : Gh} {H' : List AB} {k q n : Nat} {b : AB} (h : ABRel w G H k b)
    (hc : ∀ (x : C) (v : Value), x.free q = true → x.low n = true → CRel w G H x v → CRel w G' H' x v) (hv : ∀ (x : V) (v : Value), x.free q = true → x.low n = true → VRel w G H x v → VRel w G' H' x v) (hf : b.freeP q) (hl : b.lowP n)
    (id : Nat) (hrho : G'.rho id = G.rho k) (hg : G'.g id = G.g k) (hrole : ∀ b, G.role b = some k → G'.role b = some id) (hS : ∀ b o, G'.S b o → G.S b o)
    (hD : ∀ i, i ≠ q → i < n → G'.rho i = G.rho i ∧ i < H'.length) : ABRel w G' H' id b := by
  cases h with
  | gone => exact .gone
  | cells cs arr t hb hr hro hS' =>
    exact .cells cs arr t (by rw [hrho]; exact hb) ⟨hr.1, fun i x v hx hv' => ⟨hc x v (C.freeL_get hf hx) (C.lowL_get hl hx) (hr.2 i x v hx hv').1, (hr.2 i x v hx hv').2⟩⟩ (by rw [hrho]; exact hrole _ hro) (fun o ho => hS' o (by rw [hrho] at ho; exact hS _ _ ho))
  | grow n' sz a cap hg' hcap h hnil =>
    refine .grow n' sz a cap (hg.trans hg') hcap (fun x hx hn => ?_) hnil
    obtain ⟨b, o, h1, h2, h3, h4⟩ := h x hx hn
    exact ⟨b, o, h1, hrole b h2, h3, fun j hj hs => h4 j hj (hS _ _ hs)⟩
  | vec n' sz cs a cap hg' hcap hl' h =>
    refine .vec n' sz cs a cap (hg.trans hg') hcap hl' (fun hz => ?_)
    obtain ⟨b, arr, t, h1, h2, h3, h4, h5, h6⟩ := h hz
    exact ⟨b, arr, t, h1, hrole b h2, h3, h4, ⟨h5.1, fun i x v hx hv' => ⟨hc x v (C.freeL_get hf hx) (C.lowL_get hl hx) (h5.2 i x v hx hv').1, (h5.2 i x v hx hv').2⟩⟩, fun o hs => h6 o (hS _ _ hs)⟩
  | mp es rs clock hb hr hro =>
    refine .mp es rs clock (by rw [hrho]; exact hb) ⟨hr.1, fun i e r he hr' => ?_⟩ (by rw [hrho]; exact hrole _ hro)
    have h1 := hf e (List.mem_of_getElem? he)
    have h2 := hl e (List.mem_of_getElem? he)
    exact ⟨hv _ _ h1.1 h2.1 (hr.2 i e r he hr').1, hv _ _ h1.2 h2.2 (hr.2 i e r he hr').2⟩
  | mpg es rs clock hb hok hro =>
    refine .mpg es rs clock (by rw [hrho]; exact hb) (hok.mono (fun x v h => ?_) (fun b h => ⟨hrole b h, rfl, hS b⟩)) (by rw [hrho]; exact hrole _ hro)
    have := hc (.d x) v rfl rfl (.d _ _ h)
    cases this with
    | d _ _ h => exact h
  | lp r fn tmps hb hsz hD' hs hro =>
    obtain ⟨e1, e2⟩ := hD r.D hf.1 hl.1
    exact .lp r fn tmps (by rw [hrho, e1]; exact hb) hsz e2 (fun i => hv _ _ (hf.2 i) (hl.2 i) (hs i)) (by rw [hrho]; exact hrole _ hro)
  | df hb hro => exact .df (by rw [hrho]; exact hb) (by rw [hrho]; exact hrole _ hro)
  | gl g ds f hc' hr =>
    have h1 := hc (.dp ds) (.pointer (some ⟨g, 0, none⟩)) rfl rfl (.dp ds g 0 f (fun j hj => by simpa using hc' j hj) hr)
    cases h1 with
    | dp _ _ _ f' hcell hrel => exact .gl g ds f' (fun j hj => by simpa using hcell j hj) hrel
end

inductive MkK where
  | ptr
  | ms (len cap : Nat)
  | mp
  | own (rows : List (List D))
  | vs (len : Nat)
def MkK.at (n : Nat) : MkK → C
  | .ptr => .ptr n 0
  | .ms len cap => .ms n 0 len cap
  | .mp => .mp n
  | .own rows => .own n rows
  | .vs len => .vs n len

/-- Roles of blocks that are not there, struck. -/
def Gh.clean (G : Gh) (n : Nat) : Gh := { G with role := fun b => match G.role b with | some k => if k < n then some k else none | none => none }
theorem Rel.clean {w : World} {G : Gh} {H : List AB} (R : Rel w G H) : Rel w (G.clean H.length) H where
  sex := R.sex
  roleLt := fun b id h => by
    simp only [Gh.clean] at h
    cases hr : G.role b with
    | none => rw [hr] at h; cases h
    | some k => exact R.roleLt b k hr
  ab := fun id x hx => by
    have hid := (List.getElem?_eq_some_iff.1 hx).1
    have hrole : ∀ b, G.role b = some id → (G.clean H.length).role b = some id := fun b hb => by simp [Gh.clean, hb, hid]
    have cr : ∀ (x : C) (v : Value), CRel w G H x v → CRel w (G.clean H.length) H x v := fun x v h => by
      induction h with
      | any v => exact .any v
      | d x v h => exact .d x v h
      | ptr id off h => exact .ptr id off h
      | nilp => exact .nilp
      | dp ds b o f hcell hrel => exact .dp ds b o f hcell hrel
      | full rows a n hn h => exact .full rows a n hn h
      | own id rows a n cap hid hn h hg => exact .own id rows a n cap hid hn h hg
      | ms id off n cap h => exact .ms id off n cap h
      | fn f caps arr hs _ ih => exact .fn f caps arr hs ih
      | ma f cs arr hs ho _ ih => exact .ma f cs arr hs ho ih
      | mv f x v _ ih => exact .mv f x v ih
      | mp id h => exact .mp id h
      | yd id h => exact .yd id h
      | gp g => exact .gp g
      | vs id n a cap hid ha hg => exact .vs id n a cap hid ha hg
      | vc id n a hid ha hg => exact .vc id n a hid ha hg
      | fs n sz cs b o vs hl hn hcell _ ih => exact .fs n sz cs b o vs hl hn hcell ih
      | vp id n off a hid hg => exact .vp id n off a hid hg
    have vr : ∀ (x : V) (v : Value), VRel w G H x v → VRel w (G.clean H.length) H x v := fun x v h => by
      induction h with
      | c x v h => exact .c x v (cr x v h)
      | agg cs arr h => exact .agg cs arr ⟨h.1, fun i x v hx hv => ⟨cr x v (h.2 i x v hx hv).1, (h.2 i x v hx hv).2⟩⟩
      | tup vs arr hs _ ih => exact .tup vs arr hs ih
    cases R.ab id x hx with
    | gone => exact .gone
    | cells cs arr t hb hr hro hS => exact .cells cs arr t hb ⟨hr.1, fun i x v hx hv => ⟨cr x v (hr.2 i x v hx hv).1, (hr.2 i x v hx hv).2⟩⟩ (hrole _ hro) hS
    | grow n sz a cap hg hcap h hnil => exact .grow n sz a cap hg hcap (fun x hx hn => by obtain ⟨b, o, h1, h2, h3⟩ := h x hx hn; exact ⟨b, o, h1, hrole b h2, h3⟩) hnil
    | vec n sz cs a cap hg hcap hl h => exact .vec n sz cs a cap hg hcap hl (fun hz => by obtain ⟨b, arr, t, h1, h2, h3, h4, h5, h6⟩ := h hz; exact ⟨b, arr, t, h1, hrole b h2, h3, h4, ⟨h5.1, fun i x v hx hv => ⟨cr x v (h5.2 i x v hx hv).1, (h5.2 i x v hx hv).2⟩⟩, h6⟩)
    | mp es rs clock hb hr hro => exact .mp es rs clock hb ⟨hr.1, fun i e r he hr' => ⟨vr _ _ (hr.2 i e r he hr').1, vr _ _ (hr.2 i e r he hr').2⟩⟩ (hrole _ hro)
    | mpg es rs clock hb hok hro => exact .mpg es rs clock hb (hok.mono (fun _ _ h => h) (fun b h => ⟨hrole b h, rfl, fun _ h => h⟩)) (hrole _ hro)
    | lp r fn tmps hb hsz hD hs hro => exact .lp r fn tmps hb hsz hD (fun i => vr _ _ (hs i)) (hrole _ hro)
    | df hb hro => exact .df hb (hrole _ hro)
    | gl g ds f hc hr => exact .gl g ds f hc hr
theorem VRel.clean {w : World} {G : Gh} {H : List AB} {n : Nat} {x : V} {v : Value} (h : VRel w G H x v) : VRel w (G.clean n) H x v := by
  have cr : ∀ (x : C) (v : Value), CRel w G H x v → CRel w (G.clean n) H x v := fun x v h => by
    induction h with
    | any v => exact .any v
    | d x v h => exact .d x v h
    | ptr id off h => exact .ptr id off h
    | nilp => exact .nilp
    | dp ds b o f hcell hrel => exact .dp ds b o f hcell hrel
    | full rows a n hn h => exact .full rows a n hn h
    | own id rows a n cap hid hn h hg => exact .own id rows a n cap hid hn h hg
    | ms id off n cap h => exact .ms id off n cap h
    | fn f caps arr hs _ ih => exact .fn f caps arr hs ih
    | ma f cs arr hs ho _ ih => exact .ma f cs arr hs ho ih
    | mv f x v _ ih => exact .mv f x v ih
    | mp id h => exact .mp id h
    | yd id h => exact .yd id h
    | gp g => exact .gp g
    | vs id n a cap hid ha hg => exact .vs id n a cap hid ha hg
    | vc id n a hid ha hg => exact .vc id n a hid ha hg
    | fs n sz cs b o vs hl hn hcell _ ih => exact .fs n sz cs b o vs hl hn hcell ih
    | vp id n off a hid hg => exact .vp id n off a hid hg
  induction h with
  | c x v h => exact .c x v (cr x v h)
  | agg cs arr h => exact .agg cs arr ⟨h.1, fun i x v hx hv => ⟨cr x v (h.2 i x v hx hv).1, (h.2 i x v hx hv).2⟩⟩
  | tup vs arr hs _ ih => exact .tup vs arr hs ih

section
variable {bs : Base} {nb nt : Nat} {w : World} {G : Gh} {s : St} {a : Act}
/-- The ghost behind a step that made one more block, the block told under the hole's number. -/
def Gh.fill (G : Gh) (z : Nat) (G' : Gh) (n id : Nat) : Gh :=
  { S := G'.S, rho := upd G'.rho id (G'.rho n), g := upd G'.g id (G'.g n),
    role := fun c => if c < z then G.role c else (match G'.role c with | some k => if k = n then some id else some k | none => none) }

theorem hole_step {P : Program} {r : Option Nat} {o : Oper} {id : Nat} {k : MkK} {b : AB} (hR : RelSt bs nb nt w G s a) (hid : s.heap[id]? = some .gone) (hnb : nb ≤ id)
    (hsl : ∀ d, (s.get d).free id = true) (hbl : ∀ (j : Nat) (y : AB), s.heap[j]? = some y → y.freeP id) (hmk : ∀ m ∈ s.marks, m ≠ id) (hbf : b.freeP id) (hblo : b.lowP s.heap.length)
    (hop : OpAt P r o s.heap s.ev (one (.c (k.at s.heap.length)) (s.heap ++ [b]))) (hd : ∀ d, o.dst = some d → d < nt) {next : Act → World → Prop} {Q : Exit → Act → World → Prop}
    (hn : ∀ v w' G', RelSt bs nb nt w' G' (s.put o.dst (.c (k.at id)) (s.heap.set id b)) (a.put o.dst v) → next (a.put o.dst v) w') : o.wpIn { Fence.wide with round := r } 0 P a w next Q := by
  refine hop w (G.clean s.heap.length) a next Q hR.rel.clean (fun x _ => (hR.ev x).clean) ?_
  rintro v x H' G' w' ⟨rfl, rfl⟩ hv R' L
  have hidl : id < s.heap.length := (List.getElem?_eq_some_iff.1 hid).1
  let n := s.heap.length
  let G2 := G.fill w.heap.size G' n id
  have hlen : (s.heap.set id b).length = n := by simp [n]
  have rho_ne : ∀ i, i ≠ id → G2.rho i = G'.rho i := fun i hi => upd_ne _ _ hi
  have rho_id : G2.rho id = G'.rho n := upd_same _ _ _
  have g_ne : ∀ i, i ≠ id → G2.g i = G'.g i := fun i hi => upd_ne _ _ hi
  have g_id : G2.g id = G'.g n := upd_same _ _ _
  have cr : ∀ (x : C) (u : Value), x.free id = true → x.low n = true → CRel w' G' (s.heap ++ [b]) x u → CRel w' G2 (s.heap.set id b) x u := by
    intro x u hf hl h
    induction h with
    | any v => exact .any v
    | d x v h => exact .d x v h
    | ptr i off h =>
      have hi : i ≠ id := by simpa [C.free] using hf
      have hi2 : i < n := by simpa [C.low] using hl
      have := CRel.ptr (w := w') (G := G2) (H := s.heap.set id b) i off (by rw [hlen]; exact hi2)
      rwa [rho_ne i hi] at this
    | nilp => exact .nilp
    | dp ds b o f hcell hrel => exact .dp ds b o f hcell hrel
    | full rows a n hn h => exact .full rows a n hn h
    | own i rows a m cap hid' hn h hg =>
      have hi : i ≠ id := by simpa [C.free] using hf
      have hi2 : i < n := by simpa [C.low] using hl
      refine .own i rows a m cap (by rw [hlen]; exact hi2) hn h (fun m' sz hm => ?_)
      rw [List.getElem?_set_ne (Ne.symm hi)] at hm
      rw [g_ne i hi]
      exact hg m' sz (by rw [List.getElem?_append_left hi2]; exact hm)
    | ms i off len cap h =>
      have hi : i ≠ id := by simpa [C.free] using hf
      have hi2 : i < n := by simpa [C.low] using hl
      have := CRel.ms (w := w') (G := G2) (H := s.heap.set id b) i off len cap (by rw [hlen]; exact hi2)
      rwa [rho_ne i hi] at this
    | fn f caps arr hs _ ih =>
      simp only [C.free] at hf
      simp only [C.low] at hl
      exact .fn f caps arr hs (fun i x v hx hv => ih i x v hx hv (C.freeL_get hf hx) (C.lowL_get hl hx))
    | mv f x v _ ih => exact .mv f x v (ih (by simpa [C.free] using hf) (by simpa [C.low] using hl))
    | ma f cs arr hs ho _ ih =>
      simp only [C.free] at hf
      simp only [C.low] at hl
      exact .ma f cs arr hs ho (fun i x v hx hv => ih i x v hx hv (C.freeL_get hf hx) (C.lowL_get hl hx))
    | mp i h =>
      have hi : i ≠ id := by simpa [C.free] using hf
      have hi2 : i < n := by simpa [C.low] using hl
      have := CRel.mp (w := w') (G := G2) (H := s.heap.set id b) i (by rw [hlen]; exact hi2)
      rwa [rho_ne i hi] at this
    | yd i h =>
      have hi : i ≠ id := by simpa [C.free] using hf
      have hi2 : i < n := by simpa [C.low] using hl
      have := CRel.yd (w := w') (G := G2) (H := s.heap.set id b) i (by rw [hlen]; exact hi2)
      rwa [rho_ne i hi] at this
    | gp g => exact .gp g
    | fs m sz cs b o vs hl' hn hcell _ ih =>
      simp only [C.free] at hf
      simp only [C.low] at hl
      exact .fs m sz cs b o vs hl' hn hcell (fun i x v hx hv => ih i x v hx hv (C.freeL_get hf hx) (C.lowL_get hl hx))
    | vc i m a hid' ha hg =>
      have hi : i ≠ id := by simpa [C.free] using hf
      have hi2 : i < n := by simpa [C.low] using hl
      refine .vc i m a (by rw [hlen]; exact hi2) ha (fun m' sz cs hm => ?_)
      rw [List.getElem?_set_ne (Ne.symm hi)] at hm
      rw [g_ne i hi]
      exact hg m' sz cs (by rw [List.getElem?_append_left hi2]; exact hm)
    | vs i m a cap hid' ha hg =>
      have hi : i ≠ id := by simpa [C.free] using hf
      have hi2 : i < n := by simpa [C.low] using hl
      refine .vs i m a cap (by rw [hlen]; exact hi2) ha (fun m' sz cs hm => ?_)
      rw [List.getElem?_set_ne (Ne.symm hi)] at hm
      rw [g_ne i hi]
      exact hg m' sz cs (by rw [List.getElem?_append_left hi2]; exact hm)
    | vp i m off a hid' hg =>
      have hi : i ≠ id := by simpa [C.free] using hf
      have hi2 : i < n := by simpa [C.low] using hl
      refine .vp i m off a (by rw [hlen]; exact hi2) (fun m' sz cs hm => ?_)
      rw [List.getElem?_set_ne (Ne.symm hi)] at hm
      rw [g_ne i hi]
      exact hg m' sz cs (by rw [List.getElem?_append_left hi2]; exact hm)
  have vr : ∀ (x : V) (u : Value), x.free id = true → x.low n = true → VRel w' G' (s.heap ++ [b]) x u → VRel w' G2 (s.heap.set id b) x u := by
    intro x u hf hl h
    induction h with
    | c x v h => exact .c x v (cr x v (by simpa [V.free] using hf) (by simpa [V.low] using hl) h)
    | agg cs arr h =>
      simp only [V.free] at hf
      simp only [V.low] at hl
      exact .agg cs arr ⟨h.1, fun i x v hx hv => ⟨cr x v (C.freeL_get hf hx) (C.lowL_get hl hx) (h.2 i x v hx hv).1, (h.2 i x v hx hv).2⟩⟩
    | tup vs arr hs _ ih =>
      simp only [V.free] at hf
      simp only [V.low] at hl
      exact .tup vs arr hs (fun i x v hx hv => ih i x v hx hv (V.freeL_get hf hx) (V.lowL_get hl hx))
  have role_new : ∀ c k', G'.role c = some k' → (w.heap.size ≤ c → G2.role c = if k' = n then some id else some k') := fun c k' h hc => by
    show (if c < w.heap.size then G.role c else _) = _
    rw [if_neg (by omega), h]
  have role_old : ∀ c k', G'.role c = some k' → c < w.heap.size → k' < n ∧ G2.role c = some k' := fun c k' h hc => by
    have h1 := L.role c hc
    rw [h] at h1
    simp only [Gh.clean] at h1
    cases hg : G.role c with
    | none => rw [hg] at h1; cases h1
    | some j =>
      rw [hg] at h1
      simp only at h1
      split at h1
      · cases h1
        rename_i hj
        refine ⟨hj, ?_⟩
        show (if c < w.heap.size then G.role c else _) = _
        rw [if_pos hc, hg]
      · cases h1
  have R2 : Rel w' G2 (s.heap.set id b) := by
    refine ⟨R'.sex, fun c j hr => ?_, fun j y hy => ?_⟩
    · have hr' : (if c < w.heap.size then G.role c else (match G'.role c with | some k => if k = n then some id else some k | none => none)) = some j := hr
      by_cases hc : c < w.heap.size
      · exact Nat.lt_of_lt_of_le hc L.size
      · rw [if_neg hc] at hr'
        cases hg : G'.role c with
        | none => rw [hg] at hr'; cases hr'
        | some k' => exact R'.roleLt c k' hg
    · by_cases hj : id = j
      · subst hj
        simp [hidl] at hy
        subst hy
        refine (R'.ab n b (by simp [n])).ren (q := id) (n := n) cr vr hbf hblo id rho_id g_id (fun c hc => ?_) (fun _ _ h => h) (fun i hi hi2 => ⟨rho_ne i hi, by rw [hlen]; exact hi2⟩)
        by_cases hcs : c < w.heap.size
        · exact absurd (role_old c n hc hcs).1 (Nat.lt_irrefl _)
        · rw [role_new c n hc (by omega), if_pos rfl]
      · rw [List.getElem?_set_ne hj] at hy
        have hjl := (List.getElem?_eq_some_iff.1 hy).1
        refine (R'.ab j y (by rw [List.getElem?_append_left hjl]; exact hy)).ren (q := id) (n := n) cr vr (hbl j y hy) (hR.rel.ab j y hy).lows j (rho_ne j (Ne.symm hj)) (g_ne j (Ne.symm hj)) (fun c hc => ?_) (fun _ _ h => h) (fun i hi hi2 => ⟨rho_ne i hi, by rw [hlen]; exact hi2⟩)
        by_cases hcs : c < w.heap.size
        · exact (role_old c j hc hcs).2
        · rw [role_new c j hc (by omega), if_neg (by omega)]
  have hx : VRel w' G2 (s.heap.set id b) (.c (k.at id)) v := by
    cases k with
    | ptr =>
      cases hv with
      | c _ _ h => cases h with
        | ptr _ _ h =>
          have := CRel.ptr (w := w') (G := G2) (H := s.heap.set id b) id 0 (by rw [hlen]; exact hidl)
          rw [rho_id] at this
          exact .c _ _ this
    | ms len cap =>
      cases hv with
      | c _ _ h => cases h with
        | ms _ _ _ _ h =>
          have := CRel.ms (w := w') (G := G2) (H := s.heap.set id b) id 0 len cap (by rw [hlen]; exact hidl)
          rw [rho_id] at this
          exact .c _ _ this
    | mp =>
      cases hv with
      | c _ _ h => cases h with
        | mp _ h =>
          have := CRel.mp (w := w') (G := G2) (H := s.heap.set id b) id (by rw [hlen]; exact hidl)
          rw [rho_id] at this
          exact .c _ _ this
    | own rows =>
      cases hv with
      | c _ _ h => cases h with
        | own _ _ a m cap hid' hn h hg =>
          refine .c _ _ (.own id rows a m cap (by rw [hlen]; exact hidl) hn h (fun m' sz hm => ?_))
          rw [g_id]
          simp [hidl] at hm
          exact hg m' sz (by simp [hm])
    | vs len =>
      cases hv with
      | c _ _ h => cases h with
        | vs _ _ a cap hid' ha hg =>
          refine .c _ _ (.vs id len a cap (by rw [hlen]; exact hidl) ha (fun m' sz cs hm => ?_))
          rw [g_id]
          simp [hidl] at hm
          exact hg m' sz cs (by simp [hm])
  have hlater := hR.later
  have hbase := hR.base
  refine hn v w' G2
    { rel := R2
      later :=
        { size := Nat.le_trans hlater.size L.size
          S := fun c o h => ⟨(L.S c o (hlater.S c o h).1).1, ((L.S c o (hlater.S c o h).1).2).trans (hlater.S c o h).2⟩
          Snew := fun c o hc hr h => hlater.Snew c o hc hr (L.Snew c o (Nat.lt_of_lt_of_le hc hlater.size) (by simp [Gh.clean, hlater.role c hc, hr]) h)
          len := by show bs.H.length ≤ (s.heap.set id b).length; rw [hlen]; exact hlater.len
          rho := fun i hi => by
            have h1 : i ≠ id := by omega
            have h2 : i < s.heap.length := Nat.lt_of_lt_of_le hi hlater.len
            rw [rho_ne i h1, L.rho i h2]
            exact hlater.rho i hi
          grow := fun i m sz hi h => by
            have h1 : i ≠ id := by omega
            have h2 : i < s.heap.length := Nat.lt_of_lt_of_le hi hlater.len
            have h : (s.heap.set id b)[i]? = some (.grow m sz) := h
            rw [List.getElem?_set_ne (Ne.symm h1)] at h
            obtain ⟨m1, hm1, hc1⟩ := L.grow i m sz h2 (by rw [List.getElem?_append_left h2]; exact h)
            obtain ⟨m2, hm2, hc2⟩ := hlater.grow i m1 sz hi hm1
            refine ⟨m2, hm2, ?_⟩
            rw [g_ne i h1]
            rcases hc1 with hc1 | ⟨rfl, hc1⟩ <;> rcases hc2 with hc2 | ⟨rfl, hc2⟩
            · exact .inl (Nat.lt_trans hc2 hc1)
            · exact .inl hc1
            · exact .inl hc2
            · exact .inr ⟨rfl, hc1.trans hc2⟩
          vec := fun i m sz ds hi h => by
            have h1 : i ≠ id := by omega
            have h2 : i < s.heap.length := Nat.lt_of_lt_of_le hi hlater.len
            have h : (s.heap.set id b)[i]? = some (.vec m sz ds) := h
            rw [List.getElem?_set_ne (Ne.symm h1)] at h
            obtain ⟨m1, sz1, ds1, hm1, hc1⟩ := L.vec i m sz ds h2 (by rw [List.getElem?_append_left h2]; exact h)
            obtain ⟨m2, sz2, ds2, hm2, hc2⟩ := hlater.vec i m1 sz1 ds1 hi hm1
            refine ⟨m2, sz2, ds2, hm2, ?_⟩
            rw [g_ne i h1]
            rcases hc1 with hc1 | ⟨rfl, hc1⟩ <;> rcases hc2 with hc2 | ⟨rfl, hc2⟩
            · exact .inl (Nat.lt_trans hc2 hc1)
            · exact .inl hc1
            · exact .inl hc2
            · exact .inr ⟨rfl, hc1.trans hc2⟩
          role := fun c hc => by
            have h1 : c < w.heap.size := Nat.lt_of_lt_of_le hc hlater.size
            show (if c < w.heap.size then G.role c else _) = _
            rw [if_pos h1]
            exact hlater.role c hc
          frame := fun c hc hr => (L.frame c (Nat.lt_of_lt_of_le hc hlater.size) (by simp [Gh.clean, hlater.role c hc, hr])).trans (hlater.frame c hc hr)
          os := L.os.trans hlater.os
          out := L.out.trans hlater.out }
      base := hbase
      size := by cases o.dst <;> simp [Act.put, hR.size]
      slots := fun i => ?_
      defers := ?_
      marks := fun m hm => by simpa [St.put] using hR.marks m hm }
  · have old : VRel w' G2 (s.heap.set id b) (s.get i) (a.tmps.getD i undef) := vr _ _ (hsl i) (hR.slots i).lows ((hR.slots i).clean.mono L)
    cases hdst : o.dst with
    | none => exact old
    | some d =>
      have hd' := hd d hdst
      simp only [St.get, St.put, getS_setS, Act.put, getD_set, hR.size, hd', and_true]
      by_cases e : d = i
      · simp only [e, if_true]; exact hx
      · simp only [e, if_false]; exact old
  · have : (a.put o.dst v).defers = a.defers := by cases o.dst <;> rfl
    obtain ⟨hs, hh, e⟩ := hR.defers
    refine ⟨hs, ⟨hh.nd, fun c hc => ?_⟩, ?_⟩
    · obtain ⟨k1, k2, k3, k4⟩ := hh.at' c hc
      refine ⟨k1, Nat.lt_of_lt_of_le k2 L.size, ?_, (L.frame c k2 (by simp [Gh.clean, k3])).trans k4⟩
      show (if c < w.heap.size then G.role c else _) = _
      rw [if_pos k2]; exact k3
    rw [this, e]
    congr 1
    refine List.map_congr_left fun m hm => ?_
    have h1 := hmk m hm
    have h2 : (G.clean s.heap.length).rho m = G.rho m := rfl
    simp only [markOf, rho_ne m h1, L.rho m (hR.marks m hm), h2]
end
end Go.Abs
/- Several new blocks in the place of holes. -/
namespace Go.Abs
open Go

theorem setMany_get' {α : Type} : ∀ (vs l : List α) (off i : Nat), (setMany l off vs)[i]? = if off ≤ i ∧ i < off + vs.length ∧ i < l.length then vs[i - off]? else l[i]?
  | [], l, off, i => by simp [setMany]; omega
  | v :: vs, l, off, i => by
    rw [setMany, setMany_get' vs (l.set off v) (off + 1) i]
    simp only [List.length_set, List.length_cons]
    by_cases h1 : off + 1 ≤ i ∧ i < off + 1 + vs.length ∧ i < l.length
    · rw [if_pos h1, if_pos (by omega)]
      have : i - off = (i - (off + 1)) + 1 := by omega
      rw [this]; simp
    · rw [if_neg h1]
      by_cases h2 : off = i
      · subst h2
        by_cases h3 : off < l.length
        · rw [if_pos (by omega)]; simp [h3]
        · rw [if_neg (by omega)]; simp [h3]
      · rw [List.getElem?_set_ne h2, if_neg (by omega)]

/-- New blocks' numbers, told from d on. -/
def C.shift (d : Nat) : C → C
  | .ptr id off => .ptr (d + id) off
  | .ms id off n cap => .ms (d + id) off n cap
  | .vs id n => .vs (d + id) n
  | .mp id => .mp (d + id)
  | c => c
/-- What may be shifted; below m. -/
def C.shB (m : Nat) : C → Bool
  | .ptr id _ => decide (id < m)
  | .ms id _ _ _ => decide (id < m)
  | .vs id _ => decide (id < m)
  | .mp id => decide (id < m)
  | .any => true
  | .d _ => true
  | .nilp => true
  | .dp _ => true
  | .full _ => true
  | _ => false
def V.shift (d : Nat) : V → V
  | .c x => .c (x.shift d)
  | .agg cs => .agg (cs.map (C.shift d))
  | v => v
def V.shB (m : Nat) : V → Bool
  | .c x => x.shB m
  | .agg cs => cs.all (C.shB m)
  | _ => false
def AB.shift (d : Nat) : AB → AB
  | .cells cs => .cells (cs.map (C.shift d))
  | .vec n sz cs => .vec n sz (cs.map (C.shift d))
  | b => b
def AB.shB (m : Nat) : AB → Bool
  | .cells cs => cs.all (C.shB m)
  | .vec _ _ cs => cs.all (C.shB m)
  | .grow _ _ => true
  | .gone => true
  | _ => false
def freeM (id m : Nat) (p : Nat → Prop) : Prop := ∀ k, id ≤ k → k < id + m → p k

section
variable {w : World} {G : Gh} {H : List AB}
theorem ABRel.renM {G' : Gh} {H' : List AB} {k q m n : Nat} {b : AB} (h : ABRel w G H k b)
    (hc : ∀ (x : C) (v : Value), freeM q m (fun k => x.free k = true) → x.low n = true → CRel w G H x v → CRel w G' H' x v) (hv : ∀ (x : V) (v : Value), freeM q m (fun k => x.free k = true) → x.low n = true → VRel w G H x v → VRel w G' H' x v) (hf : freeM q m b.freeP) (hl : b.lowP n)
    (id : Nat) (hrho : G'.rho id = G.rho k) (hg : G'.g id = G.g k) (hrole : ∀ b, G.role b = some k → G'.role b = some id) (hS : ∀ b o, G'.S b o → G.S b o)
    (hD : ∀ i, ¬ (q ≤ i ∧ i < q + m) → i < n → G'.rho i = G.rho i ∧ i < H'.length) : ABRel w G' H' id b := by
  cases h with
  | gone => exact .gone
  | cells cs arr t hb hr hro hS' =>
    exact .cells cs arr t (by rw [hrho]; exact hb) ⟨hr.1, fun i x v hx hv' => ⟨hc x v (fun k h1 h2 => C.freeL_get (hf k h1 h2) hx) (C.lowL_get hl hx) (hr.2 i x v hx hv').1, (hr.2 i x v hx hv').2⟩⟩ (by rw [hrho]; exact hrole _ hro) (fun o ho => hS' o (by rw [hrho] at ho; exact hS _ _ ho))
  | grow n' sz a cap hg' hcap h hnil =>
    refine .grow n' sz a cap (hg.trans hg') hcap (fun x hx hn => ?_) hnil
    obtain ⟨b, o, h1, h2, h3, h4⟩ := h x hx hn
    exact ⟨b, o, h1, hrole b h2, h3, fun j hj hs => h4 j hj (hS _ _ hs)⟩
  | vec n' sz cs a cap hg' hcap hl' h =>
    refine .vec n' sz cs a cap (hg.trans hg') hcap hl' (fun hz => ?_)
    obtain ⟨b, arr, t, h1, h2, h3, h4, h5, h6⟩ := h hz
    exact ⟨b, arr, t, h1, hrole b h2, h3, h4, ⟨h5.1, fun i x v hx hv' => ⟨hc x v (fun k h1 h2 => C.freeL_get (hf k h1 h2) hx) (C.lowL_get hl hx) (h5.2 i x v hx hv').1, (h5.2 i x v hx hv').2⟩⟩, fun o hs => h6 o (hS _ _ hs)⟩
  | mp es rs clock hb hr hro =>
    refine .mp es rs clock (by rw [hrho]; exact hb) ⟨hr.1, fun i e r he hr' => ?_⟩ (by rw [hrho]; exact hrole _ hro)
    have h2 := hl e (List.mem_of_getElem? he)
    exact ⟨hv _ _ (fun k h1 h2 => (hf k h1 h2 e (List.mem_of_getElem? he)).1) h2.1 (hr.2 i e r he hr').1, hv _ _ (fun k h1 h2 => (hf k h1 h2 e (List.mem_of_getElem? he)).2) h2.2 (hr.2 i e r he hr').2⟩
  | mpg es rs clock hb hok hro =>
    refine .mpg es rs clock (by rw [hrho]; exact hb) (hok.mono (fun x v h => ?_) (fun b h => ⟨hrole b h, rfl, hS b⟩)) (by rw [hrho]; exact hrole _ hro)
    have := hc (.d x) v (fun _ _ _ => rfl) rfl (.d _ _ h)
    cases this with
    | d _ _ h => exact h
  | lp r fn tmps hb hsz hD' hs hro =>
    obtain ⟨e1, e2⟩ := hD r.D (fun h => (hf r.D h.1 h.2).1 rfl) hl.1
    exact .lp r fn tmps (by rw [hrho, e1]; exact hb) hsz e2 (fun i => hv _ _ (fun k h1 h2 => (hf k h1 h2).2 i) (hl.2 i) (hs i)) (by rw [hrho]; exact hrole _ hro)
  | df hb hro => exact .df (by rw [hrho]; exact hb) (by rw [hrho]; exact hrole _ hro)
  | gl g ds f hc' hr =>
    have h1 := hc (.dp ds) (.pointer (some ⟨g, 0, none⟩)) (fun _ _ _ => rfl) rfl (.dp ds g 0 f (fun j hj => by simpa using hc' j hj) hr)
    cases h1 with
    | dp _ _ _ f' hcell hrel => exact .gl g ds f' (fun j hj => by simpa using hcell j hj) hrel
/-- A block of the new ones, told under another number. -/
theorem ABRel.shift {G' : Gh} {H' : List AB} {k m n id j : Nat} {b : AB} (h : ABRel w G H k (b.shift n))
    (hc : ∀ (x : C) (v : Value), x.shB m = true → CRel w G H (x.shift n) v → CRel w G' H' (x.shift j) v) (hb : b.shB m = true)
    (hrho : G'.rho id = G.rho k) (hg : G'.g id = G.g k) (hrole : ∀ b, G.role b = some k → G'.role b = some id) (hS : ∀ b o, G'.S b o → G.S b o) : ABRel w G' H' id (b.shift j) := by
  cases b with
  | gone => exact .gone
  | grow n' sz =>
    cases h with
    | grow n' sz a cap hg' hcap h hnil =>
      refine .grow n' sz a cap (hg.trans hg') hcap (fun x hx hn => ?_) hnil
      obtain ⟨b, o, h1, h2, h3, h4⟩ := h x hx hn
      exact ⟨b, o, h1, hrole b h2, h3, fun j hj hs => h4 j hj (hS _ _ hs)⟩
  | cells cs =>
    simp only [AB.shB, List.all_eq_true] at hb
    cases h with
    | cells cs' arr t hb' hr hro hS' =>
      refine .cells _ arr t (by rw [hrho]; exact hb') ⟨by simpa using hr.1, fun i x v hx hv => ?_⟩ (by rw [hrho]; exact hrole _ hro) (fun o ho => hS' o (by rw [hrho] at ho; exact hS _ _ ho))
      rw [List.getElem?_map, Option.map_eq_some_iff] at hx
      obtain ⟨y, hy, rfl⟩ := hx
      have := hr.2 i (y.shift n) v (by rw [List.getElem?_map, hy]; rfl) hv
      exact ⟨hc y v (hb y (List.mem_of_getElem? hy)) this.1, this.2⟩
  | vec n' sz cs =>
    simp only [AB.shB, List.all_eq_true] at hb
    cases h with
    | vec _ _ cs' a cap hg' hcap hl' h =>
      refine .vec n' sz _ a cap (hg.trans hg') hcap (by simpa using hl') (fun hz => ?_)
      obtain ⟨b, arr, t, h1, h2, h3, h4, h5, h6⟩ := h hz
      refine ⟨b, arr, t, h1, hrole b h2, h3, h4, ⟨by simpa using h5.1, fun i x v hx hv => ?_⟩, fun o hs => h6 o (hS _ _ hs)⟩
      rw [List.getElem?_map, Option.map_eq_some_iff] at hx
      obtain ⟨y, hy, rfl⟩ := hx
      have := h5.2 i (y.shift n) v (by rw [List.getElem?_map, hy]; rfl) (by simpa using hv)
      exact ⟨hc y v (hb y (List.mem_of_getElem? hy)) this.1, this.2⟩
  | _ => cases hb
end

section
variable {bs : Base} {nb nt : Nat} {w : World} {G : Gh} {s : St} {a : Act}
/-- The ghost behind a step that made m more blocks, told under the holes' numbers. -/
def Gh.fillM (G : Gh) (z : Nat) (G' : Gh) (n id m : Nat) : Gh :=
  { S := G'.S, rho := fun i => if id ≤ i ∧ i < id + m then G'.rho (n + (i - id)) else G'.rho i, g := fun i => if id ≤ i ∧ i < id + m then G'.g (n + (i - id)) else G'.g i,
    role := fun c => if c < z then G.role c else (match G'.role c with | some k => some (if n ≤ k ∧ k < n + m then id + (k - n) else k) | none => none) }

theorem holes_step {P : Program} {r : Option Nat} {o : Oper} {id : Nat} {x : V} {B : List AB} (hR : RelSt bs nb nt w G s a) (hid : id + B.length ≤ s.heap.length) (hnb : nb ≤ id)
    (hsl : ∀ d, freeM id B.length (fun k => (s.get d).free k = true)) (hbl : ∀ (j : Nat) (y : AB), s.heap[j]? = some y → (id ≤ j ∧ j < id + B.length) ∨ freeM id B.length y.freeP) (hmk : ∀ m ∈ s.marks, m < id) (hbf : B.all (AB.shB B.length) = true) (hxf : x.shB B.length = true)
    (hop : OpAt P r o s.heap s.ev (one (x.shift s.heap.length) (s.heap ++ B.map (AB.shift s.heap.length)))) (hd : ∀ d, o.dst = some d → d < nt) {next : Act → World → Prop} {Q : Exit → Act → World → Prop}
    (hn : ∀ v w' G', RelSt bs nb nt w' G' (s.put o.dst (x.shift id) (setMany s.heap id (B.map (AB.shift id)))) (a.put o.dst v) → next (a.put o.dst v) w') : o.wpIn { Fence.wide with round := r } 0 P a w next Q := by
  refine hop w (G.clean s.heap.length) a next Q hR.rel.clean (fun x _ => (hR.ev x).clean) ?_
  rintro v x' H' G' w' ⟨rfl, rfl⟩ hv R' L
  let n := s.heap.length
  let m := B.length
  have hBl : (B.map (AB.shift id)).length = m := by simp [m]
  let G2 := G.fillM w.heap.size G' n id m
  have hlen : (setMany s.heap id (B.map (AB.shift id))).length = n := by simp [n, setMany_length]
  have rho_ne : ∀ i, ¬ (id ≤ i ∧ i < id + m) → G2.rho i = G'.rho i := fun i hi => if_neg hi
  have rho_id : ∀ i, i < m → G2.rho (id + i) = G'.rho (n + i) := fun i hi => by
    show (if id ≤ id + i ∧ id + i < id + m then G'.rho (n + (id + i - id)) else _) = _
    rw [if_pos ⟨by omega, by omega⟩, Nat.add_sub_cancel_left]
  have g_ne : ∀ i, ¬ (id ≤ i ∧ i < id + m) → G2.g i = G'.g i := fun i hi => if_neg hi
  have g_id : ∀ i, i < m → G2.g (id + i) = G'.g (n + i) := fun i hi => by
    show (if id ≤ id + i ∧ id + i < id + m then G'.g (n + (id + i - id)) else _) = _
    rw [if_pos ⟨by omega, by omega⟩, Nat.add_sub_cancel_left]
  have get_ne : ∀ i, ¬ (id ≤ i ∧ i < id + m) → (setMany s.heap id (B.map (AB.shift id)))[i]? = s.heap[i]? := fun i hi => by
    rw [setMany_get', if_neg (by rw [hBl]; omega)]
  have get_id : ∀ i, i < m → (setMany s.heap id (B.map (AB.shift id)))[id + i]? = (B[i]?).map (AB.shift id) := fun i hi => by
    rw [setMany_get', if_pos ⟨by omega, by rw [hBl]; omega, by omega⟩, Nat.add_sub_cancel_left, List.getElem?_map]
  have get_new : ∀ i, (s.heap ++ B.map (AB.shift n))[n + i]? = (B[i]?).map (AB.shift n) := fun i => by
    rw [List.getElem?_append_right (by omega), Nat.add_sub_cancel_left, List.getElem?_map]
  have cr : ∀ (x : C) (u : Value), freeM id m (fun k => x.free k = true) → x.low n = true → CRel w' G' (s.heap ++ B.map (AB.shift n)) x u → CRel w' G2 (setMany s.heap id (B.map (AB.shift id))) x u := by
    intro x u hf hl h
    induction h with
    | any v => exact .any v
    | d x v h => exact .d x v h
    | ptr i off h =>
      have hi : ¬ (id ≤ i ∧ i < id + m) := fun h => by have := hf i h.1 h.2; simp [C.free] at this
      have hi2 : i < n := by simpa [C.low] using hl
      have := CRel.ptr (w := w') (G := G2) (H := setMany s.heap id (B.map (AB.shift id))) i off (by rw [hlen]; exact hi2)
      rwa [rho_ne i hi] at this
    | nilp => exact .nilp
    | dp ds b o f hcell hrel => exact .dp ds b o f hcell hrel
    | full rows a n hn h => exact .full rows a n hn h
    | own i rows a m1 cap hid' hn h hg =>
      have hi : ¬ (id ≤ i ∧ i < id + m) := fun h => by have := hf i h.1 h.2; simp [C.free] at this
      have hi2 : i < n := by simpa [C.low] using hl
      refine .own i rows a m1 cap (by rw [hlen]; exact hi2) hn h (fun m' sz hm => ?_)
      rw [get_ne i hi] at hm
      rw [g_ne i hi]
      exact hg m' sz (by rw [List.getElem?_append_left hi2]; exact hm)
    | ms i off len cap h =>
      have hi : ¬ (id ≤ i ∧ i < id + m) := fun h => by have := hf i h.1 h.2; simp [C.free] at this
      have hi2 : i < n := by simpa [C.low] using hl
      have := CRel.ms (w := w') (G := G2) (H := setMany s.heap id (B.map (AB.shift id))) i off len cap (by rw [hlen]; exact hi2)
      rwa [rho_ne i hi] at this
    | fn f caps arr hs _ ih =>
      simp only [C.low] at hl
      exact .fn f caps arr hs (fun i x v hx hv => ih i x v hx hv (fun k h1 h2 => C.freeL_get (by simpa only [C.free, V.free] using hf k h1 h2) hx) (C.lowL_get hl hx))
    | mv f x v _ ih => exact .mv f x v (ih (fun k h1 h2 => by simpa [C.free] using hf k h1 h2) (by simpa [C.low] using hl))
    | ma f cs arr hs ho _ ih =>
      simp only [C.low] at hl
      exact .ma f cs arr hs ho (fun i x v hx hv => ih i x v hx hv (fun k h1 h2 => C.freeL_get (by simpa only [C.free, V.free] using hf k h1 h2) hx) (C.lowL_get hl hx))
    | mp i h =>
      have hi : ¬ (id ≤ i ∧ i < id + m) := fun h => by have := hf i h.1 h.2; simp [C.free] at this
      have hi2 : i < n := by simpa [C.low] using hl
      have := CRel.mp (w := w') (G := G2) (H := setMany s.heap id (B.map (AB.shift id))) i (by rw [hlen]; exact hi2)
      rwa [rho_ne i hi] at this
    | yd i h =>
      have hi : ¬ (id ≤ i ∧ i < id + m) := fun h => by have := hf i h.1 h.2; simp [C.free] at this
      have hi2 : i < n := by simpa [C.low] using hl
      have := CRel.yd (w := w') (G := G2) (H := setMany s.heap id (B.map (AB.shift id))) i (by rw [hlen]; exact hi2)
      rwa [rho_ne i hi] at this
    | gp g => exact .gp g
    | fs m1 sz cs b o vs hl' hn hcell _ ih =>
      simp only [C.low] at hl
      exact .fs m1 sz cs b o vs hl' hn hcell (fun i x v hx hv => ih i x v hx hv (fun k h1 h2 => C.freeL_get (by simpa only [C.free, V.free] using hf k h1 h2) hx) (C.lowL_get hl hx))
    | vc i m1 a hid' ha hg =>
      have hi : ¬ (id ≤ i ∧ i < id + m) := fun h => by have := hf i h.1 h.2; simp [C.free] at this
      have hi2 : i < n := by simpa [C.low] using hl
      refine .vc i m1 a (by rw [hlen]; exact hi2) ha (fun m' sz cs hm => ?_)
      rw [get_ne i hi] at hm
      rw [g_ne i hi]
      exact hg m' sz cs (by rw [List.getElem?_append_left hi2]; exact hm)
    | vs i m1 a cap hid' ha hg =>
      have hi : ¬ (id ≤ i ∧ i < id + m) := fun h => by have := hf i h.1 h.2; simp [C.free] at this
      have hi2 : i < n := by simpa [C.low] using hl
      refine .vs i m1 a cap (by rw [hlen]; exact hi2) ha (fun m' sz cs hm => ?_)
      rw [get_ne i hi] at hm
      rw [g_ne i hi]
      exact hg m' sz cs (by rw [List.getElem?_append_left hi2]; exact hm)
    | vp i m1 off a hid' hg =>
      have hi : ¬ (id ≤ i ∧ i < id + m) := fun h => by have := hf i h.1 h.2; simp [C.free] at this
      have hi2 : i < n := by simpa [C.low] using hl
      refine .vp i m1 off a (by rw [hlen]; exact hi2) (fun m' sz cs hm => ?_)
      rw [get_ne i hi] at hm
      rw [g_ne i hi]
      exact hg m' sz cs (by rw [List.getElem?_append_left hi2]; exact hm)
  have vr : ∀ (x : V) (u : Value), freeM id m (fun k => x.free k = true) → x.low n = true → VRel w' G' (s.heap ++ B.map (AB.shift n)) x u → VRel w' G2 (setMany s.heap id (B.map (AB.shift id))) x u := by
    intro x u hf hl h
    induction h with
    | c x v h => exact .c x v (cr x v (fun k h1 h2 => by simpa [V.free] using hf k h1 h2) (by simpa [V.low] using hl) h)
    | agg cs arr h =>
      simp only [V.low] at hl
      exact .agg cs arr ⟨h.1, fun i x v hx hv => ⟨cr x v (fun k h1 h2 => C.freeL_get (by simpa only [C.free, V.free] using hf k h1 h2) hx) (C.lowL_get hl hx) (h.2 i x v hx hv).1, (h.2 i x v hx hv).2⟩⟩
    | tup vs arr hs _ ih =>
      simp only [V.low] at hl
      exact .tup vs arr hs (fun i x v hx hv => ih i x v hx hv (fun k h1 h2 => V.freeL_get (by simpa only [V.free] using hf k h1 h2) hx) (V.lowL_get hl hx))
  have sr : ∀ (x : C) (u : Value), x.shB m = true → CRel w' G' (s.heap ++ B.map (AB.shift n)) (x.shift n) u → CRel w' G2 (setMany s.heap id (B.map (AB.shift id))) (x.shift id) u := by
    intro x u hs h
    cases x with
    | any => exact .any u
    | nilp => cases h; exact .nilp
    | d x => cases h with
      | d _ _ h => exact .d _ _ h
    | dp ds => cases h with
      | dp _ b o f hcell hrel => exact .dp ds b o f hcell hrel
    | full rows => cases h with
      | full _ a n hn h => exact .full rows a n hn h
    | ptr i off =>
      have hs : i < m := by simpa [C.shB] using hs
      cases h with
      | ptr _ _ h =>
        have := CRel.ptr (w := w') (G := G2) (H := setMany s.heap id (B.map (AB.shift id))) (id + i) off (by rw [hlen]; omega)
        rwa [rho_id i hs] at this
    | ms i off len cap =>
      have hs : i < m := by simpa [C.shB] using hs
      cases h with
      | ms _ _ _ _ h =>
        have := CRel.ms (w := w') (G := G2) (H := setMany s.heap id (B.map (AB.shift id))) (id + i) off len cap (by rw [hlen]; omega)
        rwa [rho_id i hs] at this
    | mp i =>
      have hs : i < m := by simpa [C.shB] using hs
      cases h with
      | mp _ h =>
        have := CRel.mp (w := w') (G := G2) (H := setMany s.heap id (B.map (AB.shift id))) (id + i) (by rw [hlen]; omega)
        rwa [rho_id i hs] at this
    | vs i len =>
      have hs : i < m := by simpa [C.shB] using hs
      cases h with
      | vs _ _ a cap hid' ha hg =>
        refine .vs (id + i) len a cap (by rw [hlen]; omega) ha (fun m' sz cs hm => ?_)
        rw [get_id i hs, Option.map_eq_some_iff] at hm
        obtain ⟨b, hb, hm⟩ := hm
        rw [g_id i hs]
        cases b with
        | vec n1 sz1 cs1 =>
          simp only [AB.shift, AB.vec.injEq] at hm
          obtain ⟨rfl, rfl, _⟩ := hm
          exact hg n1 sz1 _ (by rw [get_new, hb]; rfl)
        | _ => cases hm
    | _ => cases hs
  have role_new : ∀ c k', G'.role c = some k' → (w.heap.size ≤ c → G2.role c = some (if n ≤ k' ∧ k' < n + m then id + (k' - n) else k')) := fun c k' h hc => by
    show (if c < w.heap.size then G.role c else _) = _
    rw [if_neg (by omega), h]
  have role_old : ∀ c k', G'.role c = some k' → c < w.heap.size → k' < n ∧ G2.role c = some k' := fun c k' h hc => by
    have h1 := L.role c hc
    rw [h] at h1
    simp only [Gh.clean] at h1
    cases hg : G.role c with
    | none => rw [hg] at h1; cases h1
    | some j =>
      rw [hg] at h1
      simp only at h1
      split at h1
      · cases h1
        rename_i hj
        refine ⟨hj, ?_⟩
        show (if c < w.heap.size then G.role c else _) = _
        rw [if_pos hc, hg]
      · cases h1
  have R2 : Rel w' G2 (setMany s.heap id (B.map (AB.shift id))) := by
    refine ⟨R'.sex, fun c j hr => ?_, fun j y hy => ?_⟩
    · have hr' : (if c < w.heap.size then G.role c else (match G'.role c with | some k => some (if n ≤ k ∧ k < n + m then id + (k - n) else k) | none => none)) = some j := hr
      by_cases hc : c < w.heap.size
      · exact Nat.lt_of_lt_of_le hc L.size
      · rw [if_neg hc] at hr'
        cases hg : G'.role c with
        | none => rw [hg] at hr'; cases hr'
        | some k' => exact R'.roleLt c k' hg
    · by_cases hj : id ≤ j ∧ j < id + m
      · obtain ⟨i, rfl⟩ : ∃ i, j = id + i := ⟨j - id, by omega⟩
        have him : i < m := by omega
        rw [get_id i him, Option.map_eq_some_iff] at hy
        obtain ⟨b, hb, rfl⟩ := hy
        refine (R'.ab (n + i) (b.shift n) (by rw [get_new, hb]; rfl)).shift (m := m) sr (List.all_eq_true.1 hbf b (List.mem_of_getElem? hb)) (rho_id i him) (g_id i him) (fun c hc => ?_) (fun _ _ h => h)
        by_cases hcs : c < w.heap.size
        · exact absurd (role_old c _ hc hcs).1 (by omega)
        · rw [role_new c _ hc (by omega), if_pos ⟨by omega, by omega⟩, Nat.add_sub_cancel_left]
      · rw [get_ne j hj] at hy
        have hjl := (List.getElem?_eq_some_iff.1 hy).1
        refine (R'.ab j y (by rw [List.getElem?_append_left hjl]; exact hy)).renM (q := id) (m := m) (n := n) cr vr ((hbl j y hy).resolve_left hj) (hR.rel.ab j y hy).lows j (rho_ne j hj) (g_ne j hj) (fun c hc => ?_) (fun _ _ h => h) (fun i hi hi2 => ⟨rho_ne i hi, by rw [hlen]; exact hi2⟩)
        by_cases hcs : c < w.heap.size
        · exact (role_old c j hc hcs).2
        · rw [role_new c j hc (by omega), if_neg (by omega)]
  have hx : VRel w' G2 (setMany s.heap id (B.map (AB.shift id))) (x.shift id) v := by
    cases x with
    | c y =>
      cases hv with
      | c _ _ h => exact .c _ _ (sr y v hxf h)
    | agg cs =>
      simp only [V.shB, List.all_eq_true] at hxf
      cases hv with
      | agg _ arr h =>
        refine .agg _ arr ⟨by simpa using h.1, fun i x v hx hv => ?_⟩
        rw [List.getElem?_map, Option.map_eq_some_iff] at hx
        obtain ⟨y, hy, rfl⟩ := hx
        have := h.2 i (y.shift n) v (by rw [List.getElem?_map, hy]; rfl) hv
        exact ⟨sr y v (hxf y (List.mem_of_getElem? hy)) this.1, this.2⟩
    | tup vs => cases hxf
  have hlater := hR.later
  have hbase := hR.base
  refine hn v w' G2
    { rel := R2
      later :=
        { size := Nat.le_trans hlater.size L.size
          S := fun c o h => ⟨(L.S c o (hlater.S c o h).1).1, ((L.S c o (hlater.S c o h).1).2).trans (hlater.S c o h).2⟩
          Snew := fun c o hc hr h => hlater.Snew c o hc hr (L.Snew c o (Nat.lt_of_lt_of_le hc hlater.size) (by simp [Gh.clean, hlater.role c hc, hr]) h)
          len := by show bs.H.length ≤ (setMany s.heap id (B.map (AB.shift id))).length; rw [hlen]; exact hlater.len
          rho := fun i hi => by
            have h1 : ¬ (id ≤ i ∧ i < id + m) := by omega
            have h2 : i < s.heap.length := Nat.lt_of_lt_of_le hi hlater.len
            rw [rho_ne i h1, L.rho i h2]
            exact hlater.rho i hi
          grow := fun i m0 sz hi h => by
            have h1 : ¬ (id ≤ i ∧ i < id + m) := by omega
            have h2 : i < s.heap.length := Nat.lt_of_lt_of_le hi hlater.len
            have h : (setMany s.heap id (B.map (AB.shift id)))[i]? = some (.grow m0 sz) := h
            rw [get_ne i h1] at h
            obtain ⟨m1, hm1, hc1⟩ := L.grow i m0 sz h2 (by rw [List.getElem?_append_left h2]; exact h)
            obtain ⟨m2, hm2, hc2⟩ := hlater.grow i m1 sz hi hm1
            refine ⟨m2, hm2, ?_⟩
            rw [g_ne i h1]
            rcases hc1 with hc1 | ⟨rfl, hc1⟩ <;> rcases hc2 with hc2 | ⟨rfl, hc2⟩
            · exact .inl (Nat.lt_trans hc2 hc1)
            · exact .inl hc1
            · exact .inl hc2
            · exact .inr ⟨rfl, hc1.trans hc2⟩
          vec := fun i m0 sz ds hi h => by
            have h1 : ¬ (id ≤ i ∧ i < id + m) := by omega
            have h2 : i < s.heap.length := Nat.lt_of_lt_of_le hi hlater.len
            have h : (setMany s.heap id (B.map (AB.shift id)))[i]? = some (.vec m0 sz ds) := h
            rw [get_ne i h1] at h
            obtain ⟨m1, sz1, ds1, hm1, hc1⟩ := L.vec i m0 sz ds h2 (by rw [List.getElem?_append_left h2]; exact h)
            obtain ⟨m2, sz2, ds2, hm2, hc2⟩ := hlater.vec i m1 sz1 ds1 hi hm1
            refine ⟨m2, sz2, ds2, hm2, ?_⟩
            rw [g_ne i h1]
            rcases hc1 with hc1 | ⟨rfl, hc1⟩ <;> rcases hc2 with hc2 | ⟨rfl, hc2⟩
            · exact .inl (Nat.lt_trans hc2 hc1)
            · exact .inl hc1
            · exact .inl hc2
            · exact .inr ⟨rfl, hc1.trans hc2⟩
          role := fun c hc => by
            have h1 : c < w.heap.size := Nat.lt_of_lt_of_le hc hlater.size
            show (if c < w.heap.size then G.role c else _) = _
            rw [if_pos h1]
            exact hlater.role c hc
          frame := fun c hc hr => (L.frame c (Nat.lt_of_lt_of_le hc hlater.size) (by simp [Gh.clean, hlater.role c hc, hr])).trans (hlater.frame c hc hr)
          os := L.os.trans hlater.os
          out := L.out.trans hlater.out }
      base := hbase
      size := by cases o.dst <;> simp [Act.put, hR.size]
      slots := fun i => ?_
      defers := ?_
      marks := fun m' hm => by simpa [St.put, setMany_length] using hR.marks m' hm }
  · have old : VRel w' G2 (setMany s.heap id (B.map (AB.shift id))) (s.get i) (a.tmps.getD i undef) := vr _ _ (fun k h1 h2 => hsl i k h1 h2) (hR.slots i).lows ((hR.slots i).clean.mono L)
    cases hdst : o.dst with
    | none => exact old
    | some d =>
      have hd' := hd d hdst
      simp only [St.get, St.put, getS_setS, Act.put, getD_set, hR.size, hd', and_true]
      by_cases e : d = i
      · simp only [e, if_true]; exact hx
      · simp only [e, if_false]; exact old
  · have : (a.put o.dst v).defers = a.defers := by cases o.dst <;> rfl
    obtain ⟨hs, hh, e⟩ := hR.defers
    refine ⟨hs, ⟨hh.nd, fun c hc => ?_⟩, ?_⟩
    · obtain ⟨k1, k2, k3, k4⟩ := hh.at' c hc
      refine ⟨k1, Nat.lt_of_lt_of_le k2 L.size, ?_, (L.frame c k2 (by simp [Gh.clean, k3])).trans k4⟩
      show (if c < w.heap.size then G.role c else _) = _
      rw [if_pos k2]; exact k3
    rw [this, e]
    congr 1
    refine List.map_congr_left fun m' hm => ?_
    have h1 : ¬ (id ≤ m' ∧ m' < id + m) := by have := hmk m' hm; omega
    have h2 : (G.clean s.heap.length).rho m' = G.rho m' := rfl
    simp only [markOf, rho_ne m' h1, L.rho m' (hR.marks m' hm), h2]
end
end Go.Abs

/- Regions whose order is drawn, with stores that no edge orders. -/
namespace Go.Abs
open Go

inductive Foot where
  | none
  | win (id off n : Nat)
  | blk (id : Nat)
  | blks (id m : Nat)
  | all

inductive Eff where
  | no
  | patch (id off : Nat) (cs : List C)
  | put (id : Nat) (b : AB)
  | upd (id : Nat) (b : AB)
  | puts (id : Nat) (bs : List AB)
  | to (H : List AB)

def patchH (id off : Nat) (cs : List C) (H : List AB) : List AB := match H[id]? with
  | some (.cells ds) => H.set id (.cells (setMany ds off cs))
  | _ => H
def Eff.app : Eff → List AB → List AB
  | .no, H => H
  | .patch id off cs, H => patchH id off cs H
  | .put id b, H => H.set id b
  | .upd id b, H => H.set id b
  | .puts id bs, H => setMany H id bs
  | .to H', _ => H'
def Eff.foot : Eff → Foot
  | .no => .none
  | .patch id off cs => .win id off cs.length
  | .put id _ => .blk id
  | .upd id _ => .blk id
  | .puts id bs => .blks id bs.length
  | .to _ => .all

def sim : Foot → List AB → List AB → Prop
  | .none, _, _ => True
  | .win id off n, H, H' => H[id]? = H'[id]? ∨ ∃ cs cs', H[id]? = some (.cells cs) ∧ H'[id]? = some (.cells cs') ∧ cs.length = cs'.length ∧ ∀ j, off ≤ j → j < off + n → cs[j]? = cs'[j]?
  | .blk id, H, H' => H[id]? = H'[id]?
  | .blks id m, H, H' => ∀ k, id ≤ k → k < id + m → H[k]? = H'[k]?
  | .all, H, H' => H = H'

theorem sim_refl (w : Foot) (H : List AB) : sim w H H := by
  cases w with
  | none => trivial
  | win => exact .inl rfl
  | blk => rfl
  | blks => exact fun _ _ _ => rfl
  | all => rfl
theorem sim_symm {w : Foot} {H H' : List AB} (h : sim w H H') : sim w H' H := by
  cases w with
  | none => trivial
  | win id off n =>
    rcases h with h | ⟨cs, cs', h1, h2, h3, h4⟩
    · exact .inl h.symm
    · exact .inr ⟨cs', cs, h2, h1, h3.symm, fun j a b => (h4 j a b).symm⟩
  | blk => exact Eq.symm h
  | blks => exact fun k a b => (h k a b).symm
  | all => exact Eq.symm h

theorem patch_at (id off : Nat) (cs : List C) (H : List AB) (k : Nat) : (patchH id off cs H)[k]? = if k = id then (match H[id]? with | some (.cells ds) => some (.cells (setMany ds off cs)) | x => x) else H[k]? := by
  unfold patchH
  by_cases e : k = id
  · subst e
    simp only [if_true]
    cases hx : H[k]? with
    | none => simp [hx]
    | some x =>
      have hlt := (List.getElem?_eq_some_iff.1 hx).1
      cases x <;> first | (simp [hx, hlt]; done) | (simp only [hx])
  · simp only [if_neg e]
    split
    · rw [List.getElem?_set_ne (Ne.symm e)]
    · rfl

theorem set_same {H H' : List AB} {id : Nat} (b : AB) (h : H[id]? = H'[id]?) (k : Nat) (hk : H[k]? = H'[k]?) : (H.set id b)[k]? = (H'.set id b)[k]? := by
  have hl : id < H.length ↔ id < H'.length := by
    constructor
    · intro hk; rw [List.getElem?_eq_getElem hk] at h; exact (List.getElem?_eq_some_iff.1 h.symm).1
    · intro hk; rw [List.getElem?_eq_getElem hk] at h; exact (List.getElem?_eq_some_iff.1 h).1
  by_cases e : id = k
  · subst e
    by_cases hk2 : id < H.length
    · simp [hk2, hl.1 hk2]
    · simp [hk2, show ¬ id < H'.length from fun h => hk2 (hl.2 h)]
  · rw [List.getElem?_set_ne e, List.getElem?_set_ne e]; exact hk
theorem setM_out {H : List AB} {id : Nat} (bs : List AB) {k : Nat} (h : k < id ∨ id + bs.length ≤ k) : (setMany H id bs)[k]? = H[k]? := by
  rw [setMany_get', if_neg (by omega)]
theorem set_sameM {H H' : List AB} {id : Nat} (bs : List AB) (k : Nat) (hk : H[k]? = H'[k]?) : (setMany H id bs)[k]? = (setMany H' id bs)[k]? := by
  have hl : k < H.length ↔ k < H'.length := by
    constructor
    · intro h; rw [List.getElem?_eq_getElem h] at hk; exact (List.getElem?_eq_some_iff.1 hk.symm).1
    · intro h; rw [List.getElem?_eq_getElem h] at hk; exact (List.getElem?_eq_some_iff.1 hk).1
  rw [setMany_get', setMany_get', hk]
  simp only [hl]
theorem lt_of_sim {H H' : List AB} {id : Nat} (h : H[id]? = H'[id]? ∨ ∃ cs cs', H[id]? = some (.cells cs) ∧ H'[id]? = some (.cells cs')) : id < H.length ↔ id < H'.length := by
  rcases h with h | ⟨cs, cs', h1, h2⟩
  · constructor
    · intro hk; rw [List.getElem?_eq_getElem hk] at h; exact (List.getElem?_eq_some_iff.1 h.symm).1
    · intro hk; rw [List.getElem?_eq_getElem hk] at h; exact (List.getElem?_eq_some_iff.1 h).1
  · exact ⟨fun _ => (List.getElem?_eq_some_iff.1 h2).1, fun _ => (List.getElem?_eq_some_iff.1 h1).1⟩

theorem eff_same {e : Eff} {H H' : List AB} {k : Nat} (hk : H[k]? = H'[k]?) : (e.app H)[k]? = (e.app H')[k]? := by
  cases e with
  | no => exact hk
  | to => rfl
  | patch id2 off2 cs2 =>
    simp only [Eff.app, patch_at]
    by_cases e : k = id2
    · subst e; simp only [if_true, hk]
    · simp only [if_neg e]; exact hk
  | put id2 b =>
    simp only [Eff.app]
    by_cases e : id2 = k
    · subst e; exact set_same b hk _ hk
    · rw [List.getElem?_set_ne e, List.getElem?_set_ne e]; exact hk
  | upd id2 b =>
    simp only [Eff.app]
    by_cases e : id2 = k
    · subst e; exact set_same b hk _ hk
    · rw [List.getElem?_set_ne e, List.getElem?_set_ne e]; exact hk
  | puts id2 bs => exact set_sameM bs k hk
theorem sim_both {w : Foot} {e : Eff} {H H' : List AB} (h : sim w H H') : sim w (e.app H) (e.app H') := by
  cases w with
  | none => trivial
  | all => have h : H = H' := h; subst h; rfl
  | blk id => exact eff_same h
  | blks id m => exact fun k a b => eff_same (h k a b)
  | win id off n =>
    cases e with
    | no => exact h
    | to => exact sim_refl _ _
    | patch id2 off2 cs2 =>
      simp only [Eff.app, sim, patch_at]
      by_cases e : id = id2
      · subst e
        simp only [if_true]
        rcases h with h | ⟨cs, cs', h1, h2, h3, h4⟩
        · exact .inl (by rw [h])
        · refine .inr ⟨_, _, by rw [h1], by rw [h2], by simp [setMany_length, h3], fun j a b => ?_⟩
          rw [setMany_get', setMany_get', h3, h4 j a b]
      · simp only [if_neg e]; exact h
    | put id2 b =>
      simp only [Eff.app, sim]
      by_cases e : id2 = id
      · subst e
        have hl := lt_of_sim (h.imp (fun h => h) (fun ⟨cs, cs', h1, h2, _⟩ => ⟨cs, cs', h1, h2⟩))
        left
        by_cases hk : id2 < H.length
        · simp [hk, hl.1 hk]
        · simp [hk, show ¬ id2 < H'.length from fun h => hk (hl.2 h)]
      · rw [List.getElem?_set_ne e, List.getElem?_set_ne e]; exact h
    | upd id2 b =>
      simp only [Eff.app, sim]
      by_cases e : id2 = id
      · subst e
        have hl := lt_of_sim (h.imp (fun h => h) (fun ⟨cs, cs', h1, h2, _⟩ => ⟨cs, cs', h1, h2⟩))
        left
        by_cases hk : id2 < H.length
        · simp [hk, hl.1 hk]
        · simp [hk, show ¬ id2 < H'.length from fun h => hk (hl.2 h)]
      · rw [List.getElem?_set_ne e, List.getElem?_set_ne e]; exact h
    | puts id2 bs =>
      simp only [Eff.app, sim]
      by_cases e : id2 ≤ id ∧ id < id2 + bs.length
      · have hl := lt_of_sim (h.imp (fun h => h) (fun ⟨cs, cs', h1, h2, _⟩ => ⟨cs, cs', h1, h2⟩))
        left
        rw [setMany_get', setMany_get']
        by_cases hk : id < H.length
        · rw [if_pos ⟨e.1, e.2, hk⟩, if_pos ⟨e.1, e.2, hl.1 hk⟩]
        · have hk' : ¬ id < H'.length := fun h => hk (hl.2 h)
          rw [if_neg (by omega), if_neg (by omega), List.getElem?_eq_none (by omega), List.getElem?_eq_none (by omega)]
      · rw [setM_out bs (by omega), setM_out bs (by omega)]; exact h

/-- Apart from each other. -/
def apart : Foot → Foot → Prop
  | .none, _ => True
  | _, .none => True
  | .win id off n, .win id' off' n' => id ≠ id' ∨ off + n ≤ off' ∨ off' + n' ≤ off
  | .win id _ _, .blk id' => id ≠ id'
  | .blk id, .win id' _ _ => id ≠ id'
  | .blk id, .blk id' => id ≠ id'
  | .win a _ _, .blks id m => a < id ∨ id + m ≤ a
  | .blk a, .blks id m => a < id ∨ id + m ≤ a
  | .blks id m, .win a _ _ => a < id ∨ id + m ≤ a
  | .blks id m, .blk a => a < id ∨ id + m ≤ a
  | .blks id m, .blks id' m' => id + m ≤ id' ∨ id' + m' ≤ id
  | _, _ => False

theorem sim_left {w : Foot} {e : Eff} {H H' : List AB} (ha : apart w e.foot) (h : sim w H H') : sim w (e.app H) H' := by
  cases w with
  | none => trivial
  | all => cases e <;> simp [apart, Eff.foot] at ha; exact h
  | blk id =>
    cases e with
    | no => exact h
    | to => simp [apart, Eff.foot] at ha
    | patch id2 off2 cs2 =>
      have ha : id ≠ id2 := ha
      simp only [Eff.app, sim, patch_at, if_neg ha]; exact h
    | put id2 b =>
      have ha : id ≠ id2 := ha
      simp only [Eff.app, sim]
      rw [List.getElem?_set_ne (Ne.symm ha)]; exact h
    | upd id2 b =>
      have ha : id ≠ id2 := ha
      simp only [Eff.app, sim]
      rw [List.getElem?_set_ne (Ne.symm ha)]; exact h
    | puts id2 bs =>
      simp only [Eff.app, sim]
      rw [setM_out bs ha]; exact h
  | blks id m =>
    intro k hk1 hk2
    have h := h k hk1 hk2
    cases e with
    | no => exact h
    | to => simp [apart, Eff.foot] at ha
    | patch id2 off2 cs2 =>
      have ha : id2 < id ∨ id + m ≤ id2 := ha
      simp only [Eff.app, patch_at, if_neg (show ¬ k = id2 by omega)]; exact h
    | put id2 b =>
      have ha : id2 < id ∨ id + m ≤ id2 := ha
      simp only [Eff.app]
      rw [List.getElem?_set_ne (by omega)]; exact h
    | upd id2 b =>
      have ha : id2 < id ∨ id + m ≤ id2 := ha
      simp only [Eff.app]
      rw [List.getElem?_set_ne (by omega)]; exact h
    | puts id2 bs =>
      have ha : id + m ≤ id2 ∨ id2 + bs.length ≤ id := ha
      simp only [Eff.app]
      rw [setM_out bs (by omega)]; exact h
  | win id off n =>
    cases e with
    | no => exact h
    | to => simp [apart, Eff.foot] at ha
    | put id2 b =>
      have ha : id ≠ id2 := ha
      simp only [Eff.app, sim]
      rw [List.getElem?_set_ne (Ne.symm ha)]; exact h
    | upd id2 b =>
      have ha : id ≠ id2 := ha
      simp only [Eff.app, sim]
      rw [List.getElem?_set_ne (Ne.symm ha)]; exact h
    | puts id2 bs =>
      simp only [Eff.app, sim]
      rw [setM_out bs ha]; exact h
    | patch id2 off2 cs2 =>
      simp only [Eff.app, sim, patch_at]
      by_cases e : id = id2
      · subst e
        have ha : off + n ≤ off2 ∨ off2 + cs2.length ≤ off := by simpa [apart, Eff.foot] using ha
        simp only [if_true]
        rcases h with h | ⟨cs, cs', h1, h2, h3, h4⟩
        · rw [h]
          cases hx : H'[id]? with
          | none => exact .inl rfl
          | some x =>
            cases x with
            | cells ds =>
              refine .inr ⟨_, ds, rfl, rfl, by simp [setMany_length], fun j a b => ?_⟩
              rw [setMany_get', if_neg (by omega)]
            | _ => exact .inl rfl
        · rw [h1]
          refine .inr ⟨_, cs', rfl, h2, by simp [setMany_length, h3], fun j a b => ?_⟩
          rw [setMany_get', if_neg (by omega), h4 j a b]
      · simp only [if_neg e]; exact h

theorem patch_comm {id off id2 off2 : Nat} {cs cs2 : List C} (H : List AB) (ha : apart (.win id off cs.length) (.win id2 off2 cs2.length)) : patchH id off cs (patchH id2 off2 cs2 H) = patchH id2 off2 cs2 (patchH id off cs H) := by
  refine List.ext_getElem? fun k => ?_
  by_cases e : id = id2
  · subst e
    have ha : off + cs.length ≤ off2 ∨ off2 + cs2.length ≤ off := by simpa [apart] using ha
    by_cases ek : k = id
    · subst ek
      simp only [patch_at, if_true]
      cases hx : H[k]? with
      | none => rfl
      | some x =>
        cases x with
        | cells ds =>
          have he : setMany (setMany ds off2 cs2) off cs = setMany (setMany ds off cs) off2 cs2 := by
            refine List.ext_getElem? fun j => ?_
            simp only [setMany_get', setMany_length]
            by_cases h1 : off ≤ j ∧ j < off + cs.length ∧ j < ds.length
            · rw [if_pos h1, if_neg (by omega), if_pos h1]
            · rw [if_neg h1, if_neg h1]
          exact congrArg (fun q => some (AB.cells q)) he
        | _ => rfl
    · simp only [patch_at, if_neg ek]
  · by_cases ek : k = id
    · subst ek
      simp only [patch_at, if_true, if_neg e]
    · by_cases ek2 : k = id2
      · subst ek2
        simp only [patch_at, if_true, if_neg ek, if_neg (Ne.symm e)]
      · simp only [patch_at, if_neg ek, if_neg ek2]
theorem patch_put_comm {id off id2 : Nat} {cs : List C} {b : AB} (H : List AB) (ha : id ≠ id2) : patchH id off cs (H.set id2 b) = (patchH id off cs H).set id2 b := by
  refine List.ext_getElem? fun k => ?_
  by_cases ek : k = id
  · subst ek
    simp only [patch_at, if_true]
    rw [List.getElem?_set_ne (Ne.symm ha), List.getElem?_set_ne (Ne.symm ha), patch_at, if_pos rfl]
  · rw [patch_at, if_neg ek]
    refine set_same b ?_ k ?_
    · rw [patch_at, if_neg (Ne.symm ha)]
    · rw [patch_at, if_neg ek]
theorem lt_app {e : Eff} {H : List AB} (he : e.foot ≠ .all) : (e.app H).length = H.length := by
  cases e with
  | no => rfl
  | to => exact absurd rfl he
  | put => simp [Eff.app]
  | upd => simp [Eff.app]
  | puts => simp [Eff.app, setMany_length]
  | patch => simp only [Eff.app, patchH]; split <;> simp
theorem puts_comm {e : Eff} {id : Nat} {bs : List AB} (H : List AB) (ha : apart e.foot (.blks id bs.length)) : e.app (setMany H id bs) = setMany (e.app H) id bs := by
  have hne : e.foot ≠ .all := fun h => by rw [h] at ha; exact ha
  have hl := lt_app (H := H) hne
  refine List.ext_getElem? fun k => ?_
  by_cases hk : id ≤ k ∧ k < id + bs.length
  · -- inside: e leaves it
    have h1 : sim (.blk k) (e.app (setMany H id bs)) (setMany H id bs) := sim_left (by
      cases e with
      | no => trivial
      | to => exact absurd rfl hne
      | patch i o cs => have ha : i < id ∨ id + bs.length ≤ i := ha; show k ≠ i; omega
      | put i b => have ha : i < id ∨ id + bs.length ≤ i := ha; show k ≠ i; omega
      | upd i b => have ha : i < id ∨ id + bs.length ≤ i := ha; show k ≠ i; omega
      | puts i bs2 => have ha : i + bs2.length ≤ id ∨ id + bs.length ≤ i := ha; show k < i ∨ i + bs2.length ≤ k; omega) (sim_refl _ _)
    rw [show (e.app (setMany H id bs))[k]? = (setMany H id bs)[k]? from h1, setMany_get', setMany_get', hl]
    by_cases hH : k < H.length
    · rw [if_pos ⟨hk.1, hk.2, hH⟩, if_pos ⟨hk.1, hk.2, hH⟩]
    · rw [if_neg (by omega), if_neg (by omega), List.getElem?_eq_none (by omega), List.getElem?_eq_none (by omega)]
  · rw [setM_out bs (by omega)]
    exact eff_same (setM_out bs (by omega))
/-- A change of one block. -/
def Eff.loc : Eff → Bool
  | .to _ => false
  | _ => true
theorem apart_symm {a b : Foot} (h : apart a b) : apart b a := by
  cases a <;> cases b <;> simp [apart] at h ⊢ <;> omega
theorem eff_comm {e e' : Eff} (H : List AB) (h1 : e.loc = true) (h2 : e'.loc = true) (ha : apart e.foot e'.foot) : e.app (e'.app H) = e'.app (e.app H) := by
  cases e with
  | no => rfl
  | to => simp [Eff.loc] at h1
  | patch id off cs =>
    cases e' with
    | no => rfl
    | to => simp [Eff.loc] at h2
    | patch id2 off2 cs2 => exact patch_comm H ha
    | put id2 b => exact patch_put_comm H ha
    | upd id2 b => exact patch_put_comm H ha
    | puts id2 bs => exact puts_comm (e := .patch id off cs) H ha
  | put id b =>
    cases e' with
    | no => rfl
    | to => simp [Eff.loc] at h2
    | patch id2 off2 cs2 => exact (patch_put_comm H (Ne.symm ha)).symm
    | put id2 b2 =>
      have ha : id ≠ id2 := ha
      exact List.set_comm _ _ (Ne.symm ha)
    | upd id2 b2 =>
      have ha : id ≠ id2 := ha
      exact List.set_comm _ _ (Ne.symm ha)
    | puts id2 bs => exact puts_comm (e := .put id b) H ha
  | upd id b =>
    cases e' with
    | no => rfl
    | to => simp [Eff.loc] at h2
    | patch id2 off2 cs2 => exact (patch_put_comm H (Ne.symm ha)).symm
    | put id2 b2 =>
      have ha : id ≠ id2 := ha
      exact List.set_comm _ _ (Ne.symm ha)
    | upd id2 b2 =>
      have ha : id ≠ id2 := ha
      exact List.set_comm _ _ (Ne.symm ha)
    | puts id2 bs => exact puts_comm (e := .upd id b) H ha
  | puts id bs => exact (puts_comm (e := e') H (apart_symm ha)).symm

/-! ### Kinds of operations -/
/-- What looks at one block. -/
def loadOp : Op → Bool
  | .load _ _ | .lookup _ _ _ _ => true
  | .call { callee := .value _, args := _, argTypes := _ } => true
  | .call { callee := .builtin .len, args := _, argTypes := _ } => true
  | _ => false
theorem loadOp_quiet {op : Op} (h : loadOp op = true) : loudOp op = false := by
  cases op with
  | call c =>
    obtain ⟨callee, args, ts⟩ := c
    cases callee with
    | builtin b => cases b <;> simp [loadOp, loudOp] at h ⊢
    | _ => rfl
  | _ => simp [loadOp, loudOp] at h ⊢
def storeOp : Op → Bool
  | .store _ _ _ => true
  | _ => false
def makeOp : Op → Bool
  | .alloc _ | .box _ _ | .makeSlice _ _ _ | .makeMap _ _ => true
  | _ => false
def appOp : Op → Bool
  | .call { callee := .builtin .append, args := _, argTypes := _ } => true
  | _ => false
/-- The call of a function of the program. -/
def callOp : Op → Bool
  | .call { callee := .value (.func _), args := _, argTypes := _ } => true
  | _ => false
/-- What changes one block; m3: new blocks are told by holes. -/
def mutOp (m3 : Bool) (op : Op) : Bool := storeOp op || (m3 && ((makeOp op || appOp op) || callOp op))
/-- What may write; m3: calls may make one block. -/
def loudW (m3 : Bool) (op : Op) : Bool := loudOp op || (m3 && callOp op)
def winOp (m3 : Bool) (op : Op) : Bool := loadOp op || mutOp m3 op
def quietOp : Op → Bool
  | .load _ _ | .lookup _ _ _ _ => false
  | .call { callee := .value _, args := _, argTypes := _ } => false
  | .call { callee := .builtin .len, args := _, argTypes := _ } => false
  | op => !loudOp op

def maskL (p : Op → Bool) : List Oper → Nat
  | [] => 0
  | o :: os => 2 * maskL p os + (if p o.op then 1 else 0)
theorem maskL_bit {p : Op → Bool} : ∀ (os : List Oper) (k : Nat) (o : Oper), os[k]? = some o → (maskL p os).testBit k = p o.op
  | [], k, o, h => by simp at h
  | o' :: os, 0, o, h => by
    simp at h; subst h
    simp only [maskL, Nat.testBit_zero]
    cases p o'.op <;> simp <;> omega
  | o' :: os, k + 1, o, h => by
    have ih := maskL_bit (p := p) os k o (by simpa using h)
    rw [maskL, Nat.testBit_succ, ← ih]
    congr 1
    split <;> omega

def ordB (tab : List Nat) (i j : Nat) : Bool := (tab.getD i 0).testBit j || (tab.getD j 0).testBit i

theorem loudW_mut {m3 : Bool} {op : Op} (h : winOp m3 op = true) (hl : loudW m3 op = true) : mutOp m3 op = true := by
  simp only [winOp, Bool.or_eq_true] at h
  rcases h with h | h
  · simp only [loudW, Bool.or_eq_true] at hl
    rcases hl with hl | hl
    · rw [loadOp_quiet h] at hl; cases hl
    · simp only [Bool.and_eq_true] at hl
      simp [mutOp, hl.1, hl.2]
  · exact h

/-- Who changes the heap, who looks at it: ordered, but for those that change one block beside those and loads. -/
def heapT (tab : List Nat) (loud quiet win mtt n : Nat) : Bool :=
  (List.range n).all fun j => !loud.testBit j || (List.range n).all fun i => j == i || quiet.testBit i || (mtt.testBit j && win.testBit i) || ordB tab i j
def conflB2 (m3 : Bool) (ops : Array Oper) : Bool :=
  let tab := ancGo ops.toList 0 []
  conflT tab 0 ops && heapT tab (maskL (loudW m3) ops.toList) (maskL quietOp ops.toList) (maskL (winOp m3) ops.toList) (maskL (mutOp m3) ops.toList) ops.size

/-- What is kept of an operation: where it stands, what it yields, what it changes, where it looks. -/
structure Note where
  at' : Nat
  x : V
  e : Eff
  w : Foot
def apartB : Foot → Foot → Bool
  | .none, _ => true
  | _, .none => true
  | .win id off n, .win id' off' n' => id != id' || decide (off + n ≤ off') || decide (off' + n' ≤ off)
  | .win id _ _, .blk id' => id != id'
  | .blk id, .win id' _ _ => id != id'
  | .blk id, .blk id' => id != id'
  | .win a _ _, .blks id m => decide (a < id) || decide (id + m ≤ a)
  | .blk a, .blks id m => decide (a < id) || decide (id + m ≤ a)
  | .blks id m, .win a _ _ => decide (a < id) || decide (id + m ≤ a)
  | .blks id m, .blk a => decide (a < id) || decide (id + m ≤ a)
  | .blks id m, .blks id' m' => decide (id + m ≤ id') || decide (id' + m' ≤ id)
  | _, _ => false
theorem apartB_spec {a b : Foot} (h : apartB a b = true) : apart a b := by
  cases a <;> cases b <;> simp [apartB, apart] at h ⊢ <;> omega
def sparse (m3 : Bool) (ops : Array Oper) (j : Nat) : Bool := match ops[j]? with | some o => !mutOp m3 o.op | none => true
def lookB (m3 : Bool) (ops : Array Oper) (j : Nat) : Bool := match ops[j]? with | some o => winOp m3 o.op | none => false
def pairs1 (m3 : Bool) (ops : Array Oper) (acc : List Note) : Bool := acc.all fun b => sparse m3 ops b.at' || acc.all fun a => a.at' == b.at' || !lookB m3 ops a.at' || apartB a.w b.w
def pairs2 (m3 : Bool) (tab : List Nat) (ops : Array Oper) (acc : List Note) : Bool := acc.all fun b => sparse m3 ops b.at' || acc.all fun a => a.at' == b.at' || !lookB m3 ops a.at' || apartB a.w b.w || ordB tab a.at' b.at'
def Eff.freeB (id : Nat) : Eff → Bool
  | .no => true
  | .patch _ _ cs => C.freeL id cs
  | .put _ (.cells cs) => C.freeL id cs
  | .put _ (.mp []) => true
  | .put _ (.grow _ _) => true
  | .put _ (.vec _ _ cs) => C.freeL id cs
  | .upd _ (.vec _ _ cs) => C.freeL id cs
  | .upd _ (.grow _ _) => true
  | .puts _ bs => bs.all fun b => match b with
    | .cells cs => C.freeL id cs
    | .grow _ _ => true
    | .vec _ _ cs => C.freeL id cs
    | _ => false
  | _ => false
def Eff.hole : Eff → Option Nat
  | .put id _ => some id
  | .puts id _ => some id
  | _ => none
/-- How many blocks are new. -/
def Eff.wide : Eff → Nat
  | .puts _ bs => bs.length
  | _ => 1
/-- Nobody names a new block who does not stand behind its making. -/
def freeT (tab : List Nat) (acc : List Note) : Bool := acc.all fun b => match b.e.hole with
  | none => true
  | some id => acc.all fun a => a.at' == b.at' || (List.range b.e.wide).all (fun k => a.x.free (id + k) && a.e.freeB (id + k)) || (tab.getD a.at' 0).testBit b.at'
def pairsOk (m3 : Bool) (ops : Array Oper) (acc : List Note) : Bool := (pairs1 m3 ops acc || pairs2 m3 (ancGo ops.toList 0 []) ops acc) && (!m3 || (freeT (ancGo ops.toList 0 []) acc && acc.all fun a => a.e.loc))

theorem pairsOk_spec {m3 : Bool} {ops : Array Oper} {acc : List Note} (h : pairsOk m3 ops acc = true) {a b : Note} (ha : a ∈ acc) (hb : b ∈ acc) (hs : sparse m3 ops b.at' = false) (hl : lookB m3 ops a.at' = true) (hne : a.at' ≠ b.at') (ho : ordB (ancGo ops.toList 0 []) a.at' b.at' = false) : apart a.w b.w := by
  have hne' : (a.at' == b.at') = false := by simpa using hne
  simp only [pairsOk, Bool.or_eq_true, Bool.and_eq_true] at h
  refine apartB_spec ?_
  rcases h.1 with h | h
  · have h1 := List.all_eq_true.1 h b hb
    simp only [hs, Bool.false_or] at h1
    have h2 := List.all_eq_true.1 h1 a ha
    simpa [hne', hl] using h2
  · have h1 := List.all_eq_true.1 h b hb
    simp only [hs, Bool.false_or] at h1
    have h2 := List.all_eq_true.1 h1 a ha
    simpa [hne', hl, ho] using h2
theorem pairsOk_free {ops : Array Oper} {acc : List Note} (h : pairsOk true ops acc = true) {a b : Note} {id : Nat} (ha : a ∈ acc) (hb : b ∈ acc) (hid : b.e.hole = some id) (hne : a.at' ≠ b.at') : (∀ k, k < b.e.wide → a.x.free (id + k) = true ∧ a.e.freeB (id + k) = true) ∨ ((ancGo ops.toList 0 []).getD a.at' 0).testBit b.at' = true := by
  simp only [pairsOk, Bool.and_eq_true, Bool.not_true, Bool.false_or] at h
  have h1 := List.all_eq_true.1 h.2.1 b hb
  simp only [hid] at h1
  have h2 := List.all_eq_true.1 h1 a ha
  have hne' : (a.at' == b.at') = false := by simpa using hne
  simp only [hne', Bool.false_or, Bool.or_eq_true, List.all_eq_true, List.mem_range, Bool.and_eq_true] at h2
  exact h2

theorem pairsOk_loc {ops : Array Oper} {acc : List Note} (h : pairsOk true ops acc = true) {a : Note} (ha : a ∈ acc) : a.e.loc = true := by
  simp only [pairsOk, Bool.and_eq_true, Bool.not_true, Bool.false_or] at h
  exact List.all_eq_true.1 h.2.2 a ha

section
variable {ops : Array Oper} {base : St} {xs : Nat → V} {ef : Nat → Eff} {W : Nat → Foot} {m3 : Bool} {n0 N0 : Nat}

def heapF (ef : Nat → Eff) (H0 : List AB) (L : Nat → Bool) : Nat → List AB
  | 0 => H0
  | n + 1 => if L n then (ef n).app (heapF ef H0 L n) else heapF ef H0 L n
theorem heapF_congr {H0 : List AB} {L L' : Nat → Bool} : ∀ (n : Nat), (∀ j, j < n → L j = L' j) → heapF ef H0 L n = heapF ef H0 L' n
  | 0, _ => rfl
  | n + 1, h => by simp only [heapF]; rw [heapF_congr n (fun j hj => h j (by omega)), h n (by omega)]
theorem heapF_post {H0 : List AB} {i : Nat} : ∀ (k : Nat), heapF ef H0 (fun j => decide (j < i)) (i + k) = heapF ef H0 (fun j => decide (j < i)) i
  | 0 => rfl
  | k + 1 => by
    show heapF ef H0 _ ((i + k) + 1) = _
    simp only [heapF]
    simp [heapF_post k, show ¬ i + k < i by omega]

/-- One operation, told at one heap; it may be met at another that looks the same. -/
def StepP (X : Cx) (o : Oper) (H0 : List AB) (E : Operand → V) (n0 N0 : Nat) (x : V) (e : Eff) (w : Foot) : Prop := match e.hole with
  | none => ∀ H, sim w H H0 → OpAt X.P X.r o H E (one x (e.app H))
  | some id => (∃ (x0 : V) (B : List AB), e = .puts id (B.map (AB.shift id)) ∧ x = x0.shift id ∧ w = .blks id B.length ∧ n0 ≤ id ∧ id + B.length ≤ N0 ∧ x0.shB B.length = true ∧ B.all (AB.shB B.length) = true ∧
      ∀ H, H.length = N0 → OpAt X.P X.r o H E (one (x0.shift H.length) (H ++ B.map (AB.shift H.length)))) ∨ ∃ (k : MkK) (b : AB), e = .put id b ∧ x = .c (k.at id) ∧ H0[id]? = some .gone ∧ w = .blk id ∧ n0 ≤ id ∧ b.freeP id ∧ b.lowP N0 ∧ ∀ H, H.length = N0 → OpAt X.P X.r o H E (one (.c (k.at H.length)) (H ++ [b]))

structure Run2 (X : Cx) (m3 : Bool) (n0 N0 : Nat) (tab : List Nat) (ops : Array Oper) (base : St) (xs : Nat → V) (ef : Nat → Eff) (W : Nat → Foot) : Prop where
  step : ∀ i o, ops[i]? = some o → ∃ t, guardOf ops (getS (slotsL ops base xs (fun _ => true) i)) o = some t ∧
    (if t then StepP X o (heapF ef base.heap (fun j => decide (j < i)) i) (evS (getS (slotsL ops base xs (fun _ => true) i))) n0 N0 (xs i) (ef i) (W i) else xs i = .tup [] ∧ ef i = .no)
  kq : ∀ i o, ops[i]? = some o → quietOp o.op = true → ef i = .no ∧ W i = .none
  kl : ∀ i o, ops[i]? = some o → loudW m3 o.op = false → ef i = .no
  ks : ∀ i o, ops[i]? = some o → mutOp m3 o.op = true → ef i = .no ∨ (W i = (ef i).foot ∧ (ef i).loc = true)
  pairs : ∀ i o j oj, ops[i]? = some o → ops[j]? = some oj → j ≠ i → mutOp m3 oj.op = true → winOp m3 o.op = true → ordB tab i j = false → apart (W i) (W j)
  free : ∀ i id, i < ops.size → (ef i).hole = some id → ∀ j, j < ops.size → j ≠ i → (∀ k, k < (ef i).wide → (xs j).free (id + k) = true ∧ (ef j).freeB (id + k) = true) ∨ (tab.getD j 0).testBit i = true
  loc : ∀ i id, i < ops.size → (ef i).hole = some id → ∀ j, j < ops.size → (ef j).loc = true

structure Confl2 (m3 : Bool) (tab : List Nat) (ops : Array Oper) : Prop where
  c : Confl tab 0 ops
  heap : ∀ (i : Nat) (o : Oper) (j : Nat) (oj : Oper), ops[i]? = some o → ops[j]? = some oj → j ≠ i → loudW m3 oj.op = true → quietOp o.op = true ∨ (mutOp m3 oj.op = true ∧ winOp m3 o.op = true) ∨ ordB tab i j = true

theorem conflB2_spec (h : conflB2 m3 ops = true) : Confl2 m3 (ancGo ops.toList 0 []) ops := by
  simp only [conflB2, Bool.and_eq_true] at h
  refine ⟨conflT_spec h.1, fun i o j oj ho hj hne hl => ?_⟩
  have hi := (Array.getElem?_eq_some_iff.1 ho).1
  have hjl := (Array.getElem?_eq_some_iff.1 hj).1
  have h1 := List.all_eq_true.1 h.2 j (List.mem_range.2 hjl)
  have ho' : ops.toList[i]? = some o := by simpa using ho
  have hj' : ops.toList[j]? = some oj := by simpa using hj
  rw [maskL_bit _ _ _ hj', hl] at h1
  simp only [Bool.not_true, Bool.false_or] at h1
  have h2 := List.all_eq_true.1 h1 i (List.mem_range.2 hi)
  rw [maskL_bit _ _ _ ho', maskL_bit _ _ _ hj', maskL_bit _ _ _ ho'] at h2
  have hne' : (j == i) = false := by simpa using hne
  simp only [hne', Bool.false_or, Bool.or_eq_true, Bool.and_eq_true] at h2
  rcases h2 with (h2 | h2) | h2
  · exact .inl h2
  · exact .inr (.inl h2)
  · exact .inr (.inr h2)

theorem ord_lt {tab : List Nat} {i j : Nat} : ordB tab i j = true ↔ (tab.getD i 0).testBit j = true ∨ (tab.getD j 0).testBit i = true := by simp [ordB]

/-- A listed one behind an unlisted, ready one: unordered. -/
theorem unord {tab : List Nat} {listed : Array Bool} (C : Confl tab 0 ops) (cl : Closed ops listed) {i : Nat} {o : Oper} (ho : ops[i]? = some o) (hun : listed.getD i false = false)
    (hall : ∀ e ∈ o.after, Region.binds .any e = true → listed.getD e.on false = true) {j : Nat} {oj : Oper} (hj : ops[j]? = some oj) (hd : gl listed j ≠ decide (j < i)) : ordB tab i j = false := by
  cases h : ordB tab i j with
  | false => rfl
  | true =>
    exfalso
    rcases ord_lt.1 h with h1 | h1
    · have h2 := anc_listed C cl i o ho hall j h1
      have h3 := C.lt i o j _ ho hj h1
      apply hd; simp [gl, h2, h3]
    · have h3 := C.lt j _ i o hj ho h1
      have h4 : gl listed j = false := by
        cases h : gl listed j with
        | false => rfl
        | true =>
          have := anc_listed C cl j _ hj (cl j _ hj h) i h1
          rw [hun] at this; cases this
      apply hd; rw [h4]; simp; omega

theorem heap_sim {X : Cx} {tab : List Nat} {listed : Array Bool} (C : Confl2 m3 tab ops) (cl : Closed ops listed) (rn : Run2 X m3 n0 N0 tab ops base xs ef W) {i : Nat} {o : Oper} (ho : ops[i]? = some o) (hun : listed.getD i false = false)
    (hall : ∀ e ∈ o.after, Region.binds .any e = true → listed.getD e.on false = true) : sim (W i) (heapF ef base.heap (gl listed) ops.size) (heapF ef base.heap (fun j => decide (j < i)) i) := by
  have hi : i < ops.size := (Array.getElem?_eq_some_iff.1 ho).1
  have key : ∀ n, n ≤ ops.size → sim (W i) (heapF ef base.heap (gl listed) n) (heapF ef base.heap (fun j => decide (j < i)) n) := by
    intro n
    induction n with
    | zero => intro _; exact sim_refl _ _
    | succ n ih =>
      intro hn
      have ih := ih (by omega)
      have hon : ops[n]? = some ops[n] := by simp [show n < ops.size by omega]
      simp only [heapF]
      by_cases hb : gl listed n = decide (n < i)
      · rw [hb]
        split
        · exact sim_both ih
        · exact ih
      · have hu := unord C.c cl ho hun hall hon hb
        have hne : n ≠ i := fun e => by subst e; apply hb; simp only [gl, hun]; simp
        cases hl : loudW m3 ops[n].op with
        | false =>
          rw [rn.kl n _ hon hl]
          simpa [Eff.app] using ih
        | true =>
          rcases C.heap i o n _ ho hon hne hl with h1 | ⟨h1, h2⟩ | h1
          · rw [(rn.kq i o ho h1).2]; trivial
          · rcases rn.ks n _ hon h1 with h3 | ⟨h4, h5⟩
            · rw [h3]; simpa [Eff.app] using ih
            · have hap := rn.pairs i o n _ ho hon hne h1 h2 hu
              rw [h4] at hap
              cases hg : gl listed n with
              | true =>
                have : ¬ n < i := fun h => hb (by simp [hg, h])
                simp only [this, decide_false, if_true, Bool.false_eq_true, if_false]
                exact sim_left hap ih
              | false =>
                have : n < i := by
                  cases Nat.lt_or_ge n i with
                  | inl h => exact h
                  | inr h => exact absurd (by rw [hg]; simp; omega) hb
                simp only [this, decide_true, if_true, Bool.false_eq_true, if_false]
                exact sim_symm (sim_left hap (sim_symm ih))
          · rw [hu] at h1; cases h1
  have h1 := key ops.size (Nat.le_refl _)
  have h2 := heapF_post (ef := ef) (H0 := base.heap) (i := i) (ops.size - i)
  rw [Nat.add_sub_cancel' (by omega)] at h2
  rw [h2] at h1
  exact h1

theorem heap_next {X : Cx} {tab : List Nat} {listed : Array Bool} (C : Confl2 m3 tab ops) (cl : Closed ops listed) (rn : Run2 X m3 n0 N0 tab ops base xs ef W) (hsz : listed.size = ops.size) {i : Nat} {o : Oper} (ho : ops[i]? = some o) (hun : listed.getD i false = false)
    (hall : ∀ e ∈ o.after, Region.binds .any e = true → listed.getD e.on false = true) : heapF ef base.heap (gl (listed.setIfInBounds i true)) ops.size = (ef i).app (heapF ef base.heap (gl listed) ops.size) := by
  have hi : i < ops.size := (Array.getElem?_eq_some_iff.1 ho).1
  have hset := fun j => gl_set (listed := listed) (i := i) (j := j) (by omega)
  have key : ∀ n, n ≤ ops.size → heapF ef base.heap (gl (listed.setIfInBounds i true)) n = if i < n then (ef i).app (heapF ef base.heap (gl listed) n) else heapF ef base.heap (gl listed) n := by
    intro n
    induction n with
    | zero => intro _; rfl
    | succ n ih =>
      intro hn
      have ih := ih (by omega)
      simp only [heapF, hset]
      rw [ih]
      by_cases h1 : i = n
      · subst h1
        have hg : gl listed i = false := hun
        simp [hg]
      · simp only [h1, if_false]
        by_cases h2 : i < n
        · have h3 : i < n + 1 := by omega
          simp only [h2, h3, if_true]
          cases hg : gl listed n with
          | false => simp
          | true =>
            simp only [if_true]
            have hon : ops[n]? = some ops[n] := by simp [show n < ops.size by omega]
            have hu := unord C.c cl ho hun hall hon (by rw [hg]; simp; omega)
            cases hl : loudW m3 ops[n].op with
            | false => rw [rn.kl n _ hon hl]; rfl
            | true =>
              rcases C.heap i o n _ ho hon (by omega) hl with h4 | ⟨h4, h5⟩ | h4
              · rw [(rn.kq i o ho h4).1]; rfl
              · rcases rn.ks n _ hon h4 with h6 | ⟨h6, h7⟩
                · rw [h6]; rfl
                · cases hli : loudW m3 o.op with
                  | false => rw [rn.kl i o ho hli]; rfl
                  | true =>
                    have hst : mutOp m3 o.op = true := loudW_mut h5 hli
                    rcases rn.ks i o ho hst with h8 | ⟨h8, h9⟩
                    · rw [h8]; rfl
                    · have hap := rn.pairs i o n _ ho hon (by omega) h4 h5 hu
                      rw [h6, h8] at hap
                      exact (eff_comm _ h9 h7 hap).symm
              · rw [hu] at h4; cases h4
        · have h3 : ¬ i < n + 1 := by omega
          simp only [h2, h3, if_false]
  have := key ops.size (Nat.le_refl _)
  rwa [if_pos hi] at this

def stF (ops : Array Oper) (base : St) (xs : Nat → V) (ef : Nat → Eff) (L : Nat → Bool) : St :=
  { slots := slotsL ops base xs L ops.size, heap := heapF ef base.heap L ops.size, marks := base.marks }

theorem heapF_len {H0 : List AB} (hloc : ∀ j, j < ops.size → (ef j).loc = true) (L : Nat → Bool) : ∀ n, n ≤ ops.size → (heapF ef H0 L n).length = H0.length
  | 0, _ => rfl
  | n + 1, h => by
    simp only [heapF]
    have ih := heapF_len (H0 := H0) hloc L n (by omega)
    have hl := hloc n (by omega)
    split
    · cases he : ef n with
      | no => simpa [Eff.app] using ih
      | to => rw [he] at hl; cases hl
      | put id b => simpa [Eff.app] using ih
      | upd id b => simpa [Eff.app] using ih
      | puts id bs => simpa [Eff.app, setMany_length] using ih
      | patch id off cs =>
        simp only [Eff.app, patchH]
        split
        · simpa using ih
        · exact ih
    · exact ih
theorem slotsL_free {L : Nat → Bool} {id : Nat} (h0 : ∀ d, (getS base.slots d).free id = true) (hx : ∀ j, j < ops.size → L j = true → (xs j).free id = true) : ∀ n, n ≤ ops.size → ∀ d, (getS (slotsL ops base xs L n) d).free id = true
  | 0, _, d => h0 d
  | n + 1, h, d => by
    have ih := slotsL_free h0 hx n (by omega)
    simp only [slotsL]
    split
    · rename_i hL
      split
      · rename_i d' hd
        rw [getS_setS]
        split
        · exact hx n (by omega) hL
        · exact ih d
      · exact ih d
    · exact ih d
theorem freeL_set {id : Nat} : ∀ (cs : List C) (i : Nat) (x : C), C.freeL id cs = true → x.free id = true → C.freeL id (cs.set i x) = true
  | [], _, _, _, _ => rfl
  | c :: cs, 0, x, h, hx => by simp only [C.freeL, Bool.and_eq_true] at h; simp only [List.set_cons_zero, C.freeL, Bool.and_eq_true]; exact ⟨hx, h.2⟩
  | c :: cs, i + 1, x, h, hx => by simp only [C.freeL, Bool.and_eq_true] at h; simp only [List.set_cons_succ, C.freeL, Bool.and_eq_true]; exact ⟨h.1, freeL_set cs i x h.2 hx⟩
theorem freeL_setMany {id : Nat} : ∀ (xs cs : List C) (off : Nat), C.freeL id cs = true → C.freeL id xs = true → C.freeL id (setMany cs off xs) = true
  | [], cs, off, h, _ => h
  | x :: xs, cs, off, h, hx => by
    simp only [C.freeL, Bool.and_eq_true] at hx
    exact freeL_setMany xs _ _ (freeL_set cs off x h hx.1) hx.2
theorem heapF_free {H0 : List AB} {L : Nat → Bool} {id : Nat} (h0 : ∀ (k : Nat) y, H0[k]? = some y → y.freeP id) (hx : ∀ j, j < ops.size → L j = true → (ef j).freeB id = true) : ∀ n, n ≤ ops.size → ∀ (k : Nat) y, (heapF ef H0 L n)[k]? = some y → y.freeP id
  | 0, _, k, y, h => h0 k y h
  | n + 1, hn, k, y, h => by
    have ih := heapF_free h0 hx n (by omega)
    simp only [heapF] at h
    split at h
    · rename_i hL
      have hf := hx n (by omega) hL
      cases he : ef n with
      | no => rw [he] at h; exact ih k y h
      | to => rw [he] at hf; cases hf
      | put id' b =>
        rw [he] at h hf
        simp only [Eff.app] at h
        by_cases e : id' = k
        · subst e
          have hlt : id' < (heapF ef H0 L n).length := by have := (List.getElem?_eq_some_iff.1 h).1; simpa using this
          simp [hlt] at h
          subst h
          cases b with
          | cells cs => exact hf
          | mp es =>
            cases es with
            | nil => exact fun e he => by cases he
            | cons => cases hf
          | grow => trivial
          | vec _ _ cs => exact hf
          | _ => cases hf
        · rw [List.getElem?_set_ne e] at h; exact ih k y h
      | upd id' b =>
        rw [he] at h hf
        simp only [Eff.app] at h
        by_cases e : id' = k
        · subst e
          have hlt : id' < (heapF ef H0 L n).length := by have := (List.getElem?_eq_some_iff.1 h).1; simpa using this
          simp [hlt] at h
          subst h
          cases b with
          | grow => trivial
          | vec _ _ cs => exact hf
          | _ => cases hf
        · rw [List.getElem?_set_ne e] at h; exact ih k y h
      | puts id' bs =>
        rw [he] at h hf
        simp only [Eff.app] at h
        by_cases e : id' ≤ k ∧ k < id' + bs.length ∧ k < (heapF ef H0 L n).length
        · rw [setMany_get', if_pos e] at h
          have hf := List.all_eq_true.1 hf y (List.mem_of_getElem? h)
          cases y with
          | cells cs => exact hf
          | grow => trivial
          | vec _ _ cs => exact hf
          | _ => cases hf
        · rw [setMany_get', if_neg e] at h; exact ih k y h
      | patch id' off cs =>
        rw [he] at h hf
        simp only [Eff.app, patch_at] at h
        by_cases e : k = id'
        · subst e
          simp only [if_true] at h
          cases hh : (heapF ef H0 L n)[k]? with
          | none => rw [hh] at h; cases h
          | some z =>
            rw [hh] at h
            cases z with
            | cells ds =>
              simp at h; subst h
              exact freeL_setMany cs ds off (ih k _ hh) hf
            | _ => simp at h; subst h; exact ih k _ hh
        · rw [if_neg e] at h; exact ih k y h
    · exact ih k y h

theorem any_sound2 {X : Cx} {tab : List Nat} (hb0 : X.nb ≤ n0) (hb1 : ∀ d, (getS base.slots d).low n0 = true) (hb2 : ∀ (k : Nat) y, base.heap[k]? = some y → y.lowP n0) (hb3 : ∀ m ∈ base.marks, m < n0) (hbN : base.heap.length = N0) (C : Confl2 m3 tab ops) (rn : Run2 X m3 n0 N0 tab ops base xs ef W) (hd : dstsB X.nt ops.toList = true) {Q : Exit → St → Prop}
    (hQ : Q .normal (stF ops base xs ef (fun _ => true))) : ∀ (fuel : Nat) (listed : Array Bool) (bs : Base) (w : World) (G : Gh) (a : Act), listed.size = ops.size → Closed ops listed →
      ((List.range ops.size).countP fun i => !gl listed i) ≤ fuel → RelSt bs X.nb X.nt w G (stF ops base xs ef (gl listed)) a →
      wpAnyIn (Wd X.r) 0 X.P .any ops (fun e a' w' => ∃ s' G', Q e s' ∧ RelSt bs X.nb X.nt w' G' s' a') fuel listed a w := by
  have ends : ∀ (listed : Array Bool) (bs : Base) (w : World) (G : Gh) (a : Act), listed.size = ops.size → Closed ops listed → Region.ready .any ops listed = [] → RelSt bs X.nb X.nt w G (stF ops base xs ef (gl listed)) a →
      ∃ s' G', Q .normal s' ∧ RelSt bs X.nb X.nt w G' s' a := by
    intro listed bs w G a hsz cl hr hR
    have all : ∀ i, i < ops.size → gl listed i = true := by
      intro i
      induction i using Nat.strongRecOn with
      | _ i ih =>
        intro hi
        cases hl : gl listed i with
        | true => rfl
        | false =>
          exfalso
          have hoi : ops[i]? = some ops[i] := by simp [hi]
          have hm : i ∈ Region.ready .any ops listed := mem_ready.2 ⟨getD_in (by omega) hl, _, hoi, fun e he hb => by
            exact ih e.on (C.c.back i _ hoi e he hb) (Nat.lt_trans (C.c.back i _ hoi e he hb) hi)⟩
          rw [hr] at hm; cases hm
    refine ⟨_, G, hQ, hR.same (fun i => ?_) ?_ rfl⟩
    · show getS (slotsL _ _ _ _ _) i = getS (slotsL _ _ _ _ _) i
      rw [slotsL_congr ops.size (fun j hj => (all j hj).symm)]
    · exact (heapF_congr ops.size (fun j hj => (all j hj).symm))
  intro fuel
  induction fuel with
  | zero =>
    intro listed bs w G a hsz cl hc hR
    have hz := List.countP_eq_zero.1 (Nat.le_zero.1 hc)
    have hr : Region.ready .any ops listed = [] := by
      cases hrr : Region.ready .any ops listed with
      | nil => rfl
      | cons i r =>
        exfalso
        have hm : i ∈ Region.ready .any ops listed := by rw [hrr]; simp
        obtain ⟨h1, o, ho, _⟩ := mem_ready.1 hm
        have := hz i (List.mem_range.2 (Array.getElem?_eq_some_iff.1 ho).1)
        simp [gl, getD_both h1] at this
    exact ⟨hr, ends listed bs w G a hsz cl hr hR⟩
  | succ fuel ih =>
    intro listed bs w G a hsz cl hc hR
    refine ⟨fun hr => ends listed bs w G a hsz cl hr hR, fun i hi => ?_⟩
    obtain ⟨hun, o, ho, hall⟩ := mem_ready.1 hi
    have hun' := getD_both hun
    have hlt : i < ops.size := (Array.getElem?_eq_some_iff.1 ho).1
    obtain ⟨t, hg, hst⟩ := rn.step i o ho
    have hlook : ∀ d ∈ o.looksAt ops, (stF ops base xs ef (gl listed)).get d = getS (slotsL ops base xs (fun _ => true) i) d := fun d hd => look_same C.c cl ho hun' hall hd
    have hheap := heap_sim C cl rn ho hun' hall
    have hgd : guardOf ops (stF ops base xs ef (gl listed)).get o = some t := by rw [guardOf_congr hlook]; exact hg
    have cl' : Closed ops (listed.setIfInBounds i true) := fun j oj hj hl e he hb => by
      by_cases hij : i = j
      · subst hij
        have : oj = o := Option.some.inj (hj.symm.trans ho)
        subst this
        exact getD_set_true (hall e he hb)
      · rw [getD_set_ne false hij] at hl
        exact getD_set_true (cl j oj hj hl e he hb)
    have hsz' : (listed.setIfInBounds i true).size = ops.size := by simp [hsz]
    have hset := fun j => gl_set (listed := listed) (i := i) (j := j) (by omega)
    have hc' : ((List.range ops.size).countP fun k => !gl (listed.setIfInBounds i true) k) ≤ fuel := by
      have hlt' : ((List.range ops.size).countP fun k => !gl (listed.setIfInBounds i true) k) < ((List.range ops.size).countP fun k => !gl listed k) := by
        obtain ⟨l1, l2, he⟩ := List.append_of_mem (List.mem_range.2 hlt)
        have hle : ∀ l : List Nat, (l.countP fun k => !gl (listed.setIfInBounds i true) k) ≤ (l.countP fun k => !gl listed k) := fun l =>
          List.countP_mono_left (fun k _ h => by rw [hset] at h; by_cases hik : i = k <;> simp [hik] at h ⊢; exact h)
        rw [he, List.countP_append, List.countP_append, List.countP_cons, List.countP_cons]
        have h1 := hle l1
        have h2 := hle l2
        have h3 : gl (listed.setIfInBounds i true) i = true := by rw [hset]; simp
        have h4 : gl listed i = false := hun'
        simp [h3, h4]
        omega
      omega
    have hnext := heap_next C cl rn hsz ho hun' hall
    have hdst : ∀ d, o.dst = some d → d < X.nt := fun d hod => by
      simp only [dstsB, List.all_eq_true] at hd
      have hm : o ∈ ops.toList := Array.mem_toList_iff.2 (Array.mem_of_getElem? ho)
      have := hd o hm
      simpa [hod] using this
    have next : ∀ (v : Value) (w' : World) (G' : Gh), RelSt bs X.nb X.nt w' G' ((stF ops base xs ef (gl listed)).put o.dst (xs i) ((ef i).app (heapF ef base.heap (gl listed) ops.size))) (a.put o.dst v) →
        wpAnyIn (Wd X.r) 0 X.P .any ops (fun e a' w' => ∃ s' G', Q e s' ∧ RelSt bs X.nb X.nt w' G' s' a') fuel (listed.setIfInBounds i true) (a.put o.dst v) w' := by
      intro v w' G' hp
      rw [← hnext] at hp
      refine ih _ bs w' G' _ hsz' cl' hc' (hp.same (fun d => ?_) rfl rfl)
      show getS (slotsL ops base xs (gl (listed.setIfInBounds i true)) ops.size) d = getS (match o.dst with | some j => setS (slotsL ops base xs (gl listed) ops.size) j (xs i) | none => slotsL ops base xs (gl listed) ops.size) d
      by_cases hdd : o.dst = some d
      · rw [slotsL_at ops.size hlt (by rw [hset]; simp) (by simpa [ho] using hdd) (fun j hj hji h => by
          have hoj : ops[j]? = some ops[j] := by simp [hj]
          exact C.c.dst i o j _ d ho hoj hji hdd ((dst_bind hoj).1 h))]
        simp [hdd, getS_setS]
      · have e1 : getS (match o.dst with | some j => setS (slotsL ops base xs (gl listed) ops.size) j (xs i) | none => slotsL ops base xs (gl listed) ops.size) d = getS (slotsL ops base xs (gl listed) ops.size) d := by
          cases hod : o.dst with
          | none => rfl
          | some j => simp only [getS_setS]; rw [if_neg (fun e => hdd (by rw [hod, e]))]
        rw [e1]
        by_cases hex : ∃ j, j < ops.size ∧ gl listed j = true ∧ (ops[j]?).bind (·.dst) = some d
        · obtain ⟨j, hj, hl, hjd⟩ := hex
          have hoj : ops[j]? = some ops[j] := by simp [hj]
          have uniq : ∀ k, k < ops.size → k ≠ j → (ops[k]?).bind (·.dst) ≠ some d := fun k hk hkj h => by
            have hok : ops[k]? = some ops[k] := by simp [hk]
            exact C.c.dst j _ k _ d hoj hok hkj ((dst_bind hoj).1 hjd) ((dst_bind hok).1 h)
          rw [slotsL_at ops.size hj (by rw [hset]; simp [hl]) hjd uniq, slotsL_at ops.size hj hl hjd uniq]
        · rw [slotsL_other ops.size (fun k hk hL h => ?_), slotsL_other ops.size (fun k hk hL h => hex ⟨k, hk, hL, h⟩)]
          rw [hset] at hL
          by_cases hik : i = k
          · subst hik; exact hdd (by simpa [ho] using h)
          · rw [if_neg hik] at hL; exact hex ⟨k, hk, hL, h⟩
    unfold wpOpIn
    simp only [ho]
    rw [wanted_of_guard hR hgd]
    cases t with
    | true =>
      simp only [if_true] at hst ⊢
      unfold StepP at hst
      cases hh : (ef i).hole with
      | none =>
        rw [hh] at hst
        have hop := OpAt.congr (E' := (stF ops base xs ef (gl listed)).ev) (fun x hx => (evS_congr hlook x hx).symm) (hst _ hheap)
        refine hop w G a _ _ hR.rel (fun x _ => hR.ev x) ?_
        rintro v x H' G' w' ⟨rfl, rfl⟩ hv R L
        exact next v w' G' (hR.put hv R L hdst)
      | some id =>
        rw [hh] at hst
        have hall0 : ∀ j, j < ops.size → gl listed j = true → ∀ k, k < (ef i).wide → (xs j).free (id + k) = true ∧ (ef j).freeB (id + k) = true := fun j hj hl => by
          have hne : j ≠ i := fun e => by subst e; have : gl listed j = false := hun'; rw [this] at hl; cases hl
          rcases rn.free i id hlt hh j hj hne with h1 | h1
          · exact h1
          · have hoj : ops[j]? = some ops[j] := by simp [hj]
            have := anc_listed C.c cl j _ hoj (cl j _ hoj hl) i h1
            rw [hun'] at this; cases this
        rcases hst with ⟨x0, B, e1, e2, e4, e5, e6, e7, e8, e9⟩ | ⟨k, b, e1, e2, e3, e4, e5, e6, e7, e8⟩
        · have hlen := heapF_len (H0 := base.heap) (rn.loc i id hlt hh) (gl listed) _ (Nat.le_refl _)
          rw [hbN] at hlen
          have hwd : (ef i).wide = B.length := by rw [e1]; simp [Eff.wide]
          have hop := OpAt.congr (E' := (stF ops base xs ef (gl listed)).ev) (fun x hx => (evS_congr hlook x hx).symm) (e9 (heapF ef base.heap (gl listed) ops.size) hlen)
          have fr : ∀ j, j < ops.size → gl listed j = true → ∀ k, id ≤ k → k < id + B.length → (xs j).free k = true ∧ (ef j).freeB k = true := fun j hj hl k h1 h2 => by
            have := hall0 j hj hl (k - id) (by omega)
            rwa [Nat.add_sub_cancel' h1] at this
          refine holes_step (s := stF ops base xs ef (gl listed)) (id := id) (x := x0) (B := B) hR (by show id + B.length ≤ (heapF ef base.heap (gl listed) ops.size).length; rw [hlen]; exact e6) (Nat.le_trans hb0 e5)
            (fun d k h1 h2 => slotsL_free (fun d => V.low_free (Nat.le_trans e5 h1) (hb1 d)) (fun j hj hl => (fr j hj hl k h1 h2).1) _ (Nat.le_refl _) d)
            (fun j y hy => .inr fun k h1 h2 => heapF_free (fun k' y hy => AB.low_free (Nat.le_trans e5 h1) (hb2 k' y hy)) (fun j hj hl => (fr j hj hl k h1 h2).2) _ (Nat.le_refl _) j y hy) (fun m hm => by have := hb3 m hm; omega) e8 e7 hop hdst ?_
          intro v w' G' hp
          refine next v w' G' ?_
          rw [e2, e1]; exact hp
        have hall' : ∀ j, j < ops.size → gl listed j = true → (xs j).free id = true ∧ (ef j).freeB id = true := fun j hj hl => hall0 j hj hl 0 (by rw [e1]; exact Nat.one_pos)
        rw [e4] at hheap
        have hop := OpAt.congr (E' := (stF ops base xs ef (gl listed)).ev) (fun x hx => (evS_congr hlook x hx).symm) (e8 (heapF ef base.heap (gl listed) ops.size) (by rw [heapF_len (rn.loc i id hlt hh) _ _ (Nat.le_refl _), hbN]))
        refine hole_step (s := stF ops base xs ef (gl listed)) (id := id) (k := k) (b := b) hR (Eq.trans hheap e3) (Nat.le_trans hb0 e5)
          (slotsL_free (fun d => V.low_free e5 (hb1 d)) (fun j hj hl => (hall' j hj hl).1) _ (Nat.le_refl _))
          (heapF_free (fun k y hy => AB.low_free e5 (hb2 k y hy)) (fun j hj hl => (hall' j hj hl).2) _ (Nat.le_refl _)) (fun m hm => by have := hb3 m hm; omega) e6
          (by show b.lowP (heapF ef base.heap (gl listed) ops.size).length; rw [heapF_len (rn.loc i id hlt hh) _ _ (Nat.le_refl _), hbN]; exact e7) hop hdst ?_
        intro v w' G' hp
        refine next v w' G' ?_
        rw [e2, e1]; exact hp
    | false =>
      simp only [Bool.false_eq_true, if_false] at hst ⊢
      refine ⟨fun _ _ => trivial, ?_⟩
      have hRr := hR.put (dst := o.dst) (x := .tup []) (v := undef) (.tup [] #[] rfl (fun i x v h => by simp at h)) hR.rel (Later.refl _ _ _) hdst
      exact next undef w G (by rw [hst.1, hst.2]; exact hRr)

def addN (m3 : Bool) (n0 k : Nat) (x : V) (e : Eff) (w : Foot) (acc : List Note) : List Note := match w, e with
  | .none, .no => if m3 && !x.low n0 then ⟨k, x, e, w⟩ :: acc else acc
  | _, _ => ⟨k, x, e, w⟩ :: acc
theorem addN_mono {k : Nat} {x : V} {e : Eff} {w : Foot} {acc : List Note} {a : Note} (h : a ∈ acc) : a ∈ addN m3 n0 k x e w acc := by
  unfold addN
  split
  · split
    · exact List.mem_cons_of_mem _ h
    · exact h
  · exact List.mem_cons_of_mem _ h
theorem addN_mem {k : Nat} {x : V} {e : Eff} {w : Foot} {acc : List Note} : (⟨k, x, e, w⟩ : Note) ∈ addN m3 n0 k x e w acc ∨ (w = .none ∧ e = .no ∧ (m3 = true → x.low n0 = true)) := by
  unfold addN
  split
  · split
    · exact .inl (List.mem_cons_self ..)
    · rename_i h
      refine .inr ⟨rfl, rfl, fun hm => ?_⟩
      subst hm
      simpa using h
  · exact .inl (List.mem_cons_self ..)

/-- What the kinds want. -/
def kindP (m3 : Bool) (op : Op) (e : Eff) (w : Foot) : Prop :=
  (quietOp op = true → e = .no ∧ w = .none) ∧ (loudW m3 op = false → e = .no) ∧ (mutOp m3 op = true → e = .no ∨ (w = e.foot ∧ e.loc = true)) ∧ (m3 = false → e.hole = none)

/-- The text's order, with what each operation looks at and changes. -/
def DOps2 (X : Cx) (m3 : Bool) (n0 N0 : Nat) (all : Array Oper) : Nat → List Oper → List Note → (List Note → St → Prop) → St → Prop
  | _, [], acc, Q, s => Q acc s
  | k, o :: os, acc, Q, s => ∃ t x e w, guardOf all s.get o = some t ∧ (if t then StepP X o s.heap s.ev n0 N0 x e w else x = .tup [] ∧ e = .no) ∧ kindP m3 o.op e w ∧
      DOps2 X m3 n0 N0 all (k + 1) os (addN m3 n0 k x e w acc) Q (s.put o.dst x (e.app s.heap))

theorem DOps2.mono {X : Cx} {all : Array Oper} {Q Q' : List Note → St → Prop} (hq : ∀ a s, Q a s → Q' a s) : ∀ {os : List Oper} {k : Nat} {acc : List Note} {s : St}, DOps2 X m3 n0 N0 all k os acc Q s → DOps2 X m3 n0 N0 all k os acc Q' s
  | [], _, _, s, h => hq _ s h
  | o :: os, k, acc, s, ⟨t, x, e, w, h1, h2, h3, h4⟩ => ⟨t, x, e, w, h1, h2, h3, DOps2.mono hq h4⟩

theorem dops_run2 {X : Cx} {Q : List Note → St → Prop} : ∀ (os : List Oper) (k : Nat) (acc : List Note) (s : St), (∀ j, os[j]? = ops[k + j]?) → DOps2 X m3 n0 N0 ops k os acc Q s →
    ∃ (xs : Nat → V) (ef : Nat → Eff) (W : Nat → Foot) (acc' : List Note), (∀ i o, k ≤ i → ops[i]? = some o → kindP m3 o.op (ef i) (W i)) ∧ (∀ a ∈ acc, a ∈ acc') ∧
      (∀ i, k ≤ i → i < k + os.length → (⟨i, xs i, ef i, W i⟩ : Note) ∈ acc' ∨ (W i = .none ∧ ef i = .no ∧ (m3 = true → (xs i).low n0 = true))) ∧
      ∀ (b : Nat → List (Nat × V)) (h : Nat → List AB), b k = s.slots → h k = s.heap → (∀ i o, k ≤ i → ops[i]? = some o → b (i + 1) = (match o.dst with | some d => setS (b i) d (xs i) | none => b i)) → (∀ i, k ≤ i → h (i + 1) = (ef i).app (h i)) →
        (∀ i o, k ≤ i → ops[i]? = some o → ∃ t, guardOf ops (getS (b i)) o = some t ∧ (if t then StepP X o (h i) (evS (getS (b i))) n0 N0 (xs i) (ef i) (W i) else xs i = .tup [] ∧ ef i = .no)) ∧
        Q acc' { slots := b (k + os.length), heap := h (k + os.length), marks := s.marks }
  | [], k, acc, s, hl, h => ⟨fun _ => .c .any, fun _ => .no, fun _ => .none, acc, fun i o hi ho => by
      have := hl (i - k)
      rw [Nat.add_sub_cancel' hi, ho] at this
      simp at this, fun a ha => ha, fun i h1 h2 => by simp at h2; omega, fun b hp hb hh _ _ => by
      refine ⟨fun i o hi ho => ?_, ?_⟩
      · have := hl (i - k)
        rw [Nat.add_sub_cancel' hi, ho] at this
        simp at this
      · simp only [List.length_nil, Nat.add_zero, hb, hh]; exact h⟩
  | o :: os, k, acc, s, hl, h => by
    obtain ⟨t, x, e, w, h1, h2, h3, h4⟩ := h
    have ho : ops[k]? = some o := by simpa using (hl 0).symm
    have hl' : ∀ j, os[j]? = ops[k + 1 + j]? := fun j => by have := hl (j + 1); simpa [Nat.add_assoc, Nat.add_comm 1 j] using this
    obtain ⟨xs, ef, W, acc', e1, e2, e3, e4⟩ := dops_run2 os (k + 1) _ _ hl' h4
    refine ⟨fun i => if i = k then x else xs i, fun i => if i = k then e else ef i, fun i => if i = k then w else W i, acc', fun i o' hi ho' => ?_, fun a ha => e2 a (addN_mono ha), fun i hi hi2 => ?_, fun b hp hb hh hn hn2 => ?_⟩
    · by_cases hik : i = k
      · subst hik
        obtain rfl : o' = o := Option.some.inj (ho'.symm.trans ho)
        simpa using h3
      · simp only [hik, if_false]; exact e1 i o' (by omega) ho'
    · by_cases hik : i = k
      · subst hik
        simp only [if_true]
        rcases addN_mem (m3 := m3) (n0 := n0) (k := i) (x := x) (e := e) (w := w) (acc := acc) with h | h
        · exact .inl (e2 _ h)
        · exact .inr h
      · simp only [hik, if_false]
        exact e3 i (by omega) (by simp at hi2; omega)
    · have hb1 : b (k + 1) = (s.put o.dst x (e.app s.heap)).slots := by
        rw [hn k o (Nat.le_refl _) ho]
        simp only [St.put, if_true, hb]
        rfl
      have hh1 : hp (k + 1) = (s.put o.dst x (e.app s.heap)).heap := by
        rw [hn2 k (Nat.le_refl _)]
        simp only [if_true, hh]
        rfl
      obtain ⟨f1, f2⟩ := e4 b hp hb1 hh1 (fun i o' hi ho' => by
        have := hn i o' (by omega) ho'
        simp only [show i ≠ k by omega, if_false] at this
        exact this) (fun i hi => by
        have := hn2 i (by omega)
        simp only [show i ≠ k by omega, if_false] at this
        exact this)
      refine ⟨fun i o' hi ho' => ?_, ?_⟩
      · by_cases hik : i = k
        · subst hik
          obtain rfl : o' = o := Option.some.inj (ho'.symm.trans ho)
          refine ⟨t, by rw [hb]; exact h1, ?_⟩
          simp only [if_true, hb, hh]
          exact h2
        · obtain ⟨t', g1, g2⟩ := f1 i o' (by omega) ho'
          refine ⟨t', g1, ?_⟩
          simp only [hik, if_false]
          exact g2
      · have e : k + (o :: os).length = k + 1 + os.length := by simp; omega
        rw [e]
        exact f2

theorem drawn_at {X : Cx} {id : Nat} {Q : Exit → St → Prop} {s : St} (hm : X.P.follows .mixedOrders = true) (hd : dstsB X.nt ops.toList = true) (hc : conflB2 m3 ops = true)
    (hb0 : X.nb ≤ n0) (hb1 : ∀ d, (getS s.slots d).low n0 = true) (hb2 : ∀ (k : Nat) y, s.heap[k]? = some y → y.lowP n0) (hb3 : ∀ m ∈ s.marks, m < n0) (hbN : s.heap.length = N0)
    (h : DOps2 X m3 n0 N0 ops 0 ops.toList [] (fun acc s => pairsOk m3 ops acc = true ∧ Q .normal s) s) : AWP X (.region id ops true) Q s := fun bs w G a hR => by
  refine wpIn_region_any hm ?_
  obtain ⟨xs, ef, W, acc, k1, k2, k3, k4⟩ := dops_run2 (ops := ops) ops.toList 0 [] s (fun j => by simp) h
  have hlen : ops.toList.length = ops.size := by simp
  have hpre : ∀ i, heapF ef s.heap (fun j => decide (j < i + 1)) (i + 1) = (ef i).app (heapF ef s.heap (fun j => decide (j < i)) i) := fun i => by
    simp only [heapF]
    simp only [Nat.lt_succ_self, decide_true, if_true]
    rw [heapF_congr (L' := fun j => decide (j < i)) i (fun j hj => by simp [hj]; omega)]
  obtain ⟨f1, hpk, f2⟩ := k4 (fun i => slotsL ops s xs (fun _ => true) i) (fun i => heapF ef s.heap (fun j => decide (j < i)) i) rfl rfl (fun i o _ ho => by
    simp only [slotsL, if_true, ho, Option.bind_some]
    rfl) (fun i _ => hpre i)
  have C := conflB2_spec hc
  have hole3 : ∀ i id, i < ops.size → (ef i).hole = some id → m3 = true := fun i id hi hid => by
    have hoi : ops[i]? = some ops[i] := by simp [hi]
    cases hm3 : m3 with
    | true => rfl
    | false =>
      have := (k1 i _ (Nat.zero_le _) hoi).2.2.2 hm3
      rw [this] at hid; cases hid
  have rn : Run2 X m3 n0 N0 (ancGo ops.toList 0 []) ops s xs ef W :=
    { step := fun i o ho => f1 i o (Nat.zero_le _) ho
      kq := fun i o ho hq => (k1 i o (Nat.zero_le _) ho).1 hq
      kl := fun i o ho hq => (k1 i o (Nat.zero_le _) ho).2.1 hq
      ks := fun i o ho hq => (k1 i o (Nat.zero_le _) ho).2.2.1 hq
      pairs := fun i o j oj ho hj hne hs hw hu => by
        have hi := (Array.getElem?_eq_some_iff.1 ho).1
        have hjl := (Array.getElem?_eq_some_iff.1 hj).1
        rcases k3 i (Nat.zero_le _) (by omega) with m1 | ⟨h1, _⟩
        · rcases k3 j (Nat.zero_le _) (by omega) with m2 | ⟨h2, _⟩
          · exact pairsOk_spec hpk m1 m2 (by simp only [sparse, hj, hs]; rfl) (by simp only [lookB, ho, hw]) (by simpa using hne.symm) hu
          · rw [h2]; cases W i <;> trivial
        · rw [h1]; trivial
      free := fun i id hi hid j hj hne => by
        have hm3 := hole3 i id hi hid
        subst hm3
        rcases k3 i (Nat.zero_le _) (by omega) with m2 | ⟨_, h2, _⟩
        · rcases k3 j (Nat.zero_le _) (by omega) with m1 | ⟨_, h1, h3⟩
          · exact pairsOk_free hpk m1 m2 hid (by simpa using hne)
          · left
            rw [h1]
            have hoi : ops[i]? = some ops[i] := by simp [hi]
            obtain ⟨t, _, hst⟩ := f1 i _ (Nat.zero_le _) hoi
            intro k _
            refine ⟨?_, rfl⟩
            cases t with
            | false => simp at hst; rw [hst.2] at hid; cases hid
            | true =>
              simp only [if_true] at hst
              unfold StepP at hst
              rw [hid] at hst
              rcases hst with ⟨x0, B, _, _, _, e5, _⟩ | ⟨k, b, _, _, _, _, e5, _⟩
              · exact V.low_free (Nat.le_trans e5 (Nat.le_add_right _ _)) (h3 rfl)
              · exact V.low_free (Nat.le_trans e5 (Nat.le_add_right _ _)) (h3 rfl)
        · rw [h2] at hid; cases hid
      loc := fun i id hi hid j hj => by
        have hm3 := hole3 i id hi hid
        subst hm3
        rcases k3 j (Nat.zero_le _) (by omega) with m1 | ⟨_, h1, _⟩
        · exact pairsOk_loc hpk m1
        · rw [h1]; rfl }
  have hbs : RelSt bs X.nb X.nt { w with drawn := w.drawn + 1 } G s a := hR.drawn
  refine any_sound2 hb0 hb1 hb2 hb3 hbN C rn hd ?_ ops.size _ bs _ G a (by simp) ?_ ?_ (hbs.same (fun d => ?_) ?_ rfl)
  · simp only [Nat.zero_add, hlen] at f2
    unfold stF
    rw [heapF_congr (L' := fun j => decide (j < ops.size)) ops.size (fun j hj => by simp [hj])]
    exact f2
  · intro j oj hj hl
    rw [getD_replicate_false] at hl; cases hl
  · exact Nat.le_trans List.countP_le_length (by simp)
  · have : ∀ n, slotsL ops s xs (gl (Array.replicate ops.size false)) n = s.slots := by
      intro n
      induction n with
      | zero => rfl
      | succ n ih => simp only [slotsL, gl, getD_replicate_false, Bool.false_eq_true, if_false]; exact ih
    show getS (slotsL ops s xs (gl (Array.replicate ops.size false)) ops.size) d = getS s.slots d
    rw [this]
  · have : ∀ n, heapF ef s.heap (gl (Array.replicate ops.size false)) n = s.heap := by
      intro n
      induction n with
      | zero => rfl
      | succ n ih => simp only [heapF, gl, getD_replicate_false, Bool.false_eq_true, if_false]; exact ih
    exact this _

/-- A region that draws its order; m3: with holes for the blocks that it makes. -/
def holed (m3 : Bool) (h : Nat) (s : St) : St := { s with heap := if m3 then s.heap ++ List.replicate h .gone else s.heap }
theorem ent_holes {X : Cx} (m3 : Bool) (h : Nat) (s : St) : Ent X s (holed m3 h s) := fun bs w G a hR => by
  cases m3 with
  | false => exact ⟨G, hR⟩
  | true =>
    have L : Later w G s.heap w G (s.heap ++ List.replicate h .gone) :=
      { size := Nat.le_refl _, S := fun b o h => ⟨h, rfl⟩, Snew := fun _ _ _ _ h => h, len := by simp, rho := fun _ _ => rfl,
        grow := fun id n sz hid h => ⟨n, by rwa [List.getElem?_append_left hid] at h, .inr ⟨rfl, rfl⟩⟩, vec := fun id n sz cs hid h => ⟨n, sz, cs, by rwa [List.getElem?_append_left hid] at h, .inr ⟨rfl, rfl⟩⟩, role := fun _ _ => rfl, frame := fun _ _ _ => rfl, os := rfl, out := rfl }
    refine ⟨G, { rel := ⟨hR.rel.sex, hR.rel.roleLt, fun id x hx => ?_⟩, later := hR.later.trans L, base := hR.base, size := hR.size, slots := fun i => (hR.slots i).mono L, defers := hR.defers, marks := fun id hid => Nat.lt_of_lt_of_le (hR.marks id hid) L.len }⟩
    have hx : (s.heap ++ List.replicate h .gone)[id]? = some x := hx
    by_cases hi : id < s.heap.length
    · rw [List.getElem?_append_left hi] at hx
      exact (hR.rel.ab id x hx).mono hR.rel L hi (fun b _ => rfl) (fun _ _ _ h => h) rfl
    · rw [List.getElem?_append_right (by omega)] at hx
      have := List.mem_of_getElem? hx
      rw [List.mem_replicate] at this
      rw [this.2]; exact .gone

theorem awp_region_drawn2 {X : Cx} {id : Nat} {Q : Exit → St → Prop} {s : St} (m3 : Bool) (h : Nat) (hm : X.P.follows .mixedOrders = true) (hd : dstsB X.nt ops.toList = true) (hc : conflB2 m3 ops = true)
    (hh : DOps2 X m3 s.heap.length (holed m3 h s).heap.length ops 0 ops.toList [] (fun acc s => pairsOk m3 ops acc = true ∧ Q .normal s) (holed m3 h s)) : AWP X (.region id ops true) Q s := fun bs w G a hR => by
  obtain ⟨G', hR'⟩ := ent_holes (X := X) m3 h s bs w G a hR
  refine drawn_at (s := holed m3 h s) hm hd hc (n0 := s.heap.length) (by rw [← hR.base]; exact hR.later.len) (fun d => (hR.slots d).lows) (fun k y hy => ?_) (fun m hmk => hR.marks m hmk) rfl hh bs w G' a hR'
  cases m3 with
  | false => exact (hR.rel.ab k y hy).lows
  | true =>
    have hy : (s.heap ++ List.replicate h .gone)[k]? = some y := hy
    by_cases hi : k < s.heap.length
    · rw [List.getElem?_append_left hi] at hy; exact (hR.rel.ab k y hy).lows
    · rw [List.getElem?_append_right (by omega)] at hy
      have := List.mem_of_getElem? hy
      rw [List.mem_replicate] at this
      rw [this.2]; trivial
end
end Go.Abs
/- What one operation looks at and changes. -/
namespace Go.Abs
open Go

set_option maxHeartbeats 4000000 in
theorem op1_kq {X : Tx} {H H' : List AB} {E : Operand → V} {op : Op} {c : Bool} {x : V} (hq : quietOp op = true) (h : op1 X H E op = some (c, x, H')) (H2 : List AB) : op1 X H2 E op = some (c, x, H2) := by
  unfold op1 at h
  split at h
  all_goals first
    | (simp [quietOp, loudOp] at hq; done)
    | (simp only [op1]; (repeat' split at h) <;> first | (cases h; done) | (simp [quietOp, loudOp] at hq; done) | (simp_all [op1]; done))

/-- What an append changes. -/
def hereS : C → Option Nat
  | .own id _ => some id
  | .vs id _ => some id
  | .vc id _ => some id
  | _ => none
/-- A source that is read out of a block. -/
def isMs : C → Bool
  | .ms _ _ _ _ => true
  | .vs _ _ => true
  | _ => false
/-- Where an append grows in its own room. -/
def appOwn (E : Operand → V) (op : Op) : Option Nat := match op with
  | .call { callee := .builtin .append, args := as, argTypes := _ } => match as.toList.map E with
    | [.c s, .c y] => match hereS s, isMs y with
      | some id, false => some id
      | _, _ => none
    | _ => none
  | _ => none
theorem appOwn_app {E : Operand → V} {op : Op} {id : Nat} (h : appOwn E op = some id) : appOp op = true := by
  unfold appOwn at h
  split at h
  · rfl
  · cases h
theorem appOp_loud {op : Op} (h : appOp op = true) : loudOp op = true := by
  unfold appOp at h
  split at h
  · rfl
  · cases h
theorem appOp_quiet {op : Op} (h : appOp op = true) : quietOp op = false := by
  unfold appOp at h
  split at h
  · rfl
  · cases h
theorem appOp_make {op : Op} (h : appOp op = true) : makeOp op = false ∧ storeOp op = false ∧ loadOp op = false := by
  unfold appOp at h
  split at h
  · exact ⟨rfl, rfl, rfl⟩
  · cases h
theorem srcRows_any {H H2 : List AB} {sz : Nat} {y : C} (h : isMs y = false) : srcRows H sz y = srcRows H2 sz y := by
  cases y <;> first | rfl | cases h
theorem srcC_any {H H2 : List AB} {sz : Nat} {y : C} (h : isMs y = false) : srcC H sz y = srcC H2 sz y := by
  cases y <;> first | rfl | cases h
theorem srcC_nil {sz k : Nat} {y : C} {new : List C} (h : srcC [] sz y = some (k, new)) (H : List AB) : srcC H sz y = some (k, new) := by
  cases y <;> first | exact h | (simp [srcC] at h)
theorem srcRows_nil {sz : Nat} {y : C} {new : List (List D)} (h : srcRows [] sz y = some new) (H : List AB) : srcRows H sz y = some new := by
  cases y <;> first | exact h | (simp [srcRows] at h)
set_option maxHeartbeats 4000000 in
theorem app_foot {X : Tx} {H H' : List AB} {E : Operand → V} {op : Op} {c : Bool} {x : V} {id : Nat} (ha : appOwn E op = some id) (h : op1 X H E op = some (c, x, H')) :
    ∃ b, id < H.length ∧ H' = H.set id b ∧ ∀ H2 : List AB, H2[id]? = H[id]? → op1 X H2 E op = some (c, x, H2.set id b) := by
  unfold appOwn at ha
  split at ha
  · rename_i as ts
    split at ha
    · rename_i s y he
      split at ha
      · rename_i id' hs hy
        cases ha
        simp only [op1, he] at h ⊢
        generalize ts.toList = tl at h ⊢
        rcases tl with _ | ⟨t, _ | ⟨t2, _ | ⟨t3, tl⟩⟩⟩
        · simp at h
        · simp at h
        · simp only at h ⊢
          cases h1 : X.tt t with
          | none => rw [h1] at h; simp at h
          | some i =>
          cases h2 : X.tt t2 with
          | none => rw [h1, h2] at h; simp at h
          | some i2 =>
          rw [h1, h2] at h
          simp only at h ⊢
          split at h
          · rename_i e e2 hd hd2
            split at h
            · rename_i j hj
              split at h
              · rename_i id2 n hv
                obtain rfl := vecS_old hv
                cases hs
                split at h
                · rename_i m sz cs k new hid hsrc
                  cases h
                  refine ⟨_, (List.getElem?_eq_some_iff.1 hid).1, rfl, fun H2 h2 => ?_⟩
                  rw [srcC_any (H2 := H) hy, hsrc]
                  simp only [h2, hid]
                · cases h
              · rename_i id2 n hv
                obtain rfl := vecS_cut hv
                cases hs
                split at h
                · rename_i m sz cs k new hid hsrc
                  cases h
                  refine ⟨_, (List.getElem?_eq_some_iff.1 hid).1, rfl, fun H2 h2 => ?_⟩
                  rw [srcC_any (H2 := H) hy, hsrc]
                  simp only [h2, hid]
                · cases h
              · rename_i hv
                obtain rfl := vecS_new hv
                cases hs
              · split at h
                · rename_i new hn
                  split at h
                  · rename_i id2 rows _
                    cases hs
                    split at h
                    · rename_i n sz hid
                      cases h
                      refine ⟨_, (List.getElem?_eq_some_iff.1 hid).1, rfl, fun H2 h2 => ?_⟩
                      rw [srcRows_any (H2 := H) hy, hn]
                      simp only [h2, hid]
                    · cases h
                  · cases hs
                  · cases h
                · cases h
            · cases h
          · cases h
        · simp at h
      · cases ha
    · cases ha
  · cases ha

def footOf (X : Tx) (E : Operand → V) (op : Op) : Foot :=
  if quietOp op then .none else match op with
  | .load t x => match X.tt t, E x with
    | some i, .c (.ptr id off) => .win id off i.size
    | some _, .c (.vp id _ _) => .blk id
    | some _, .c (.gp _) => .all
    | _, _ => .none
  | .store _ a x => match E a with
    | .c (.ptr id off) => .win id off (E x).cs.length
    | .c (.vp id _ _) => .blk id
    | _ => .none
  | .lookup _ m _ _ => match E m with
    | .c (.mp id) => .blk id
    | _ => .none
  | .call { callee := .builtin .len, args := as, argTypes := _ } => match as.toList.map E with
    | [.c (.mp id)] => .blk id
    | _ => .none
  | op => match appOwn E op with
    | some id => .blk id
    | none => .all
def effOf (E : Operand → V) (op : Op) (H' : List AB) : Eff := match op with
  | .store _ a x => match E a with
    | .c (.ptr id off) => .patch id off (E x).cs
    | .c (.vp id _ _) => match H'[id]? with
      | some b => .upd id b
      | none => .no
    | _ => .no
  | op => match appOwn E op with
    | some id => match H'[id]? with
      | some b => .upd id b
      | none => .no
    | none => if loudOp op then .to H' else .no
theorem effOf_none {E : Operand → V} {op : Op} {H' : List AB} (hs : storeOp op = false) (ha : appOwn E op = none) : effOf E op H' = if loudOp op then .to H' else .no := by
  cases op <;> first | (simp [storeOp] at hs; done) | (simp only [effOf, ha])
theorem effOf_own {E : Operand → V} {op : Op} {H' : List AB} {id : Nat} (ha : appOwn E op = some id) : effOf E op H' = match H'[id]? with | some b => .upd id b | none => .no := by
  have hs := (appOp_make (appOwn_app ha)).2.1
  cases op <;> first | (simp [storeOp] at hs; done) | (simp only [effOf, ha])
theorem footOf_own {X : Tx} {E : Operand → V} {op : Op} {id : Nat} (ha : appOwn E op = some id) : footOf X E op = .blk id := by
  have hq := appOp_quiet (appOwn_app ha)
  have h := ha
  unfold appOwn at h
  split at h
  · unfold footOf
    rw [hq]
    simp only [Bool.false_eq_true, if_false, ha]
  · cases h
theorem appOwn_quiet {E : Operand → V} {op : Op} (h : loudOp op = false) : appOwn E op = none := by
  cases ha : appOwn E op with
  | none => rfl
  | some id => rw [appOp_loud (appOwn_app ha)] at h; cases h

theorem quietOp_loud {op : Op} (h : quietOp op = true) : loudOp op = false := by
  cases op with
  | call c =>
    obtain ⟨callee, args, ts⟩ := c
    cases callee with
    | builtin b => cases b <;> simp [quietOp, loudOp] at h ⊢
    | _ => rfl
  | _ => simp [quietOp, loudOp] at h ⊢

theorem loudW_loud {m3 : Bool} {op : Op} (h : loudW m3 op = false) : loudOp op = false := by
  simp only [loudW, Bool.or_eq_false_iff] at h; exact h.1
theorem op1_call {X : Tx} {H : List AB} {E : Operand → V} {op : Op} (h : callOp op = true) : op1 X H E op = none := by
  unfold callOp at h
  split at h
  · simp [op1]
  · cases h
theorem kindP_of {X : Tx} {E : Operand → V} {op : Op} {H H' : List AB} {c : Bool} {x : V} (m3 : Bool) (hm : m3 = true → makeOp op = false ∧ (appOp op = true → (appOwn E op).isSome = true)) (h : op1 X H E op = some (c, x, H')) : kindP m3 op (effOf E op H') (footOf X E op) := by
  have quiet : loudOp op = false → effOf E op H' = .no := fun hl => by
    have hs : storeOp op = false := by cases op <;> first | rfl | (simp [loudOp] at hl; done)
    rw [effOf_none hs (appOwn_quiet hl), hl]; rfl
  refine ⟨fun hq => ⟨quiet (quietOp_loud hq), by simp [footOf, hq]⟩, fun hl => quiet (loudW_loud hl), fun hs => ?_, fun _ => ?_⟩
  · cases ha : appOwn E op with
    | some id =>
      rw [effOf_own ha, footOf_own ha]
      split
      · exact .inr ⟨rfl, rfl⟩
      · exact .inl rfl
    | none =>
      have hst : storeOp op = true := by
        simp only [mutOp, Bool.or_eq_true, Bool.and_eq_true] at hs
        rcases hs with hs | ⟨h1, (h2 | h2) | h2⟩
        · exact hs
        · rw [(hm h1).1] at h2; cases h2
        · have := (hm h1).2 h2; rw [ha] at this; cases this
        · rw [op1_call h2] at h; cases h
      cases op <;> simp [storeOp] at hst
      simp only [effOf, footOf]
      split
      · exact .inr ⟨by simp [quietOp, loudOp, Eff.foot], rfl⟩
      · split
        · exact .inr ⟨by simp [quietOp, loudOp, Eff.foot], rfl⟩
        · exact .inl rfl
      · exact .inl rfl
  · cases ha : appOwn E op with
    | some id => rw [effOf_own ha]; split <;> rfl
    | none =>
      cases hs : storeOp op with
      | false => rw [effOf_none hs ha]; split <;> rfl
      | true =>
        cases op <;> simp [storeOp] at hs
        simp only [effOf]
        split
        · rfl
        · split <;> rfl
        · rfl

theorem mkV_win {i : TI} {cs cs' : List C} {off : Nat} (h3 : cs.length = cs'.length) (h4 : ∀ j, off ≤ j → j < off + i.size → cs[j]? = cs'[j]?) (hs : isAggD i.desc = false → 0 < i.size) : mkV i cs off = mkV i cs' off := by
  unfold mkV
  cases ha : isAggD i.desc with
  | true =>
    simp only [if_true]
    congr 1
    refine List.ext_getElem? fun j => ?_
    simp only [List.getElem?_take, List.getElem?_drop]
    split
    · exact h4 _ (by omega) (by omega)
    · rfl
  | false =>
    have := hs ha
    simp only [Bool.false_eq_true, if_false]
    rw [h4 off (Nat.le_refl _) (by omega)]

set_option maxHeartbeats 4000000 in
theorem op1_quiet {X : Tx} {H H' : List AB} {E : Operand → V} {op : Op} {c : Bool} {x : V} (hl : loudOp op = false) (h : op1 X H E op = some (c, x, H')) : H' = H := by
  unfold op1 at h
  split at h
  all_goals first
    | (simp [loudOp] at hl; done)
    | (repeat' split at h) <;> first | (cases h; rfl) | (cases h; done) | (simp [loudOp] at hl; done) | (simp at h; done) | (simp at h; exact h.2.2.symm)

theorem footOf_all {X : Tx} {E : Operand → V} {op : Op} (hq : quietOp op = false) (hw : winOp false op = false) (ha : appOwn E op = none) : footOf X E op = .all := by
  unfold footOf
  rw [hq]
  cases op with
  | call c =>
    obtain ⟨callee, args, ts⟩ := c
    cases callee with
    | builtin b => cases b <;> first | (simp [winOp, loadOp, mutOp, storeOp] at hw; done) | (simp only [Bool.false_eq_true, if_false, ha]; done) | rfl
    | _ => first | (simp only [Bool.false_eq_true, if_false, ha]; done) | rfl
  | _ => first | (simp [winOp, loadOp, mutOp, storeOp] at hw; done) | (simp only [Bool.false_eq_true, if_false, ha]; done) | rfl
theorem effOf_gen {E : Operand → V} {op : Op} {H' : List AB} (hw : storeOp op = false) (ha : appOwn E op = none) : effOf E op H' = if loudOp op then .to H' else .no := effOf_none hw ha

/-- At a heap that looks the same where the operation looks, it does the same. -/
theorem op1_foot {X : Tx} {H H' : List AB} {E : Operand → V} {op : Op} {c : Bool} {x : V} (h : op1 X H E op = some (c, x, H')) : (∀ H2, sim (footOf X E op) H2 H → op1 X H2 E op = some (c, x, (effOf E op H').app H2)) ∧ (effOf E op H').app H = H' := by
  have key : ∀ H2, sim (footOf X E op) H2 H → op1 X H2 E op = some (c, x, (effOf E op H').app H2) := by
    intro H2 hs
    cases hq : quietOp op with
    | true =>
      have e : effOf E op H' = .no := (kindP_of false (fun h => by cases h) h).1 hq |>.1
      rw [e]
      exact op1_kq hq h H2
    | false =>
      cases ha : appOwn E op with
      | some id =>
        rw [footOf_own ha] at hs
        obtain ⟨b, hlt, rfl, hk⟩ := app_foot ha h
        rw [hk H2 hs, effOf_own ha]
        simp [hlt, Eff.app]
      | none =>
      cases hw : winOp false op with
      | false =>
        rw [footOf_all hq hw ha] at hs
        have e : H2 = H := hs
        subst e
        rw [h, effOf_gen (by simp [winOp, mutOp] at hw; exact hw.2) ha]
        cases hl : loudOp op with
        | true => rfl
        | false => rw [op1_quiet hl h]; rfl
      | true =>
      cases op with
      | load t a =>
        simp only [footOf, hq, Bool.false_eq_true, if_false] at hs
        have e : effOf E (.load t a) H' = .no := rfl
        rw [e]
        simp only [Eff.app]
        simp only [op1] at h ⊢
        split at h
        · rename_i i id off ht hx
          simp only [ht, hx] at hs ⊢
          split at h
          · rename_i cs hid
            cases h
            rcases hs with hs | ⟨ds, ds', h1, h2, h3, h4⟩
            · rw [hs, hid]
            · rw [hid] at h2
              cases h2
              simp only [h1, h3]
              rw [mkV_win h3 h4 (fun ha => by have := X.ok.one t i ht ha; omega)]
          · cases h
        · rename_i i id n off ht hx
          simp only [ht, hx] at hs ⊢
          have hs : H2[id]? = H[id]? := hs
          rw [hs]
          split at h
          · rename_i m sz cs hid
            cases h
            simp only [hid]
          · cases h
        · rename_i i ds ht hx
          simp only [ht, hx] at hs ⊢
          cases h; rfl
        · rename_i i g ht hx
          simp only [ht, hx] at hs ⊢
          have hs : H2 = H := hs
          subst hs
          split at h
          · rename_i ds hg
            cases h
            rfl
          · cases h
        · cases h
      | store t a y =>
        simp only [footOf, hq, Bool.false_eq_true, if_false] at hs
        simp only [op1] at h ⊢
        split at h
        · rename_i i id off ht hx
          simp only [hx] at hs
          simp only [ht, hx, effOf]
          split at h
          · rename_i cs hid
            cases h
            rcases hs with hs | ⟨ds, ds', h1, h2, h3, h4⟩
            · rw [hs, hid]
              simp [Eff.app, patchH, hs, hid]
            · rw [hid] at h2
              cases h2
              simp only [h1, h3]
              simp [Eff.app, patchH, h1]
          · cases h
        · rename_i i id n off ht hx
          simp only [hx] at hs
          simp only [ht, hx, effOf]
          have hs : H2[id]? = H[id]? := hs
          rw [hs]
          split at h
          · rename_i m sz cs hid
            cases h
            have hlt := (List.getElem?_eq_some_iff.1 hid).1
            simp [hid, hlt, Eff.app]
          · cases h
        · cases h
      | lookup t m k ok =>
        have e : effOf E (.lookup t m k ok) H' = .no := rfl
        rw [e]
        unfold footOf at hs; rw [hq] at hs
        simp only [Bool.false_eq_true, if_false] at hs
        simp only [op1] at h ⊢
        split at h
        · rename_i i id ht hx
          simp only [hx] at hs
          have hs : H2[id]? = H[id]? := hs
          simp only [ht, hx, hs]
          split at h
          · rename_i kt et es hd hid
            split at h
            · rename_i j o hj ho
              cases h
              first | rfl | (simp only [hd, hid, hj, ho]; rfl) | (simp only [hd, hid, hj, ho])
            · cases h
          · cases h
        · cases h
      | call c =>
        obtain ⟨callee, args, ts⟩ := c
        cases callee with
        | builtin b =>
          cases b <;> first | (simp [winOp, loadOp, mutOp, storeOp, makeOp] at hw; done) | skip
          have e : effOf E (.call { callee := .builtin .len, args := args, argTypes := ts }) H' = .no := rfl
          rw [e]
          unfold footOf at hs; rw [hq] at hs
          simp only [Bool.false_eq_true, if_false] at hs
          simp only [op1] at h ⊢
          generalize ts.toList = tl at h ⊢
          generalize args.toList.map E = vl at h hs ⊢
          rcases tl with _ | ⟨t, _ | ⟨t2, tl⟩⟩ <;> rcases vl with _ | ⟨x1, _ | ⟨x2, vl⟩⟩ <;> try (simp at h; done)
          simp only at h ⊢
          split at h
          · rename_i i hi
            split at h
            · rename_i el cc hd
              split at h
              · rename_i n hn; cases h; first | rfl | (simp only [hi, hd, hn]; rfl) | simp [hi, hd, hn, Eff.app]
              · cases h
            · rename_i n el hd; cases h; first | rfl | (simp only [hi, hd]; rfl) | simp [hi, hd, Eff.app]
            · rename_i kt et id hd
              have hs : H2[id]? = H[id]? := hs
              split at h
              · rename_i es hid; cases h; first | (simp only [hi, hd, hs, hid]; rfl) | simp [hi, hd, hs, hid, Eff.app]
              · cases h
            · cases h
          · cases h
        | value f => simp [op1] at h
        | _ => simp [winOp, loadOp, mutOp, storeOp, makeOp] at hw
      | _ => simp [winOp, loadOp, mutOp, storeOp] at hw
  refine ⟨key, ?_⟩
  have := key H (sim_refl _ _)
  rw [h] at this
  injection this with this
  injection this with _ this
  injection this with _ this
  exact this.symm

theorem kindP_no (m3 : Bool) (op : Op) : kindP m3 op .no .none := ⟨fun _ => ⟨rfl, rfl⟩, fun _ => rfl, fun _ => .inl rfl, fun _ => rfl⟩
theorem effOf_hole {E : Operand → V} {op : Op} {H' : List AB} : (effOf E op H').hole = none := by
  cases ha : appOwn E op with
  | some id => rw [effOf_own ha]; split <;> rfl
  | none =>
    cases hs : storeOp op with
    | false => rw [effOf_none hs ha]; split <;> rfl
    | true =>
      cases op <;> simp [storeOp] at hs
      simp only [effOf]
      split
      · rfl
      · split <;> rfl
      · rfl

/-- A new block, whatever its number. -/
def mkOf (X : Tx) (E : Operand → V) (op : Op) : Option (MkK × AB) := match op with
  | .alloc t => match X.tt t with
    | some i => some (.ptr, .cells i.zero.cs)
    | none => none
  | .box _ x => if (E x).solid then some (.ptr, .cells (E x).cs) else none
  | .makeSlice t l c => match X.tt t, E l, E c with
    | some i, .c (.d (.int _ n)), .c (.d (.int _ m)) => match i.desc with
      | .slice e => match X.tt e with
        | some j => if decide (0 ≤ n) && decide (n ≤ m) && decide ((j.bytes : Int) * m ≤ 140737488355328) && decide (m ≤ lim) then some (.ms n.toNat m.toNat, .cells (zc j.zero.cs m.toNat)) else none
        | none => none
      | _ => none
    | _, _, _ => none
  | .makeMap _ none => some (.mp, .mp [])
  | .call { callee := .builtin .append, args := as, argTypes := ts } => match ts.toList, as.toList.map E with
    | [t, t2], [.c (.full rows), .c y] => match X.tt t, X.tt t2 with
      | some i, some i2 => match i.desc, i2.desc with
        | .slice e, .slice _ => match X.tt e with
          | some j => match vecS X.vm (.full rows) with
            | .new => match srcC [] j.size y with
              | some (k, new) => if decide (0 < j.size) && decide ((k + k / 4 + 256) * j.bytes ≤ 281474976710656) && decide (k ≤ lim) then some (.vs k, .vec k j.size new) else none
              | none => none
            | .none => match srcRows [] j.size y with
              | some new => if decide (0 < j.size) && rows.all (fun r => r.length == j.size) && new.all (fun r => r.length == j.size) && decide ((rows.length + new.length + (rows.length + new.length) / 4 + 256) * j.bytes ≤ 281474976710656) && decide (rows.length + new.length ≤ lim)
                then some (.own (rows ++ new), .grow (rows.length + new.length) j.size) else none
              | none => none
            | _ => none
          | none => none
        | _, _ => none
      | _, _ => none
    | _, _ => none
  | _ => none
theorem mkOf_spec {X : Tx} {E : Operand → V} {op : Op} {k : MkK} {b : AB} (h : mkOf X E op = some (k, b)) : (makeOp op || appOp op) = true ∧ ∀ H, op1 X H E op = some (true, .c (k.at H.length), H ++ [b]) := by
  unfold mkOf at h
  split at h
  · split at h
    · rename_i i hi; cases h; exact ⟨rfl, fun H => by simp [op1, hi, MkK.at]⟩
    · cases h
  · split at h
    · rename_i hs; cases h; exact ⟨rfl, fun H => by simp [op1, hs, MkK.at]⟩
    · cases h
  · split at h
    · rename_i i k1 n k2 m hi h1 h2
      split at h
      · rename_i e hd
        split at h
        · rename_i j hj
          split at h
          · rename_i hc; cases h; exact ⟨rfl, fun H => by simp only [op1, hi, h1, h2, hd, hj, hc, MkK.at]⟩
          · cases h
        · cases h
      · cases h
    · cases h
  · cases h; exact ⟨rfl, fun H => by simp [op1, MkK.at]⟩
  · rename_i as ts
    split at h
    · rename_i t t2 rows y hts he
      split at h
      · rename_i i i2 hi hi2
        split at h
        · rename_i e e2 hd hd2
          split at h
          · rename_i j hj
            split at h
            · rename_i hv
              split at h
              · rename_i k new hn
                split at h
                · rename_i hc
                  cases h
                  refine ⟨rfl, fun H => ?_⟩
                  simp only [op1, hts, he, hi, hi2, hd, hd2, hj, hv, srcC_nil hn H, hc, MkK.at]
                · cases h
              · cases h
            · rename_i hv
              split at h
              · rename_i new hn
                split at h
                · rename_i hc
                  cases h
                  refine ⟨rfl, fun H => ?_⟩
                  simp only [op1, hts, he, hi, hi2, hd, hd2, hj, hv, srcRows_nil hn H, hc, MkK.at]
                · cases h
              · cases h
            · cases h
          · cases h
        · cases h
      · cases h
    · cases h
  · cases h
/-- A new block is made. -/
def makes (E : Operand → V) (op : Op) : Bool := makeOp op || (appOp op && (appOwn E op).isNone)
theorem makes_not {E : Operand → V} {op : Op} (h : makes E op = false) : makeOp op = false ∧ (appOp op = true → (appOwn E op).isSome = true) := by
  simp only [makes, Bool.or_eq_false_iff, Bool.and_eq_false_iff] at h
  refine ⟨h.1, fun ha => ?_⟩
  rcases h.2 with h2 | h2
  · rw [ha] at h2; cases h2
  · cases hx : appOwn E op with
    | none => rw [hx] at h2; cases h2
    | some => rfl
theorem kindP_mk {m3 : Bool} {op : Op} {id : Nat} {b : AB} (hm3 : m3 = true) (h : (makeOp op || appOp op) = true) : kindP m3 op (.put id b) (.blk id) := by
  have hl : loudOp op = true := by
    simp only [Bool.or_eq_true] at h
    rcases h with h | h
    · cases op <;> simp [makeOp] at h <;> rfl
    · exact appOp_loud h
  have hq : quietOp op = false := by
    cases hq : quietOp op with
    | false => rfl
    | true => rw [quietOp_loud hq] at hl; cases hl
  exact ⟨fun h => (by rw [hq] at h; cases h), fun h => (by rw [loudW_loud h] at hl; cases hl), fun _ => .inr ⟨rfl, rfl⟩, fun h => (by rw [hm3] at h; cases h)⟩
theorem kindP_call {m3 : Bool} {op : Op} {id : Nat} {b : AB} (hm3 : m3 = true) (h : callOp op = true) : kindP m3 op (.put id b) (.blk id) := by
  have hq : quietOp op = false := by
    unfold callOp at h
    split at h
    · rfl
    · cases h
  exact ⟨fun h => (by rw [hq] at h; cases h), fun hl => (by simp [loudW, hm3, h] at hl), fun _ => .inr ⟨rfl, rfl⟩, fun h => (by rw [hm3] at h; cases h)⟩
theorem kindP_calls {m3 : Bool} {op : Op} {id m : Nat} {bs : List AB} (hm3 : m3 = true) (h : callOp op = true) (hl : bs.length = m) : kindP m3 op (.puts id bs) (.blks id m) := by
  subst hl
  have hq : quietOp op = false := by
    unfold callOp at h
    split at h
    · rfl
    · cases h
  exact ⟨fun h => (by rw [hq] at h; cases h), fun hl => (by simp [loudW, hm3, h] at hl), fun _ => .inr ⟨rfl, rfl⟩, fun h => (by rw [hm3] at h; cases h)⟩
/-- The new block names nothing that is not there. -/
def AB.newB (id N0 : Nat) : AB → Bool
  | .cells cs => C.freeL id cs && C.lowL N0 cs
  | .mp [] => true
  | .grow _ _ => true
  | .vec _ _ cs => C.freeL id cs && C.lowL N0 cs
  | _ => false
theorem AB.newB_spec {id N0 : Nat} {b : AB} (h : b.newB id N0 = true) : b.freeP id ∧ b.lowP N0 := by
  cases b with
  | cells cs => simp only [AB.newB, Bool.and_eq_true] at h; exact h
  | vec _ _ cs => simp only [AB.newB, Bool.and_eq_true] at h; exact h
  | mp es =>
    cases es with
    | nil => exact ⟨fun e he => (by cases he), fun e he => (by cases he)⟩
    | cons => cases h
  | grow => exact ⟨trivial, trivial⟩
  | _ => cases h

def countMk : List Oper → Nat
  | [] => 0
  | o :: os => countMk os + (if makeOp o.op || appOp o.op then 1 else 0)
/-- Which rule is taken for a drawn region. -/
def m3of (ops : Array Oper) : Bool := decide (1 ≤ countMk ops.toList) && ops.toList.all fun o => !loudOp o.op || mutOp true o.op

/-- Its regions are as the executor wants them. -/
def okX (nt : Nat) : Code → Bool
  | .seq x y => okX nt x && okX nt y
  | .block _ c => okX nt c
  | .loop c => okX nt c
  | .scope c => okX nt c
  | .cond _ x y => okX nt x && okX nt y
  | .region _ ops false => dstsB nt ops.toList
  | .region _ ops true => dstsB nt ops.toList && conflB2 (m3of ops) ops
  | .rangeFunc _ _ a b => okX nt a && okX nt b
  | _ => true
end Go.Abs
