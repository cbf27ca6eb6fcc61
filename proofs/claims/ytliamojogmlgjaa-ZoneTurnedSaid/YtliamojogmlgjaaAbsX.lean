/- A range over a function within a round of another one. -/
import Derived.Test.YtliamojogmlgjaaMK
import Derived.Test.YtliamojogmlgjaaAbsR
import Derived.Test.YtliamojogmlgjaaEG
import Derived.RangeFuncNested
set_option linter.unusedSimpArgs false
set_option linter.unusedVariables false
namespace Go.Abs
open Go
/-- The judgement, in a round of the loop whose record is block id. -/
def AWPr (l id : Nat) (X : Cx) (c : Code) (Q : Exit → St → Prop) (s : St) : Prop :=
  ∀ (bs : Base) (w : World) (G : Gh) (a : Act), bs.G.rho id = l → id < bs.H.length → RelSt bs X.nb X.nt w G s a →
    c.wpIn (Wd X.r) 0 X.P (fun e a' w' => ∃ s' G', Q e s' ∧ RelSt bs X.nb X.nt w' G' s' a') a w
section
variable {l id : Nat} {X : Cx} {Q : Exit → St → Prop} {s : St}
theorem AWP.toR {c : Code} (h : AWP X c Q s) : AWPr l id X c Q s := fun bs w G a _ _ hR => h bs w G a hR
theorem AWPr.mono {c : Code} {Q' : Exit → St → Prop} (h : AWPr l id X c Q s) (hq : ∀ e s, Q e s → Q' e s) : AWPr l id X c Q' s :=
  fun bs w G a h1 h2 hR => wpIn_mono (h bs w G a h1 h2 hR) fun _ _ _ ⟨s', G', h1, h2⟩ => ⟨s', G', hq _ _ h1, h2⟩
theorem AWPr.ent {c : Code} {s' : St} (h : Ent X s s') (k : AWPr l id X c Q s') : AWPr l id X c Q s := fun bs w G a h1 h2 hR => by
  obtain ⟨G', hR'⟩ := h bs w G a hR
  exact k bs w G' a h1 h2 hR'
theorem awpr_seq {x y : Code} (h : AWPr l id X x (thenQ (AWPr l id X y Q) Q) s) : AWPr l id X (.seq x y) Q s := fun bs w G a h1 h2 hR => by
  refine wpIn_seq (wpIn_mono (h bs w G a h1 h2 hR) ?_)
  rintro e a' w' ⟨s', G', hq, hR'⟩
  cases e with
  | normal => exact hq bs w' G' a' h1 h2 hR'
  | _ => exact ⟨s', G', hq, hR'⟩
theorem awpr_cond {c : Operand} {x y : Code} {t : Bool} (hc : s.ev c = .c (.d (.bool t))) (ht : t = true → AWPr l id X x Q s) (hf : t = false → AWPr l id X y Q s) : AWPr l id X (.cond c x y) Q s := fun bs w G a h1 h2 hR => by
  have hv := hR.ev c
  rw [hc] at hv
  obtain ⟨b, hb⟩ : ∃ b, a.eval c = .bool b ∧ b = t := by
    cases hv with
    | c _ _ h =>
      cases h with
      | d _ _ h =>
        generalize hv : a.eval c = v at h
        cases h with
        | bool b => exact ⟨_, rfl, rfl⟩
  obtain ⟨hb, rfl⟩ := hb
  exact wpIn_cond_split hb (fun e => ht e bs w G a h1 h2 hR) (fun e => hf e bs w G a h1 h2 hR)
theorem awpr_block {i : Nat} {c : Code} (h : AWPr l id X c (blockQ i Q) s) : AWPr l id X (.block i c) Q s := fun bs w G a h1 h2 hR => by
  refine wpIn_block (wpIn_mono (h bs w G a h1 h2 hR) ?_)
  rintro e a' w' ⟨s', G', hq, hR'⟩
  cases e with
  | exit id' =>
    simp only [blockQ] at hq
    simp only [Exit.inBlock]
    split <;> rename_i he
    · simp only [he, if_true] at hq; exact ⟨s', G', hq, hR'⟩
    · simp only [he, if_false] at hq; exact ⟨s', G', hq, hR'⟩
  | _ => exact ⟨s', G', hq, hR'⟩
theorem AWPr.post {c : Code} (h : AWPr l id X c (fun e t => ∃ t', Ent X t t' ∧ Q e t') s) : AWPr l id X c Q s := fun bs w G a h1 h2 hR => by
  refine wpIn_mono (h bs w G a h1 h2 hR) ?_
  rintro e a' w' ⟨t, G1, ⟨t', he, hq⟩, hR'⟩
  obtain ⟨G2, hR2⟩ := he bs w' G1 a' hR'
  exact ⟨t', G2, hq, hR2⟩
end
mutual
/-- The walk within a round. -/
def goN (bad : List Nat) (kp : List (Nat × List Nat)) (X : Tx) (l id nb nt : Nat) (c : Code) (Q : Exit → St → Prop) (s : St) : Prop :=
  match c with
  | .seq x y => goN bad kp X l id nb nt x (thenQ (contN bad kp X l id nb nt y Q) Q) s
  | .block i c => goN bad kp X l id nb nt c (blockQ i Q) s
  | .cond c x y => match s.ev c with
    | .c (.d (.bool t)) => condP t (armN bad kp X l id nb nt x Q s) (armN bad kp X l id nb nt y Q s)
    | _ => False
  | .rangeFunc g ps A B => AWPr l id (X.cx (some l) nb nt) (.rangeFunc g ps A B) Q s
  | .skip => goE bad kp X (some l) nb nt .skip Q s
  | .label i => goE bad kp X (some l) nb nt (.label i) Q s
  | .exit i => goE bad kp X (some l) nb nt (.exit i) Q s
  | .ret => goE bad kp X (some l) nb nt .ret Q s
  | .region i ops d => goE bad kp X (some l) nb nt (.region i ops d) Q s
  | c => AWP (X.cx (some l) nb nt) c Q s
def contN (bad : List Nat) (kp : List (Nat × List Nat)) (X : Tx) (l id nb nt : Nat) (c : Code) (Q : Exit → St → Prop) (s : St) : Prop := goN bad kp X l id nb nt c Q s
def armN (bad : List Nat) (kp : List (Nat × List Nat)) (X : Tx) (l id nb nt : Nat) (c : Code) (Q : Exit → St → Prop) (s : St) : Prop := goN bad kp X l id nb nt c Q s
end
theorem contN_at (bad : List Nat) (kp : List (Nat × List Nat)) (X : Tx) (l id nb nt : Nat) (c : Code) (Q : Exit → St → Prop) (s : St) : contN bad kp X l id nb nt c Q s = goN bad kp X l id nb nt c Q s := by rw [contN]
theorem armN_at (bad : List Nat) (kp : List (Nat × List Nat)) (X : Tx) (l id nb nt : Nat) (c : Code) (Q : Exit → St → Prop) (s : St) : armN bad kp X l id nb nt c Q s = goN bad kp X l id nb nt c Q s := by rw [armN]
theorem goN_sound {bad : List Nat} {kp : List (Nat × List Nat)} {X : Tx} {l id nb nt : Nat} (hm : X.P.follows .mixedOrders = true) (c : Code) : okE bad nt c = true → ∀ {Q : Exit → St → Prop} {s : St}, goN bad kp X l id nb nt c Q s → AWPr l id (X.cx (some l) nb nt) c Q s := by
  induction c with
  | seq x y ihx ihy =>
    intro hok Q s h
    simp only [okE, Bool.and_eq_true] at hok
    rw [goN] at h
    exact awpr_seq ((ihx hok.1 h).mono (thenQ_mono fun s h => ihy hok.2 (by rw [contN_at] at h; exact h)))
  | block id c ih => intro hok Q s h; rw [goN] at h; exact awpr_block (ih hok h)
  | cond c x y ihx ihy =>
    intro hok Q s h
    simp only [okE, Bool.and_eq_true] at hok
    rw [goN] at h
    split at h
    · rename_i t hc
      rw [condP, armN_at, armN_at] at h
      exact awpr_cond hc (fun e => ihx hok.1 (h.1 e)) (fun e => ihy hok.2 (h.2 e))
    · exact h.elim
  | rangeFunc g ps A B ihA ihB => intro _ Q s h; rw [goN] at h; exact h
  | skip => intro hok Q s h; rw [goN] at h; exact (goE_sound hm _ hok h).toR
  | label i => intro hok Q s h; rw [goN] at h; exact (goE_sound hm _ hok h).toR
  | exit i => intro hok Q s h; rw [goN] at h; exact (goE_sound hm _ hok h).toR
  | ret => intro hok Q s h; rw [goN] at h; exact (goE_sound hm _ hok h).toR
  | region i ops d => intro hok Q s h; rw [goN] at h; exact (goE_sound hm _ hok h).toR
  | _ => intro _ Q s h; unfold goN at h; exact h.toR
theorem goN_t {bad : List Nat} {kp : List (Nat × List Nat)} {X : Tx} {l id nb nt : Nat} {c : Code} {Q : Exit → St → Prop} {s : St} (b : Prop) : condP true (armN bad kp X l id nb nt c Q s) b = goN bad kp X l id nb nt c Q s := by rw [condP_t, armN_at]
theorem goN_f {bad : List Nat} {kp : List (Nat × List Nat)} {X : Tx} {l id nb nt : Nat} {c : Code} {Q : Exit → St → Prop} {s : St} (a : Prop) : condP false a (armN bad kp X l id nb nt c Q s) = goN bad kp X l id nb nt c Q s := by rw [condP_f, armN_at]
theorem goN_if {bad : List Nat} {kp : List (Nat × List Nat)} {X : Tx} {l id nb nt : Nat} {c c' : Code} {Q : Exit → St → Prop} {s : St} {t : Bool} (h1 : t = true → goN bad kp X l id nb nt c Q s) (h2 : t = false → goN bad kp X l id nb nt c' Q s) : condP t (armN bad kp X l id nb nt c Q s) (armN bad kp X l id nb nt c' Q s) :=
  ⟨fun h => by rw [armN_at]; exact h1 h, fun h => by rw [armN_at]; exact h2 h⟩
attribute [go_sem] goN contN_at goN_t goN_f

/-- How it goes on behind a range within a round. -/
def overKN (id : Nat) (Q : Exit → St → Prop) (s : St) (H2 : List AB) : Prop := match H2[id]? with
  | some (.lp r) => r.state ≠ .busy ∧ r.pend = none ∧ Q .normal { slots := s.slots, heap := H2.set id (.lp { r with state := .exhausted }), marks := s.marks }
  | _ => False
def overHN (s : St) (D nt : Nat) (ps : Array Tmp) (assign body : Code) : List AB :=
  s.heap ++ [.lp { state := .ready, pend := none, slots := s.slots, nt := nt, ps := ps, assign := assign, body := body, D := D }]
theorem awpr_rangeFunc {X : Cx} {l id0 : Nat} {r0 : LR} {g : Operand} {ps : Array Tmp} {assign body : Code} {Q : Exit → St → Prop} {s : St} {gf : FuncId} {caps : List C} (hr : X.r = some l) (hid0 : s.heap[id0]? = some (.lp r0)) (hg : s.ev g = .c (.fn (.func gf) caps))
    (h : ACall X.P gf (.c (.yd s.heap.length) :: caps.map .c) (overHN s r0.D X.nt ps assign body) (fun _ H2 => overKN s.heap.length Q s H2)) : AWPr l id0 X (.rangeFunc g ps assign body) Q s := fun bs w G a hl0 hlt0 hR => by
  have hv := hR.ev g
  rw [hg] at hv
  obtain ⟨arr, e1, e2, e3⟩ := fn_rel hv
  obtain ⟨fn0, tmps0, hb0, hsz0, hD0, hs0, hrole0⟩ := lp_at hR.rel hid0
  have hrho0 : G.rho id0 = l := (hR.later.rho id0 hlt0).trans hl0
  rw [hrho0] at hb0
  refine wpIn_rangeFunc (fun fn hfn => ?_)
  let rec0 : Loop := { state := .ready, pending := none, fn := fn, tmps := a.tmps, params := ps, assign := assign, body := body, defers := G.rho r0.D }
  let lr : LR := { state := .ready, pend := none, slots := s.slots, nt := X.nt, ps := ps, assign := assign, body := body, D := r0.D }
  have L2 := Later.alloc_own hR.rel (.loop rec0) (.lp lr)
  have hG2 : ∀ i, i < s.heap.length → (G.own s.heap.length w.heap.size).rho i = G.rho i := fun i hi => upd_ne _ _ (by omega)
  have hlp : Rel (w.alloc (.loop rec0)) (G.own s.heap.length w.heap.size) (s.heap ++ [.lp lr]) := by
    refine hR.rel.alloc_own _ _ (.lp lr fn a.tmps ?_ hR.size (by simp [lr]; omega) (fun i => (hR.slots i).mono L2) (by simp [Gh.own, upd_same]))
    rw [show (G.own s.heap.length w.heap.size).rho lr.D = G.rho r0.D from hG2 _ hD0]
    have : (G.own s.heap.length w.heap.size).rho s.heap.length = w.heap.size := by simp [Gh.own, upd_same]
    rw [this]
    exact heap_alloc_at _ _
  have hrhoL : (G.own s.heap.length w.heap.size).rho s.heap.length = w.heap.size := by simp [Gh.own, upd_same]
  have hround : (Wd X.r).round = some l := hr
  refine ⟨w.heap.size, [], (w.alloc (.loop rec0)), { target := .fn (.func gf) arr, args := #[.func (.yield w.heap.size) #[] #[]] }, (w.alloc (.loop rec0)), gf, #[.func (.yield w.heap.size) #[] #[]] ++ arr, (w.alloc (.loop rec0)), by rw [hround]; exact run_enterLoop_inner hb0 _ _ _ _ _, ?_, fun _ _ => trivial, ?_, fun e => by simp [Fence.wide] at e, ?_⟩
  · simp only [resolve, e1]
    simp [go_sem, Deferred.ofValue]
  · simp [invoke, h.1]
  · have hc := h.2 _ _ (#[.func (.yield w.heap.size) #[] #[]] ++ arr) hlp (by simp at e2 ⊢; omega) (fun i x v hx hv => by
      cases i with
      | zero =>
        simp at hx hv
        subst hx; subst hv
        have := CRel.yd (w := w.alloc (.loop rec0)) (G := G.own s.heap.length w.heap.size) (H := s.heap ++ [.lp lr]) s.heap.length (by simp)
        rw [hrhoL] at this
        exact .c _ _ this
      | succ i =>
        simp only [List.getElem?_cons_succ, List.getElem?_map] at hx
        have hv' : arr.toList[i]? = some v := by simpa using hv
        cases hq : caps[i]? with
        | none => rw [hq] at hx; cases hx
        | some q =>
          rw [hq] at hx; cases hx
          exact .c _ _ ((e3 i q v hq hv').mono L2))
    refine (CallsIn.at_round X.r hc).mono ?_
    rintro e w' ⟨v, y, H2, G', rfl, hk, R', hvv, L⟩
    unfold overKN at hk
    split at hk
    · rename_i r2 hid
      obtain ⟨hnb, hpd, hk⟩ := hk
      obtain ⟨fn2, tmps2, hb2, hsz2, hD2, hs2, hrole2⟩ := lp_at R' hid
      have hlenH : (s.heap ++ [AB.lp lr]).length = s.heap.length + 1 := by simp
      have hl : G'.rho s.heap.length = w.heap.size := (L.rho _ (by show _ < (s.heap ++ [AB.lp lr]).length; rw [hlenH]; omega)).trans hrhoL
      obtain ⟨R3, L3⟩ := lp_put (st := .exhausted) (pe := r2.pend) R' hid hb2 hsz2 hs2
      have hend := run_endLoop (P := X.P) hb2 hnb
      rw [hl] at hend
      have L0 := (L2.trans L).trans L3
      have hst : RelSt bs X.nb X.nt _ G' { slots := s.slots, heap := H2.set s.heap.length (.lp { r2 with state := .exhausted }), marks := s.marks } { a with defers := [] ++ a.defers } :=
        { rel := R3
          later := hR.later.trans L0
          base := hR.base
          size := hR.size
          slots := fun i => (hR.slots i).mono L0
          defers := by
            obtain ⟨hs, hh, e⟩ := hR.defers
            refine ⟨hs, hh.mono L0, ?_⟩
            have hmap : s.marks.map (markOf G) = s.marks.map (markOf G') := List.map_congr_left fun id hid => by
              have := L0.rho id (hR.marks id hid)
              simp only [markOf, this]
            rw [e, hmap, List.nil_append]
          marks := fun i hi => by
            have hlt : s.heap.length < H2.length := (List.getElem?_eq_some_iff.1 hid).1
            simp only [List.length_set]
            have := hR.marks i hi; omega }
      rw [hl] at hst
      exact ⟨none, _, by rw [← hpd]; exact hend, _, G', hk, by simpa only [hpd] using hst⟩
    · exact hk.elim
/-- A call of yield: a round of the loop. -/
theorem opAt_yieldN {P : Program} {tt : Nat → Option TI} {ro : Option Nat} {o : Oper} {H : List AB} {E : Operand → V} {x : Operand} {as : Array Operand} {ts : Array TypeId} {id : Nat} {r : LR} {post : V → List AB → Prop}
    (ho : o.op = .call { callee := .value x, args := as, argTypes := ts }) (hx : E x = .c (.yd id)) (hid : H[id]? = some (.lp r)) (hps : as.size = r.ps.size) (hnt : r.ps.toList.all (fun p => decide (p < r.nt)) = true)
    (h : ∀ l, AWP { P := P, tt := tt, r := some l, nb := H.length, nt := r.nt } r.assign (thenQ (fun t => ∃ t', busyH id t = some t' ∧ AWPr l id { P := P, tt := tt, r := some l, nb := H.length, nt := r.nt } r.body (roundQ id post) t') (fun _ _ => False))
      { slots := putPs r.ps.toList (as.toList.map E) r.slots, heap := H, marks := [] }) : OpAt P ro o H E post := by
  intro w G a next Q R hE hn
  have hfx := hE x (by simp [ho, Op.operands, Call.operands])
  rw [hx] at hfx
  have e1 := yd_rel hfx
  obtain ⟨m1, m2⟩ := map_rel (a := a) (fun y hy => hE y (by simp [ho, Op.operands, Call.operands]; exact .inr hy))
  obtain ⟨fn, tmps, hb, hsz, hD, hs, hrole⟩ := lp_at R hid
  refine ⟨fun _ _ => trivial, ?_⟩
  rw [Oper.semAt_eq _ _ _ (by simp [ho])]
  have hsza : (as.map a.eval).size = r.ps.size := by simp [hps]
  have hy := run_yield (P := P) (args := as.map a.eval) hb hsza
  have hrun : (execOp a.eval o).run P w = .ok (.round (G.rho id) fn ((r.ps.zip (as.map a.eval)).foldl (fun tmps (t, a) => tmps.setIfInBounds t a) tmps) r.assign r.body) w := by
    have e2 : (execOp a.eval o).run P w = (Instr.yield (G.rho id) (as.map a.eval)).run P w := by
      simp [execOp, ho, resolve, e1, Deferred.ofValue, invoke]
    rw [e2]
    exact hy
  rw [hrun, Oper.uponIn_round]
  refine ⟨fun e => by simp [Fence.wide] at e, ?_⟩
  refine roundIn_of_wpIn trivial ?_
  have hps' := putPs_rel (w := w) (G := G) (H := H) (nt := r.nt) r.ps.toList (as.toList.map E) (as.map a.eval).toList r.slots tmps m1 (fun p hp => by simpa using List.all_eq_true.1 hnt p hp) hsz m2 hs
  have hfold : (r.ps.zip (as.map a.eval)).foldl (fun tmps (t, a) => tmps.setIfInBounds t a) tmps = (r.ps.toList.zip (as.map a.eval).toList).foldl (fun t (p, v) => t.setIfInBounds p v) tmps := by
    rw [← Array.foldl_toList, Array.toList_zip]
  rw [hfold]
  have hst : RelSt ⟨w, G, H⟩ H.length r.nt w G { slots := putPs r.ps.toList (as.toList.map E) r.slots, heap := H, marks := [] } { tmps := (r.ps.toList.zip (as.map a.eval).toList).foldl (fun t (p, v) => t.setIfInBounds p v) tmps, defers := [] } :=
    { rel := R, later := Later.refl _ _ _, base := rfl, size := hps'.1, slots := hps'.2, defers := ⟨[], Hid.nil _ _ _, rfl⟩, marks := fun i hi => by simp at hi }
  refine wpIn_mono (h (G.rho id) _ w G _ hst) ?_
  rintro e a1 w1 ⟨t, G1, hq, hR⟩
  cases e with
  | normal =>
    obtain ⟨t', hb', hbody⟩ := hq
    unfold busyH at hb'
    split at hb'
    · rename_i r1 hid1
      split at hb'
      · rename_i hst1
        cases hb'
        obtain ⟨fn1, tmps1, hb1, hsz1, hD1, hs1, hrole1⟩ := lp_at hR.rel hid1
        have hlt : id < H.length := (List.getElem?_eq_some_iff.1 hid).1
        have hrho : G1.rho id = G.rho id := hR.later.rho id hlt
        obtain ⟨R1, L1⟩ := lp_put (st := .busy) (pe := r1.pend) hR.rel hid1 hb1 hsz1 hs1
        refine ⟨_, by rw [← hrho]; exact run_beginRound hb1 hst1, ?_⟩
        have hst2 : RelSt ⟨w, G, H⟩ H.length r.nt (w1.putObj (G1.rho id) (.loop { state := .busy, pending := r1.pend, fn := fn1, tmps := tmps1, params := r1.ps, assign := r1.assign, body := r1.body, defers := G1.rho r1.D })) G1 { t with heap := t.heap.set id (.lp { r1 with state := .busy }) } a1 :=
          { rel := R1, later := hR.later.trans L1, base := rfl, size := hR.size, slots := fun i => (hR.slots i).mono L1, defers := (by obtain ⟨hs, hh, e⟩ := hR.defers; exact ⟨hs, hh.mono L1, e⟩), marks := fun i hi => by simpa using hR.marks i hi }
        refine wpIn_mono (hbody ⟨w, G, H⟩ _ G1 a1 rfl hlt hst2) ?_
        rintro e2 a2 w2 ⟨t2, G2, hq2, hR2⟩
        have hrho2 : G2.rho id = G.rho id := hR2.later.rho id hlt
        have fin : ∀ (j : Option Code) (H' : List AB), endR id t2.heap j = some H' → post (B j.isNone) H' → ∃ v w', (Instr.endRound (G.rho id) j).run P w2 = .ok v w' ∧ next (a.put o.dst v) w' := by
          intro j H' h1 h2
          obtain ⟨w3, h3, R3, L3⟩ := endR_run (P := P) hR2.rel h1
          refine ⟨_, w3, by rw [← hrho2]; exact h3, hn _ _ H' G2 w3 h2 (.c _ _ (.d _ _ (.bool _))) R3 (hR2.later.trans L3)⟩
        cases e2 with
        | normal => obtain ⟨H', h1, h2⟩ := hq2; exact fin none H' h1 h2
        | ret => obtain ⟨H', h1, h2⟩ := hq2; exact fin (some .ret) H' h1 h2
        | exit i => obtain ⟨H', h1, h2⟩ := hq2; exact fin (some (.exit i)) H' h1 h2
        | goto i => obtain ⟨H', h1, h2⟩ := hq2; exact fin (some (.goto i)) H' h1 h2
        | _ => exact hq2.elim
      · cases hb'
    · cases hb'
  | _ => exact hq.elim

/-- A round within which a range over a function stands. -/
theorem ycs_ofN {bad : List Nat} {kp : List (Nat × List Nat)} {X : Tx} {id : Nat} {H : List AB} {r : LR} {cA cB : Code} {xs : List V} {post : V → List AB → Prop} (hm : X.P.follows .mixedOrders = true) (hid : H[id]? = some (.lp r)) (hA : r.assign = cA) (hB : r.body = cB) (hps : r.ps.size = xs.length) (hnt : r.ps.toList.all (fun p => decide (p < r.nt)) = true) (hoka : okE bad r.nt cA = true) (hokb : okE bad r.nt cB = true)
    (h : ∀ l, goE bad kp X (some l) H.length r.nt cA (thenQ (fun t => ∃ t', busyH id t = some t' ∧ goN bad kp X l id H.length r.nt cB (fun e u => ∃ u', Ent (X.cx (some l) H.length r.nt) u u' ∧ roundQ id post e u') t') (fun _ _ => False)) { slots := putPs r.ps.toList xs r.slots, heap := H, marks := [] }) :
    YCs X.P id H xs post := by
  subst hA; subst hB
  intro ro o E xo as ts ho hx hv
  have hsz : as.size = r.ps.size := by rw [hps, ← Array.length_toList, ← List.length_map (as := as.toList) E, hv]
  refine opAt_yieldN (tt := X.tt) ho hx hid hsz hnt (fun l => ?_)
  rw [hv]
  refine (goE_sound (X := X) (r := some l) (nb := H.length) hm r.assign hoka (h l)).mono ?_
  refine thenQ_mono fun t ht => ?_
  obtain ⟨t', h1, h2⟩ := ht
  exact ⟨t', h1, AWPr.post (goN_sound (X := X) (nb := H.length) hm r.body hokb h2)⟩
end Go.Abs
