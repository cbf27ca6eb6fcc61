/- A range over a function whose mark is put away, so that ranges may stand in a loop. -/
import Derived.Test.YtliamojogmlgjaaME
set_option linter.unusedSimpArgs false
set_option linter.unusedVariables false
namespace Go.Abs
open Go
theorem ABRel.rerole {w : World} {G : Gh} {H : List AB} {id : Nat} {x : AB} (h : ABRel w G H id x) (f : Nat → Option Nat) (hf : ∀ b, G.role b = some id → f b = some id) : ABRel w { G with role := f } H id x := by
  cases h with
  | gone => exact .gone
  | cells cs arr t hb hr hro hS => exact .cells cs arr t hb ⟨hr.1, fun i x v hx hv => ⟨by have := (VRel.c x v (hr.2 i x v hx hv).1).role_free (f := f); cases this; assumption, (hr.2 i x v hx hv).2⟩⟩ (hf _ hro) hS
  | grow n sz a cap hg hcap h hnil => exact .grow n sz a cap hg hcap (fun x hx hn => by obtain ⟨b, o, h1, h2, h3⟩ := h x hx hn; exact ⟨b, o, h1, hf b h2, h3⟩) hnil
  | vec n sz cs a cap hg hcap hl h => exact .vec n sz cs a cap hg hcap hl (fun hz => by obtain ⟨b, arr, t, h1, h2, h3, h4, h5, h6⟩ := h hz; exact ⟨b, arr, t, h1, hf b h2, h3, h4, ⟨h5.1, fun i x v hx hv => ⟨by have := (VRel.c x v (h5.2 i x v hx hv).1).role_free (f := f); cases this; assumption, (h5.2 i x v hx hv).2⟩⟩, h6⟩)
  | mp es rs clock hb hr hro => exact .mp es rs clock hb ⟨hr.1, fun i e r he hr' => ⟨(hr.2 i e r he hr').1.role_free, (hr.2 i e r he hr').2.role_free⟩⟩ (hf _ hro)
  | mpg es rs clock hb hok hro => exact .mpg es rs clock hb (hok.mono (fun _ _ h => h) (fun b h => ⟨hf b h, rfl, fun _ h => h⟩)) (hf _ hro)
  | lp r fn tmps hb hsz hD hs hro => exact .lp r fn tmps hb hsz hD (fun i => (hs i).role_free) (hf _ hro)
  | df hb hro => exact .df hb (hf _ hro)
  | gl g ds f' hc hr => exact .gl g ds f' hc hr
theorem RelSt.hide {bs : Base} {nb nt : Nat} {w : World} {G : Gh} {s : St} {a : Act} (h : RelSt bs nb nt w G s a) (id : Nat) (hid : s.heap[id]? = some .df) (hm : s.marks = [id]) (hn : nb ≤ id) (hb : bs.w.heap.size ≤ G.rho id) :
    ∃ G', RelSt bs nb nt w G' { slots := s.slots, heap := s.heap.set id .gone, marks := [] } a := by
  have hlt : id < s.heap.length := (List.getElem?_eq_some_iff.1 hid).1
  cases h.rel.ab id _ hid with
  | df hdf hrole =>
  have L : Later w G s.heap w G (s.heap.set id .gone) :=
    { size := Nat.le_refl _
      S := fun b o h => ⟨h, rfl⟩
      Snew := fun _ _ _ _ h => h
      len := by simp
      rho := fun _ _ => rfl
      grow := fun i n sz hi hx => by
        by_cases e : id = i
        · subst e; simp [hlt] at hx
        · rw [List.getElem?_set_ne e] at hx; exact ⟨n, hx, .inr ⟨rfl, rfl⟩⟩
      vec := fun i n sz cs hi hx => by
        by_cases e : id = i
        · subst e; simp [hlt] at hx
        · rw [List.getElem?_set_ne e] at hx; exact ⟨n, sz, cs, hx, .inr ⟨rfl, rfl⟩⟩
      role := fun _ _ => rfl
      frame := fun _ _ _ => rfl
      os := rfl
      out := rfl }
  obtain ⟨hs, hh, hde⟩ := h.defers
  have hne : ∀ b j, G.role b = some j → j ≠ id → b ≠ G.rho id := fun b j h1 h2 e => by subst e; rw [hrole] at h1; cases h1; exact h2 rfl
  refine ⟨{ G with role := fun b => if b = G.rho id then none else G.role b },
    { rel := ⟨h.rel.sex, fun b j hj => ?_, fun j x hx => ?_⟩
      later := ?_
      base := h.base
      size := h.size
      slots := fun i => ((h.slots i).mono L).role_free
      defers := ⟨G.rho id :: hs, ⟨?_, fun b hb' => ?_⟩, ?_⟩
      marks := fun i hi => by simp at hi }⟩
  · by_cases e : b = G.rho id
    · simp [e] at hj
    · simp only [e, if_false] at hj; exact h.rel.roleLt b j hj
  · have hx : (s.heap.set id .gone)[j]? = some x := hx
    by_cases e : id = j
    · subst e
      simp [hlt] at hx
      subst hx; exact .gone
    · rw [List.getElem?_set_ne e] at hx
      have h1 := (h.rel.ab j x hx).mono h.rel L (List.getElem?_eq_some_iff.1 hx).1 (fun _ _ => rfl) (fun _ _ _ h => h) rfl
      exact h1.rerole _ (fun b hb' => by rw [if_neg (hne b j hb' (Ne.symm e))]; exact hb')
  · have L2 := h.later.trans L
    exact { size := L2.size, S := L2.S, Snew := L2.Snew, len := L2.len, rho := L2.rho, grow := L2.grow, vec := L2.vec, frame := L2.frame, os := L2.os, out := L2.out
            role := fun b hb' => by
              have : b ≠ G.rho id := by omega
              simp only [this, if_false]; exact L2.role b hb' }
  · rw [List.nodup_cons]
    refine ⟨fun hc => ?_, hh.nd⟩
    have := (hh.at' _ hc).2.2.1
    rw [hrole] at this; cases this
  · rcases List.mem_cons.1 hb' with rfl | hc
    · exact ⟨hb, h.rel.roleLt _ _ hrole, by simp, hdf⟩
    · obtain ⟨h1, h2, h3, h4⟩ := hh.at' b hc
      refine ⟨h1, h2, ?_, h4⟩
      show (if b = G.rho id then none else G.role b) = none
      split
      · rfl
      · exact h3
  · rw [hde, hm]; rfl
def overKH (id d : Nat) (Q : Exit → St → Prop) (s : St) (H2 : List AB) : Prop := match H2[id]? with
  | some (.lp r) => r.state ≠ .busy ∧ r.pend = none ∧ H2[d]? = some .df ∧ Q .normal { slots := s.slots, heap := (H2.set id (.lp { r with state := .exhausted })).set d .gone, marks := [] }
  | _ => False

/-- A range over a function, outermost, whose mark is put away. -/
theorem awp_rangeFuncH {X : Cx} {g : Operand} {ps : Array Tmp} {assign body : Code} {Q : Exit → St → Prop} {s : St} {gf : FuncId} {caps : List C} (hr : X.r = none) (hmk : s.marks = []) (hnbl : X.nb ≤ s.heap.length) (hg : s.ev g = .c (.fn (.func gf) caps))
    (h : ACall X.P gf (.c (.yd (s.heap.length + 1)) :: caps.map .c) (overH s X.nt ps assign body) (fun _ H2 => overKH (s.heap.length + 1) s.heap.length Q s H2)) : AWP X (.rangeFunc g ps assign body) Q s := fun bs w G a hR => by
  have hv := hR.ev g
  rw [hg] at hv
  obtain ⟨arr, e1, e2, e3⟩ := fn_rel hv
  have hdf : Rel (w.alloc (.deferred (some []))) (G.own s.heap.length w.heap.size) (s.heap ++ [.df]) :=
    hR.rel.alloc_own _ _ (.df (by simp only [Gh.own, upd_same]; exact heap_alloc_at w _) (by simp [Gh.own, upd_same]))
  have L1 := Later.alloc_own hR.rel (.deferred (some [])) .df
  refine wpIn_rangeFunc (fun fn hfn => ?_)
  have hlen : (s.heap ++ [AB.df]).length = s.heap.length + 1 := by simp
  have hsz1 : (w.alloc (.deferred (some []))).heap.size = w.heap.size + 1 := by simp
  have hrhoD : (G.own s.heap.length w.heap.size).rho s.heap.length = w.heap.size := by simp [Gh.own, upd_same]
  let rec0 : Loop := { state := .ready, pending := none, fn := fn, tmps := a.tmps, params := ps, assign := assign, body := body, defers := w.heap.size }
  let lr : LR := { state := .ready, pend := none, slots := s.slots, nt := X.nt, ps := ps, assign := assign, body := body, D := s.heap.length }
  have L2 := Later.alloc_own hdf (.loop rec0) (.lp lr)
  have hG2 : ∀ i, i < s.heap.length + 1 → ((G.own s.heap.length w.heap.size).own (s.heap ++ [AB.df]).length (w.alloc (.deferred (some []))).heap.size).rho i = (G.own s.heap.length w.heap.size).rho i := fun i hi => upd_ne _ _ (by rw [hlen]; omega)
  have hlp : Rel ((w.alloc (.deferred (some []))).alloc (.loop rec0)) ((G.own s.heap.length w.heap.size).own (s.heap ++ [AB.df]).length (w.alloc (.deferred (some []))).heap.size) (s.heap ++ [.df] ++ [.lp lr]) := by
    refine hdf.alloc_own _ _ (.lp lr fn a.tmps ?_ hR.size (by simp [lr]) (fun i => ((hR.slots i).mono L1).mono L2) (by simp [Gh.own, upd_same]))
    rw [show ((G.own s.heap.length w.heap.size).own (s.heap ++ [AB.df]).length (w.alloc (.deferred (some []))).heap.size).rho lr.D = w.heap.size by rw [hG2 _ (by simp [lr]), hrhoD]]
    have : ((G.own s.heap.length w.heap.size).own (s.heap ++ [AB.df]).length (w.alloc (.deferred (some []))).heap.size).rho (s.heap ++ [AB.df]).length = (w.alloc (.deferred (some []))).heap.size := by simp [Gh.own, upd_same]
    rw [this]
    exact heap_alloc_at _ _
  have hrhoL : ((G.own s.heap.length w.heap.size).own (s.heap ++ [AB.df]).length (w.alloc (.deferred (some []))).heap.size).rho (s.heap.length + 1) = w.heap.size + 1 := by
    rw [← hlen, ← hsz1]; simp [Gh.own, upd_same]
  have hround : (Wd X.r).round = none := hr
  refine ⟨w.heap.size + 1, [{ target := .collected w.heap.size, args := #[] }], ((w.alloc (.deferred (some []))).alloc (.loop rec0)), { target := .fn (.func gf) arr, args := #[.func (.yield (w.heap.size + 1)) #[] #[]] }, ((w.alloc (.deferred (some []))).alloc (.loop rec0)), gf, #[.func (.yield (w.heap.size + 1)) #[] #[]] ++ arr, ((w.alloc (.deferred (some []))).alloc (.loop rec0)), by rw [hround]; exact run_enterLoop_outer _ _ _ _ _, ?_, fun _ _ => trivial, ?_, fun e => by simp [Fence.wide] at e, ?_⟩
  · simp only [resolve, e1]
    simp [go_sem, Deferred.ofValue]
  · simp [invoke, h.1]
  · have hc := h.2 _ _ (#[.func (.yield (w.heap.size + 1)) #[] #[]] ++ arr) hlp (by simp at e2 ⊢; omega) (fun i x v hx hv => by
      cases i with
      | zero =>
        simp at hx hv
        subst hx; subst hv
        have := CRel.yd (w := (w.alloc (.deferred (some []))).alloc (.loop rec0)) (G := (G.own s.heap.length w.heap.size).own (s.heap ++ [AB.df]).length (w.alloc (.deferred (some []))).heap.size) (H := s.heap ++ [.df] ++ [.lp lr]) (s.heap.length + 1) (by simp)
        rw [hrhoL] at this
        exact .c _ _ this
      | succ i =>
        simp only [List.getElem?_cons_succ, List.getElem?_map] at hx
        have hv' : arr.toList[i]? = some v := by simpa using hv
        cases hq : caps[i]? with
        | none => rw [hq] at hx; cases hx
        | some q =>
          rw [hq] at hx; cases hx
          exact .c _ _ (((e3 i q v hq hv').mono L1).mono L2))
    refine (CallsIn.at_round X.r hc).mono ?_
    rintro e w' ⟨v, y, H2, G', rfl, hk, R', hvv, L⟩
    unfold overKH at hk
    split at hk
    · rename_i r2 hid
      obtain ⟨hnb, hk⟩ := hk
      obtain ⟨fn2, tmps2, hb2, hsz2, hD2, hs2, hrole2⟩ := lp_at R' hid
      have hlenH : (s.heap ++ [AB.df] ++ [AB.lp lr]).length = s.heap.length + 2 := by rw [List.length_append, hlen]; rfl
      have hl : G'.rho (s.heap.length + 1) = w.heap.size + 1 := (L.rho _ (by show _ < (s.heap ++ [AB.df] ++ [AB.lp lr]).length; rw [hlenH]; omega)).trans hrhoL
      have hD' : G'.rho s.heap.length = w.heap.size := (L.rho _ (by show _ < (s.heap ++ [AB.df] ++ [AB.lp lr]).length; rw [hlenH]; omega)).trans ((hG2 _ (by omega)).trans hrhoD)
      obtain ⟨R3, L3⟩ := lp_put (st := .exhausted) (pe := r2.pend) R' hid hb2 hsz2 hs2
      have hend := run_endLoop (P := X.P) hb2 hnb
      rw [hl] at hend
      have L0 := ((L1.trans L2).trans L).trans L3
      have hst : RelSt bs X.nb X.nt _ G' { slots := s.slots, heap := H2.set (s.heap.length + 1) (.lp { r2 with state := .exhausted }), marks := s.heap.length :: s.marks } { a with defers := [{ target := .collected w.heap.size, args := #[] }] ++ a.defers } :=
        { rel := R3
          later := hR.later.trans L0
          base := hR.base
          size := hR.size
          slots := fun i => (hR.slots i).mono L0
          defers := by
            obtain ⟨hs, hh, e⟩ := hR.defers
            refine ⟨hs, hh.mono L0, ?_⟩
            have hmap : s.marks.map (markOf G) = s.marks.map (markOf G') := List.map_congr_left fun id hid => by
              have := L0.rho id (hR.marks id hid)
              simp only [markOf, this]
            rw [e, hmap, List.map_cons]
            simp only [markOf, hD', List.cons_append, List.nil_append]
          marks := fun i hi => by
            have hlt : s.heap.length + 1 < H2.length := (List.getElem?_eq_some_iff.1 hid).1
            simp only [List.length_set]
            rcases List.mem_cons.1 hi with rfl | hi
            · omega
            · have := hR.marks i hi; omega }
      rw [hl] at hst
      obtain ⟨hpd, hdf, hk⟩ := hk
      have hdf' : (H2.set (s.heap.length + 1) (AB.lp { r2 with state := .exhausted }))[s.heap.length]? = some .df := by rw [List.getElem?_set_ne (by omega)]; exact hdf
      obtain ⟨G5, hst5⟩ := hst.hide s.heap.length hdf' (by simp only [hmk]) hnbl (by rw [hD']; exact hR.later.size)
      exact ⟨none, _, by rw [← hpd]; exact hend, _, G5, hk, by simpa only [hpd] using hst5⟩
    · exact hk.elim
end Go.Abs
