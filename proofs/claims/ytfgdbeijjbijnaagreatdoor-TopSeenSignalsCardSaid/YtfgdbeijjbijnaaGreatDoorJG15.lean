/- A range over a function whose mark is put away, so that ranges may stand in a loop. -/
import Derived.Test.YtfgdbeijjbijnaaGreatDoorJG07
import Derived.Test.YtfgdbeijjbijnaaGreatDoorJG12
import Derived.RangeFuncNested
import Derived.Test.YtfgdbeijjbijnaaGreatDoorJG06
import Derived.ProofKit
import Derived.OpenShut
import Derived.Deep.DeepHandedRow
import Derived.LaidLaws
set_option linter.unusedSimpArgs false
set_option linter.unusedVariables false
namespace Go.Abs
open Go
theorem AW.rerole {w : World} {G : Gh} {H : List AB} {id : Nat} {x : AB} (h : AW w G H id x) (f : Nat → Option Nat) (hf : ∀ b, G.role b = some id → f b = some id) : AW w { G with role := f } H id x := by
 cases h with
 | gone => exact .gone
 | cells cs arr t hb hr hro hS => exact .cells cs arr t hb ⟨hr.1, fun i x v hx hv => ⟨by have := (Ag.c x v (hr.2 i x v hx hv).1).role_free (f := f); cases this; assumption, (hr.2 i x v hx hv).2⟩⟩ (hf _ hro) hS
 | grow n sz a cap hg hcap h hnil => exact .grow n sz a cap hg hcap (fun x hx hn => by obtain ⟨b, o, h1, h2, h3⟩ := h x hx hn; exact ⟨b, o, h1, hf b h2, h3⟩) hnil
 | vec n sz cs a cap hg hcap hl h => exact .vec n sz cs a cap hg hcap hl (fun hz => by obtain ⟨b, arr, t, h1, h2, h3, h4, h5, h6⟩ := h hz; exact ⟨b, arr, t, h1, hf b h2, h3, h4, ⟨h5.1, fun i x v hx hv => ⟨by have := (Ag.c x v (h5.2 i x v hx hv).1).role_free (f := f); cases this; assumption, (h5.2 i x v hx hv).2⟩⟩, h6⟩)
 | mp es rs clock hb hr hro => exact .mp es rs clock hb ⟨hr.1, fun i e r he hr' => ⟨(hr.2 i e r he hr').1.role_free, (hr.2 i e r he hr').2.role_free⟩⟩ (hf _ hro)
 | mpg es rs clock hb hok hro => exact .mpg es rs clock hb (hok.mono (fun _ _ h => h) (fun b h => ⟨hf b h, rfl, fun _ h => h⟩)) (hf _ hro)
 | mpb es clock rs hb hr hbn hro => exact .mpb es clock rs hb ⟨hr.1, fun i e r he hr' => ⟨(hr.2 i e r he hr').1.role_free, (hr.2 i e r he hr').2.role_free⟩⟩ hbn (hf _ hro)
 | lp r fn tmps hb hsz hD hs hro => exact .lp r fn tmps hb hsz hD (fun i => (hs i).role_free) (hf _ hro)
 | df hb hro => exact .df hb (hf _ hro)
 | gl g ds f' hc hr => exact .gl g ds f' hc hr
theorem AP.hide {bs : EF} {nb nt : Nat} {w : World} {G : Gh} {s : St} {a : Act} (h : AP bs nb nt w G s a) (id : Nat) (hid : s.heap[id]? = some .df) (hm : s.marks = [id]) (hn : nb ≤ id) (hb : bs.w.heap.size ≤ G.rho id) :
  ∃ G', AP bs nb nt w G' { slots := s.slots, heap := s.heap.set id .gone, marks := [] } a := by
 have hlt : id < s.heap.length := (List.getElem?_eq_some_iff.1 hid).1
 cases h.rel.ab id _ hid with
 | df hdf hrole =>
 have L : Am w G s.heap w G (s.heap.set id .gone) :=
  {size := Nat.le_refl _
   S := fun b o h => ⟨h, rfl⟩
   Snew := fun _ _ _ _ h => h
   len := by simp
   rho := fun _ _ => rfl
   grow := fun i n sz hi hx => by
    by_cases e : id = i
    ·subst e; simp [hlt] at hx
    ·rw [List.getElem?_set_ne e] at hx; exact ⟨n, hx, .inr ⟨rfl, rfl⟩⟩
   vec := fun i n sz cs hi hx => by
    by_cases e : id = i
    ·subst e; simp [hlt] at hx
    ·rw [List.getElem?_set_ne e] at hx; exact ⟨n, sz, cs, hx, .inr ⟨rfl, rfl⟩⟩
   role := fun _ _ => rfl
   frame := fun _ _ _ => rfl
   os := rfl
   out := rfl }
 obtain ⟨hs, hh, hde⟩ := h.defers
 have hne : ∀ b j, G.role b = some j → j ≠ id → b ≠ G.rho id := fun b j h1 h2 e => by subst e; rw [hrole] at h1; cases h1; exact h2 rfl
 refine ⟨{ G with role := fun b => if b = G.rho id then none else G.role b },
  {rel := ⟨h.rel.sex, fun b j hj => ?_, fun j x hx => ?_⟩
   later := ?_
   base := h.base
   size := h.size
   slots := fun i => ((h.slots i).mono L).role_free
   defers := ⟨G.rho id :: hs, ⟨?_, fun b hb' => ?_⟩, ?_⟩
   marks := fun i hi => by simp at hi }⟩
 ·by_cases e : b = G.rho id
  ·simp [e] at hj
  ·simp only [e, if_false] at hj; exact h.rel.roleLt b j hj
 ·have hx : (s.heap.set id .gone)[j]? = some x := hx
  by_cases e : id = j
  ·subst e
   simp [hlt] at hx
   subst hx; exact .gone
  ·rw [List.getElem?_set_ne e] at hx
   have h1 := (h.rel.ab j x hx).mono h.rel L (List.getElem?_eq_some_iff.1 hx).1 (fun _ _ => rfl) (fun _ _ _ h => h) rfl
   exact h1.rerole _ (fun b hb' => by rw [if_neg (hne b j hb' (Ne.symm e))]; exact hb')
 ·have L2 := h.later.trans L
  exact { size := L2.size, S := L2.S, Snew := L2.Snew, len := L2.len, rho := L2.rho, grow := L2.grow, vec := L2.vec, frame := L2.frame, os := L2.os, out := L2.out
          role := fun b hb' => by
            have : b ≠ G.rho id := by omega
            simp only [this, if_false]; exact L2.role b hb' }
 ·rw [List.nodup_cons]
  refine ⟨fun hc => ?_, hh.nd⟩
  have := (hh.at' _ hc).2.2.1
  rw [hrole] at this; cases this
 ·rcases List.mem_cons.1 hb' with rfl | hc
  ·exact ⟨hb, h.rel.roleLt _ _ hrole, by simp, hdf⟩
  ·obtain ⟨h1, h2, h3, h4⟩ := hh.at' b hc
   refine ⟨h1, h2, ?_, h4⟩
   show (if b = G.rho id then none else G.role b) = none
   split
   ·rfl
   ·exact h3
 ·rw [hde, hm]; rfl
def VM (id d : Nat) (Q : Exit → St → Prop) (s : St) (H2 : List AB) : Prop := match H2[id]? with
 | some (.lp r) => r.state ≠ .busy ∧ r.pend = none ∧ H2[d]? = some .df ∧ Q .normal { slots := s.slots, heap := (H2.set id (.lp { r with state := .exhausted })).set d .gone, marks := [] }
 | _ => False
theorem FS {X : Cx} {g : Operand} {ps : Array Tmp} {assign body : Code} {Q : Exit → St → Prop} {s : St} {gf : FuncId} {caps : List C} (hr : X.r = none) (hmk : s.marks = []) (hnbl : X.nb ≤ s.heap.length) (hg : s.ev g = .c (.fn (.func gf) caps))
  (h : Ad X.P gf (.c (.yd (s.heap.length + 1)) :: caps.map .c) (Vk s X.nt ps assign body) (fun _ H2 => VM (s.heap.length + 1) s.heap.length Q s H2)) : AWP X (.rangeFunc g ps assign body) Q s := fun bs w G a hR => by
 have hv := hR.ev g
 rw [hg] at hv
 obtain ⟨arr, e1, e2, e3⟩ := Rk hv
 have hdf : Rel (w.alloc (.deferred (some []))) (G.own s.heap.length w.heap.size) (s.heap ++ [.df]) :=
  hR.rel.alloc_own _ _ (.df (by simp only [Gh.own, Ao]; exact Bx w _) (by simp [Gh.own, Ao]))
 have L1 := Am.alloc_own hR.rel (.deferred (some [])) .df
 refine wpIn_rangeFunc (fun fn hfn => ?_)
 have hlen : (s.heap ++ [AB.df]).length = s.heap.length + 1 := by simp
 have hsz1 : (w.alloc (.deferred (some []))).heap.size = w.heap.size + 1 := by simp
 have hrhoD : (G.own s.heap.length w.heap.size).rho s.heap.length = w.heap.size := by simp [Gh.own, Ao]
 let rec0 : Loop := { state := .ready, pending := none, fn := fn, tmps := a.tmps, params := ps, assign := assign, body := body, defers := w.heap.size }
 let lr : LR := { state := .ready, pend := none, slots := s.slots, nt := X.nt, ps := ps, assign := assign, body := body, D := s.heap.length }
 have L2 := Am.alloc_own hdf (.loop rec0) (.lp lr)
 have hG2 : ∀ i, i < s.heap.length + 1 → ((G.own s.heap.length w.heap.size).own (s.heap ++ [AB.df]).length (w.alloc (.deferred (some []))).heap.size).rho i = (G.own s.heap.length w.heap.size).rho i := fun i hi => AJ _ _ (by rw [hlen]; omega)
 have hlp : Rel ((w.alloc (.deferred (some []))).alloc (.loop rec0)) ((G.own s.heap.length w.heap.size).own (s.heap ++ [AB.df]).length (w.alloc (.deferred (some []))).heap.size) (s.heap ++ [.df] ++ [.lp lr]) := by
  refine hdf.alloc_own _ _ (.lp lr fn a.tmps ?_ hR.size (by simp [lr]) (fun i => ((hR.slots i).mono L1).mono L2) (by simp [Gh.own, Ao]))
  rw [show ((G.own s.heap.length w.heap.size).own (s.heap ++ [AB.df]).length (w.alloc (.deferred (some []))).heap.size).rho lr.D = w.heap.size by rw [hG2 _ (by simp [lr]), hrhoD]]
  have : ((G.own s.heap.length w.heap.size).own (s.heap ++ [AB.df]).length (w.alloc (.deferred (some []))).heap.size).rho (s.heap ++ [AB.df]).length = (w.alloc (.deferred (some []))).heap.size := by simp [Gh.own, Ao]
  rw [this]
  exact Bx _ _
 have hrhoL : ((G.own s.heap.length w.heap.size).own (s.heap ++ [AB.df]).length (w.alloc (.deferred (some []))).heap.size).rho (s.heap.length + 1) = w.heap.size + 1 := by
  rw [← hlen, ← hsz1]; simp [Gh.own, Ao]
 have hround : (Wd X.r).round = none := hr
 refine ⟨w.heap.size + 1, [{ target := .collected w.heap.size, args := #[] }], ((w.alloc (.deferred (some []))).alloc (.loop rec0)), { target := .fn (.func gf) arr, args := #[.func (.yield (w.heap.size + 1)) #[] #[]] }, ((w.alloc (.deferred (some []))).alloc (.loop rec0)), gf, #[.func (.yield (w.heap.size + 1)) #[] #[]] ++ arr, ((w.alloc (.deferred (some []))).alloc (.loop rec0)), by rw [hround]; exact run_enterLoop_outer _ _ _ _ _, ?_, fun _ _ => trivial, ?_, fun e => by simp [Fence.wide] at e, ?_⟩
 ·simp only [resolve, e1]
  simp [go_sem, Deferred.ofValue]
 ·simp [invoke, h.1]
 ·have hc := h.2 _ _ (#[.func (.yield (w.heap.size + 1)) #[] #[]] ++ arr) hlp (by simp at e2 ⊢; omega) (fun i x v hx hv => by
   cases i with
   | zero =>
    simp at hx hv
    subst hx; subst hv
    have := Ap.yd (w := (w.alloc (.deferred (some []))).alloc (.loop rec0)) (G := (G.own s.heap.length w.heap.size).own (s.heap ++ [AB.df]).length (w.alloc (.deferred (some []))).heap.size) (H := s.heap ++ [.df] ++ [.lp lr]) (s.heap.length + 1) (by simp)
    rw [hrhoL] at this
    exact .c _ _ this
   | succ i =>
    simp only [List.getElem?_cons_succ, List.getElem?_map] at hx
    have hv' : arr.toList[i]? = some v := by simpa using hv
    cases hq : caps[i]? with
    | none => rw [hq] at hx; cases hx
    | some q =>
     rw [hq] at hx; cases hx
     exact .c _ _ (((e3 i q v hq hv').mono L1).mono L2))
  refine (CallsIn.at_round X.r hc).mono ?_
  rintro e w' ⟨v, y, H2, G', rfl, hk, R', hvv, L⟩
  unfold VM at hk
  split at hk
  ·rename_i r2 hid
   obtain ⟨hnb, hk⟩ := hk
   obtain ⟨fn2, tmps2, hb2, hsz2, hD2, hs2, hrole2⟩ := MC R' hid
   have hlenH : (s.heap ++ [AB.df] ++ [AB.lp lr]).length = s.heap.length + 2 := by rw [List.length_append, hlen]; rfl
   have hl : G'.rho (s.heap.length + 1) = w.heap.size + 1 := (L.rho _ (by show _ < (s.heap ++ [AB.df] ++ [AB.lp lr]).length; rw [hlenH]; omega)).trans hrhoL
   have hD' : G'.rho s.heap.length = w.heap.size := (L.rho _ (by show _ < (s.heap ++ [AB.df] ++ [AB.lp lr]).length; rw [hlenH]; omega)).trans ((hG2 _ (by omega)).trans hrhoD)
   obtain ⟨R3, L3⟩ := NV (st := .exhausted) (pe := r2.pend) R' hid hb2 hsz2 hs2
   have hend := run_endLoop (P := X.P) hb2 hnb
   rw [hl] at hend
   have L0 := ((L1.trans L2).trans L).trans L3
   have hst : AP bs X.nb X.nt _ G' { slots := s.slots, heap := H2.set (s.heap.length + 1) (.lp { r2 with state := .exhausted }), marks := s.heap.length :: s.marks } { a with defers := [{ target := .collected w.heap.size, args := #[] }] ++ a.defers } :=
    {rel := R3
     later := hR.later.trans L0
     base := hR.base
     size := hR.size
     slots := fun i => (hR.slots i).mono L0
     defers := by
      obtain ⟨hs, hh, e⟩ := hR.defers
      refine ⟨hs, hh.mono L0, ?_⟩
      have hmap : s.marks.map (CX G) = s.marks.map (CX G') := List.map_congr_left fun id hid => by
       have := L0.rho id (hR.marks id hid)
       simp only [CX, this]
      rw [e, hmap, List.map_cons]
      simp only [CX, hD', List.cons_append, List.nil_append]
     marks := fun i hi => by
      have hlt : s.heap.length + 1 < H2.length := (List.getElem?_eq_some_iff.1 hid).1
      simp only [List.length_set]
      rcases List.mem_cons.1 hi with rfl | hi
      ·omega
      ·have := hR.marks i hi; omega }
   rw [hl] at hst
   obtain ⟨hpd, hdf, hk⟩ := hk
   have hdf' : (H2.set (s.heap.length + 1) (AB.lp { r2 with state := .exhausted }))[s.heap.length]? = some .df := by rw [List.getElem?_set_ne (by omega)]; exact hdf
   obtain ⟨G5, hst5⟩ := hst.hide s.heap.length hdf' (by simp only [hmk]) hnbl (by rw [hD']; exact hR.later.size)
   exact ⟨none, _, by rw [← hpd]; exact hend, _, G5, hk, by simpa only [hpd] using hst5⟩
  ·exact hk.elim
end Go.Abs
namespace Go.Abs
open Go
def Mi (l id : Nat) (X : Cx) (c : Code) (Q : Exit → St → Prop) (s : St) : Prop :=
 ∀ (bs : EF) (w : World) (G : Gh) (a : Act), bs.G.rho id = l → id < bs.H.length → AP bs X.nb X.nt w G s a →
  c.wpIn (Wd X.r) 0 X.P (fun e a' w' => ∃ s' G', Q e s' ∧ AP bs X.nb X.nt w' G' s' a') a w
section
variable {l id : Nat} {X : Cx} {Q : Exit → St → Prop} {s : St}
theorem Mi.mono {c : Code} {Q' : Exit → St → Prop} (h : Mi l id X c Q s) (hq : ∀ e s, Q e s → Q' e s) : Mi l id X c Q' s :=
 fun bs w G a h1 h2 hR => wpIn_mono (h bs w G a h1 h2 hR) fun _ _ _ ⟨s', G', h1, h2⟩ => ⟨s', G', hq _ _ h1, h2⟩
theorem Mi.ent {c : Code} {s' : St} (h : Ent X s s') (k : Mi l id X c Q s') : Mi l id X c Q s := fun bs w G a h1 h2 hR => by
 obtain ⟨G', hR'⟩ := h bs w G a hR
 exact k bs w G' a h1 h2 hR'
theorem Mi.post {c : Code} (h : Mi l id X c (fun e t => ∃ t', Ent X t t' ∧ Q e t') s) : Mi l id X c Q s := fun bs w G a h1 h2 hR => by
 refine wpIn_mono (h bs w G a h1 h2 hR) ?_
 rintro e a' w' ⟨t, G1, ⟨t', he, hq⟩, hR'⟩
 obtain ⟨G2, hR2⟩ := he bs w' G1 a' hR'
 exact ⟨t', G2, hq, hR2⟩
end
mutual
def goN (bad : List Nat) (kp : List (Nat × List Nat)) (X : Tx) (l id nb nt : Nat) (c : Code) (Q : Exit → St → Prop) (s : St) : Prop :=
 match c with
 | .seq x y => goN bad kp X l id nb nt x (DV (VN bad kp X l id nb nt y Q) Q) s
 | .block i c => goN bad kp X l id nb nt c (GI i Q) s
 | .cond c x y => match s.ev c with
  | .c (.d (.bool t)) => BY t (Ue bad kp X l id nb nt x Q s) (Ue bad kp X l id nb nt y Q s)
  | _ => False
 | .rangeFunc g ps A B => Mi l id (X.cx (some l) nb nt) (.rangeFunc g ps A B) Q s
 | .skip => goE bad kp X (some l) nb nt .skip Q s
 | .label i => goE bad kp X (some l) nb nt (.label i) Q s
 | .exit i => goE bad kp X (some l) nb nt (.exit i) Q s
 | .ret => goE bad kp X (some l) nb nt .ret Q s
 | .region i ops d => goE bad kp X (some l) nb nt (.region i ops d) Q s
 | c => AWP (X.cx (some l) nb nt) c Q s
def VN (bad : List Nat) (kp : List (Nat × List Nat)) (X : Tx) (l id nb nt : Nat) (c : Code) (Q : Exit → St → Prop) (s : St) : Prop := goN bad kp X l id nb nt c Q s
def Ue (bad : List Nat) (kp : List (Nat × List Nat)) (X : Tx) (l id nb nt : Nat) (c : Code) (Q : Exit → St → Prop) (s : St) : Prop := goN bad kp X l id nb nt c Q s
end
theorem contN_at (bad : List Nat) (kp : List (Nat × List Nat)) (X : Tx) (l id nb nt : Nat) (c : Code) (Q : Exit → St → Prop) (s : St) : VN bad kp X l id nb nt c Q s = goN bad kp X l id nb nt c Q s := by rw [VN]
theorem armN_at (bad : List Nat) (kp : List (Nat × List Nat)) (X : Tx) (l id nb nt : Nat) (c : Code) (Q : Exit → St → Prop) (s : St) : Ue bad kp X l id nb nt c Q s = goN bad kp X l id nb nt c Q s := by rw [Ue]
theorem goN_t {bad : List Nat} {kp : List (Nat × List Nat)} {X : Tx} {l id nb nt : Nat} {c : Code} {Q : Exit → St → Prop} {s : St} (b : Prop) : BY true (Ue bad kp X l id nb nt c Q s) b = goN bad kp X l id nb nt c Q s := by rw [Ep, armN_at]
theorem goN_f {bad : List Nat} {kp : List (Nat × List Nat)} {X : Tx} {l id nb nt : Nat} {c : Code} {Q : Exit → St → Prop} {s : St} (a : Prop) : BY false a (Ue bad kp X l id nb nt c Q s) = goN bad kp X l id nb nt c Q s := by rw [Er, armN_at]
attribute [go_sem] goN contN_at goN_t goN_f
end Go.Abs
namespace Go.Abs
open Go
def exS (w : World) : Nat → Nat → Prop := fun b o => ∃ v, w.cell? ⟨b, o, none⟩ = some v
def Cat (p : TypeId → List D → Prop) : List TypeId → List D → Prop
 | [], ds => ds = []
 | t :: ts, ds => ∃ a b, ds = a ++ b ∧ p t a ∧ Cat p ts b
def Cv (P : Program) : Nat → TypeId → List D → Prop
 | 0, _, _ => False
 | n + 1, t, ds => match P.underlying t with
  | some .bool => ∃ b, ds = [.bool b]
  | some (.int k) => ∃ m, ds = [.int k m] ∧ (Lit.int k m).wf = true
  | some (.slice e) => ∃ rows, ds = [.sl rows] ∧ rows.length * P.bytesOf e ≤ reachBytes ∧ ∀ r ∈ rows, Cv P n e r
  | some (.struct fs) => Cat (Cv P n) (fs.toList.map (·.type)) ds
  | some (.array k e) => Cat (Cv P n) (List.replicate k e) ds
  | _ => False
def PA (P : Program) (z : Nat) : Nat → List Field → Bool
 | k, [] => k == z
 | k, f :: fs => f.offset == k && PA P z (k + P.cellsOf f.type) fs
def DS (P : Program) : Nat → TypeId → Bool
 | 0, _ => false
 | n + 1, t => match P.underlying t with
  | some .bool => true
  | some (.int _) => true
  | some (.slice e) => decide (0 < P.cellsOf e) && decide (0 < P.bytesOf e) && DS P n e
  | some (.struct fs) => fs.toList.all (fun f => DS P n f.type) && PA P (P.cellsOf t) 0 fs.toList
  | some (.array k e) => DS P n e && P.cellsOf t == k * P.cellsOf e
  | _ => false
def Gv (w : World) (ds : List D) (cs : List Value) : Prop := cs.length = ds.length ∧ ∀ (i : Nat) (d : D) (v : Value), ds[i]? = some d → cs[i]? = some v → Br w (exS w) d v
theorem Gv.append {w : World} {a b : List D} {x y : List Value} (h : Gv w a x) (h' : Gv w b y) : Gv w (a ++ b) (x ++ y) := by
 refine ⟨by simp [h.1, h'.1], fun i d v hd hv => ?_⟩
 by_cases hi : i < a.length
 ·rw [List.getElem?_append_left hi] at hd
  rw [List.getElem?_append_left (by rw [h.1]; exact hi)] at hv
  exact h.2 i d v hd hv
 ·rw [List.getElem?_append_right (by omega)] at hd
  rw [List.getElem?_append_right (by rw [h.1]; omega), h.1] at hv
  exact h'.2 _ d v hd hv
section
variable {H : Type} {enc : TypeId × Value → H} {P : Program} {w : World}
theorem Eh {a : Addr} {n : Nat} {cs : List Value} (h : w.cells? 0 a n = some cs) : cs.length = n ∧ ∀ j, j < n → w.cell? (a.add j) = cs[j]? := by
 unfold World.cells? at h
 simp only [Nat.zero_le, if_true] at h
 refine ⟨by simpa using mapM_some_length h, fun j hj => mapM_some_get h j j (by simp [hj])⟩
theorem Uf : ∀ (n : Nat) (t : TypeId), DS P n t = true → ∀ (m : Nat) (cs : List Value) (x : DataW H × List MemPlace), DataW.trod enc P w 0 (fun _ => true) true m t cs = some x → (x.1.weights P t).all (· ≤ reachBytes) = true →
  ∃ ds, Cv P n t ds ∧ Gv w ds cs := by
 intro n
 induction n with
 | zero => intro t h; simp [DS] at h
 | succ n ih =>
  intro t hp m cs x h hw
  simp only [DS] at hp
  split at hp
  ·rename_i hu
   obtain ⟨b, rfl, rfl⟩ := DataW.trod_bool hu h
   refine ⟨[.bool b], by simp [Cv, hu], rfl, fun i d v hd hv => ?_⟩
   cases i <;> simp at hd hv
   subst hd; subst hv; exact .bool b
  ·rename_i k hu
   obtain ⟨z, rfl, rfl, hwf⟩ := DataW.trod_int hu h
   refine ⟨[.int k z], by simp [Cv, hu, hwf], rfl, fun i d v hd hv => ?_⟩
   cases i <;> simp at hd hv
   subst hd; subst hv; exact .int k z
  ·rename_i e hu
   simp only [Bool.and_eq_true, decide_eq_true_eq] at hp
   obtain ⟨⟨hz, hzb⟩, hpe⟩ := hp
   rcases DataW.trod_slice hu h with ⟨rfl, rfl⟩ | ⟨a, len, cap, elems, rest, m', rfl, rfl, rfl, hb, hlc, hcap, hel, hget, hrest, _⟩
   ·refine ⟨[.sl []], by simp [Cv, hu], rfl, fun i d v hd hv => ?_⟩
    cases i <;> simp at hd hv
    subst hd; subst hv; exact .emp none 0
   ·have hws : (len + (rest.map (·.1)).length) * P.bytesOf e ≤ reachBytes ∧ (DataW.weightsAll P e (elems.map (·.1))).all (· ≤ reachBytes) = true := by
     simp only [DataW.weights, hu, List.all_cons, List.all_append, Bool.and_eq_true, decide_eq_true_eq] at hw
     refine ⟨by have := hw.1; simpa [hel] using this, hw.2.1⟩
    have hlim : len ≤ lim := by
     have h1 := hws.1
     have h2 : len ≤ (len + (rest.map (·.1)).length) * P.bytesOf e := Nat.le_trans (Nat.le_add_right _ _) (Nat.le_mul_of_pos_right _ hzb)
     have h3 : reachBytes ≤ lim := by decide
     omega
    have hwi : ∀ (i : Nat) (y : DataW H × List MemPlace), elems[i]? = some y → (y.1.weights P e).all (· ≤ reachBytes) = true := by
     have key : ∀ (l : List (DataW H × List MemPlace)), (DataW.weightsAll P e (l.map (·.1))).all (· ≤ reachBytes) = true → ∀ (i : Nat) y, l[i]? = some y → (y.1.weights P e).all (· ≤ reachBytes) = true := by
      intro l
      induction l with
      | nil => intro _ i y hy; simp at hy
      | cons q l ihl =>
       intro hq i y hy
       simp only [List.map_cons, DataW.weightsAll, List.all_append, Bool.and_eq_true] at hq
       cases i with
       | zero => simp at hy; subst hy; exact hq.1
       | succ i => exact ihl hq.2 i y (by simpa using hy)
     exact key elems hws.2
    have hrow : ∀ i, i < len → ∃ r, Cv P n e r ∧ ∃ ci, w.cells? 0 (a.add (i * P.cellsOf e)) (P.cellsOf e) = some ci ∧ Gv w r ci := by
     intro i hi
     have h1 := hget i hi
     have h2 : elems[i]? = some elems[i] := by simp [hel, hi]
     rw [h2, Option.bind_eq_some_iff] at h1
     obtain ⟨ci, h3, h4⟩ := h1
     obtain ⟨r, h5, h6⟩ := ih e hpe m' ci _ h4 (hwi i _ h2)
     exact ⟨r, h5, ci, h3, h6⟩
    let F : Nat → List D := fun i => if hi : i < len then (hrow i hi).choose else []
    have hF : ∀ i, i < len → Cv P n e (F i) ∧ ∃ ci, w.cells? 0 (a.add (i * P.cellsOf e)) (P.cellsOf e) = some ci ∧ Gv w (F i) ci := fun i hi => by
     simp only [F, hi, dif_pos]; exact (hrow i hi).choose_spec
    refine ⟨[.sl ((List.range len).map F)], by
     simp only [Cv, hu]
     refine ⟨_, rfl, ?_, fun r hr => ?_⟩
     ·rw [List.length_map, List.length_range]
      exact Nat.le_trans (Nat.mul_le_mul_right _ (Nat.le_add_right _ _)) hws.1
     obtain ⟨i, hi, rfl⟩ := List.mem_map.1 hr
     exact (hF i (by simpa using hi)).1, rfl, fun i d v hd hv => ?_⟩
    cases i <;> simp at hd hv
    subst hd; subst hv
    by_cases h0 : len = 0
    ·subst h0; simpa using Br.emp (w := w) (S := exS w) (some a) cap
    ·obtain ⟨b, o, sp⟩ := a
     have hsp : sp = none := by
      obtain ⟨_, ci, hc, _⟩ := hF 0 (by omega)
      have := (Eh hc).2 0 hz
      have hlen := (Eh hc).1
      have hlt : 0 < ci.length := by omega
      rw [List.getElem?_eq_getElem hlt] at this
      cases sp with
      | none => rfl
      | some s =>
       exfalso
       simp only [World.cell?, Addr.add] at this
       split at this <;> simp at this
     subst hsp
     have hcl : ∀ i j, i < len → j < P.cellsOf e → ∃ v, w.cell? ⟨b, o + i * P.cellsOf e + j, none⟩ = some v := fun i j hi hj => by
      obtain ⟨_, ci, hc, hr⟩ := hF i hi
      obtain ⟨h1, h2⟩ := Eh hc
      have h3 := h2 j hj
      have hlt : j < ci.length := by omega
      rw [List.getElem?_eq_getElem hlt] at h3
      simp only [Addr.add_lit] at h3
      exact ⟨_, h3⟩
     have key := Br.sl (w := w) (S := exS w) ((List.range len).map F) b o cap (P.cellsOf e) (fun i j => (w.cell? ⟨b, o + i * P.cellsOf e + j, none⟩).getD undef) (by simpa using hlc) (by simpa using hlim)
      (fun i r hr => by
       simp only [List.getElem?_map] at hr
       have hi : i < len := by
        by_cases hi : i < len
        ·exact hi
        ·rw [List.getElem?_eq_none (by simpa using hi)] at hr; simp at hr
       rw [List.getElem?_eq_getElem (by simpa using hi)] at hr
       simp at hr
       subst hr
       obtain ⟨_, ci, hc, hr⟩ := hF i hi
       rw [← hr.1]; exact (Eh hc).1)
      (fun i j hi hj => by
       have hi' : i < len := by simpa using hi
       obtain ⟨v, hv⟩ := hcl i j hi' hj
       exact ⟨⟨v, hv⟩, by rw [hv]; rfl⟩)
      (fun i j r y hr hy => by
       simp only [List.getElem?_map] at hr
       have hi : i < len := by
        by_cases hi : i < len
        ·exact hi
        ·rw [List.getElem?_eq_none (by simpa using hi)] at hr; simp at hr
       rw [List.getElem?_eq_getElem (by simpa using hi)] at hr
       simp at hr
       subst hr
       obtain ⟨_, ci, hc, hr⟩ := hF i hi
       obtain ⟨h1, h2⟩ := Eh hc
       have hj : j < P.cellsOf e := by have := (List.getElem?_eq_some_iff.1 hy).1; rw [← hr.1, h1] at this; exact this
       have h3 := h2 j hj
       have hlt : j < ci.length := by omega
       have h4 := List.getElem?_eq_getElem hlt
       rw [h4] at h3
       simp only [Addr.add_lit] at h3
       rw [h3]
       exact hr.2 j y _ hy h4)
     simpa using key
  ·rename_i fs hu
   simp only [Bool.and_eq_true] at hp
   obtain ⟨xs, m', rfl, rfl, hcl, hxl, hget⟩ := DataW.trod_struct hu h
   simp only [DataW.weights, hu] at hw
   have key : ∀ (l : List Field) (ys : List (DataW H × List MemPlace)) (k : Nat), PA P (P.cellsOf t) k l = true → l.all (fun f => DS P n f.type) = true → ys.length = l.length →
     (∀ (i : Nat) (f : Field), l[i]? = some f → DataW.trod enc P w 0 (fun _ => true) true m' f.type ((cs.drop f.offset).take (P.cellsOf f.type)) = ys[i]?) → (DataW.weightsEach P (l.map (·.type)) (ys.map (·.1))).all (· ≤ reachBytes) = true →
     ∃ ds, Cat (Cv P n) (l.map (·.type)) ds ∧ Gv w ds (cs.drop k) := by
    intro l
    induction l with
    | nil =>
     intro ys k ho _ _ _ _
     simp only [PA, beq_iff_eq] at ho
     refine ⟨[], rfl, by simp [hcl, ho], fun i d v hd => by simp at hd⟩
    | cons f l ihl =>
     intro ys k ho hall hyl hg hws
     cases ys with
     | nil => simp at hyl
     | cons y ys =>
      have ho' := ho
      simp only [PA, Bool.and_eq_true, beq_iff_eq] at ho
      simp only [List.all_cons, Bool.and_eq_true] at hall
      simp only [List.map_cons, DataW.weightsEach, List.all_append, Bool.and_eq_true] at hws
      have h0 := hg 0 f rfl
      simp only [List.getElem?_cons_zero] at h0
      obtain ⟨d1, e1, e2⟩ := ih f.type hall.1 m' _ y h0 hws.1
      obtain ⟨d2, e3, e4⟩ := ihl ys _ ho.2 hall.2 (by simpa using hyl) (fun i g hgi => by have := hg (i + 1) g (by simpa using hgi); simpa using this) hws.2
      refine ⟨d1 ++ d2, ⟨d1, d2, rfl, e1, e3⟩, ?_⟩
      have := e2.append e4
      rw [ho.1] at this
      have e5 : cs.drop k = (cs.drop k).take (P.cellsOf f.type) ++ cs.drop (k + P.cellsOf f.type) := by
       rw [← List.drop_drop, List.take_append_drop]
      rw [e5]; exact this
   obtain ⟨ds, h1, h2⟩ := key fs.toList xs 0 hp.2 hp.1 (by simpa using hxl) (fun i f hf => hget i f (by simpa using hf)) hw
   exact ⟨ds, by simp only [Cv, hu]; exact h1, by simpa using h2⟩
  ·rename_i k e hu
   simp only [Bool.and_eq_true, beq_iff_eq] at hp
   obtain ⟨xs, m', rfl, rfl, hcl, hxl, hget⟩ := DataW.trod_array hu h
   simp only [DataW.weights, hu] at hw
   have key : ∀ (j : Nat) (ys : List (DataW H × List MemPlace)) (o : Nat), o + j = k → ys.length = j →
     (∀ i, i < j → DataW.trod enc P w 0 (fun _ => true) true m' e ((cs.drop ((o + i) * P.cellsOf e)).take (P.cellsOf e)) = ys[i]?) → (DataW.weightsAll P e (ys.map (·.1))).all (· ≤ reachBytes) = true →
     ∃ ds, Cat (Cv P n) (List.replicate j e) ds ∧ Gv w ds (cs.drop (o * P.cellsOf e)) := by
    intro j
    induction j with
    | zero =>
     intro ys o ho _ _ _
     refine ⟨[], rfl, ?_, fun i d v hd => by simp at hd⟩
     have : o = k := by omega
     subst this
     simp [hcl, hp.2]
    | succ j ihj =>
     intro ys o ho hyl hg hws
     cases ys with
     | nil => simp at hyl
     | cons y ys =>
      simp only [List.map_cons, DataW.weightsAll, List.all_append, Bool.and_eq_true] at hws
      have h0 := hg 0 (by omega)
      simp only [List.getElem?_cons_zero, Nat.add_zero] at h0
      obtain ⟨d1, e1, e2⟩ := ih e hp.1 m' _ y h0 hws.1
      obtain ⟨d2, e3, e4⟩ := ihj ys (o + 1) (by omega) (by simpa using hyl) (fun i hi => by have := hg (i + 1) (by omega); simp only [List.getElem?_cons_succ] at this; rw [← this]; congr 4; omega) hws.2
      refine ⟨d1 ++ d2, ⟨d1, d2, rfl, e1, e3⟩, ?_⟩
      have := e2.append e4
      have e5 : cs.drop (o * P.cellsOf e) = (cs.drop (o * P.cellsOf e)).take (P.cellsOf e) ++ cs.drop ((o + 1) * P.cellsOf e) := by
       rw [Nat.add_mul, Nat.one_mul, ← List.drop_drop, List.take_append_drop]
      rw [e5]; exact this
   obtain ⟨ds, h1, h2⟩ := key k xs 0 (by omega) (by simpa using hxl) (fun i hi => by rw [Nat.zero_add]; exact hget i hi) hw
   exact ⟨ds, by simp only [Cv, hu]; exact h1, by simpa using h2⟩
  ·cases hp
end
def FA (P : Program) (t : TypeId) (ds : List D) : V := match P.underlying t with
 | some (.struct _) | some (.array _ _) => .agg (ds.map .d)
 | _ => match ds with
  | [d] => .c (.d d)
  | _ => .c .any
def VO (P : Program) (n : Nat) : List TypeId → List V → Prop
 | [], vs => vs = []
 | t :: ts, vs => ∃ ds r, vs = FA P t ds :: r ∧ Cv P n t ds ∧ VO P n ts r
def G0 (w : World) : Gh := { S := exS w, rho := fun _ => 0, g := fun _ => (none, 0), role := fun _ => none }
theorem Ti {w : World} {ds : List D} {cs : List Value} (h : Gv w ds cs) : An w (G0 w) [] (ds.map .d) cs := by
 refine ⟨by simp [h.1], fun i x v hx hv => ?_⟩
 rw [List.getElem?_map] at hx
 cases hd : ds[i]? with
 | none => rw [hd] at hx; cases hx
 | some d =>
  rw [hd] at hx; cases hx
  have := h.2 i d v hd hv
  exact ⟨.d _ _ this, this.one⟩
section
variable {H : Type} {enc : TypeId × Value → H} {P : Program} {w : World}
theorem aEm {n m : Nat} {t : TypeId} {v : Value} {base : Nat} {x : DataW H × List MemPlace} (hp : DS P n t = true) (hv : Value.okWide P w .any base t v) (h : DataW.trod enc P w 0 (fun _ => true) true m t v.cells.toList = some x)
  (hw : (x.1.weights P t).all (· ≤ reachBytes) = true) : ∃ ds, Cv P n t ds ∧ Ag w (G0 w) [] (FA P t ds) v := by
 obtain ⟨ds, h1, h2⟩ := Uf n t hp m _ x h hw
 refine ⟨ds, h1, ?_⟩
 cases n with
 | zero => simp [DS] at hp
 | succ n =>
  simp only [DS] at hp
  have single : (∀ a, v ≠ .agg a) → ∀ d, ds = [d] → Ag w (G0 w) [] (.c (.d d)) v := by
   intro hna d hd
   subst hd
   have hc : v.cells = #[v] := by cases v <;> first | rfl | exact absurd rfl (hna _)
   rw [hc] at h2
   exact .c _ _ (.d _ _ (h2.2 0 d v rfl rfl))
  split at hp
  ·rename_i hu
   obtain ⟨b, rfl⟩ : ∃ b, ds = [.bool b] := by simpa [Cv, hu] using h1
   simp only [FA, hu]
   refine single (fun a e => ?_) _ rfl
   subst e
   simp [Value.okWide, hu, Cell.okWide, Cell.ok] at hv
  ·rename_i k hu
   obtain ⟨z, rfl, _⟩ : ∃ m, ds = [.int k m] ∧ (Lit.int k m).wf = true := by simpa [Cv, hu] using h1
   simp only [FA, hu]
   refine single (fun a e => ?_) _ rfl
   subst e
   simp [Value.okWide, hu, Cell.okWide, Cell.ok] at hv
  ·rename_i e hu
   obtain ⟨rows, rfl, _⟩ : ∃ rows, ds = [.sl rows] ∧ rows.length * P.bytesOf e ≤ reachBytes ∧ ∀ r ∈ rows, Cv P n e r := by simpa [Cv, hu] using h1
   simp only [FA, hu]
   refine single (fun a e => ?_) _ rfl
   subst e
   simp [Value.okWide, hu, Cell.okWide, Cell.ok] at hv
  ·rename_i fs hu
   simp only [FA, hu]
   simp only [Value.okWide, hu] at hv
   obtain ⟨cs, rfl, _⟩ := hv
   exact .agg _ _ (Ti h2)
  ·rename_i k e hu
   simp only [FA, hu]
   simp only [Value.okWide, hu] at hv
   obtain ⟨cs, rfl, _⟩ := hv
   exact .agg _ _ (Ti h2)
  ·cases hp
theorem PB {n base : Nat} : ∀ {ts : List TypeId} {vs : List Value} {ds : List (DataW H)} {ps : List MemPlace}, ts.all (DS P n) = true → (∀ (j : Nat) t v, ts[j]? = some t → vs[j]? = some v → Value.okWide P w .any base t v) →
  DataW.TrodAll enc P w 0 (fun _ => true) true ts vs ds ps → (DataW.weightsEach P ts ds).all (· ≤ reachBytes) = true →
  ∃ xs, VO P n ts xs ∧ xs.length = vs.length ∧ ∀ (i : Nat) (x : V) (v : Value), xs[i]? = some x → vs[i]? = some v → Ag w (G0 w) [] x v
 | [], [], [], _, _, _, _, _ => ⟨[], rfl, rfl, fun i x v h => by simp at h⟩
 | t :: ts, v :: vs, d :: ds, ps, hp, hv, ⟨p, q, ⟨m, h1⟩, h2, e⟩, hw => by
  simp only [List.all_cons, Bool.and_eq_true] at hp
  simp only [DataW.weightsEach, List.all_append, Bool.and_eq_true] at hw
  obtain ⟨dd, a1, a2⟩ := aEm hp.1 (hv 0 t v rfl rfl) h1 hw.1
  obtain ⟨xs, b1, b2, b3⟩ := PB hp.2 (fun j t v ht hv' => hv (j + 1) t v (by simpa using ht) (by simpa using hv')) h2 hw.2
  refine ⟨FA P t dd :: xs, ⟨dd, xs, rfl, a1, b1⟩, by simp [b2], fun i x u hx hu => ?_⟩
  cases i with
  | zero => simp at hx hu; subst hx; subst hu; exact a2
  | succ i => exact b3 i x u (by simpa using hx) (by simpa using hu)
end
section
variable {H : Type} {enc : TypeId × Value → H} {P : Program}
theorem VP {fn : Func} {s : ChangeSpec} {CB fresh handsOn again : Bool} {W W' : World} {args : Array Value} {ds gs : List (DataW H)} {before : List MemPlace} {tb : TypeId}
  (hl : laidOutB P = true) (hm : mapsRowed P = true) (hz : ∀ t e, t < P.types.size → P.underlying t = some (.slice e) → 0 < P.cellsOf e) (hts : ∀ t ∈ fn.params.toList, t < P.types.size)
  (hr : fn.resultTypes = #[tb]) (htb : P.underlying tb = some .bool) (hsv : s.vars = []) (hfn : s.fn H (ds ++ gs) = { results := [.lit (.bool true)], args := ds })
  (hW : DataW.Whole enc P fn.params.toList s.vars CB W args.toList ds gs before) (hos : W'.os = W.os) (hout : W'.output = W.output) (hh : ∀ b, b < W.heap.size → W'.heap[b]? = W.heap[b]?) :
  s.post enc P fn CB fresh handsOn again W args (.bool true) W' := by
 have hold : ∀ p ∈ before, p.block < W.heap.size := fun p hp => hW.lt p hp
 have hW0 := hW
 obtain ⟨p, q, hA, hV, rfl, hfz, hnd⟩ := hW
 have hgs : gs = [] ∧ q = [] := by
  rw [hsv] at hV
  cases gs with
  | nil => simpa [DataW.TrodVars] using hV
  | cons => simp [DataW.TrodVars] at hV
 obtain ⟨rfl, rfl⟩ := hgs
 simp only [List.append_nil] at hold hfz hnd hW0 hfn
 have hsame : ∀ x ∈ p, W.sameAt W' x := fun x hx => by
  have := hh _ (hold x hx)
  cases x with
  | cell b off => exact AQ this off
  | map b => exact this
 have hA' : ∀ sp : Nat → Bool, (∀ x ∈ p, sp x.block = true) → DataW.TrodAll enc P W' 0 sp true fn.params.toList args.toList ds p := fun sp hsp => by
  have h1 : DataW.TrodAll enc P W' 0 (fun _ => true) true fn.params.toList args.toList ds p := by
   have carry : ∀ {ts : List TypeId} {vs : List Value} {ds : List (DataW H)} {ps : List MemPlace}, DataW.TrodAll enc P W 0 (fun _ => true) true ts vs ds ps → (∀ x ∈ ps, W.sameAt W' x) → DataW.TrodAll enc P W' 0 (fun _ => true) true ts vs ds ps := by
    intro ts
    induction ts with
    | nil => intro vs ds ps h _; cases vs <;> cases ds <;> simp [DataW.TrodAll] at h ⊢; exact h
    | cons t ts ih =>
     intro vs ds ps h hs
     cases vs with
     | nil => simp [DataW.TrodAll] at h
     | cons v vs =>
      cases ds with
      | nil => simp [DataW.TrodAll] at h
      | cons d ds =>
       obtain ⟨a, b, ⟨m, h1⟩, h2, rfl⟩ := h
       exact ⟨a, b, ⟨m, DataW.trod_carry m t _ _ h1 (fun x hx => hs x (List.mem_append_left _ hx))⟩, ih h2 (fun x hx => hs x (List.mem_append_right _ hx)), rfl⟩
   exact carry hA hsame
  exact DataW.TrodAll.respare (kids_rows hl hm) (fun t e ht he => hz t e ht he) hts h1 hsp
 have hres : ∀ (b : Nat) (sp : Nat → Bool) (hd : Bool), DataW.TrodAll enc P W' b sp hd fn.resultTypes.toList ((Value.bool true).resultList fn.resultTypes.size) [.lit (.bool true)] [] := fun b sp hd => by
  rw [hr]
  exact ⟨[], [], ⟨1, by simp [DataW.trod, Value.cells, htb]⟩, rfl, rfl⟩
 refine ⟨ds, [], p, [], p, [], hW0, by rw [List.append_nil, hfn]; exact hres _ _ _, by rw [List.append_nil, hfn]; exact hA' _ (fun x hx => by simpa using hold x hx), by rw [List.append_nil, hfn, hsv]; rfl, ?_, fun _ => ?_⟩
 ·refine ⟨hos, hout, fun i hi => ?_⟩
  rw [hh i hi]
  cases W.heap[i]? with
  | none => trivial
  | some o => cases o <;> first | exact ⟨rfl, rfl, rfl, fun _ _ => rfl⟩ | exact .inr ⟨rfl, rfl⟩ | rfl
 ·refine ⟨fun j t r hj hv => ?_, _, [], p, ⟨p, [], Go.ChangeShapes.trodAll_append (hA' _ (fun _ _ => rfl)) (hres _ _ _), by rw [hsv]; rfl, by simp, ?_, ?_⟩, ?_⟩
  ·rw [hr] at hj hv
   cases j with
   | zero =>
    simp at hj hv
    subst hj
    have : r = .bool true := by simpa [Value.resultList] using hv.symm
    subst this
    simp [Value.okWide, htb, Cell.okWide, Cell.ok]
   | succ j => simp at hj
  ·intro b off hp
   have h1 := hfz b off hp
   have h2 := hh b (hold _ hp)
   simp only [World.frozen?] at h1 ⊢
   rw [h2]; exact h1
  ·exact hnd
  ·intro x hx _
   exact hx
end
end Go.Abs
namespace Go.Abs
open Go
section
variable {H : Type} {enc : TypeId × Value → H}
theorem Oc {H0 : List AB} {X : Tx} {f : FuncId} {fn : Func} {s : ChangeSpec} {CB fresh handsOn again : Bool} {W : World} {base n : Nat} {args : Array Value} {ds gs : List (DataW H)} {before : List MemPlace} {tb : TypeId}
  (hl : laidOutB X.P = true) (hm : mapsRowed X.P = true) (hz : ∀ t e, t < X.P.types.size → X.P.underlying t = some (.slice e) → 0 < X.P.cellsOf e) (hts : fn.params.toList.all (fun t => decide (t < X.P.types.size)) = true)
  (hr : fn.resultTypes = #[tb]) (htb : X.P.underlying tb = some .bool) (hsv : s.vars = []) (hfn : ∀ ds : List (DataW H), fn.params.toList.length = ds.length → s.fn H ds = { results := [.lit (.bool true)], args := ds })
  (hp : fn.params.toList.all (DS X.P n) = true)
  (hval : ∀ (j : Nat) t v, fn.params[j]? = some t → args[j]? = some v → Value.okWide X.P W .any base t v)
  (hW : DataW.Whole enc X.P fn.params.toList s.vars CB W args.toList ds gs before)
  (hw : (DataW.weightsEach X.P (fn.params.toList ++ s.plain.varTypes X.P) (ds ++ gs)).all (· ≤ reachBytes) = true)
  (hR : Rel W (G0 W) H0) (h : ∀ xs : List V, VO X.P n fn.params.toList xs → Ad X.P f xs H0 (one (B true) H0)) :
  Calls X.P f args W fun e W' => ∃ v, e = .returned v ∧ s.post enc X.P fn CB fresh handsOn again W args v W' := by
 obtain ⟨p, q, hA, hV, e, hfz, hnd⟩ := id hW
 have hlen : ∀ {ts : List TypeId} {vs : List Value} {ds : List (DataW H)} {ps : List MemPlace}, DataW.TrodAll enc X.P W 0 (fun _ => true) true ts vs ds ps → ts.length = ds.length := by
  intro ts
  induction ts with
  | nil => intro vs ds ps h; cases vs <;> cases ds <;> simp [DataW.TrodAll] at h ⊢
  | cons t ts ih =>
   intro vs ds ps h
   cases vs with
   | nil => simp [DataW.TrodAll] at h
   | cons v vs =>
    cases ds with
    | nil => simp [DataW.TrodAll] at h
    | cons d ds => obtain ⟨a, b, h1, h2, _⟩ := h; simp [ih h2]
 have hgs : gs = [] := by
  rw [hsv] at hV
  cases gs with
  | nil => rfl
  | cons => simp [DataW.TrodVars] at hV
 subst hgs
 have hws : (DataW.weightsEach X.P fn.params.toList ds).all (· ≤ reachBytes) = true := by
  have key : ∀ (ts ts' : List TypeId) (ds ds' : List (DataW H)), ts.length = ds.length → DataW.weightsEach X.P (ts ++ ts') (ds ++ ds') = DataW.weightsEach X.P ts ds ++ DataW.weightsEach X.P ts' ds' := by
   intro ts
   induction ts with
   | nil => intro ts' ds ds' hl; have : ds = [] := by simpa using hl.symm
            subst this; simp [DataW.weightsEach]
   | cons t ts ih =>
    intro ts' ds ds' hl
    cases ds with
    | nil => simp at hl
    | cons d ds => simp only [List.cons_append, DataW.weightsEach, ih ts' ds ds' (by simpa using hl), List.append_assoc]
  rw [key _ _ _ _ (hlen hA), List.all_append, Bool.and_eq_true] at hw
  exact hw.1
 obtain ⟨xs, a1, a2, a3⟩ := PB (w := W) hp (fun j t v ht hv => hval j t v (by simpa using ht) (by simpa using hv)) hA hws
 have L0 : Am W (G0 W) [] W (G0 W) H0 :=
  {size := Nat.le_refl _, S := fun _ _ h => ⟨h, rfl⟩, Snew := fun _ _ _ _ h => h, len := Nat.zero_le _, rho := fun _ h => (by simp at h), grow := fun _ _ _ h => (by simp at h), vec := fun _ _ _ _ h => (by simp at h), role := fun _ _ => rfl, frame := fun _ _ _ => rfl, os := rfl, out := rfl }
 have hc := (h xs a1).2 W (G0 W) args hR a2 (fun i x v hx hv => (a3 i x v hx hv).mono L0)
 have hc2 : Calls X.P f args W _ := callsIn_wide.1 hc
 refine hc2.mono ?_
 rintro e W' ⟨v, x, H', G', rfl, ⟨rfl, rfl⟩, R', hv, L⟩
 have hvb : v = .bool true := by cases hv with | c _ _ h => cases h with | d _ _ h => cases h; rfl
 subst hvb
 exact ⟨_, rfl, VP hl hm hz (fun t ht => by simpa using List.all_eq_true.1 hts t ht) hr htb hsv (by rw [List.append_nil]; exact hfn ds (hlen hA)) hW L.os L.out (fun b hb => L.frame b hb rfl)⟩
end
end Go.Abs
namespace Go.Abs
open Go
section
variable {P : Program} {tt : Nat → Option TI} {w : World} {G : Gh} {H : List AB}
theorem Mj {t : TypeId} {n : Nat} {cs : List C} {arr : Array Value} (R : Rel w G H) (hc : An w G H cs arr.toList) :
  Aj P (do pure (.slice (some (← newRow t arr)) n n)) w G H (.c (.ms H.length 0 n n)) (H ++ [.cells cs]) := by
 refine ⟨.slice (some ⟨w.heap.size, 0, none⟩) n n, w.alloc (.cells arr t), G.own H.length w.heap.size, by simp [newRow], ?_, R.alloc_cells t hc, Am.alloc_own R _ _⟩
 have := Ap.ms (w := w.alloc (.cells arr t)) (G := G.own H.length w.heap.size) (H := H ++ [.cells cs]) H.length 0 n n (by simp)
 simp only [Gh.own, Ao] at this
 exact .c _ _ this
theorem FT (T : By P tt) {t n e : Nat} {i i' : TI} (ht : tt t = some i) (hd : i.desc = .slice e) (he : tt e = some i') {ps : Array (Nat × Value)} {qs : List (Nat × V)} {cs : List C}
  (R : Rel w G H) (hq : IN w G H qs ps.toList) (hf : C0 (fun k => some (k * i'.size, i'.size)) (zc i'.zero.cs n) qs = some cs) (h0 : 0 < n * i'.size) (hlim : n * i'.size ≤ 2 ^ 24) :
  Aj P (Instr.buildSlice t n ps) w G H (.c (.ms H.length 0 n n)) (H ++ [.cells cs]) := by
 obtain ⟨z, hz, h1, h2, h3⟩ := T.run_zero he
 have hz2 := (BD (w := w) (G := G) (H := H) h2)
 have hzs : z.cells.size = i'.size := by have := hz2.1; simp at this; omega
 have hc0 : An w G H (zc i'.zero.cs n) ((Array.range (n * i'.size)).map (fun i => z.cells[i % z.cells.size]!)).toList := by
  rw [← hzs, BE]
  exact J8 hz2 n
 obtain ⟨arr', h4, h5, _⟩ := D8 hq hc0 hf
 obtain ⟨v, w', G', h6, h7⟩ := Mj (P := P) (t := e) (n := n) R h5
 refine ⟨v, w', G', ?_, h7⟩
 have h0' : ¬ n * i'.size = 0 := by omega
 simp only [Instr.buildSlice, Sem.run_bind, T.run_at ht hd rfl, Result.andThen_ok, T.run_sizeOf he, gt_iff_lt, Nat.not_lt.2 hlim, if_false, h0', Sem.run_ite, hz, Sem.run_pure, h4]
 simpa using h6
end
section
variable {X : Tx} {r : Option Nat} {nb nt : Nat} {s : St} {all : Array Oper} {Q : St → Prop} {o : Oper} {os : List Oper}
theorem Od {t n e : Nat} {i i' : TI} {ps : Array (Nat × Operand)} {cs : List C} (ho : o.op = .buildSlice t n ps) (hg : Ay all s.get o = some true) (ht : X.tt t = some i) (hd : i.desc = .slice e) (he : X.tt e = some i')
  (hf : C0 (fun k => some (k * i'.size, i'.size)) (zc i'.zero.cs n) (ps.toList.map fun p => (p.1, s.ev p.2)) = some cs) (h0 : 0 < n * i'.size) (hlim : n * i'.size ≤ 2 ^ 24)
  (k : aW X r nb nt all os Q (s.put o.dst (.c (.ms s.heap.length 0 n n)) (s.heap ++ [.cells cs]))) : CS (X.cx r nb nt) all (o :: os) Q s := by
 simp only [CS, hg]
 have h1 : AL X.P r o s.heap s.ev fun x H' => x = .c (.ms s.heap.length 0 n n) ∧ H' = s.heap ++ [.cells cs] :=
  AL.of_value (s := fun ρ => Instr.buildSlice t n (ps.map fun (i, x) => (i, ρ x))) (by simp [ho]) (fun ρ => by simp [execOp, ho]) (fun w G a R hE => by
   have hp := NP (E := s.ev) (a := a) (ps := ps) (fun x hx => hE x (by simpa [ho, Op.operands] using hx))
   exact FT X.ok ht hd he R hp hf h0 hlim)
 exact h1.mono fun x H2 ⟨e1, e2⟩ => by subst e1; subst e2; exact aW_sound _ _ k
end
theorem Ad.fzagg {P : Program} {f : FuncId} {args : List V} {H : List AB} {ys : List C} (h : Ad P f args H (fun x H' => ∃ id cs ds xs, x = .agg xs ∧ H'[id]? = some (.cells cs) ∧ DY cs = some ds ∧ xs.length = ys.length ∧ ∀ (i : Nat) (x y : C), xs[i]? = some x → ys[i]? = some y → FzC id ds x y)) : Ad P f args H (fun x _ => x = .agg ys) :=
 ⟨h.1, fun w G vs R hl hr => (h.2 w G vs R hl hr).mono fun _ w' ⟨v, x, H', G', a, ⟨id, cs, ds, xs, e, h1, h2, h3, h4⟩, c, d, e'⟩ => by
  subst e
  obtain ⟨R', L, f⟩ := c.freeze h1 h2
  refine ⟨v, _, _, _, a, rfl, R', ?_, e'.trans L⟩
  cases d with
  | agg _ arr hc =>
   refine .agg _ _ ⟨h3.symm.trans hc.1, fun i y u hy hu => ?_⟩
   have hlt : i < xs.length := h3 ▸ (List.getElem?_eq_some_iff.1 hy).1
   obtain ⟨g1, g2⟩ := hc.2 i _ u (List.getElem?_eq_getElem hlt) hu
   exact ⟨(h4 i _ y (List.getElem?_eq_getElem hlt) hy).rel L f g1, g2⟩⟩
end Go.Abs
