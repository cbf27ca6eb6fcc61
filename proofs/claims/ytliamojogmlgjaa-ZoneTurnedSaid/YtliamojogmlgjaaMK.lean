/- Rounds of a range over a function, told by contracts of the call of yield. -/
import Derived.Test.YtliamojogmlgjaaME
import Derived.Test.YtliamojogmlgjaaMG
set_option linter.unusedSimpArgs false
set_option linter.unusedVariables false
namespace Go.Abs
open Go

/-- What a call of yield does at a heap. -/
def YC (P : Program) (id : Nat) (H : List AB) (x : V) (post : V → List AB → Prop) : Prop :=
  ∀ (ro : Option Nat) (o : Oper) (E : Operand → V) (xo : Operand) (as : Array Operand) (ts : Array TypeId), o.op = .call { callee := .value xo, args := as, argTypes := ts } → E xo = .c (.yd id) → as.toList.map E = [x] → OpAt P ro o H E post

def calleeY (E : Operand → V) (o : Oper) : Option (Nat × List V) := match o.op with
  | .call { callee := .value xo, args := as, argTypes := _ } => match E xo with
    | .c (.yd id) => some (id, as.toList.map E)
    | _ => none
  | _ => none

theorem AWP.post {X : Cx} {c : Code} {Q : Exit → St → Prop} {s : St} (h : AWP X c (fun e t => ∃ t', Ent X t t' ∧ Q e t') s) : AWP X c Q s := fun bs w G a hR => by
  refine wpIn_mono (h bs w G a hR) ?_
  rintro e a' w' ⟨t, G1, ⟨t', he, hq⟩, hR'⟩
  obtain ⟨G2, hR2⟩ := he bs w' G1 a' hR'
  exact ⟨t', G2, hq, hR2⟩

section
variable {X : Tx} {r : Option Nat} {nb nt : Nat} {s : St} {all : Array Oper} {Q : St → Prop} {o : Oper} {os : List Oper}
theorem aops_yc {id : Nat} {x : V} {post : V → List AB → Prop} (hy : YC X.P id s.heap x post) (hg : guardOf all s.get o = some true) (hc : calleeY s.ev o = some (id, [x])) (k : ∀ y H', post y H' → aW X r nb nt all os Q (s.put o.dst y H')) :
    AOps (X.cx r nb nt) all (o :: os) Q s := by
  simp only [AOps, hg]
  unfold calleeY at hc
  split at hc
  · rename_i xo as ts ho
    split at hc
    · rename_i id' hx
      simp only [Option.some.injEq, Prod.mk.injEq] at hc
      obtain ⟨rfl, h2⟩ := hc
      exact (hy r o s.ev xo as ts ho hx h2).mono fun y H' h => aW_sound _ _ (k y H' h)
    · cases hc
  · cases hc
end

theorem yc_of {X : Tx} {id : Nat} {H : List AB} {r : LR} {x : V} {post : V → List AB → Prop} (hm : X.P.follows .mixedOrders = true) (hid : H[id]? = some (.lp r)) (hps : r.ps.size = 1) (hnt : r.ps.toList.all (fun p => decide (p < r.nt)) = true) (hoka : okC r.nt r.assign = true) (hokb : okC r.nt r.body = true)
    (h : ∀ l, go X (some l) H.length r.nt r.assign (thenQ (fun t => ∃ t', busyH id t = some t' ∧ go X (some l) H.length r.nt r.body (fun e u => ∃ u', Ent (X.cx (some l) H.length r.nt) u u' ∧ roundQ id post e u') t') (fun _ _ => False)) { slots := putPs r.ps.toList [x] r.slots, heap := H, marks := [] }) :
    YC X.P id H x post := by
  intro ro o E xo as ts ho hx hv
  have hsz : as.size = r.ps.size := by rw [hps, ← Array.length_toList, ← List.length_map (as := as.toList) E, hv]; rfl
  refine opAt_yield (tt := X.tt) ho hx hid hsz hnt (fun l => ?_)
  rw [hv]
  refine (go_sound (X := X) (r := some l) (nb := H.length) hm r.assign hoka (h l)).mono ?_
  refine thenQ_mono fun t ht => ?_
  obtain ⟨t', h1, h2⟩ := ht
  exact ⟨t', h1, AWP.post (go_sound (X := X) (r := some l) (nb := H.length) hm r.body hokb h2)⟩
/-- A slice in a cell that will grow. -/
theorem ent_own_cell {X : Cx} {s : St} (k i sz : Nat) {cs : List C} {rows : List (List D)} (hk : s.heap[k]? = some (.cells cs)) (hi : cs[i]? = some (.full rows)) :
    Ent X s { slots := s.slots, heap := (s.heap.set k (.cells (cs.set i (.own s.heap.length rows)))) ++ [.grow rows.length sz], marks := s.marks } := fun bs w G a hR => by
  have hkl := (List.getElem?_eq_some_iff.1 hk).1
  cases hR.rel.ab k _ hk with
  | cells _ arr t hb hr hrole hS =>
  obtain ⟨v0, hv0, hc0, ho0⟩ := hr.get hi
  cases hc0 with
  | full _ ad n hn h =>
  have hget : ∀ j, j < s.heap.length → j ≠ k → ((s.heap.set k (.cells (cs.set i (.own s.heap.length rows)))) ++ [AB.grow rows.length sz])[j]? = s.heap[j]? := fun j hj hne => by
    rw [List.getElem?_append_left (by simpa using hj), List.getElem?_set_ne (Ne.symm hne)]
  have hgk : ((s.heap.set k (.cells (cs.set i (.own s.heap.length rows)))) ++ [AB.grow rows.length sz])[k]? = some (.cells (cs.set i (.own s.heap.length rows))) := by
    rw [List.getElem?_append_left (by simpa using hkl)]; simp [hkl]
  have L : Later w G s.heap w { G with g := upd G.g s.heap.length (ad, n) } ((s.heap.set k (.cells (cs.set i (.own s.heap.length rows)))) ++ [.grow rows.length sz]) :=
    { size := Nat.le_refl _
      S := fun b o h => ⟨h, rfl⟩
      Snew := fun b o _ _ h => h
      len := by simp
      rho := fun _ _ => rfl
      grow := fun j m z hj h => by
        by_cases e : j = k
        · subst e; rw [hgk] at h; cases h
        · rw [hget j hj e] at h
          exact ⟨m, h, .inr ⟨rfl, upd_ne _ _ (by omega)⟩⟩
      vec := fun j m z ds hj h => by
        by_cases e : j = k
        · subst e; rw [hgk] at h; cases h
        · rw [hget j hj e] at h
          exact ⟨m, z, ds, h, .inr ⟨rfl, upd_ne _ _ (by omega)⟩⟩
      role := fun _ _ => rfl
      frame := fun _ _ _ => rfl
      os := rfl
      out := rfl }
  have hown : CRel w { G with g := upd G.g s.heap.length (ad, n) } ((s.heap.set k (.cells (cs.set i (.own s.heap.length rows)))) ++ [.grow rows.length sz]) (.own s.heap.length rows) (.slice ad n n) := by
    refine .own _ rows ad n n (by simp) hn h (fun m z hm => ?_)
    rw [List.getElem?_append_right (by simp)] at hm
    simp at hm
    obtain ⟨rfl, rfl⟩ := hm
    exact ⟨Nat.le_refl _, fun _ => upd_same _ _ _⟩
  have R' : Rel w { G with g := upd G.g s.heap.length (ad, n) } ((s.heap.set k (.cells (cs.set i (.own s.heap.length rows)))) ++ [.grow rows.length sz]) :=
    { sex := hR.rel.sex
      roleLt := hR.rel.roleLt
      ab := fun j x hx => by
        by_cases hj : j < s.heap.length
        · by_cases e : j = k
          · subst e
            rw [hgk] at hx
            cases hx
            have hset := (hr.mono L).set (i := i) hown rfl
            have harr : arr.toList.set i (.slice ad n n) = arr.toList := by
              refine List.ext_getElem? fun q => ?_
              by_cases hq : i = q
              · subst hq
                have hlt := (List.getElem?_eq_some_iff.1 hv0).1
                rw [List.getElem?_set_self hlt, hv0]
              · rw [List.getElem?_set_ne hq]
            rw [harr] at hset
            exact .cells _ arr t hb hset hrole hS
          · rw [hget j hj e] at hx
            exact ABRel.mono hR.rel L hj (hR.rel.ab j x hx) (fun _ _ => rfl) (fun _ _ _ h => h) (upd_ne _ _ (by omega))
        · have hlt := (List.getElem?_eq_some_iff.1 hx).1
          simp at hlt
          obtain rfl : j = s.heap.length := by omega
          rw [List.getElem?_append_right (by simp)] at hx
          simp at hx
          subst hx
          refine .grow rows.length sz ad n (upd_same _ _ _) (by omega) (fun x _ hlt => absurd hlt (by omega)) (fun e => ?_)
          subst e
          cases h with
          | emp => rfl }
  exact ⟨{ G with g := upd G.g s.heap.length (ad, n) },
    { rel := R', later := hR.later.trans L, base := hR.base, size := hR.size, slots := fun i => (hR.slots i).mono L, defers := (by obtain ⟨hs, hh, e⟩ := hR.defers; exact ⟨hs, hh.mono L, e⟩), marks := fun i hi => Nat.lt_of_lt_of_le (hR.marks i hi) L.len }⟩

/-- A contract at a heap holds at a longer one. -/
theorem ACall.frame {P : Program} {f : FuncId} {args : List V} {H : List AB} {y : V} (h : ACall P f args H (one y H)) (hH : H.all (AB.low H.length) = true) (ha : args.all (V.low H.length) = true) (hy : y.low H.length = true) (T : List AB) :
    ACall P f args (H ++ T) (one y (H ++ T)) := by
  refine ⟨h.1, fun w G vs R hl hr => ?_⟩
  have R1 : Rel w (G.clean H.length) H := (R.trunc hH).clean
  refine (h.2 w (G.clean H.length) vs R1 hl (fun i x v hx hv => ?_)).mono ?_
  · have h1 := List.all_eq_true.1 ha x (List.mem_of_getElem? hx)
    exact (VRel.trunc (hr i x v hx hv) h1).clean
  · rintro e w' ⟨v, x, H', G2, rfl, ⟨rfl, rfl⟩, R', hv, L⟩
    let G3 : Gh := { S := G2.S, rho := fun i => if i < H'.length then G2.rho i else G.rho i, g := fun i => if i < H'.length then G2.g i else G.g i, role := fun b => if b < w.heap.size then G.role b else G2.role b }
    have rho_lt : ∀ i, i < H'.length → G3.rho i = G2.rho i := fun i hi => if_pos hi
    have g_lt : ∀ i, i < H'.length → G3.g i = G2.g i := fun i hi => if_pos hi
    have hlen : (H' ++ T).length = H'.length + T.length := by simp
    have cr : ∀ (x : C) (u : Value), x.low H'.length = true → CRel w' G2 H' x u → CRel w' G3 (H' ++ T) x u := by
      intro x u hl h
      induction h with
      | any v => exact .any v
      | d x v h => exact .d x v h
      | ptr i off h =>
        have := CRel.ptr (w := w') (G := G3) (H := H' ++ T) i off (by rw [hlen]; omega)
        rwa [rho_lt i h] at this
      | nilp => exact .nilp
      | dp ds b o f hcell hrel => exact .dp ds b o f hcell hrel
      | full rows a n hn h => exact .full rows a n hn h
      | own i rows a m cap hid hn h hg =>
        refine .own i rows a m cap (by rw [hlen]; omega) hn h (fun m' sz hm => ?_)
        rw [List.getElem?_append_left hid] at hm
        rw [g_lt i hid]
        exact hg m' sz hm
      | ms i off len cap h =>
        have := CRel.ms (w := w') (G := G3) (H := H' ++ T) i off len cap (by rw [hlen]; omega)
        rwa [rho_lt i h] at this
      | fn f caps arr hs _ ih =>
        simp only [C.low] at hl
        exact .fn f caps arr hs (fun i x v hx hv => ih i x v hx hv (C.lowL_get hl hx))
      | mv f x v _ ih => exact .mv f x v (ih (by simpa [C.low] using hl))
      | ma f cs arr hs ho _ ih =>
        simp only [C.low] at hl
        exact .ma f cs arr hs ho (fun i x v hx hv => ih i x v hx hv (C.lowL_get hl hx))
      | mp i h =>
        have := CRel.mp (w := w') (G := G3) (H := H' ++ T) i (by rw [hlen]; omega)
        rwa [rho_lt i h] at this
      | yd i h =>
        have := CRel.yd (w := w') (G := G3) (H := H' ++ T) i (by rw [hlen]; omega)
        rwa [rho_lt i h] at this
      | gp g => exact .gp g
      | fs n sz cs b o vs hl' hn hcell _ ih =>
        simp only [C.low] at hl
        exact .fs n sz cs b o vs hl' hn hcell (fun i x v hx hv => ih i x v hx hv (C.lowL_get hl hx))
      | vc i n a hid ha hg =>
        refine .vc i n a (by rw [hlen]; omega) ha (fun m sz cs hm => ?_)
        rw [List.getElem?_append_left hid] at hm
        rw [g_lt i hid]
        exact hg m sz cs hm
      | vs i n a cap hid ha hg =>
        refine .vs i n a cap (by rw [hlen]; omega) ha (fun m sz cs hm => ?_)
        rw [List.getElem?_append_left hid] at hm
        rw [g_lt i hid]
        exact hg m sz cs hm
      | vp i n off a hid hg =>
        refine .vp i n off a (by rw [hlen]; omega) (fun m sz cs hm => ?_)
        rw [List.getElem?_append_left hid] at hm
        rw [g_lt i hid]
        exact hg m sz cs hm
    have vr : ∀ (x : V) (u : Value), x.low H'.length = true → VRel w' G2 H' x u → VRel w' G3 (H' ++ T) x u := by
      intro x u hl h
      induction h with
      | c x v h => exact .c x v (cr x v (by simpa [V.low] using hl) h)
      | agg cs arr h =>
        simp only [V.low] at hl
        exact .agg cs arr ⟨h.1, fun i x v hx hv => ⟨cr x v (C.lowL_get hl hx) (h.2 i x v hx hv).1, (h.2 i x v hx hv).2⟩⟩
      | tup vs arr hs _ ih =>
        simp only [V.low] at hl
        exact .tup vs arr hs (fun i x v hx hv => ih i x v hx hv (V.lowL_get hl hx))
    have hrole : ∀ b k, G2.role b = some k → b < w.heap.size → k < H'.length ∧ G.role b = some k := fun b k hb hlt => by
      have h1 := L.role b hlt
      rw [hb] at h1
      simp only [Gh.clean] at h1
      cases hg : G.role b with
      | none => rw [hg] at h1; cases h1
      | some j =>
        rw [hg] at h1
        simp only at h1
        split at h1
        · cases h1; rename_i hj; exact ⟨hj, rfl⟩
        · cases h1
    have L3 : Later w G (H' ++ T) w' G3 (H' ++ T) :=
      { size := L.size
        S := L.S
        Snew := fun b o hb hr h => L.Snew b o hb (by simp [Gh.clean, hr]) h
        len := Nat.le_refl _
        rho := fun i hi => by
          show (if i < H'.length then G2.rho i else G.rho i) = _
          split
          · rename_i h; exact L.rho i h
          · rfl
        grow := fun i n sz hi hx => by
          refine ⟨n, hx, .inr ⟨rfl, ?_⟩⟩
          show (if i < H'.length then G2.g i else G.g i) = _
          split
          · rename_i h
            rw [List.getElem?_append_left h] at hx
            obtain ⟨m, hm, hc⟩ := L.grow i n sz h hx
            rw [hx] at hm
            cases hm
            rcases hc with hc | ⟨_, hc⟩
            · exact absurd hc (Nat.lt_irrefl _)
            · exact hc
          · rfl
        vec := fun i n sz cs hi hx => by
          refine ⟨n, sz, cs, hx, .inr ⟨rfl, ?_⟩⟩
          show (if i < H'.length then G2.g i else G.g i) = _
          split
          · rename_i h
            rw [List.getElem?_append_left h] at hx
            obtain ⟨m, sz0, cs0, hm, hc⟩ := L.vec i n sz cs h hx
            rw [hx] at hm
            cases hm
            rcases hc with hc | ⟨_, hc⟩
            · exact absurd hc (Nat.lt_irrefl _)
            · exact hc
          · rfl
        role := fun b hb => if_pos hb
        frame := fun b hb hr => L.frame b hb (by simp [Gh.clean, hr])
        os := L.os
        out := L.out }
    refine ⟨v, x, H' ++ T, G3, rfl, ⟨rfl, rfl⟩, ⟨R'.sex, fun b k hb => ?_, fun i z hz => ?_⟩, vr x v hy hv, L3⟩
    · have hb' : (if b < w.heap.size then G.role b else G2.role b) = some k := hb
      by_cases hlt : b < w.heap.size
      · exact Nat.lt_of_lt_of_le hlt L.size
      · rw [if_neg hlt] at hb'; exact R'.roleLt b k hb'
    · by_cases hi : i < H'.length
      · rw [List.getElem?_append_left hi] at hz
        have hab := R'.ab i z hz
        refine hab.ren (q := H'.length) (n := H'.length) (fun x u _ hl h => cr x u hl h) (fun x u _ hl h => vr x u hl h) (AB.low_free (Nat.le_refl _) hab.lows) hab.lows i (rho_lt i hi) (g_lt i hi) (fun b hb => ?_) (fun _ _ h => h) (fun j _ hj => ⟨rho_lt j hj, by rw [hlen]; omega⟩)
        show (if b < w.heap.size then G.role b else G2.role b) = some i
        split
        · rename_i hlt; exact (hrole b i hb hlt).2
        · exact hb
      · refine (R.ab i z hz).mono R L3 (List.getElem?_eq_some_iff.1 hz).1 (fun b hb => L.frame b (R.roleLt b i hb) ?_) (fun b o hb hs => L.Snew b o (R.roleLt b i hb) ?_ hs) ?_
        · simp [Gh.clean, hb, hi]
        · simp [Gh.clean, hb, hi]
        · show (if i < H'.length then G2.g i else G.g i) = _
          rw [if_neg hi]
end Go.Abs
/- The walk with some drawn regions left to the prover (those whose numbers are in a given list). -/
namespace Go.Abs
open Go
/-- Its regions are as the walk wants them; of those in the list nothing is asked. -/
def okZ (bad : List Nat) (nt : Nat) : Code → Bool
  | .seq x y => okZ bad nt x && okZ bad nt y
  | .block _ c => okZ bad nt c
  | .loop c => okZ bad nt c
  | .scope c => okZ bad nt c
  | .cond _ x y => okZ bad nt x && okZ bad nt y
  | .region _ ops false => dstsB nt ops.toList
  | .region id ops true => bad.contains id || (dstsB nt ops.toList && conflB (loudL ops.toList) ops)
  | .rangeFunc _ _ a b => okZ bad nt a && okZ bad nt b
  | _ => true
mutual
def goZ (bad : List Nat) (X : Tx) (r : Option Nat) (nb nt : Nat) (c : Code) (Q : Exit → St → Prop) (s : St) : Prop :=
  match c with
  | .skip => Q .normal s
  | .label _ => Q .normal s
  | .exit id => Q (.exit id) s
  | .ret => Q .ret s
  | .seq x y => goZ bad X r nb nt x (thenQ (contZ bad X r nb nt y Q) Q) s
  | .block id c => goZ bad X r nb nt c (blockQ id Q) s
  | .scope c => goZ bad X r nb nt c (noGoto Q) s
  | .cond c x y => match s.ev c with
    | .c (.d (.bool t)) => condP t (armZ bad X r nb nt x Q s) (armZ bad X r nb nt y Q s)
    | _ => False
  | .region _ ops false => aW X r nb nt ops ops.toList (Q .normal) s
  | .region id ops true => match bad.contains id with
    | true => AWP (X.cx r nb nt) (.region id ops true) Q s
    | false => dW X r nb nt ops (loudL ops.toList) 0 ops.toList (Q .normal) s
  | c => AWP (X.cx r nb nt) c Q s
def contZ (bad : List Nat) (X : Tx) (r : Option Nat) (nb nt : Nat) (c : Code) (Q : Exit → St → Prop) (s : St) : Prop := goZ bad X r nb nt c Q s
def armZ (bad : List Nat) (X : Tx) (r : Option Nat) (nb nt : Nat) (c : Code) (Q : Exit → St → Prop) (s : St) : Prop := goZ bad X r nb nt c Q s
end
theorem contZ_at (bad : List Nat) (X : Tx) (r : Option Nat) (nb nt : Nat) (c : Code) (Q : Exit → St → Prop) (s : St) : contZ bad X r nb nt c Q s = goZ bad X r nb nt c Q s := by rw [contZ]
theorem armZ_at (bad : List Nat) (X : Tx) (r : Option Nat) (nb nt : Nat) (c : Code) (Q : Exit → St → Prop) (s : St) : armZ bad X r nb nt c Q s = goZ bad X r nb nt c Q s := by rw [armZ]
theorem goZ_sound {bad : List Nat} {X : Tx} {r : Option Nat} {nb nt : Nat} (hm : X.P.follows .mixedOrders = true) (c : Code) : okZ bad nt c = true → ∀ {Q : Exit → St → Prop} {s : St}, goZ bad X r nb nt c Q s → AWP (X.cx r nb nt) c Q s := by
  induction c with
  | skip => intro _ Q s h; rw [goZ] at h; exact awp_skip h
  | label l => intro _ Q s h; rw [goZ] at h; exact awp_label h
  | exit id => intro _ Q s h; rw [goZ] at h; exact awp_exit h
  | ret => intro _ Q s h; rw [goZ] at h; exact awp_ret h
  | seq x y ihx ihy =>
    intro hok Q s h
    simp only [okZ, Bool.and_eq_true] at hok
    rw [goZ] at h
    exact awp_seq ((ihx hok.1 h).mono (thenQ_mono fun s h => ihy hok.2 (by rw [contZ_at] at h; exact h)))
  | block id c ih => intro hok Q s h; rw [goZ] at h; exact awp_block (ih hok h)
  | scope c ih => intro hok Q s h; rw [goZ] at h; exact awp_scope (ih hok h)
  | cond c x y ihx ihy =>
    intro hok Q s h
    simp only [okZ, Bool.and_eq_true] at hok
    rw [goZ] at h
    split at h
    · rename_i t hc
      rw [condP, armZ_at, armZ_at] at h
      exact awp_cond hc (fun e => ihx hok.1 (h.1 e)) (fun e => ihy hok.2 (h.2 e))
    · exact h.elim
  | region id ops d =>
    intro hok Q s h
    cases d with
    | false => rw [goZ] at h; exact awp_region (X := X.cx r nb nt) hok (aW_sound _ _ h)
    | true =>
      rw [goZ] at h
      split at h
      · exact h
      · rename_i hb
        simp only [okZ, hb, Bool.false_or, Bool.and_eq_true] at hok
        exact awp_region_drawn (X := X.cx r nb nt) (loudL ops.toList) hm hok.1 hok.2 (dW_sound _ _ _ (fun j o ho hlo => by rw [Nat.zero_add, loudL_bit _ j o ho]; exact hlo) h)
  | _ => intro _ Q s h; unfold goZ at h; exact h
theorem acall_ofZ {bad : List Nat} {X : Tx} {f : FuncId} {fn : Func} {c : Code} {args : List V} {H : List AB} {nt : Nat} {rs : List ResultVar} {post : V → List AB → Prop} (hf : X.P.funcs[f]? = some fn) (hb : fn.body = some c) (hn0 : notNum fn = true)
    (hnt : args.length + (fn.ntmps - args.length) = nt) (hrs : fn.results.toList = rs) (hm : X.P.follows .mixedOrders = true) (hok : okZ bad nt c = true)
    (h : goZ bad X none H.length nt c (retG X rs post) { slots := argS 0 args, heap := H, marks := [] }) : ACall X.P f args H post := by
  subst hrs
  exact acall_of_awp (X := X) hf hb hn0 hnt ((goZ_sound hm c hok h).mono retG_sound)
theorem pure_wkZ {bad : List Nat} {X : Tx} {f : FuncId} {fn : Func} {c : Code} {args : List V} {r : V} {nt : Nat} {rs : List ResultVar} (hf : X.P.funcs[f]? = some fn) (hb : fn.body = some c) (hn0 : notNum fn = true)
    (hnt : args.length + (fn.ntmps - args.length) = nt) (hrs : fn.results.toList = rs) (hm : X.P.follows .mixedOrders = true) (hok : okZ bad nt c = true) (ha : args.all (V.low 0) = true) (hr : r.low 0 = true)
    (h : (∀ x ∈ args, FitV x) → goZ bad X none 0 nt c (retG X rs (fun x _ => WkV x r)) { slots := argS 0 args, heap := [], marks := [] }) : Pure X.P f args r :=
  ⟨ACall.wkpost (ACall.fit (callFunc_runs hf hb hn0) (fun hfit => acall_ofZ (bad := bad) (X := X) hf hb hn0 hnt hrs hm hok (h hfit))), ha, hr⟩
theorem goZ_t {bad : List Nat} {X : Tx} {r : Option Nat} {nb nt : Nat} {c : Code} {Q : Exit → St → Prop} {s : St} (b : Prop) : condP true (armZ bad X r nb nt c Q s) b = goZ bad X r nb nt c Q s := by rw [condP_t, armZ_at]
theorem goZ_f {bad : List Nat} {X : Tx} {r : Option Nat} {nb nt : Nat} {c : Code} {Q : Exit → St → Prop} {s : St} (a : Prop) : condP false a (armZ bad X r nb nt c Q s) = goZ bad X r nb nt c Q s := by rw [condP_f, armZ_at]
theorem goZ_if {bad : List Nat} {X : Tx} {r : Option Nat} {nb nt : Nat} {c c' : Code} {Q : Exit → St → Prop} {s : St} {t : Bool} (h1 : t = true → goZ bad X r nb nt c Q s) (h2 : t = false → goZ bad X r nb nt c' Q s) : condP t (armZ bad X r nb nt c Q s) (armZ bad X r nb nt c' Q s) :=
  ⟨fun h => by rw [armZ_at]; exact h1 h, fun h => by rw [armZ_at]; exact h2 h⟩
theorem yc_ofZ {bad : List Nat} {X : Tx} {id : Nat} {H : List AB} {r : LR} {x : V} {post : V → List AB → Prop} (hm : X.P.follows .mixedOrders = true) (hid : H[id]? = some (.lp r)) (hps : r.ps.size = 1) (hnt : r.ps.toList.all (fun p => decide (p < r.nt)) = true) (hoka : okZ bad r.nt r.assign = true) (hokb : okZ bad r.nt r.body = true)
    (h : ∀ l, goZ bad X (some l) H.length r.nt r.assign (thenQ (fun t => ∃ t', busyH id t = some t' ∧ goZ bad X (some l) H.length r.nt r.body (fun e u => ∃ u', Ent (X.cx (some l) H.length r.nt) u u' ∧ roundQ id post e u') t') (fun _ _ => False)) { slots := putPs r.ps.toList [x] r.slots, heap := H, marks := [] }) :
    YC X.P id H x post := by
  intro ro o E xo as ts ho hx hv
  have hsz : as.size = r.ps.size := by rw [hps, ← Array.length_toList, ← List.length_map (as := as.toList) E, hv]; rfl
  refine opAt_yield (tt := X.tt) ho hx hid hsz hnt (fun l => ?_)
  rw [hv]
  refine (goZ_sound (X := X) (r := some l) (nb := H.length) hm r.assign hoka (h l)).mono ?_
  refine thenQ_mono fun t ht => ?_
  obtain ⟨t', h1, h2⟩ := ht
  exact ⟨t', h1, AWP.post (goZ_sound (X := X) (r := some l) (nb := H.length) hm r.body hokb h2)⟩
/-- A region left by the walk, run by the executor. -/
theorem awp_regX {X : Tx} {r : Option Nat} {nb nt id : Nat} {ops : Array Oper} {Q : Exit → St → Prop} {s s' : St} (n : Nat) (hm : X.P.follows .mixedOrders = true)
    (h : xC X [] [] n true nt [] (.region id ops true) s = some (.normal, s')) (hok : okX nt (.region id ops true) = true) (hq : Q .normal s') : AWP (X.cx r nb nt) (.region id ops true) Q s :=
  ((xall (L := []) (KT := []) hm rfl n).1 _ s _ s' true r nb nt [] h hok (fun e => by cases e)).mono (fun e t ⟨e1, e2⟩ => by subst e1; subst e2; exact hq)
/-- The same, for two values read and two stores. -/
theorem awp_regS {X : Tx} {r : Option Nat} {nb nt id : Nat} {ops : Array Oper} {Q : Exit → St → Prop} {s : St} (n d1 : Nat) (v : V) (d2 : Nat) (w : V) (b1 : Nat) (c1 : List C) (b2 : Nat) (c2 : List C) (hm : X.P.follows .mixedOrders = true)
    (h : xC X [] [] n true nt [] (.region id ops true) s = some (.normal, { slots := setS (setS s.slots d1 v) d2 w, heap := (s.heap.set b1 (.cells c1)).set b2 (.cells c2), marks := s.marks })) (hok : okX nt (.region id ops true) = true)
    (hq : Q .normal { slots := setS (setS s.slots d1 v) d2 w, heap := (s.heap.set b1 (.cells c1)).set b2 (.cells c2), marks := s.marks }) : AWP (X.cx r nb nt) (.region id ops true) Q s :=
  awp_regX n hm h hok hq
/-- The same, with a value besides. -/
theorem awp_regS3 {X : Tx} {r : Option Nat} {nb nt id : Nat} {ops : Array Oper} {Q : Exit → St → Prop} {s : St} (n d1 : Nat) (v : V) (d2 : Nat) (w : V) (d3 : Nat) (y : V) (b1 : Nat) (c1 : List C) (b2 : Nat) (c2 : List C) (hm : X.P.follows .mixedOrders = true)
    (h : xC X [] [] n true nt [] (.region id ops true) s = some (.normal, { slots := setS (setS (setS s.slots d1 v) d2 w) d3 y, heap := (s.heap.set b1 (.cells c1)).set b2 (.cells c2), marks := s.marks })) (hok : okX nt (.region id ops true) = true)
    (hq : Q .normal { slots := setS (setS (setS s.slots d1 v) d2 w) d3 y, heap := (s.heap.set b1 (.cells c1)).set b2 (.cells c2), marks := s.marks }) : AWP (X.cx r nb nt) (.region id ops true) Q s :=
  awp_regX n hm h hok hq
end Go.Abs
/- The walk whose listed drawn regions are taken by the rule of windows (stores that commute, several new blocks). -/
namespace Go.Abs
open Go
/-- Left to the prover: a call. -/
def dS (X : Tx) (r : Option Nat) (nb nt : Nat) (m3 : Bool) (n0 N0 : Nat) (all : Array Oper) (k _hc : Nat) (os : List Oper) (acc : List Note) (Q : St → Prop) (s : St) : Prop :=
  DOps2 (X.cx r nb nt) m3 n0 N0 all k os acc (fun acc t => pairsOk m3 all acc = true ∧ Q t) s
mutual
def dE (X : Tx) (r : Option Nat) (nb nt : Nat) (m3 : Bool) (n0 N0 : Nat) (all : Array Oper) (k hc : Nat) (os : List Oper) (acc : List Note) (Q : St → Prop) (s : St) : Prop :=
  match os with
  | [] => pairsOk m3 all acc = true ∧ Q s
  | o :: os => match guardOf all s.get o with
    | some g => condP g (eRun X r nb nt m3 n0 N0 all k hc (o :: os) acc Q s) (eArm X r nb nt m3 n0 N0 all (k + 1) hc os (addN m3 n0 k (.tup []) .no .none acc) Q (s.put o.dst (.tup []) s.heap))
    | none => dS X r nb nt m3 n0 N0 all k hc (o :: os) acc Q s
  termination_by (os.length, 1)
def eRun (X : Tx) (r : Option Nat) (nb nt : Nat) (m3 : Bool) (n0 N0 : Nat) (all : Array Oper) (k hc : Nat) (os : List Oper) (acc : List Note) (Q : St → Prop) (s : St) : Prop :=
  match os with
  | [] => pairsOk m3 all acc = true ∧ Q s
  | o :: os => match m3 && makes s.ev o.op with
    | true => match mkOf X s.ev o.op with
      | some (mk, b) => match s.heap[hc]? with
        | some .gone => (n0 ≤ hc ∧ b.newB hc N0 = true) ∧ dE X r nb nt m3 n0 N0 all (k + 1) (hc + 1) os (addN m3 n0 k (.c (mk.at hc)) (.put hc b) (.blk hc) acc) Q (s.put o.dst (.c (mk.at hc)) (s.heap.set hc b))
        | _ => dS X r nb nt m3 n0 N0 all k hc (o :: os) acc Q s
      | none => dS X r nb nt m3 n0 N0 all k hc (o :: os) acc Q s
    | false => match op1 X s.heap s.ev o.op with
      | some (c, x, H') => c = true ∧ dE X r nb nt m3 n0 N0 all (k + 1) hc os (addN m3 n0 k x (effOf s.ev o.op H') (footOf X s.ev o.op) acc) Q (s.put o.dst x H')
      | none => dS X r nb nt m3 n0 N0 all k hc (o :: os) acc Q s
  termination_by (os.length, 0)
def eArm (X : Tx) (r : Option Nat) (nb nt : Nat) (m3 : Bool) (n0 N0 : Nat) (all : Array Oper) (k hc : Nat) (os : List Oper) (acc : List Note) (Q : St → Prop) (s : St) : Prop := dE X r nb nt m3 n0 N0 all k hc os acc Q s
  termination_by (os.length, 2)
end
section
variable {X : Tx} {r : Option Nat} {nb nt : Nat} {m3 : Bool} {n0 N0 : Nat} {all : Array Oper} {k hc : Nat} {os : List Oper} {o : Oper} {acc : List Note} {Q : St → Prop} {s : St}
theorem eArm_at : eArm X r nb nt m3 n0 N0 all k hc os acc Q s = dE X r nb nt m3 n0 N0 all k hc os acc Q s := by rw [eArm]
theorem dE_nil : dE X r nb nt m3 n0 N0 all k hc [] acc Q s = (pairsOk m3 all acc = true ∧ Q s) := by rw [dE]
theorem dE_cons : dE X r nb nt m3 n0 N0 all k hc (o :: os) acc Q s = (match guardOf all s.get o with
    | some g => condP g (eRun X r nb nt m3 n0 N0 all k hc (o :: os) acc Q s) (eArm X r nb nt m3 n0 N0 all (k + 1) hc os (addN m3 n0 k (.tup []) .no .none acc) Q (s.put o.dst (.tup []) s.heap))
    | none => dS X r nb nt m3 n0 N0 all k hc (o :: os) acc Q s) := by rw [dE]
theorem eRun_cons : eRun X r nb nt m3 n0 N0 all k hc (o :: os) acc Q s = (match m3 && makes s.ev o.op with
    | true => match mkOf X s.ev o.op with
      | some (mk, b) => match s.heap[hc]? with
        | some .gone => (n0 ≤ hc ∧ b.newB hc N0 = true) ∧ dE X r nb nt m3 n0 N0 all (k + 1) (hc + 1) os (addN m3 n0 k (.c (mk.at hc)) (.put hc b) (.blk hc) acc) Q (s.put o.dst (.c (mk.at hc)) (s.heap.set hc b))
        | _ => dS X r nb nt m3 n0 N0 all k hc (o :: os) acc Q s
      | none => dS X r nb nt m3 n0 N0 all k hc (o :: os) acc Q s
    | false => match op1 X s.heap s.ev o.op with
      | some (c, x, H') => c = true ∧ dE X r nb nt m3 n0 N0 all (k + 1) hc os (addN m3 n0 k x (effOf s.ev o.op H') (footOf X s.ev o.op) acc) Q (s.put o.dst x H')
      | none => dS X r nb nt m3 n0 N0 all k hc (o :: os) acc Q s) := by rw [eRun]
theorem de_t (b : Prop) : condP true (eRun X r nb nt m3 n0 N0 all k hc (o :: os) acc Q s) b = (match m3 && makes s.ev o.op with
    | true => match mkOf X s.ev o.op with
      | some (mk, b) => match s.heap[hc]? with
        | some .gone => (n0 ≤ hc ∧ b.newB hc N0 = true) ∧ dE X r nb nt m3 n0 N0 all (k + 1) (hc + 1) os (addN m3 n0 k (.c (mk.at hc)) (.put hc b) (.blk hc) acc) Q (s.put o.dst (.c (mk.at hc)) (s.heap.set hc b))
        | _ => dS X r nb nt m3 n0 N0 all k hc (o :: os) acc Q s
      | none => dS X r nb nt m3 n0 N0 all k hc (o :: os) acc Q s
    | false => match op1 X s.heap s.ev o.op with
      | some (c, x, H') => c = true ∧ dE X r nb nt m3 n0 N0 all (k + 1) hc os (addN m3 n0 k x (effOf s.ev o.op H') (footOf X s.ev o.op) acc) Q (s.put o.dst x H')
      | none => dS X r nb nt m3 n0 N0 all k hc (o :: os) acc Q s) := by rw [condP_t, eRun_cons]
theorem de_f (a : Prop) : condP false a (eArm X r nb nt m3 n0 N0 all k hc os acc Q s) = dE X r nb nt m3 n0 N0 all k hc os acc Q s := by rw [condP_f, eArm_at]
theorem dE_sound : ∀ (os : List Oper) (k hc : Nat) (acc : List Note) (s : St), dE X r nb nt m3 n0 N0 all k hc os acc Q s → dS X r nb nt m3 n0 N0 all k hc os acc Q s
  | [], k, hc, acc, s, h => by rw [dE_nil] at h; exact h
  | o :: os, k, hc, acc, s, h => by
    rw [dE_cons] at h
    split at h
    · rename_i g hg
      cases g with
      | false =>
        rw [de_f] at h
        exact ⟨false, .tup [], .no, .none, hg, by simp, kindP_no _ _, dE_sound os _ hc _ _ h⟩
      | true =>
        rw [de_t] at h
        split at h
        · rename_i hmk
          simp only [Bool.and_eq_true] at hmk
          split at h
          · rename_i mk b hm1
            split at h
            · rename_i hgone
              obtain ⟨⟨hc0, hc1⟩, h⟩ := h
              obtain ⟨g1, g2⟩ := AB.newB_spec hc1
              obtain ⟨f1', f2⟩ := mkOf_spec hm1
              refine ⟨true, _, .put hc b, .blk hc, hg, ?_, kindP_mk hmk.1 f1', dE_sound os _ _ _ _ h⟩
              simp only [if_true]
              exact ⟨mk, b, rfl, rfl, hgone, rfl, hc0, g1, g2, fun H2 _ => op1_sound _ (f2 H2)⟩
            · exact h
          · exact h
        · rename_i hmk
          split at h
          · rename_i c x H' hop
            obtain ⟨hc1, h⟩ := h
            subst hc1
            obtain ⟨f1, f2⟩ := op1_foot hop
            refine ⟨true, x, effOf s.ev o.op H', footOf X s.ev o.op, hg, ?_, kindP_of m3 (fun h3 => makes_not (by rw [h3] at hmk; simpa using hmk)) hop, ?_⟩
            · simp only [if_true]
              unfold StepP
              rw [effOf_hole]
              exact fun H2 hs => op1_sound _ (f1 H2 hs)
            · rw [f2]; exact dE_sound os _ hc _ _ h
          · exact h
    · exact h
theorem de_pure {g : FuncId} {args args' : List V} {y : V} (h : Pure X.P g args' y) (hg : guardOf all s.get o = some true) (hcl : calleeOf s.ev o = some (g, args)) (hw : WkVs args args')
    (n : dE X r nb nt m3 n0 N0 all (k + 1) hc os (addN m3 n0 k y .no .none acc) Q (s.put o.dst y s.heap)) : dS X r nb nt m3 n0 N0 all k hc (o :: os) acc Q s :=
  ⟨true, y, .no, .none, hg, by simp only [if_true]; exact fun H2 _ => opAt_of_callee hcl ((h.at _).weak hw), kindP_no _ _, dE_sound os _ hc _ _ n⟩
theorem callee_kind {E : Operand → V} {o : Oper} {p : FuncId × List V} (h : calleeOf E o = some p) (m3 : Bool) (w : Foot) : kindP m3 o.op .no w := by
  have hq : quietOp o.op = false := by
    unfold calleeOf at h
    split at h
    · rename_i ho; rw [ho]; rfl
    · cases h
  exact ⟨fun e => (by rw [hq] at e; cases e), fun _ => rfl, fun _ => .inl rfl, fun _ => rfl⟩
/-- A call that reads the heap: told at this very heap; whatever changes it must be ordered beside the call. -/
theorem de_at {g : FuncId} {args args' : List V} {y : V} (h : ACall X.P g args' s.heap (one y s.heap)) (hg : guardOf all s.get o = some true) (hcl : calleeOf s.ev o = some (g, args)) (hw : WkVs args args')
    (n : dE X r nb nt m3 n0 N0 all (k + 1) hc os (addN m3 n0 k y .no .all acc) Q (s.put o.dst y s.heap)) : dS X r nb nt m3 n0 N0 all k hc (o :: os) acc Q s :=
  ⟨true, y, .no, .all, hg, by
    simp only [if_true]
    intro H2 hs
    have hs : H2 = s.heap := hs
    subst hs
    exact opAt_of_callee hcl (h.weak hw), callee_kind hcl _ _, dE_sound os _ hc _ _ n⟩
end

section
variable {X : Tx} {r : Option Nat} {nb nt : Nat} {m3 : Bool} {n0 N0 : Nat} {all : Array Oper} {k hc : Nat} {os : List Oper} {o : Oper} {acc : List Note} {Q : St → Prop} {s : St}
/-- A call that makes one block. -/
theorem de_make {g : FuncId} {args args' : List V} {mk : MkK} {b : AB} (h : ∀ H, ACall X.P g args' H (one (.c (mk.at H.length)) (H ++ [b]))) (hg : guardOf all s.get o = some true) (hcl : calleeOf s.ev o = some (g, args)) (hw : WkVs args args') (hm3 : m3 = true) (hco : callOp o.op = true)
    (hgone : s.heap[hc]? = some .gone) (hc0 : n0 ≤ hc) (hb : b.newB hc N0 = true)
    (n : dE X r nb nt m3 n0 N0 all (k + 1) (hc + 1) os (addN m3 n0 k (.c (mk.at hc)) (.put hc b) (.blk hc) acc) Q (s.put o.dst (.c (mk.at hc)) (s.heap.set hc b))) : dS X r nb nt m3 n0 N0 all k hc (o :: os) acc Q s := by
  obtain ⟨g1, g2⟩ := AB.newB_spec hb
  refine ⟨true, _, .put hc b, .blk hc, hg, ?_, kindP_call hm3 hco, dE_sound os _ _ _ _ n⟩
  simp only [if_true]
  exact ⟨mk, b, rfl, rfl, hgone, rfl, hc0, g1, g2, fun H2 _ => opAt_of_callee hcl ((h H2).weak hw)⟩
end
/-! ### What is not read any more is dropped -/
def lookK : List (Nat × List Nat) → Nat → Option (List Nat)
  | [], _ => none
  | (i, l) :: r, j => if i = j then some l else lookK r j
def trimL (sl : List (Nat × V)) : Option (List Nat) → List (Nat × V)
  | some l => l.map fun j => (j, getS sl j)
  | none => sl
def trimK (kp : List (Nat × List Nat)) (id : Nat) (t : St) : St := { slots := trimL t.slots (lookK kp id), heap := t.heap, marks := t.marks }
theorem getS_keep (sl : List (Nat × V)) (i : Nat) : ∀ l : List Nat, getS (l.map fun j => (j, getS sl j)) i = getS sl i ∨ getS (l.map fun j => (j, getS sl j)) i = .c .any
  | [] => .inr rfl
  | j :: l => by
    simp only [List.map_cons, getS]
    by_cases h : j = i
    · subst h; simp
    · rw [if_neg h]; exact getS_keep sl i l
theorem ent_trim {X : Cx} (kp : List (Nat × List Nat)) (id : Nat) (t : St) : Ent X t (trimK kp id t) := fun bs w G a hR => by
  refine ⟨G, { rel := hR.rel, later := hR.later, base := hR.base, size := hR.size, slots := fun i => ?_, defers := hR.defers, marks := hR.marks }⟩
  show VRel w G t.heap (getS (trimL t.slots (lookK kp id)) i) _
  cases lookK kp id with
  | none => exact hR.slots i
  | some l =>
    rcases getS_keep t.slots i l with h | h
    · simp only [trimL, h]; exact hR.slots i
    · simp only [trimL, h]; exact .c _ _ (.any _)
/-- Left to the prover: the state told otherwise. -/
def StopP (X : Cx) (Q : St → Prop) (t : St) : Prop := ∃ t', Ent X t t' ∧ Q t'
theorem stop_mk {X : Cx} {Q : St → Prop} {t : St} (t' : St) (h : Ent X t t') (k : Q t') : StopP X Q t := ⟨t', h, k⟩
/-- Behind the regions whose number and 10000 is in the list the walk stops. -/
def stopQ (bad : List Nat) (X : Cx) (id : Nat) (Q : St → Prop) (t : St) : Prop := match bad.contains (id + 10000) with
  | true => StopP X Q t
  | false => Q t
theorem stop_ent {bad : List Nat} {X : Cx} {id : Nat} {Q : St → Prop} {t : St} (h : stopQ bad X id Q t) : ∃ t', Ent X t t' ∧ Q t' := by
  unfold stopQ at h
  split at h
  · exact h
  · exact ⟨t, Ent.refl, h⟩
theorem post_trim {X : Cx} {c : Code} {Q : Exit → St → Prop} {s : St} {bad : List Nat} {kp : List (Nat × List Nat)} {id : Nat} (h : AWP X c (fun e t => stopQ bad X id (Q e) (trimK kp id t)) s) : AWP X c Q s :=
  AWP.post (h.mono fun e t ht => by
    obtain ⟨t', h1, h2⟩ := stop_ent ht
    exact ⟨t', (ent_trim kp id t).trans h1, h2⟩)

/-- Those that write, and the calls of functions that a slot holds. -/
def loudL2 : List Oper → Nat
  | [] => 0
  | o :: os => 2 * loudL2 os + (if loudOp o.op || (match o.op with | .call { callee := .value (.tmp _), args := _, argTypes := _ } => true | _ => false) then 1 else 0)
theorem loudL2_bit : ∀ (os : List Oper) (k : Nat) (o : Oper), os[k]? = some o → loudOp o.op = true → (loudL2 os).testBit k = true
  | [], k, o, h, _ => by simp at h
  | o' :: os, 0, o, h, hl => by
    simp at h; subst h
    rw [loudL2, hl, Bool.true_or, if_pos rfl, Nat.testBit_zero]
    simp
  | o' :: os, k + 1, o, h, hl => by
    have ih := loudL2_bit os k o (by simpa using h) hl
    rw [loudL2, Nat.testBit_succ]
    have e : ∀ (n : Nat) (b : Prop) [Decidable b], (2 * n + (if b then 1 else 0)) / 2 = n := fun n b _ => by split <;> omega
    rw [e]; exact ih
def valOp : Op → Bool
  | .call { callee := .value (.tmp _), args := _, argTypes := _ } => true
  | _ => false
/-- Those that write, and the last call of a function that a slot holds (a region's number and 50000). -/
def loudL3 : List Oper → Nat
  | [] => 0
  | o :: os => 2 * loudL3 os + (if loudOp o.op || (valOp o.op && os.all fun p => !valOp p.op) then 1 else 0)
theorem loudL3_bit : ∀ (os : List Oper) (k : Nat) (o : Oper), os[k]? = some o → loudOp o.op = true → (loudL3 os).testBit k = true
  | [], k, o, h, _ => by simp at h
  | o' :: os, 0, o, h, hl => by
    simp at h; subst h
    rw [loudL3, hl, Bool.true_or, if_pos rfl, Nat.testBit_zero]
    simp
  | o' :: os, k + 1, o, h, hl => by
    have ih := loudL3_bit os k o (by simpa using h) hl
    rw [loudL3, Nat.testBit_succ]
    have e : ∀ (n : Nat) (b : Prop) [Decidable b], (2 * n + (if b then 1 else 0)) / 2 = n := fun n b _ => by split <;> omega
    rw [e]; exact ih
/-- In the regions whose number and 20000 is in the list the calls of such functions count as writing. -/
def loudX (bad : List Nat) (id : Nat) (os : List Oper) : Nat := match bad.contains (id + 20000) with
  | true => loudL2 os
  | false => match bad.contains (id + 50000) with
    | true => loudL3 os
    | false => loudL os
theorem loudX_bit {bad : List Nat} {id : Nat} (os : List Oper) (k : Nat) (o : Oper) (h : os[k]? = some o) (hl : loudOp o.op = true) : (loudX bad id os).testBit k = true := by
  unfold loudX
  split
  · exact loudL2_bit os k o h hl
  · split
    · exact loudL3_bit os k o h hl
    · rw [loudL_bit os k o h]; exact hl

/-- In the regions whose number and 30000 is in the list one call makes a block. -/
def cntX (bad : List Nat) (id : Nat) (os : List Oper) : Nat := match bad.contains (id + 30000) with
  | true => countMk os + 1
  | false => countMk os
/-- Its regions are as the walk wants them; of those in the list another thing is asked. -/
def okE (bad : List Nat) (nt : Nat) : Code → Bool
  | .seq x y => okE bad nt x && okE bad nt y
  | .block _ c => okE bad nt c
  | .loop c => okE bad nt c
  | .scope c => okE bad nt c
  | .cond _ x y => okE bad nt x && okE bad nt y
  | .region _ ops false => dstsB nt ops.toList
  | .region id ops true => dstsB nt ops.toList && (if bad.contains id then conflB2 (m3of ops) ops else conflB (loudX bad id ops.toList) ops)
  | .rangeFunc _ _ a b => okE bad nt a && okE bad nt b
  | _ => true
mutual
def goE (bad : List Nat) (kp : List (Nat × List Nat)) (X : Tx) (r : Option Nat) (nb nt : Nat) (c : Code) (Q : Exit → St → Prop) (s : St) : Prop :=
  match c with
  | .skip => Q .normal s
  | .label _ => Q .normal s
  | .exit id => Q (.exit id) s
  | .ret => Q .ret s
  | .seq x y => goE bad kp X r nb nt x (thenQ (contE bad kp X r nb nt y Q) Q) s
  | .block id c => goE bad kp X r nb nt c (blockQ id Q) s
  | .scope c => goE bad kp X r nb nt c (noGoto Q) s
  | .cond c x y => match s.ev c with
    | .c (.d (.bool t)) => condP t (armE bad kp X r nb nt x Q s) (armE bad kp X r nb nt y Q s)
    | _ => False
  | .region id ops false => match bad.contains (id + 40000) with
    | true => AWP (X.cx r nb nt) (.region id ops false) (fun e t => stopQ bad (X.cx r nb nt) id (Q e) (trimK kp id t)) s
    | false => aW X r nb nt ops ops.toList (fun t => stopQ bad (X.cx r nb nt) id (Q .normal) (trimK kp id t)) s
  | .region id ops true => match bad.contains id with
    | true => dE X r nb nt (m3of ops) s.heap.length (holed (m3of ops) (cntX bad id ops.toList) s).heap.length ops 0 s.heap.length ops.toList [] (fun t => stopQ bad (X.cx r nb nt) id (Q .normal) (trimK kp id t)) (holed (m3of ops) (cntX bad id ops.toList) s)
    | false => dW X r nb nt ops (loudX bad id ops.toList) 0 ops.toList (fun t => stopQ bad (X.cx r nb nt) id (Q .normal) (trimK kp id t)) s
  | c => AWP (X.cx r nb nt) c Q s
def contE (bad : List Nat) (kp : List (Nat × List Nat)) (X : Tx) (r : Option Nat) (nb nt : Nat) (c : Code) (Q : Exit → St → Prop) (s : St) : Prop := goE bad kp X r nb nt c Q s
def armE (bad : List Nat) (kp : List (Nat × List Nat)) (X : Tx) (r : Option Nat) (nb nt : Nat) (c : Code) (Q : Exit → St → Prop) (s : St) : Prop := goE bad kp X r nb nt c Q s
end
theorem contE_at (bad : List Nat) (kp : List (Nat × List Nat)) (X : Tx) (r : Option Nat) (nb nt : Nat) (c : Code) (Q : Exit → St → Prop) (s : St) : contE bad kp X r nb nt c Q s = goE bad kp X r nb nt c Q s := by rw [contE]
theorem armE_at (bad : List Nat) (kp : List (Nat × List Nat)) (X : Tx) (r : Option Nat) (nb nt : Nat) (c : Code) (Q : Exit → St → Prop) (s : St) : armE bad kp X r nb nt c Q s = goE bad kp X r nb nt c Q s := by rw [armE]
theorem goE_sound {bad : List Nat} {kp : List (Nat × List Nat)} {X : Tx} {r : Option Nat} {nb nt : Nat} (hm : X.P.follows .mixedOrders = true) (c : Code) : okE bad nt c = true → ∀ {Q : Exit → St → Prop} {s : St}, goE bad kp X r nb nt c Q s → AWP (X.cx r nb nt) c Q s := by
  induction c with
  | skip => intro _ Q s h; rw [goE] at h; exact awp_skip h
  | label l => intro _ Q s h; rw [goE] at h; exact awp_label h
  | exit id => intro _ Q s h; rw [goE] at h; exact awp_exit h
  | ret => intro _ Q s h; rw [goE] at h; exact awp_ret h
  | seq x y ihx ihy =>
    intro hok Q s h
    simp only [okE, Bool.and_eq_true] at hok
    rw [goE] at h
    exact awp_seq ((ihx hok.1 h).mono (thenQ_mono fun s h => ihy hok.2 (by rw [contE_at] at h; exact h)))
  | block id c ih => intro hok Q s h; rw [goE] at h; exact awp_block (ih hok h)
  | scope c ih => intro hok Q s h; rw [goE] at h; exact awp_scope (ih hok h)
  | cond c x y ihx ihy =>
    intro hok Q s h
    simp only [okE, Bool.and_eq_true] at hok
    rw [goE] at h
    split at h
    · rename_i t hc
      rw [condP, armE_at, armE_at] at h
      exact awp_cond hc (fun e => ihx hok.1 (h.1 e)) (fun e => ihy hok.2 (h.2 e))
    · exact h.elim
  | region id ops d =>
    intro hok Q s h
    cases d with
    | false =>
      rw [goE] at h
      split at h
      · exact post_trim h
      · exact post_trim (awp_region (X := X.cx r nb nt) (Q := fun e t => stopQ bad (X.cx r nb nt) id (Q e) (trimK kp id t)) hok (aW_sound _ _ h))
    | true =>
      rw [goE] at h
      simp only [okE, Bool.and_eq_true] at hok
      split at h
      · rename_i hb
        rw [if_pos hb] at hok
        exact post_trim (awp_region_drawn2 (X := X.cx r nb nt) (Q := fun e t => stopQ bad (X.cx r nb nt) id (Q e) (trimK kp id t)) (m3of ops) (cntX bad id ops.toList) hm hok.1 hok.2 (dE_sound _ _ _ _ _ h))
      · rename_i hb
        rw [if_neg (by rw [hb]; simp)] at hok
        exact post_trim (awp_region_drawn (X := X.cx r nb nt) (Q := fun e t => stopQ bad (X.cx r nb nt) id (Q e) (trimK kp id t)) (loudX bad id ops.toList) hm hok.1 hok.2 (dW_sound _ _ _ (fun j o ho hlo => by rw [Nat.zero_add]; exact loudX_bit _ j o ho hlo) h))
  | _ => intro _ Q s h; unfold goE at h; exact h
theorem acall_ofE {bad : List Nat} {kp : List (Nat × List Nat)} {X : Tx} {f : FuncId} {fn : Func} {c : Code} {args : List V} {H : List AB} {nt : Nat} {rs : List ResultVar} {post : V → List AB → Prop} (hf : X.P.funcs[f]? = some fn) (hb : fn.body = some c) (hn0 : notNum fn = true)
    (hnt : args.length + (fn.ntmps - args.length) = nt) (hrs : fn.results.toList = rs) (hm : X.P.follows .mixedOrders = true) (hok : okE bad nt c = true)
    (h : goE bad kp X none H.length nt c (retG X rs post) { slots := argS 0 args, heap := H, marks := [] }) : ACall X.P f args H post := by
  subst hrs
  exact acall_of_awp (X := X) hf hb hn0 hnt ((goE_sound hm c hok h).mono retG_sound)
theorem pure_wkE {bad : List Nat} {kp : List (Nat × List Nat)} {X : Tx} {f : FuncId} {fn : Func} {c : Code} {args : List V} {r : V} {nt : Nat} {rs : List ResultVar} (hf : X.P.funcs[f]? = some fn) (hb : fn.body = some c) (hn0 : notNum fn = true)
    (hnt : args.length + (fn.ntmps - args.length) = nt) (hrs : fn.results.toList = rs) (hm : X.P.follows .mixedOrders = true) (hok : okE bad nt c = true) (ha : args.all (V.low 0) = true) (hr : r.low 0 = true)
    (h : (∀ x ∈ args, FitV x) → goE bad kp X none 0 nt c (retG X rs (fun x _ => WkV x r)) { slots := argS 0 args, heap := [], marks := [] }) : Pure X.P f args r :=
  ⟨ACall.wkpost (ACall.fit (callFunc_runs hf hb hn0) (fun hfit => acall_ofE (bad := bad) (X := X) hf hb hn0 hnt hrs hm hok (h hfit))), ha, hr⟩
theorem acall_atE {bad : List Nat} {kp : List (Nat × List Nat)} {X : Tx} {f : FuncId} {fn : Func} {c : Code} {args : List V} {H : List AB} {r : V} {nt : Nat} {rs : List ResultVar} (hf : X.P.funcs[f]? = some fn) (hb : fn.body = some c) (hn0 : notNum fn = true)
    (hnt : args.length + (fn.ntmps - args.length) = nt) (hrs : fn.results.toList = rs) (hm : X.P.follows .mixedOrders = true) (hok : okE bad nt c = true) (hr : r.low H.length = true) (hH : H.all (AB.low H.length) = true)
    (h : (∀ x ∈ args, FitV x) → goE bad kp X none H.length nt c (retG X rs (fun x H' => WkV x r ∧ ∃ T, H' = H ++ T)) { slots := argS 0 args, heap := H, marks := [] }) : ACall X.P f args H (one r H) :=
  ACall.drop hr hH (ACall.fit (callFunc_runs hf hb hn0) (fun hfit => acall_ofE (bad := bad) (kp := kp) (X := X) hf hb hn0 hnt hrs hm hok (h hfit)))
theorem acall_fitE {bad : List Nat} {kp : List (Nat × List Nat)} {X : Tx} {f : FuncId} {fn : Func} {c : Code} {args : List V} {H : List AB} {post : V → List AB → Prop} {nt : Nat} {rs : List ResultVar} (hf : X.P.funcs[f]? = some fn) (hb : fn.body = some c) (hn0 : notNum fn = true)
    (hnt : args.length + (fn.ntmps - args.length) = nt) (hrs : fn.results.toList = rs) (hm : X.P.follows .mixedOrders = true) (hok : okE bad nt c = true)
    (h : (∀ x ∈ args, FitV x) → goE bad kp X none H.length nt c (retG X rs post) { slots := argS 0 args, heap := H, marks := [] }) : ACall X.P f args H post :=
  ACall.fit (callFunc_runs hf hb hn0) (fun hfit => acall_ofE (bad := bad) (kp := kp) (X := X) hf hb hn0 hnt hrs hm hok (h hfit))
theorem pure_fzE {bad : List Nat} {kp : List (Nat × List Nat)} {X : Tx} {f : FuncId} {fn : Func} {c : Code} {args : List V} {r : V} {nt : Nat} {rs : List ResultVar} (hf : X.P.funcs[f]? = some fn) (hb : fn.body = some c) (hn0 : notNum fn = true)
    (hnt : args.length + (fn.ntmps - args.length) = nt) (hrs : fn.results.toList = rs) (hm : X.P.follows .mixedOrders = true) (hok : okE bad nt c = true) (ha : args.all (V.low 0) = true) (hr : r.low 0 = true)
    (h : (∀ x ∈ args, FitV x) → goE bad kp X none 0 nt c (retG X rs (fun x H' => ∃ id cs ds y, H'[id]? = some (.cells cs) ∧ toDs cs = some ds ∧ FzT id ds x y ∧ WkV y r)) { slots := argS 0 args, heap := [], marks := [] }) : Pure X.P f args r :=
  ⟨ACall.fzpost (ACall.fit (callFunc_runs hf hb hn0) (fun hfit => acall_ofE (bad := bad) (kp := kp) (X := X) hf hb hn0 hnt hrs hm hok (h hfit))), ha, hr⟩
theorem goE_t {bad : List Nat} {kp : List (Nat × List Nat)} {X : Tx} {r : Option Nat} {nb nt : Nat} {c : Code} {Q : Exit → St → Prop} {s : St} (b : Prop) : condP true (armE bad kp X r nb nt c Q s) b = goE bad kp X r nb nt c Q s := by rw [condP_t, armE_at]
theorem goE_f {bad : List Nat} {kp : List (Nat × List Nat)} {X : Tx} {r : Option Nat} {nb nt : Nat} {c : Code} {Q : Exit → St → Prop} {s : St} (a : Prop) : condP false a (armE bad kp X r nb nt c Q s) = goE bad kp X r nb nt c Q s := by rw [condP_f, armE_at]
theorem goE_if {bad : List Nat} {kp : List (Nat × List Nat)} {X : Tx} {r : Option Nat} {nb nt : Nat} {c c' : Code} {Q : Exit → St → Prop} {s : St} {t : Bool} (h1 : t = true → goE bad kp X r nb nt c Q s) (h2 : t = false → goE bad kp X r nb nt c' Q s) : condP t (armE bad kp X r nb nt c Q s) (armE bad kp X r nb nt c' Q s) :=
  ⟨fun h => by rw [armE_at]; exact h1 h, fun h => by rw [armE_at]; exact h2 h⟩
theorem goE_loop {bad : List Nat} {kp : List (Nat × List Nat)} {X : Tx} {r : Option Nat} {nb nt : Nat} {c : Code} {Q : Exit → St → Prop} {s : St} {α : Type} (S : α → St) (Inv : α → Prop) (μ : α → Nat) (a0 : α) (hm : X.P.follows .mixedOrders = true) (hok : okE bad nt c = true)
    (h0 : Ent (X.cx r nb nt) s (S a0)) (hI : Inv a0)
    (round : ∀ a, Inv a → goE bad kp X r nb nt c (thenQ (fun s' => ∃ a', Inv a' ∧ μ a' < μ a ∧ Ent (X.cx r nb nt) s' (S a')) Q) (S a)) : AWP (X.cx r nb nt) (.loop c) Q s := by
  refine AWP.ent h0 (awp_loop (fun m s' => ∃ a, Inv a ∧ μ a = m ∧ Ent (X.cx r nb nt) s' (S a)) (μ a0) ⟨a0, hI, rfl, Ent.refl⟩ ?_)
  rintro m s' ⟨a, hI, rfl, he⟩
  refine AWP.ent he ((goE_sound hm c hok (round a hI)).mono ?_)
  exact thenQ_mono fun s'' ⟨a', h1, h2, h3⟩ => ⟨μ a', h2, a', h1, rfl, h3⟩
end Go.Abs
/- Slices that are written, told otherwise: begun, frozen. -/
namespace Go.Abs
open Go
section
variable {X : Cx} {s s' : St}

/-- A slice of no element that will be appended to, and written. -/
theorem ent_vec (j sz : Nat) (hj : s.get j = .c (.full [])) : Ent X s { slots := setS s.slots j (.c (.vs s.heap.length 0)), heap := s.heap ++ [.vec 0 sz []], marks := s.marks } := fun bs w G a hR => by
  have h0 := hR.slots j
  rw [hj] at h0
  generalize hv0 : a.tmps.getD j undef = v0 at h0
  cases h0 with
  | c _ _ h0 =>
    obtain ⟨G', ad, R', L, rfl, hg⟩ := adopt_vec hR.rel h0 sz
    refine ⟨G',
      { rel := R'
        later := hR.later.trans L
        base := hR.base
        size := hR.size
        slots := fun i => ?_
        defers := ?_
        marks := fun i hi => Nat.lt_of_lt_of_le (hR.marks i hi) L.len }⟩
    · show VRel w _ _ (getS (setS s.slots j _) i) _
      rw [getS_setS]
      by_cases e : j = i
      · subst e
        rw [if_pos rfl, hv0]
        refine .c _ _ (.vs _ 0 ad 0 (by simp) ⟨Nat.le_refl _, fun e => absurd rfl e⟩ (fun m z cs hm => ?_))
        exact ⟨Nat.zero_le _, fun _ => hg⟩
      · rw [if_neg e]; exact (hR.slots i).mono L
    · obtain ⟨hs, hh, e⟩ := hR.defers
      refine ⟨hs, hh.mono L, ?_⟩
      rw [e]
      congr 1
      refine List.map_congr_left fun id hid => ?_
      simp only [markOf, L.rho id (hR.marks id hid)]

/-- A slice of cells that are data by now. -/
theorem fs_full {w : World} {G : Gh} {H : List AB} {n sz : Nat} {ds : List D} (hn : n ≤ lim) {v : Value} (h : CRel w G H (.fs n sz (ds.map .d)) v) : CRel w G H (.full (chunk sz n ds)) v := by
  cases h with
  | fs _ _ _ b o vs hl hn2 hcell hc =>
    have hlen : ds.length = n * sz := by simpa using hn2
    have hcl : (chunk sz n ds).length = n := chunk_length _ _ _
    have key := DRel.sl (w := w) (S := G.S) (chunk sz n ds) b o n sz (fun i j => (vs[i * sz + j]?).getD undef) (by omega) (by omega) (fun i r hr => ?_) (fun i j hi hj => ?_) (fun i j r x hr hx => ?_)
    · rw [hcl] at key
      exact .full _ _ n hcl.symm key
    · have hi : i < n := by have := (List.getElem?_eq_some_iff.1 hr).1; omega
      rw [chunk_get sz n _ i hi] at hr
      cases hr
      have : (i + 1) * sz ≤ n * sz := Nat.mul_le_mul_right _ (by omega)
      rw [Nat.succ_mul] at this
      simp; omega
    · have hi' : i < n := by omega
      have : (i + 1) * sz ≤ n * sz := Nat.mul_le_mul_right _ (by omega)
      rw [Nat.succ_mul] at this
      have hlt : i * sz + j < vs.length := by simp at hl; omega
      have hv : vs[i * sz + j]? = some vs[i * sz + j] := List.getElem?_eq_getElem hlt
      obtain ⟨⟨h1, h2⟩, _⟩ := hcell _ _ hv
      rw [hv, Nat.add_assoc]
      exact ⟨h1, h2⟩
    · have hi : i < n := by have := (List.getElem?_eq_some_iff.1 hr).1; omega
      rw [chunk_get sz n _ i hi] at hr
      cases hr
      rw [List.getElem?_take] at hx
      split at hx
      · have hx' := drop_get hx
        have hlt : i * sz + j < vs.length := by have := (List.getElem?_eq_some_iff.1 hx').1; simp at hl; omega
        have hv : vs[i * sz + j]? = some vs[i * sz + j] := List.getElem?_eq_getElem hlt
        rw [hv]
        have hx2 : (ds.map C.d)[i * sz + j]? = some (.d x) := by rw [List.getElem?_map, hx']; rfl
        cases hc _ _ _ hx2 hv with
        | d _ _ h => exact h
      · cases hx
theorem ent_fsd (j : Nat) {n sz : Nat} {ds : List D} (hn : n ≤ lim) (hj : s.get j = .c (.fs n sz (ds.map .d))) : Ent X s { slots := setS s.slots j (.c (.full (chunk sz n ds))), heap := s.heap, marks := s.marks } := fun bs w G a hR => by
  refine ⟨G, { rel := hR.rel, later := hR.later, base := hR.base, size := hR.size, slots := fun i => ?_, defers := hR.defers, marks := hR.marks }⟩
  show VRel w _ _ (getS (setS s.slots j _) i) _
  rw [getS_setS]
  by_cases e : j = i
  · subst e
    rw [if_pos rfl]
    have h0 := hR.slots j
    rw [hj] at h0
    generalize a.tmps.getD j undef = v0 at h0
    cases h0 with
    | c _ _ h0 => exact .c _ _ (fs_full hn h0)
  · rw [if_neg e]; exact hR.slots i

/-- The same for a slice that lies in a cell. -/
theorem ent_vec_cell (k i sz : Nat) {cs : List C} (hk : s.heap[k]? = some (.cells cs)) (hi : cs[i]? = some (.full [])) : Ent X s { slots := s.slots, heap := (s.heap.set k (.cells (cs.set i (.vs s.heap.length 0)))) ++ [.vec 0 sz []], marks := s.marks } := fun bs w G a hR => by
  have hkl : k < s.heap.length := (List.getElem?_eq_some_iff.1 hk).1
  cases hR.rel.ab k _ hk with
  | cells _ arr t hb hr hrole hS =>
  obtain ⟨v0, hv0, hc0, ho0⟩ := hr.get hi
  obtain ⟨G', ad, R', L, rfl, hg⟩ := adopt_vec hR.rel hc0 sz
  have hown : CRel w G' (s.heap ++ [.vec 0 sz []]) (.vs s.heap.length 0) (.slice ad 0 0) := .vs _ 0 ad 0 (by simp) ⟨Nat.le_refl _, fun e => absurd rfl e⟩ (fun m z cs hm => ⟨Nat.zero_le _, fun _ => hg⟩)
  have hk2 : (s.heap ++ [AB.vec 0 sz []])[k]? = some (.cells cs) := by rw [List.getElem?_append_left hkl]; exact hk
  have hb2 : w.heap[G'.rho k]? = some (.cells arr t (0, 0)) := by rw [L.rho k hkl]; exact hb
  have hset : (s.heap ++ [AB.vec 0 sz []]).set k (.cells (cs.set i (.vs s.heap.length 0))) = (s.heap.set k (.cells (cs.set i (.vs s.heap.length 0)))) ++ [.vec 0 sz []] := by rw [List.set_append_left _ _ hkl]
  have hr2 : CsRel w G' (s.heap ++ [.vec 0 sz []]) (cs.set i (.vs s.heap.length 0)) arr.toList := by
    have h1 := (hr.mono L).set (x := .vs s.heap.length 0) (v := .slice ad 0 0) hown ho0 i
    have h2 : arr.toList.set i (.slice ad 0 0) = arr.toList := by
      refine List.ext_getElem? fun j => ?_
      by_cases e : i = j
      · subst e
        have hlt := (List.getElem?_eq_some_iff.1 hv0).1
        rw [List.getElem?_set_self hlt]; exact hv0.symm
      · rw [List.getElem?_set_ne e]
    rwa [h2] at h1
  have he : w.putObj (G'.rho k) (.cells arr t (0, 0)) = w := put_self hb2
  obtain ⟨R2, L2⟩ := R'.put_cells (cs' := cs.set i (.vs s.heap.length 0)) (arr' := arr) hk2 hb2 hr2
  rw [he, hset] at R2 L2
  refine ⟨G',
    { rel := R2
      later := hR.later.trans (L.trans L2)
      base := hR.base
      size := hR.size
      slots := fun i => (hR.slots i).mono (L.trans L2)
      defers := ?_
      marks := fun i hi => Nat.lt_of_lt_of_le (hR.marks i hi) (L.trans L2).len }⟩
  obtain ⟨hs, hh, e⟩ := hR.defers
  refine ⟨hs, hh.mono (L.trans L2), ?_⟩
  rw [e]
  congr 1
  refine List.map_congr_left fun id hid => ?_
  simp only [markOf, L.rho id (hR.marks id hid)]

/-! ### Frozen -/
/-- A header of a frozen slice, as data. -/
def fzN (id n : Nat) (d : D) : C → C
  | .vs i m => if i = id ∧ m = n then .d d else .vs i m
  | c => c
def fzNV (id n : Nat) (d : D) : V → V
  | .c x => .c (fzN id n d x)
  | .agg cs => .agg (cs.map (fzN id n d))
  | .tup vs => .tup vs
def fzNB (id n : Nat) (d : D) : AB → AB
  | .cells cs => .cells (cs.map (fzN id n d))
  | .vec m sz cs => .vec m sz (cs.map (fzN id n d))
  | b => b
theorem ent_fzvec (id : Nat) {n sz : Nat} {cs : List C} {ds : List D} (hid : s.heap[id]? = some (.vec n sz cs)) (hd : toDs cs = some ds) (hz : 0 < sz) (hn : n ≤ lim) (hm : s'.marks = s.marks)
    (hh : s'.heap = (s.heap.map (fzNB id n (.sl (chunk sz n ds)))).set id .gone) (hsl : ∀ i, getS s'.slots i = fzNV id n (.sl (chunk sz n ds)) (s.get i) ∨ getS s'.slots i = .c .any) : Ent X s s' := fun bs w G a hR => by
  have hidl := (List.getElem?_eq_some_iff.1 hid).1
  have R := hR.rel
  obtain ⟨e1, e2⟩ := toDs_get hd
  generalize hdd : (D.sl (chunk sz n ds)) = dd at hh hsl
  -- the cells are put under those that nobody writes
  obtain ⟨S1, s1, s2, s3, hD⟩ : ∃ S1 : Nat → Nat → Prop, (∀ b o, G.S b o → S1 b o) ∧ (∀ b o, S1 b o → G.S b o ∨ G.role b = some id) ∧ (∀ b o, S1 b o → ∃ v, w.cell? ⟨b, o, none⟩ = some v) ∧ ∀ v, CRel w G s.heap (.vs id n) v → DRel w S1 dd v := by
    subst hdd
    by_cases hne : 0 < cs.length
    · obtain ⟨b, arr, t, cap, hg, hcap, hrole, hb, hsz, hr, hS, hl⟩ := vec_at R hid hne
      have hlen : cs.length ≤ arr.size := by have := hr.1; simp at this; omega
      have hcell : ∀ j, j < cs.length → w.cell? ⟨b, j, none⟩ = some (arr.toList.getD j undef) := fun j hj => by
        rw [cell_arr hb]
        have : j < arr.toList.length := by simp; omega
        simp [List.getD_eq_getElem?_getD, List.getElem?_eq_getElem this]
      refine ⟨fun b' o => G.S b' o ∨ (b' = b ∧ o < cs.length), fun _ _ h => .inl h, fun b' o h => ?_, fun b' o h => ?_, fun v hv => ?_⟩
      · rcases h with h | ⟨rfl, _⟩
        · exact .inl h
        · exact .inr hrole
      · rcases h with h | ⟨rfl, h⟩
        · exact R.sex b' o h
        · exact ⟨_, hcell o h⟩
      · cases hv with
        | vs _ _ a' cap' _ hne' hg' =>
          have h1 := (hg' _ _ _ hid).2 rfl
          rw [hg] at h1
          cases h1
          refine rows_rel (f := fun k => arr.toList.getD k undef) hcap hn (by omega) (fun k hk => ?_) (fun k x hx => ?_)
          · rw [Nat.zero_add]
            exact ⟨.inr ⟨rfl, by omega⟩, hcell k (by omega)⟩
          · have hk : k < cs.length := by rw [e1]; exact (List.getElem?_eq_some_iff.1 hx).1
            have hk2 : k < arr.toList.length := by simp; omega
            have h3 := (hr.2 k cs[k] arr.toList[k] (by simp [hk]) (by rw [List.getElem?_take, if_pos hk]; exact List.getElem?_eq_getElem hk2)).1
            have h4 := e2 k cs[k] x (by simp [hk]) hx
            have h5 : arr.toList.getD k undef = arr.toList[k] := by rw [List.getD_eq_getElem?_getD, List.getElem?_eq_getElem hk2]; rfl
            show DRel w _ x (arr.toList.getD k undef)
            rw [h5]
            exact (toD_rel h4 h3).mono (fun b o h => ⟨.inl h, rfl⟩)
    · have hn0 : n = 0 := by
        cases R.ab id _ hid with
        | vec _ _ _ _ _ _ _ hl _ =>
          have h0 : n * sz = 0 := by omega
          rcases Nat.mul_eq_zero.1 h0 with h | h
          · exact h
          · omega
      subst hn0
      refine ⟨G.S, fun _ _ h => h, fun _ _ h => .inl h, R.sex, fun v hv => ?_⟩
      cases hv with
      | vs _ _ a' cap' _ _ _ => exact .emp _ _
  let G1 : Gh := { G with S := S1 }
  have hlook : ∀ (i : Nat) (x : AB), s'.heap[i]? = some x → (i = id ∧ x = .gone) ∨ (i ≠ id ∧ ∃ y, s.heap[i]? = some y ∧ x = fzNB id n dd y) := fun i x hx => by
    rw [hh] at hx
    by_cases e : i = id
    · subst e
      rw [List.getElem?_set_self (by simpa using hidl)] at hx
      cases hx; exact .inl ⟨rfl, rfl⟩
    · rw [List.getElem?_set_ne (Ne.symm e), List.getElem?_map] at hx
      cases hy : s.heap[i]? with
      | none => rw [hy] at hx; cases hx
      | some y => rw [hy] at hx; cases hx; exact .inr ⟨e, y, rfl, rfl⟩
  have L : Later w G s.heap w G1 s'.heap :=
    { size := Nat.le_refl _
      S := fun b o h => ⟨s1 b o h, rfl⟩
      Snew := fun b o _ hr h => by
        rcases s2 b o h with h | h
        · exact h
        · rw [hr] at h; cases h
      len := by rw [hh]; simp
      rho := fun _ _ => rfl
      grow := fun i m z hi h => by
        rcases hlook i _ h with ⟨_, h⟩ | ⟨_, y, hy, h⟩
        · cases h
        · cases y <;> simp [fzNB] at h
          obtain ⟨rfl, rfl⟩ := h
          exact ⟨m, hy, .inr ⟨rfl, rfl⟩⟩
      vec := fun i m z cs hi h => by
        rcases hlook i _ h with ⟨_, h⟩ | ⟨_, y, hy, h⟩
        · cases h
        · cases y <;> simp [fzNB] at h
          obtain ⟨rfl, rfl, _⟩ := h
          exact ⟨_, _, _, hy, .inr ⟨rfl, rfl⟩⟩
      role := fun _ _ => rfl
      frame := fun _ _ _ => rfl
      os := rfl
      out := rfl }
  have conv : ∀ (c : C) (v : Value), CRel w G s.heap c v → CRel w G1 s'.heap (fzN id n dd c) v := fun c v h => by
    unfold fzN
    split
    · rename_i i m
      split
      · rename_i e
        obtain ⟨rfl, rfl⟩ := e
        exact .d _ _ (hD v h)
      · exact h.mono L
    · exact h.mono L
  have convs : ∀ (cs : List C) (vs : List Value), CsRel w G s.heap cs vs → CsRel w G1 s'.heap (cs.map (fzN id n dd)) vs := fun cs vs h =>
    ⟨by rw [List.length_map]; exact h.1, fun i x v hx hv => by
      rw [List.getElem?_map] at hx
      cases hc : cs[i]? with
      | none => rw [hc] at hx; cases hx
      | some y => rw [hc] at hx; cases hx; exact ⟨conv y v (h.2 i y v hc hv).1, (h.2 i y v hc hv).2⟩⟩
  have hnS : ∀ b o i, G.role b = some i → i ≠ id → S1 b o → G.S b o := fun b o i hr hi h => by
    rcases s2 b o h with h | h
    · exact h
    · rw [hr] at h; cases h; exact absurd rfl hi
  refine ⟨G1,
    { rel := ⟨s3, R.roleLt, fun i x hx => ?_⟩
      later := hR.later.trans L
      base := hR.base
      size := hR.size
      slots := fun i => ?_
      defers := ?_
      marks := fun i hi => by rw [hm] at hi; exact Nat.lt_of_lt_of_le (hR.marks i hi) L.len }⟩
  · rcases hlook i x hx with ⟨_, rfl⟩ | ⟨hi, y, hy, rfl⟩
    · exact .gone
    · have h0 := R.ab i y hy
      have hil := (List.getElem?_eq_some_iff.1 hy).1
      cases y with
      | cells cs =>
        cases h0 with
        | cells _ arr t hb hr hrole hS => exact .cells _ arr t hb (convs _ _ hr) hrole (fun o ho => hS o (hnS _ _ _ hrole hi ho))
      | vec m z cs =>
        cases h0 with
        | vec _ _ _ a cap hg hcap hl h =>
          refine .vec _ _ _ a cap hg hcap (by rw [List.length_map]; exact hl) (fun hz => ?_)
          obtain ⟨b, arr, t, h1, h2, h3, h4, h5, h6⟩ := h hz
          exact ⟨b, arr, t, h1, h2, h3, h4, by rw [List.length_map]; exact convs _ _ h5, fun o ho => h6 o (hnS _ _ _ h2 hi ho)⟩
      | _ => exact ABRel.mono R L hil h0 (fun _ _ => rfl) (fun b o hb h => hnS b o i hb hi h) rfl
  · have h0 := hR.slots i
    show VRel w _ _ (getS s'.slots i) _
    rcases hsl i with e | e
    · rw [e]
      generalize s.get i = x at h0
      generalize a.tmps.getD i undef = u at h0
      cases h0 with
      | c _ _ h => exact .c _ _ (conv _ _ h)
      | agg _ _ h => exact .agg _ _ (convs _ _ h)
      | tup _ _ hs h => exact .tup _ _ hs (fun j x v hx hv => (h j x v hx hv).mono L)
    · rw [e]; exact .c _ _ (.any _)
  · obtain ⟨hs, hh', e⟩ := hR.defers
    refine ⟨hs, hh'.mono L, ?_⟩
    rw [hm, e]
    rfl
end
/-! ### Heaps that stand for something name nothing that is not there; contracts told otherwise -/
theorem lows_low {n : Nat} {b : AB} (h : b.lowP n) : b.low n = true := by
  cases b with
  | cells cs => exact h
  | vec m z cs => exact h
  | mp es =>
    simp only [AB.low, List.all_eq_true, Bool.and_eq_true]
    exact h
  | lp r =>
    simp only [AB.low, Bool.and_eq_true, decide_eq_true_eq, List.all_eq_true]
    exact ⟨h.1, fun p _ => h.2 p.1⟩
  | _ => rfl
theorem Rel.low {w : World} {G : Gh} {H : List AB} (R : Rel w G H) : H.all (AB.low H.length) = true := List.all_eq_true.2 fun y hy => by
  obtain ⟨k, hk⟩ := List.getElem?_of_mem hy
  exact lows_low (R.ab k y hk).lows
theorem ACall.low_of {P : Program} {f : FuncId} {fn : Func} {c : Code} {args : List V} {H : List AB} {post : V → List AB → Prop} (hf : P.funcs[f]? = some fn) (hb : fn.body = some c) (hn0 : notNum fn = true) (h : H.all (AB.low H.length) = true → ACall P f args H post) : ACall P f args H post :=
  ⟨callFunc_runs hf hb hn0, fun w G vs R hl ha => (h (Rel.low R)).2 w G vs R hl ha⟩
theorem ACall.ent {X : Tx} {f : FuncId} {args : List V} {H : List AB} {post post' : V → List AB → Prop} (h : ACall X.P f args H post)
    (he : ∀ x H', post x H' → ∃ y H'', Ent (X.cx none H.length 1) { slots := [(0, x)], heap := H', marks := [] } { slots := [(0, y)], heap := H'', marks := [] } ∧ post' y H'') : ACall X.P f args H post' :=
  ⟨h.1, fun w G vs R hl hr => (h.2 w G vs R hl hr).mono fun _ w' ⟨v, x, H', G', a, hp, R', hv, L⟩ => by
    obtain ⟨y, H'', hE, hp'⟩ := he x H' hp
    obtain ⟨G2, hR2⟩ := hE ⟨w, G, H⟩ w' G' { tmps := #[v], defers := [] }
      { rel := R', later := L, base := rfl, size := rfl
        slots := fun i => by
          show VRel w' G' H' (getS [(0, x)] i) _
          simp only [getS]
          split
          · rename_i e; subst e; exact hv
          · exact .c _ _ (.any _)
        defers := ⟨[], Hid.nil _ _ _, rfl⟩
        marks := fun i hi => by cases hi }
    exact ⟨v, y, H'', G2, a, hp', hR2.rel, hR2.slots 0, hR2.later⟩⟩
end Go.Abs
/- Rounds of a range over a function, walked with drawn regions by the rule of windows. -/
namespace Go.Abs
open Go
theorem yc_ofE {bad : List Nat} {kp : List (Nat × List Nat)} {X : Tx} {id : Nat} {H : List AB} {r : LR} {x : V} {post : V → List AB → Prop} (hm : X.P.follows .mixedOrders = true) (hid : H[id]? = some (.lp r)) (hps : r.ps.size = 1) (hnt : r.ps.toList.all (fun p => decide (p < r.nt)) = true) (hoka : okE bad r.nt r.assign = true) (hokb : okE bad r.nt r.body = true)
    (h : ∀ l, goE bad kp X (some l) H.length r.nt r.assign (thenQ (fun t => ∃ t', busyH id t = some t' ∧ goE bad kp X (some l) H.length r.nt r.body (fun e u => ∃ u', Ent (X.cx (some l) H.length r.nt) u u' ∧ roundQ id post e u') t') (fun _ _ => False)) { slots := putPs r.ps.toList [x] r.slots, heap := H, marks := [] }) :
    YC X.P id H x post := by
  intro ro o E xo as ts ho hx hv
  have hsz : as.size = r.ps.size := by rw [hps, ← Array.length_toList, ← List.length_map (as := as.toList) E, hv]; rfl
  refine opAt_yield (tt := X.tt) ho hx hid hsz hnt (fun l => ?_)
  rw [hv]
  refine (goE_sound (X := X) (r := some l) (nb := H.length) hm r.assign hoka (h l)).mono ?_
  refine thenQ_mono fun t ht => ?_
  obtain ⟨t', h1, h2⟩ := ht
  exact ⟨t', h1, AWP.post (goE_sound (X := X) (r := some l) (nb := H.length) hm r.body hokb h2)⟩
/-- The same, with the code told apart. -/
theorem yc_ofC {bad : List Nat} {kp : List (Nat × List Nat)} {X : Tx} {id : Nat} {H : List AB} {r : LR} {cA cB : Code} {x : V} {post : V → List AB → Prop} (hm : X.P.follows .mixedOrders = true) (hid : H[id]? = some (.lp r)) (hA : r.assign = cA) (hB : r.body = cB) (hps : r.ps.size = 1) (hnt : r.ps.toList.all (fun p => decide (p < r.nt)) = true) (hoka : okE bad r.nt cA = true) (hokb : okE bad r.nt cB = true)
    (h : ∀ l, goE bad kp X (some l) H.length r.nt cA (thenQ (fun t => ∃ t', busyH id t = some t' ∧ goE bad kp X (some l) H.length r.nt cB (fun e u => ∃ u', Ent (X.cx (some l) H.length r.nt) u u' ∧ roundQ id post e u') t') (fun _ _ => False)) { slots := putPs r.ps.toList [x] r.slots, heap := H, marks := [] }) :
    YC X.P id H x post := by
  subst hA; subst hB
  exact yc_ofE hm hid hps hnt hoka hokb h
/-- What a call of yield with several values does at a heap. -/
def YCs (P : Program) (id : Nat) (H : List AB) (xs : List V) (post : V → List AB → Prop) : Prop :=
  ∀ (ro : Option Nat) (o : Oper) (E : Operand → V) (xo : Operand) (as : Array Operand) (ts : Array TypeId), o.op = .call { callee := .value xo, args := as, argTypes := ts } → E xo = .c (.yd id) → as.toList.map E = xs → OpAt P ro o H E post
theorem ycs_ofC {bad : List Nat} {kp : List (Nat × List Nat)} {X : Tx} {id : Nat} {H : List AB} {r : LR} {cA cB : Code} {xs : List V} {post : V → List AB → Prop} (hm : X.P.follows .mixedOrders = true) (hid : H[id]? = some (.lp r)) (hA : r.assign = cA) (hB : r.body = cB) (hps : r.ps.size = xs.length) (hnt : r.ps.toList.all (fun p => decide (p < r.nt)) = true) (hoka : okE bad r.nt cA = true) (hokb : okE bad r.nt cB = true)
    (h : ∀ l, goE bad kp X (some l) H.length r.nt cA (thenQ (fun t => ∃ t', busyH id t = some t' ∧ goE bad kp X (some l) H.length r.nt cB (fun e u => ∃ u', Ent (X.cx (some l) H.length r.nt) u u' ∧ roundQ id post e u') t') (fun _ _ => False)) { slots := putPs r.ps.toList xs r.slots, heap := H, marks := [] }) :
    YCs X.P id H xs post := by
  subst hA; subst hB
  intro ro o E xo as ts ho hx hv
  have hsz : as.size = r.ps.size := by rw [hps, ← Array.length_toList, ← List.length_map (as := as.toList) E, hv]
  refine opAt_yield (tt := X.tt) ho hx hid hsz hnt (fun l => ?_)
  rw [hv]
  refine (goE_sound (X := X) (r := some l) (nb := H.length) hm r.assign hoka (h l)).mono ?_
  refine thenQ_mono fun t ht => ?_
  obtain ⟨t', h1, h2⟩ := ht
  exact ⟨t', h1, AWP.post (goE_sound (X := X) (r := some l) (nb := H.length) hm r.body hokb h2)⟩
section
variable {X : Tx} {r : Option Nat} {nb nt : Nat} {s : St} {all : Array Oper} {Q : St → Prop} {o : Oper} {os : List Oper}
theorem dops_ycs {loud k : Nat} {id : Nat} {xs : List V} {y : V} {H' : List AB} (hy : YCs X.P id s.heap xs (one y H')) (hg : guardOf all s.get o = some true) (hc : calleeY s.ev o = some (id, xs)) (hk : loud.testBit k = true) (hl : loudsB loud (k + 1) os = true)
    (n : dW X r nb nt all loud (k + 1) os Q (s.put o.dst y H')) : DOps (X.cx r nb nt) all loud k (o :: os) Q s := by
  refine ⟨true, y, H', hg, ?_, fun h => (by rw [hk] at h; cases h), dW_sound _ _ _ (loudsB_spec hl) n⟩
  simp only [if_true]
  unfold calleeY at hc
  split at hc
  · rename_i xo as ts ho
    split at hc
    · rename_i id' hx
      simp only [Option.some.injEq, Prod.mk.injEq] at hc
      obtain ⟨rfl, h2⟩ := hc
      exact hy r o s.ev xo as ts ho hx h2
    · cases hc
  · cases hc
end
theorem code_gen {X : Cx} {g : Operand} {ps : Array Tmp} {A B : Code} {Q : Exit → St → Prop} {s : St} (h : ∀ A' B', A' = A → B' = B → AWP X (.rangeFunc g ps A' B') Q s) : AWP X (.rangeFunc g ps A B) Q s := h A B rfl rfl
theorem ACall.drop2 {P : Program} {f : FuncId} {args : List V} {H H1 : List AB} {r : V} (hl : H.length ≤ H1.length) (hr : r.low H1.length = true) (hH : H1.all (AB.low H1.length) = true) (h : ACall P f args H (fun x H' => WkV x r ∧ ∃ T, H' = H1 ++ T)) : ACall P f args H (one r H1) :=
  ⟨h.1, fun w G vs R hl' hrel => (h.2 w G vs R hl' hrel).mono fun _ w' ⟨v, x, H', G', a, ⟨h1, T, h2⟩, c, d, e⟩ => by
    subst h2
    exact ⟨v, r, H1, G', a, ⟨rfl, rfl⟩, c.trunc hH, (h1.rel d).trunc hr, e.trunc hl⟩⟩
section
variable {X : Tx} {r : Option Nat} {nb nt : Nat} {s : St} {all : Array Oper} {Q : St → Prop} {o : Oper} {os : List Oper}
/-- A call with any contract, in a region whose order is told. -/
theorem aops_gen {g : FuncId} {args args' : List V} {post : V → List AB → Prop} (h : ACall X.P g args' s.heap post) (hg : guardOf all s.get o = some true) (hc : calleeOf s.ev o = some (g, args)) (hw : WkVs args args')
    (k : ∀ y H', post y H' → aW X r nb nt all os Q (s.put o.dst y H')) : AOps (X.cx r nb nt) all (o :: os) Q s :=
  aops_call hg hc hw h (fun y H2 hp => aW_sound _ _ (k y H2 hp))
end
/-- The pairs of a region, the order asked first. -/
def pairs3 (m3 : Bool) (tab : List Nat) (ops : Array Oper) (acc : List Note) : Bool := acc.all fun b => sparse m3 ops b.at' || acc.all fun a => a.at' == b.at' || !lookB m3 ops a.at' || (ordB tab a.at' b.at' || apartB a.w b.w)
theorem pairsOk_ord {m3 : Bool} {ops : Array Oper} {acc : List Note} (h : (pairs3 m3 (ancGo ops.toList 0 []) ops acc && (!m3 || (freeT (ancGo ops.toList 0 []) acc && acc.all fun a => a.e.loc))) = true) : pairsOk m3 ops acc = true := by
  have e : pairs2 m3 (ancGo ops.toList 0 []) ops acc = pairs3 m3 (ancGo ops.toList 0 []) ops acc := by
    unfold pairs2 pairs3
    congr 1
    funext b
    congr 2
    funext a
    rw [Bool.or_assoc _ (apartB a.w b.w), Bool.or_comm (apartB a.w b.w)]
  rw [Bool.and_eq_true] at h
  unfold pairsOk
  rw [e, h.1, Bool.or_true, Bool.true_and]
  exact h.2
end Go.Abs
