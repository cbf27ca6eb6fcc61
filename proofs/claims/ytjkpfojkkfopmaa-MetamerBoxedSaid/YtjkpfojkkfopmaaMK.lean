/- Rounds of a range over a function, told by contracts of the call of yield. -/
import Derived.Test.YtjkpfojkkfopmaaME
import Derived.Test.YtjkpfojkkfopmaaMG
set_option linter.unusedSimpArgs false
set_option linter.unusedVariables false
namespace Go.Abs
open Go

/-- What a call of yield does at a heap. -/
def YC (P : Program) (id : Nat) (H : List AB) (x : V) (post : V → List AB → Prop) : Prop :=
  ∀ (ro : Option Nat) (o : Oper) (E : Operand → V) (xo : Operand) (as : Array Operand) (ts : Array TypeId), o.op = .call { callee := .value xo, args := as, argTypes := ts } → E xo = .c (.yd id) → as.toList.map E = [x] → OpAt P ro o H E post

def calleeY (E : Operand → V) (o : Oper) : Option (Nat × List V) := match o.op with
  | .call { callee := .value xo, args := as, argTypes := _ } => match E xo with
    | .c (.yd id) => some (id, as.toList.map E)
    | _ => none
  | _ => none

theorem AWP.post {X : Cx} {c : Code} {Q : Exit → St → Prop} {s : St} (h : AWP X c (fun e t => ∃ t', Ent X t t' ∧ Q e t') s) : AWP X c Q s := fun bs w G a hR => by
  refine wpIn_mono (h bs w G a hR) ?_
  rintro e a' w' ⟨t, G1, ⟨t', he, hq⟩, hR'⟩
  obtain ⟨G2, hR2⟩ := he bs w' G1 a' hR'
  exact ⟨t', G2, hq, hR2⟩

section
variable {X : Tx} {r : Option Nat} {nb nt : Nat} {s : St} {all : Array Oper} {Q : St → Prop} {o : Oper} {os : List Oper}
theorem aops_yc {id : Nat} {x : V} {post : V → List AB → Prop} (hy : YC X.P id s.heap x post) (hg : guardOf all s.get o = some true) (hc : calleeY s.ev o = some (id, [x])) (k : ∀ y H', post y H' → aW X r nb nt all os Q (s.put o.dst y H')) :
    AOps (X.cx r nb nt) all (o :: os) Q s := by
  simp only [AOps, hg]
  unfold calleeY at hc
  split at hc
  · rename_i xo as ts ho
    split at hc
    · rename_i id' hx
      simp only [Option.some.injEq, Prod.mk.injEq] at hc
      obtain ⟨rfl, h2⟩ := hc
      exact (hy r o s.ev xo as ts ho hx h2).mono fun y H' h => aW_sound _ _ (k y H' h)
    · cases hc
  · cases hc
end

theorem yc_of {X : Tx} {id : Nat} {H : List AB} {r : LR} {x : V} {post : V → List AB → Prop} (hm : X.P.follows .mixedOrders = true) (hid : H[id]? = some (.lp r)) (hps : r.ps.size = 1) (hnt : r.ps.toList.all (fun p => decide (p < r.nt)) = true) (hoka : okC r.nt r.assign = true) (hokb : okC r.nt r.body = true)
    (h : ∀ l, go X (some l) H.length r.nt r.assign (thenQ (fun t => ∃ t', busyH id t = some t' ∧ go X (some l) H.length r.nt r.body (fun e u => ∃ u', Ent (X.cx (some l) H.length r.nt) u u' ∧ roundQ id post e u') t') (fun _ _ => False)) { slots := putPs r.ps.toList [x] r.slots, heap := H, marks := [] }) :
    YC X.P id H x post := by
  intro ro o E xo as ts ho hx hv
  have hsz : as.size = r.ps.size := by rw [hps, ← Array.length_toList, ← List.length_map (as := as.toList) E, hv]; rfl
  refine opAt_yield (tt := X.tt) ho hx hid hsz hnt (fun l => ?_)
  rw [hv]
  refine (go_sound (X := X) (r := some l) (nb := H.length) hm r.assign hoka (h l)).mono ?_
  refine thenQ_mono fun t ht => ?_
  obtain ⟨t', h1, h2⟩ := ht
  exact ⟨t', h1, AWP.post (go_sound (X := X) (r := some l) (nb := H.length) hm r.body hokb h2)⟩
/-- A slice in a cell that will grow. -/
theorem ent_own_cell {X : Cx} {s : St} (k i sz : Nat) {cs : List C} {rows : List (List D)} (hk : s.heap[k]? = some (.cells cs)) (hi : cs[i]? = some (.full rows)) :
    Ent X s { slots := s.slots, heap := (s.heap.set k (.cells (cs.set i (.own s.heap.length rows)))) ++ [.grow rows.length sz], marks := s.marks } := fun bs w G a hR => by
  have hkl := (List.getElem?_eq_some_iff.1 hk).1
  cases hR.rel.ab k _ hk with
  | cells _ arr t hb hr hrole hS =>
  obtain ⟨v0, hv0, hc0, ho0⟩ := hr.get hi
  cases hc0 with
  | full _ ad n hn h =>
  have hget : ∀ j, j < s.heap.length → j ≠ k → ((s.heap.set k (.cells (cs.set i (.own s.heap.length rows)))) ++ [AB.grow rows.length sz])[j]? = s.heap[j]? := fun j hj hne => by
    rw [List.getElem?_append_left (by simpa using hj), List.getElem?_set_ne (Ne.symm hne)]
  have hgk : ((s.heap.set k (.cells (cs.set i (.own s.heap.length rows)))) ++ [AB.grow rows.length sz])[k]? = some (.cells (cs.set i (.own s.heap.length rows))) := by
    rw [List.getElem?_append_left (by simpa using hkl)]; simp [hkl]
  have L : Later w G s.heap w { G with g := upd G.g s.heap.length (ad, n) } ((s.heap.set k (.cells (cs.set i (.own s.heap.length rows)))) ++ [.grow rows.length sz]) :=
    { size := Nat.le_refl _
      S := fun b o h => ⟨h, rfl⟩
      Snew := fun b o _ _ h => h
      len := by simp
      rho := fun _ _ => rfl
      grow := fun j m z hj h => by
        by_cases e : j = k
        · subst e; rw [hgk] at h; cases h
        · rw [hget j hj e] at h
          exact ⟨m, h, .inr ⟨rfl, upd_ne _ _ (by omega)⟩⟩
      vec := fun j m z ds hj h => by
        by_cases e : j = k
        · subst e; rw [hgk] at h; cases h
        · rw [hget j hj e] at h
          exact ⟨m, z, ds, h, .inr ⟨rfl, upd_ne _ _ (by omega)⟩⟩
      role := fun _ _ => rfl
      frame := fun _ _ _ => rfl
      os := rfl
      out := rfl }
  have hown : CRel w { G with g := upd G.g s.heap.length (ad, n) } ((s.heap.set k (.cells (cs.set i (.own s.heap.length rows)))) ++ [.grow rows.length sz]) (.own s.heap.length rows) (.slice ad n n) := by
    refine .own _ rows ad n n (by simp) hn h (fun m z hm => ?_)
    rw [List.getElem?_append_right (by simp)] at hm
    simp at hm
    obtain ⟨rfl, rfl⟩ := hm
    exact ⟨Nat.le_refl _, fun _ => upd_same _ _ _⟩
  have R' : Rel w { G with g := upd G.g s.heap.length (ad, n) } ((s.heap.set k (.cells (cs.set i (.own s.heap.length rows)))) ++ [.grow rows.length sz]) :=
    { sex := hR.rel.sex
      roleLt := hR.rel.roleLt
      ab := fun j x hx => by
        by_cases hj : j < s.heap.length
        · by_cases e : j = k
          · subst e
            rw [hgk] at hx
            cases hx
            have hset := (hr.mono L).set (i := i) hown rfl
            have harr : arr.toList.set i (.slice ad n n) = arr.toList := by
              refine List.ext_getElem? fun q => ?_
              by_cases hq : i = q
              · subst hq
                have hlt := (List.getElem?_eq_some_iff.1 hv0).1
                rw [List.getElem?_set_self hlt, hv0]
              · rw [List.getElem?_set_ne hq]
            rw [harr] at hset
            exact .cells _ arr t hb hset hrole hS
          · rw [hget j hj e] at hx
            exact ABRel.mono hR.rel L hj (hR.rel.ab j x hx) (fun _ _ => rfl) (fun _ _ _ h => h) (upd_ne _ _ (by omega))
        · have hlt := (List.getElem?_eq_some_iff.1 hx).1
          simp at hlt
          obtain rfl : j = s.heap.length := by omega
          rw [List.getElem?_append_right (by simp)] at hx
          simp at hx
          subst hx
          refine .grow rows.length sz ad n (upd_same _ _ _) (by omega) (fun x _ hlt => absurd hlt (by omega)) (fun e => ?_)
          subst e
          cases h with
          | emp => rfl }
  exact ⟨{ G with g := upd G.g s.heap.length (ad, n) },
    { rel := R', later := hR.later.trans L, base := hR.base, size := hR.size, slots := fun i => (hR.slots i).mono L, defers := (by obtain ⟨hs, hh, e⟩ := hR.defers; exact ⟨hs, hh.mono L, e⟩), marks := fun i hi => Nat.lt_of_lt_of_le (hR.marks i hi) L.len }⟩

/-- A contract at a heap holds at a longer one. -/
theorem ACall.frame {P : Program} {f : FuncId} {args : List V} {H : List AB} {y : V} (h : ACall P f args H (one y H)) (hH : H.all (AB.low H.length) = true) (ha : args.all (V.low H.length) = true) (hy : y.low H.length = true) (T : List AB) :
    ACall P f args (H ++ T) (one y (H ++ T)) := by
  refine ⟨h.1, fun w G vs R hl hr => ?_⟩
  have R1 : Rel w (G.clean H.length) H := (R.trunc hH).clean
  refine (h.2 w (G.clean H.length) vs R1 hl (fun i x v hx hv => ?_)).mono ?_
  · have h1 := List.all_eq_true.1 ha x (List.mem_of_getElem? hx)
    exact (VRel.trunc (hr i x v hx hv) h1).clean
  · rintro e w' ⟨v, x, H', G2, rfl, ⟨rfl, rfl⟩, R', hv, L⟩
    let G3 : Gh := { S := G2.S, rho := fun i => if i < H'.length then G2.rho i else G.rho i, g := fun i => if i < H'.length then G2.g i else G.g i, role := fun b => if b < w.heap.size then G.role b else G2.role b }
    have rho_lt : ∀ i, i < H'.length → G3.rho i = G2.rho i := fun i hi => if_pos hi
    have g_lt : ∀ i, i < H'.length → G3.g i = G2.g i := fun i hi => if_pos hi
    have hlen : (H' ++ T).length = H'.length + T.length := by simp
    have cr : ∀ (x : C) (u : Value), x.low H'.length = true → CRel w' G2 H' x u → CRel w' G3 (H' ++ T) x u := by
      intro x u hl h
      induction h with
      | any v => exact .any v
      | d x v h => exact .d x v h
      | ptr i off h =>
        have := CRel.ptr (w := w') (G := G3) (H := H' ++ T) i off (by rw [hlen]; omega)
        rwa [rho_lt i h] at this
      | nilp => exact .nilp
      | dp ds b o f hcell hrel => exact .dp ds b o f hcell hrel
      | full rows a n hn h => exact .full rows a n hn h
      | own i rows a m cap hid hn h hg =>
        refine .own i rows a m cap (by rw [hlen]; omega) hn h (fun m' sz hm => ?_)
        rw [List.getElem?_append_left hid] at hm
        rw [g_lt i hid]
        exact hg m' sz hm
      | ms i off len cap h =>
        have := CRel.ms (w := w') (G := G3) (H := H' ++ T) i off len cap (by rw [hlen]; omega)
        rwa [rho_lt i h] at this
      | fn f caps arr hs _ ih =>
        simp only [C.low] at hl
        exact .fn f caps arr hs (fun i x v hx hv => ih i x v hx hv (C.lowL_get hl hx))
      | mv f x v _ ih => exact .mv f x v (ih (by simpa [C.low] using hl))
      | ma f cs arr hs ho _ ih =>
        simp only [C.low] at hl
        exact .ma f cs arr hs ho (fun i x v hx hv => ih i x v hx hv (C.lowL_get hl hx))
      | mp i h =>
        have := CRel.mp (w := w') (G := G3) (H := H' ++ T) i (by rw [hlen]; omega)
        rwa [rho_lt i h] at this
      | yd i h =>
        have := CRel.yd (w := w') (G := G3) (H := H' ++ T) i (by rw [hlen]; omega)
        rwa [rho_lt i h] at this
      | gp g => exact .gp g
      | fs n sz cs b o vs hl' hn hcell _ ih =>
        simp only [C.low] at hl
        exact .fs n sz cs b o vs hl' hn hcell (fun i x v hx hv => ih i x v hx hv (C.lowL_get hl hx))
      | vc i n a hid ha hg =>
        refine .vc i n a (by rw [hlen]; omega) ha (fun m sz cs hm => ?_)
        rw [List.getElem?_append_left hid] at hm
        rw [g_lt i hid]
        exact hg m sz cs hm
      | vs i n a cap hid ha hg =>
        refine .vs i n a cap (by rw [hlen]; omega) ha (fun m sz cs hm => ?_)
        rw [List.getElem?_append_left hid] at hm
        rw [g_lt i hid]
        exact hg m sz cs hm
      | vp i n off a hid hg =>
        refine .vp i n off a (by rw [hlen]; omega) (fun m sz cs hm => ?_)
        rw [List.getElem?_append_left hid] at hm
        rw [g_lt i hid]
        exact hg m sz cs hm
    have vr : ∀ (x : V) (u : Value), x.low H'.length = true → VRel w' G2 H' x u → VRel w' G3 (H' ++ T) x u := by
      intro x u hl h
      induction h with
      | c x v h => exact .c x v (cr x v (by simpa [V.low] using hl) h)
      | agg cs arr h =>
        simp only [V.low] at hl
        exact .agg cs arr ⟨h.1, fun i x v hx hv => ⟨cr x v (C.lowL_get hl hx) (h.2 i x v hx hv).1, (h.2 i x v hx hv).2⟩⟩
      | tup vs arr hs _ ih =>
        simp only [V.low] at hl
        exact .tup vs arr hs (fun i x v hx hv => ih i x v hx hv (V.lowL_get hl hx))
    have hrole : ∀ b k, G2.role b = some k → b < w.heap.size → k < H'.length ∧ G.role b = some k := fun b k hb hlt => by
      have h1 := L.role b hlt
      rw [hb] at h1
      simp only [Gh.clean] at h1
      cases hg : G.role b with
      | none => rw [hg] at h1; cases h1
      | some j =>
        rw [hg] at h1
        simp only at h1
        split at h1
        · cases h1; rename_i hj; exact ⟨hj, rfl⟩
        · cases h1
    have L3 : Later w G (H' ++ T) w' G3 (H' ++ T) :=
      { size := L.size
        S := L.S
        Snew := fun b o hb hr h => L.Snew b o hb (by simp [Gh.clean, hr]) h
        len := Nat.le_refl _
        rho := fun i hi => by
          show (if i < H'.length then G2.rho i else G.rho i) = _
          split
          · rename_i h; exact L.rho i h
          · rfl
        grow := fun i n sz hi hx => by
          refine ⟨n, hx, .inr ⟨rfl, ?_⟩⟩
          show (if i < H'.length then G2.g i else G.g i) = _
          split
          · rename_i h
            rw [List.getElem?_append_left h] at hx
            obtain ⟨m, hm, hc⟩ := L.grow i n sz h hx
            rw [hx] at hm
            cases hm
            rcases hc with hc | ⟨_, hc⟩
            · exact absurd hc (Nat.lt_irrefl _)
            · exact hc
          · rfl
        vec := fun i n sz cs hi hx => by
          refine ⟨n, sz, cs, hx, .inr ⟨rfl, ?_⟩⟩
          show (if i < H'.length then G2.g i else G.g i) = _
          split
          · rename_i h
            rw [List.getElem?_append_left h] at hx
            obtain ⟨m, sz0, cs0, hm, hc⟩ := L.vec i n sz cs h hx
            rw [hx] at hm
            cases hm
            rcases hc with hc | ⟨_, hc⟩
            · exact absurd hc (Nat.lt_irrefl _)
            · exact hc
          · rfl
        role := fun b hb => if_pos hb
        frame := fun b hb hr => L.frame b hb (by simp [Gh.clean, hr])
        os := L.os
        out := L.out }
    refine ⟨v, x, H' ++ T, G3, rfl, ⟨rfl, rfl⟩, ⟨R'.sex, fun b k hb => ?_, fun i z hz => ?_⟩, vr x v hy hv, L3⟩
    · have hb' : (if b < w.heap.size then G.role b else G2.role b) = some k := hb
      by_cases hlt : b < w.heap.size
      · exact Nat.lt_of_lt_of_le hlt L.size
      · rw [if_neg hlt] at hb'; exact R'.roleLt b k hb'
    · by_cases hi : i < H'.length
      · rw [List.getElem?_append_left hi] at hz
        have hab := R'.ab i z hz
        refine hab.ren (q := H'.length) (n := H'.length) (fun x u _ hl h => cr x u hl h) (fun x u _ hl h => vr x u hl h) (AB.low_free (Nat.le_refl _) hab.lows) hab.lows i (rho_lt i hi) (g_lt i hi) (fun b hb => ?_) (fun _ _ h => h) (fun j _ hj => ⟨rho_lt j hj, by rw [hlen]; omega⟩)
        show (if b < w.heap.size then G.role b else G2.role b) = some i
        split
        · rename_i hlt; exact (hrole b i hb hlt).2
        · exact hb
      · refine (R.ab i z hz).mono R L3 (List.getElem?_eq_some_iff.1 hz).1 (fun b hb => L.frame b (R.roleLt b i hb) ?_) (fun b o hb hs => L.Snew b o (R.roleLt b i hb) ?_ hs) ?_
        · simp [Gh.clean, hb, hi]
        · simp [Gh.clean, hb, hi]
        · show (if i < H'.length then G2.g i else G.g i) = _
          rw [if_neg hi]
end Go.Abs
/- The walk with some drawn regions left to the prover (those whose numbers are in a given list). -/
namespace Go.Abs
open Go
/-- Its regions are as the walk wants them; of those in the list nothing is asked. -/
def okZ (bad : List Nat) (nt : Nat) : Code → Bool
  | .seq x y => okZ bad nt x && okZ bad nt y
  | .block _ c => okZ bad nt c
  | .loop c => okZ bad nt c
  | .scope c => okZ bad nt c
  | .cond _ x y => okZ bad nt x && okZ bad nt y
  | .region _ ops false => dstsB nt ops.toList
  | .region id ops true => bad.contains id || (dstsB nt ops.toList && conflB (loudL ops.toList) ops)
  | .rangeFunc _ _ a b => okZ bad nt a && okZ bad nt b
  | _ => true
mutual
def goZ (bad : List Nat) (X : Tx) (r : Option Nat) (nb nt : Nat) (c : Code) (Q : Exit → St → Prop) (s : St) : Prop :=
  match c with
  | .skip => Q .normal s
  | .label _ => Q .normal s
  | .exit id => Q (.exit id) s
  | .ret => Q .ret s
  | .seq x y => goZ bad X r nb nt x (thenQ (contZ bad X r nb nt y Q) Q) s
  | .block id c => goZ bad X r nb nt c (blockQ id Q) s
  | .scope c => goZ bad X r nb nt c (noGoto Q) s
  | .cond c x y => match s.ev c with
    | .c (.d (.bool t)) => condP t (armZ bad X r nb nt x Q s) (armZ bad X r nb nt y Q s)
    | _ => False
  | .region _ ops false => aW X r nb nt ops ops.toList (Q .normal) s
  | .region id ops true => match bad.contains id with
    | true => AWP (X.cx r nb nt) (.region id ops true) Q s
    | false => dW X r nb nt ops (loudL ops.toList) 0 ops.toList (Q .normal) s
  | c => AWP (X.cx r nb nt) c Q s
def contZ (bad : List Nat) (X : Tx) (r : Option Nat) (nb nt : Nat) (c : Code) (Q : Exit → St → Prop) (s : St) : Prop := goZ bad X r nb nt c Q s
def armZ (bad : List Nat) (X : Tx) (r : Option Nat) (nb nt : Nat) (c : Code) (Q : Exit → St → Prop) (s : St) : Prop := goZ bad X r nb nt c Q s
end
theorem contZ_at (bad : List Nat) (X : Tx) (r : Option Nat) (nb nt : Nat) (c : Code) (Q : Exit → St → Prop) (s : St) : contZ bad X r nb nt c Q s = goZ bad X r nb nt c Q s := by rw [contZ]
theorem armZ_at (bad : List Nat) (X : Tx) (r : Option Nat) (nb nt : Nat) (c : Code) (Q : Exit → St → Prop) (s : St) : armZ bad X r nb nt c Q s = goZ bad X r nb nt c Q s := by rw [armZ]
theorem goZ_sound {bad : List Nat} {X : Tx} {r : Option Nat} {nb nt : Nat} (hm : X.P.follows .mixedOrders = true) (c : Code) : okZ bad nt c = true → ∀ {Q : Exit → St → Prop} {s : St}, goZ bad X r nb nt c Q s → AWP (X.cx r nb nt) c Q s := by
  induction c with
  | skip => intro _ Q s h; rw [goZ] at h; exact awp_skip h
  | label l => intro _ Q s h; rw [goZ] at h; exact awp_label h
  | exit id => intro _ Q s h; rw [goZ] at h; exact awp_exit h
  | ret => intro _ Q s h; rw [goZ] at h; exact awp_ret h
  | seq x y ihx ihy =>
    intro hok Q s h
    simp only [okZ, Bool.and_eq_true] at hok
    rw [goZ] at h
    exact awp_seq ((ihx hok.1 h).mono (thenQ_mono fun s h => ihy hok.2 (by rw [contZ_at] at h; exact h)))
  | block id c ih => intro hok Q s h; rw [goZ] at h; exact awp_block (ih hok h)
  | scope c ih => intro hok Q s h; rw [goZ] at h; exact awp_scope (ih hok h)
  | cond c x y ihx ihy =>
    intro hok Q s h
    simp only [okZ, Bool.and_eq_true] at hok
    rw [goZ] at h
    split at h
    · rename_i t hc
      rw [condP, armZ_at, armZ_at] at h
      exact awp_cond hc (fun e => ihx hok.1 (h.1 e)) (fun e => ihy hok.2 (h.2 e))
    · exact h.elim
  | region id ops d =>
    intro hok Q s h
    cases d with
    | false => rw [goZ] at h; exact awp_region (X := X.cx r nb nt) hok (aW_sound _ _ h)
    | true =>
      rw [goZ] at h
      split at h
      · exact h
      · rename_i hb
        simp only [okZ, hb, Bool.false_or, Bool.and_eq_true] at hok
        exact awp_region_drawn (X := X.cx r nb nt) (loudL ops.toList) hm hok.1 hok.2 (dW_sound _ _ _ (fun j o ho hlo => by rw [Nat.zero_add, loudL_bit _ j o ho]; exact hlo) h)
  | _ => intro _ Q s h; unfold goZ at h; exact h
theorem acall_ofZ {bad : List Nat} {X : Tx} {f : FuncId} {fn : Func} {c : Code} {args : List V} {H : List AB} {nt : Nat} {rs : List ResultVar} {post : V → List AB → Prop} (hf : X.P.funcs[f]? = some fn) (hb : fn.body = some c) (hn0 : notNum fn = true)
    (hnt : args.length + (fn.ntmps - args.length) = nt) (hrs : fn.results.toList = rs) (hm : X.P.follows .mixedOrders = true) (hok : okZ bad nt c = true)
    (h : goZ bad X none H.length nt c (retG X rs post) { slots := argS 0 args, heap := H, marks := [] }) : ACall X.P f args H post := by
  subst hrs
  exact acall_of_awp (X := X) hf hb hn0 hnt ((goZ_sound hm c hok h).mono retG_sound)
theorem pure_wkZ {bad : List Nat} {X : Tx} {f : FuncId} {fn : Func} {c : Code} {args : List V} {r : V} {nt : Nat} {rs : List ResultVar} (hf : X.P.funcs[f]? = some fn) (hb : fn.body = some c) (hn0 : notNum fn = true)
    (hnt : args.length + (fn.ntmps - args.length) = nt) (hrs : fn.results.toList = rs) (hm : X.P.follows .mixedOrders = true) (hok : okZ bad nt c = true) (ha : args.all (V.low 0) = true) (hr : r.low 0 = true)
    (h : (∀ x ∈ args, FitV x) → goZ bad X none 0 nt c (retG X rs (fun x _ => WkV x r)) { slots := argS 0 args, heap := [], marks := [] }) : Pure X.P f args r :=
  ⟨ACall.wkpost (ACall.fit (callFunc_runs hf hb hn0) (fun hfit => acall_ofZ (bad := bad) (X := X) hf hb hn0 hnt hrs hm hok (h hfit))), ha, hr⟩
theorem goZ_t {bad : List Nat} {X : Tx} {r : Option Nat} {nb nt : Nat} {c : Code} {Q : Exit → St → Prop} {s : St} (b : Prop) : condP true (armZ bad X r nb nt c Q s) b = goZ bad X r nb nt c Q s := by rw [condP_t, armZ_at]
theorem goZ_f {bad : List Nat} {X : Tx} {r : Option Nat} {nb nt : Nat} {c : Code} {Q : Exit → St → Prop} {s : St} (a : Prop) : condP false a (armZ bad X r nb nt c Q s) = goZ bad X r nb nt c Q s := by rw [condP_f, armZ_at]
theorem goZ_if {bad : List Nat} {X : Tx} {r : Option Nat} {nb nt : Nat} {c c' : Code} {Q : Exit → St → Prop} {s : St} {t : Bool} (h1 : t = true → goZ bad X r nb nt c Q s) (h2 : t = false → goZ bad X r nb nt c' Q s) : condP t (armZ bad X r nb nt c Q s) (armZ bad X r nb nt c' Q s) :=
  ⟨fun h => by rw [armZ_at]; exact h1 h, fun h => by rw [armZ_at]; exact h2 h⟩
theorem yc_ofZ {bad : List Nat} {X : Tx} {id : Nat} {H : List AB} {r : LR} {x : V} {post : V → List AB → Prop} (hm : X.P.follows .mixedOrders = true) (hid : H[id]? = some (.lp r)) (hps : r.ps.size = 1) (hnt : r.ps.toList.all (fun p => decide (p < r.nt)) = true) (hoka : okZ bad r.nt r.assign = true) (hokb : okZ bad r.nt r.body = true)
    (h : ∀ l, goZ bad X (some l) H.length r.nt r.assign (thenQ (fun t => ∃ t', busyH id t = some t' ∧ goZ bad X (some l) H.length r.nt r.body (fun e u => ∃ u', Ent (X.cx (some l) H.length r.nt) u u' ∧ roundQ id post e u') t') (fun _ _ => False)) { slots := putPs r.ps.toList [x] r.slots, heap := H, marks := [] }) :
    YC X.P id H x post := by
  intro ro o E xo as ts ho hx hv
  have hsz : as.size = r.ps.size := by rw [hps, ← Array.length_toList, ← List.length_map (as := as.toList) E, hv]; rfl
  refine opAt_yield (tt := X.tt) ho hx hid hsz hnt (fun l => ?_)
  rw [hv]
  refine (goZ_sound (X := X) (r := some l) (nb := H.length) hm r.assign hoka (h l)).mono ?_
  refine thenQ_mono fun t ht => ?_
  obtain ⟨t', h1, h2⟩ := ht
  exact ⟨t', h1, AWP.post (goZ_sound (X := X) (r := some l) (nb := H.length) hm r.body hokb h2)⟩
/-- A region left by the walk, run by the executor. -/
theorem awp_regX {X : Tx} {r : Option Nat} {nb nt id : Nat} {ops : Array Oper} {Q : Exit → St → Prop} {s s' : St} (n : Nat) (hm : X.P.follows .mixedOrders = true)
    (h : xC X [] [] n true nt [] (.region id ops true) s = some (.normal, s')) (hok : okX nt (.region id ops true) = true) (hq : Q .normal s') : AWP (X.cx r nb nt) (.region id ops true) Q s :=
  ((xall (L := []) (KT := []) hm rfl n).1 _ s _ s' true r nb nt [] h hok (fun e => by cases e)).mono (fun e t ⟨e1, e2⟩ => by subst e1; subst e2; exact hq)
/-- The same, for two values read and two stores. -/
theorem awp_regS {X : Tx} {r : Option Nat} {nb nt id : Nat} {ops : Array Oper} {Q : Exit → St → Prop} {s : St} (n d1 : Nat) (v : V) (d2 : Nat) (w : V) (b1 : Nat) (c1 : List C) (b2 : Nat) (c2 : List C) (hm : X.P.follows .mixedOrders = true)
    (h : xC X [] [] n true nt [] (.region id ops true) s = some (.normal, { slots := setS (setS s.slots d1 v) d2 w, heap := (s.heap.set b1 (.cells c1)).set b2 (.cells c2), marks := s.marks })) (hok : okX nt (.region id ops true) = true)
    (hq : Q .normal { slots := setS (setS s.slots d1 v) d2 w, heap := (s.heap.set b1 (.cells c1)).set b2 (.cells c2), marks := s.marks }) : AWP (X.cx r nb nt) (.region id ops true) Q s :=
  awp_regX n hm h hok hq
/-- The same, with a value besides. -/
theorem awp_regS3 {X : Tx} {r : Option Nat} {nb nt id : Nat} {ops : Array Oper} {Q : Exit → St → Prop} {s : St} (n d1 : Nat) (v : V) (d2 : Nat) (w : V) (d3 : Nat) (y : V) (b1 : Nat) (c1 : List C) (b2 : Nat) (c2 : List C) (hm : X.P.follows .mixedOrders = true)
    (h : xC X [] [] n true nt [] (.region id ops true) s = some (.normal, { slots := setS (setS (setS s.slots d1 v) d2 w) d3 y, heap := (s.heap.set b1 (.cells c1)).set b2 (.cells c2), marks := s.marks })) (hok : okX nt (.region id ops true) = true)
    (hq : Q .normal { slots := setS (setS (setS s.slots d1 v) d2 w) d3 y, heap := (s.heap.set b1 (.cells c1)).set b2 (.cells c2), marks := s.marks }) : AWP (X.cx r nb nt) (.region id ops true) Q s :=
  awp_regX n hm h hok hq
end Go.Abs
/- The walk whose listed drawn regions are taken by the rule of windows (stores that commute, several new blocks). -/
namespace Go.Abs
open Go
/-- Left to the prover: a call. -/
def dS (X : Tx) (r : Option Nat) (nb nt : Nat) (m3 : Bool) (n0 N0 : Nat) (all : Array Oper) (k _hc : Nat) (os : List Oper) (acc : List Note) (Q : St → Prop) (s : St) : Prop :=
  DOps2 (X.cx r nb nt) m3 n0 N0 all k os acc (fun acc t => pairsOk m3 all acc = true ∧ Q t) s
mutual
def dE (X : Tx) (r : Option Nat) (nb nt : Nat) (m3 : Bool) (n0 N0 : Nat) (all : Array Oper) (k hc : Nat) (os : List Oper) (acc : List Note) (Q : St → Prop) (s : St) : Prop :=
  match os with
  | [] => pairsOk m3 all acc = true ∧ Q s
  | o :: os => match guardOf all s.get o with
    | some g => condP g (eRun X r nb nt m3 n0 N0 all k hc (o :: os) acc Q s) (eArm X r nb nt m3 n0 N0 all (k + 1) hc os (addN m3 n0 k (.tup []) .no .none acc) Q (s.put o.dst (.tup []) s.heap))
    | none => dS X r nb nt m3 n0 N0 all k hc (o :: os) acc Q s
  termination_by (os.length, 1)
def eRun (X : Tx) (r : Option Nat) (nb nt : Nat) (m3 : Bool) (n0 N0 : Nat) (all : Array Oper) (k hc : Nat) (os : List Oper) (acc : List Note) (Q : St → Prop) (s : St) : Prop :=
  match os with
  | [] => pairsOk m3 all acc = true ∧ Q s
  | o :: os => match m3 && makes s.ev o.op with
    | true => match mkOf X s.ev o.op with
      | some (mk, b) => match s.heap[hc]? with
        | some .gone => (n0 ≤ hc ∧ b.newB hc N0 = true) ∧ dE X r nb nt m3 n0 N0 all (k + 1) (hc + 1) os (addN m3 n0 k (.c (mk.at hc)) (.put hc b) (.blk hc) acc) Q (s.put o.dst (.c (mk.at hc)) (s.heap.set hc b))
        | _ => dS X r nb nt m3 n0 N0 all k hc (o :: os) acc Q s
      | none => dS X r nb nt m3 n0 N0 all k hc (o :: os) acc Q s
    | false => match op1 X s.heap s.ev o.op with
      | some (c, x, H') => c = true ∧ dE X r nb nt m3 n0 N0 all (k + 1) hc os (addN m3 n0 k x (effOf s.ev o.op H') (footOf X s.ev o.op) acc) Q (s.put o.dst x H')
      | none => dS X r nb nt m3 n0 N0 all k hc (o :: os) acc Q s
  termination_by (os.length, 0)
def eArm (X : Tx) (r : Option Nat) (nb nt : Nat) (m3 : Bool) (n0 N0 : Nat) (all : Array Oper) (k hc : Nat) (os : List Oper) (acc : List Note) (Q : St → Prop) (s : St) : Prop := dE X r nb nt m3 n0 N0 all k hc os acc Q s
  termination_by (os.length, 2)
end
section
variable {X : Tx} {r : Option Nat} {nb nt : Nat} {m3 : Bool} {n0 N0 : Nat} {all : Array Oper} {k hc : Nat} {os : List Oper} {o : Oper} {acc : List Note} {Q : St → Prop} {s : St}
theorem eArm_at : eArm X r nb nt m3 n0 N0 all k hc os acc Q s = dE X r nb nt m3 n0 N0 all k hc os acc Q s := by rw [eArm]
theorem dE_nil : dE X r nb nt m3 n0 N0 all k hc [] acc Q s = (pairsOk m3 all acc = true ∧ Q s) := by rw [dE]
theorem dE_cons : dE X r nb nt m3 n0 N0 all k hc (o :: os) acc Q s = (match guardOf all s.get o with
    | some g => condP g (eRun X r nb nt m3 n0 N0 all k hc (o :: os) acc Q s) (eArm X r nb nt m3 n0 N0 all (k + 1) hc os (addN m3 n0 k (.tup []) .no .none acc) Q (s.put o.dst (.tup []) s.heap))
    | none => dS X r nb nt m3 n0 N0 all k hc (o :: os) acc Q s) := by rw [dE]
theorem eRun_cons : eRun X r nb nt m3 n0 N0 all k hc (o :: os) acc Q s = (match m3 && makes s.ev o.op with
    | true => match mkOf X s.ev o.op with
      | some (mk, b) => match s.heap[hc]? with
        | some .gone => (n0 ≤ hc ∧ b.newB hc N0 = true) ∧ dE X r nb nt m3 n0 N0 all (k + 1) (hc + 1) os (addN m3 n0 k (.c (mk.at hc)) (.put hc b) (.blk hc) acc) Q (s.put o.dst (.c (mk.at hc)) (s.heap.set hc b))
        | _ => dS X r nb nt m3 n0 N0 all k hc (o :: os) acc Q s
      | none => dS X r nb nt m3 n0 N0 all k hc (o :: os) acc Q s
    | false => match op1 X s.heap s.ev o.op with
      | some (c, x, H') => c = true ∧ dE X r nb nt m3 n0 N0 all (k + 1) hc os (addN m3 n0 k x (effOf s.ev o.op H') (footOf X s.ev o.op) acc) Q (s.put o.dst x H')
      | none => dS X r nb nt m3 n0 N0 all k hc (o :: os) acc Q s) := by rw [eRun]
theorem de_t (b : Prop) : condP true (eRun X r nb nt m3 n0 N0 all k hc (o :: os) acc Q s) b = (match m3 && makes s.ev o.op with
    | true => match mkOf X s.ev o.op with
      | some (mk, b) => match s.heap[hc]? with
        | some .gone => (n0 ≤ hc ∧ b.newB hc N0 = true) ∧ dE X r nb nt m3 n0 N0 all (k + 1) (hc + 1) os (addN m3 n0 k (.c (mk.at hc)) (.put hc b) (.blk hc) acc) Q (s.put o.dst (.c (mk.at hc)) (s.heap.set hc b))
        | _ => dS X r nb nt m3 n0 N0 all k hc (o :: os) acc Q s
      | none => dS X r nb nt m3 n0 N0 all k hc (o :: os) acc Q s
    | false => match op1 X s.heap s.ev o.op with
      | some (c, x, H') => c = true ∧ dE X r nb nt m3 n0 N0 all (k + 1) hc os (addN m3 n0 k x (effOf s.ev o.op H') (footOf X s.ev o.op) acc) Q (s.put o.dst x H')
      | none => dS X r nb nt m3 n0 N0 all k hc (o :: os) acc Q s) := by rw [condP_t, eRun_cons]
theorem de_f (a : Prop) : condP false a (eArm X r nb nt m3 n0 N0 all k hc os acc Q s) = dE X r nb nt m3 n0 N0 all k hc os acc Q s := by rw [condP_f, eArm_at]
theorem dE_sound : ∀ (os : List Oper) (k hc : Nat) (acc : List Note) (s : St), dE X r nb nt m3 n0 N0 all k hc os acc Q s → dS X r nb nt m3 n0 N0 all k hc os acc Q s
  | [], k, hc, acc, s, h => by rw [dE_nil] at h; exact h
  | o :: os, k, hc, acc, s, h => by
    rw [dE_cons] at h
    split at h
    · rename_i g hg
      cases g with
      | false =>
        rw [de_f] at h
        exact ⟨false, .tup [], .no, .none, hg, by simp, kindP_no _ _, dE_sound os _ hc _ _ h⟩
      | true =>
        rw [de_t] at h
        split at h
        · rename_i hmk
          simp only [Bool.and_eq_true] at hmk
          split at h
          · rename_i mk b hm1
            split at h
            · rename_i hgone
              obtain ⟨⟨hc0, hc1⟩, h⟩ := h
              obtain ⟨g1, g2⟩ := AB.newB_spec hc1
              obtain ⟨f1', f2⟩ := mkOf_spec hm1
              refine ⟨true, _, .put hc b, .blk hc, hg, ?_, kindP_mk hmk.1 f1', dE_sound os _ _ _ _ h⟩
              simp only [if_true]
              exact .inr ⟨mk, b, rfl, rfl, hgone, rfl, hc0, g1, g2, fun H2 _ => op1_sound _ (f2 H2)⟩
            · exact h
          · exact h
        · rename_i hmk
          split at h
          · rename_i c x H' hop
            obtain ⟨hc1, h⟩ := h
            subst hc1
            obtain ⟨f1, f2⟩ := op1_foot hop
            refine ⟨true, x, effOf s.ev o.op H', footOf X s.ev o.op, hg, ?_, kindP_of m3 (fun h3 => makes_not (by rw [h3] at hmk; simpa using hmk)) hop, ?_⟩
            · simp only [if_true]
              unfold StepP
              rw [effOf_hole]
              exact fun H2 hs => op1_sound _ (f1 H2 hs)
            · rw [f2]; exact dE_sound os _ hc _ _ h
          · exact h
    · exact h
theorem de_pure {g : FuncId} {args args' : List V} {y : V} (h : Pure X.P g args' y) (hg : guardOf all s.get o = some true) (hcl : calleeOf s.ev o = some (g, args)) (hw : WkVs args args')
    (n : dE X r nb nt m3 n0 N0 all (k + 1) hc os (addN m3 n0 k y .no .none acc) Q (s.put o.dst y s.heap)) : dS X r nb nt m3 n0 N0 all k hc (o :: os) acc Q s :=
  ⟨true, y, .no, .none, hg, by simp only [if_true]; exact fun H2 _ => opAt_of_callee hcl ((h.at _).weak hw), kindP_no _ _, dE_sound os _ hc _ _ n⟩
theorem callee_kind {E : Operand → V} {o : Oper} {p : FuncId × List V} (h : calleeOf E o = some p) (m3 : Bool) (w : Foot) : kindP m3 o.op .no w := by
  have hq : quietOp o.op = false := by
    unfold calleeOf at h
    split at h
    · rename_i ho; rw [ho]; rfl
    · cases h
  exact ⟨fun e => (by rw [hq] at e; cases e), fun _ => rfl, fun _ => .inl rfl, fun _ => rfl⟩
/-- A call that reads the heap: told at this very heap; whatever changes it must be ordered beside the call. -/
theorem de_at {g : FuncId} {args args' : List V} {y : V} (h : ACall X.P g args' s.heap (one y s.heap)) (hg : guardOf all s.get o = some true) (hcl : calleeOf s.ev o = some (g, args)) (hw : WkVs args args')
    (n : dE X r nb nt m3 n0 N0 all (k + 1) hc os (addN m3 n0 k y .no .all acc) Q (s.put o.dst y s.heap)) : dS X r nb nt m3 n0 N0 all k hc (o :: os) acc Q s :=
  ⟨true, y, .no, .all, hg, by
    simp only [if_true]
    intro H2 hs
    have hs : H2 = s.heap := hs
    subst hs
    exact opAt_of_callee hcl (h.weak hw), callee_kind hcl _ _, dE_sound os _ hc _ _ n⟩
end

section
variable {X : Tx} {r : Option Nat} {nb nt : Nat} {m3 : Bool} {n0 N0 : Nat} {all : Array Oper} {k hc : Nat} {os : List Oper} {o : Oper} {acc : List Note} {Q : St → Prop} {s : St}
/-- A call that makes one block. -/
theorem de_make {g : FuncId} {args args' : List V} {mk : MkK} {b : AB} (h : ∀ H, ACall X.P g args' H (one (.c (mk.at H.length)) (H ++ [b]))) (hg : guardOf all s.get o = some true) (hcl : calleeOf s.ev o = some (g, args)) (hw : WkVs args args') (hm3 : m3 = true) (hco : callOp o.op = true)
    (hgone : s.heap[hc]? = some .gone) (hc0 : n0 ≤ hc) (hb : b.newB hc N0 = true)
    (n : dE X r nb nt m3 n0 N0 all (k + 1) (hc + 1) os (addN m3 n0 k (.c (mk.at hc)) (.put hc b) (.blk hc) acc) Q (s.put o.dst (.c (mk.at hc)) (s.heap.set hc b))) : dS X r nb nt m3 n0 N0 all k hc (o :: os) acc Q s := by
  obtain ⟨g1, g2⟩ := AB.newB_spec hb
  refine ⟨true, _, .put hc b, .blk hc, hg, ?_, kindP_call hm3 hco, dE_sound os _ _ _ _ n⟩
  simp only [if_true]
  exact .inr ⟨mk, b, rfl, rfl, hgone, rfl, hc0, g1, g2, fun H2 _ => opAt_of_callee hcl ((h H2).weak hw)⟩
/-- A call that makes several blocks. -/
theorem de_makes {g : FuncId} {args args' : List V} {x0 x2 : V} {B B2 : List AB} {m : Nat} (h : ∀ H, ACall X.P g args' H (one (x0.shift H.length) (H ++ B.map (AB.shift H.length)))) (hg : guardOf all s.get o = some true) (hcl : calleeOf s.ev o = some (g, args)) (hw : WkVs args args') (hm3 : m3 = true) (hco : callOp o.op = true)
    (hl : B.length = m) (hx2 : x0.shift hc = x2) (hB2 : B.map (AB.shift hc) = B2) (hc0 : n0 ≤ hc ∧ hc + m ≤ N0) (hx : x0.shB m = true) (hB : B.all (AB.shB m) = true)
    (n : dE X r nb nt m3 n0 N0 all (k + 1) (hc + m) os (addN m3 n0 k x2 (.puts hc B2) (.blks hc m) acc) Q (s.put o.dst x2 (setMany s.heap hc B2))) : dS X r nb nt m3 n0 N0 all k hc (o :: os) acc Q s := by
  subst hl hx2 hB2
  refine ⟨true, _, .puts hc (B.map (AB.shift hc)), .blks hc B.length, hg, ?_, kindP_calls hm3 hco (by simp), dE_sound os _ _ _ _ n⟩
  simp only [if_true]
  exact .inl ⟨x0, B, rfl, rfl, rfl, hc0.1, hc0.2, hx, hB, fun H2 _ => opAt_of_callee hcl ((h H2).weak hw)⟩
end
/-! ### What is not read any more is dropped -/
def lookK : List (Nat × List Nat) → Nat → Option (List Nat)
  | [], _ => none
  | (i, l) :: r, j => if i = j then some l else lookK r j
def trimL (sl : List (Nat × V)) : Option (List Nat) → List (Nat × V)
  | some l => l.map fun j => (j, getS sl j)
  | none => sl
def trimK (kp : List (Nat × List Nat)) (id : Nat) (t : St) : St := { slots := trimL t.slots (lookK kp id), heap := t.heap, marks := t.marks }
theorem getS_keep (sl : List (Nat × V)) (i : Nat) : ∀ l : List Nat, getS (l.map fun j => (j, getS sl j)) i = getS sl i ∨ getS (l.map fun j => (j, getS sl j)) i = .c .any
  | [] => .inr rfl
  | j :: l => by
    simp only [List.map_cons, getS]
    by_cases h : j = i
    · subst h; simp
    · rw [if_neg h]; exact getS_keep sl i l
theorem ent_trim {X : Cx} (kp : List (Nat × List Nat)) (id : Nat) (t : St) : Ent X t (trimK kp id t) := fun bs w G a hR => by
  refine ⟨G, { rel := hR.rel, later := hR.later, base := hR.base, size := hR.size, slots := fun i => ?_, defers := hR.defers, marks := hR.marks }⟩
  show VRel w G t.heap (getS (trimL t.slots (lookK kp id)) i) _
  cases lookK kp id with
  | none => exact hR.slots i
  | some l =>
    rcases getS_keep t.slots i l with h | h
    · simp only [trimL, h]; exact hR.slots i
    · simp only [trimL, h]; exact .c _ _ (.any _)
/-- Left to the prover: the state told otherwise. -/
def StopP (X : Cx) (Q : St → Prop) (t : St) : Prop := ∃ t', Ent X t t' ∧ Q t'
theorem stop_mk {X : Cx} {Q : St → Prop} {t : St} (t' : St) (h : Ent X t t') (k : Q t') : StopP X Q t := ⟨t', h, k⟩
/-- Behind the regions whose number and 10000 is in the list the walk stops. -/
def stopQ (bad : List Nat) (X : Cx) (id : Nat) (Q : St → Prop) (t : St) : Prop := match bad.contains (id + 10000) with
  | true => StopP X Q t
  | false => Q t
theorem stop_ent {bad : List Nat} {X : Cx} {id : Nat} {Q : St → Prop} {t : St} (h : stopQ bad X id Q t) : ∃ t', Ent X t t' ∧ Q t' := by
  unfold stopQ at h
  split at h
  · exact h
  · exact ⟨t, Ent.refl, h⟩
theorem post_trim {X : Cx} {c : Code} {Q : Exit → St → Prop} {s : St} {bad : List Nat} {kp : List (Nat × List Nat)} {id : Nat} (h : AWP X c (fun e t => stopQ bad X id (Q e) (trimK kp id t)) s) : AWP X c Q s :=
  AWP.post (h.mono fun e t ht => by
    obtain ⟨t', h1, h2⟩ := stop_ent ht
    exact ⟨t', (ent_trim kp id t).trans h1, h2⟩)

/-- Those that write, and the calls of functions that a slot holds. -/
def loudL2 : List Oper → Nat
  | [] => 0
  | o :: os => 2 * loudL2 os + (if loudOp o.op || (match o.op with | .call { callee := .value (.tmp _), args := _, argTypes := _ } => true | _ => false) then 1 else 0)
theorem loudL2_bit : ∀ (os : List Oper) (k : Nat) (o : Oper), os[k]? = some o → loudOp o.op = true → (loudL2 os).testBit k = true
  | [], k, o, h, _ => by simp at h
  | o' :: os, 0, o, h, hl => by
    simp at h; subst h
    rw [loudL2, hl, Bool.true_or, if_pos rfl, Nat.testBit_zero]
    simp
  | o' :: os, k + 1, o, h, hl => by
    have ih := loudL2_bit os k o (by simpa using h) hl
    rw [loudL2, Nat.testBit_succ]
    have e : ∀ (n : Nat) (b : Prop) [Decidable b], (2 * n + (if b then 1 else 0)) / 2 = n := fun n b _ => by split <;> omega
    rw [e]; exact ih
def valOp : Op → Bool
  | .call { callee := .value (.tmp _), args := _, argTypes := _ } => true
  | _ => false
/-- Those that write, and the last call of a function that a slot holds (a region's number and 50000). -/
def loudL3 : List Oper → Nat
  | [] => 0
  | o :: os => 2 * loudL3 os + (if loudOp o.op || (valOp o.op && os.all fun p => !valOp p.op) then 1 else 0)
theorem loudL3_bit : ∀ (os : List Oper) (k : Nat) (o : Oper), os[k]? = some o → loudOp o.op = true → (loudL3 os).testBit k = true
  | [], k, o, h, _ => by simp at h
  | o' :: os, 0, o, h, hl => by
    simp at h; subst h
    rw [loudL3, hl, Bool.true_or, if_pos rfl, Nat.testBit_zero]
    simp
  | o' :: os, k + 1, o, h, hl => by
    have ih := loudL3_bit os k o (by simpa using h) hl
    rw [loudL3, Nat.testBit_succ]
    have e : ∀ (n : Nat) (b : Prop) [Decidable b], (2 * n + (if b then 1 else 0)) / 2 = n := fun n b _ => by split <;> omega
    rw [e]; exact ih
/-- In the regions whose number and 20000 is in the list the calls of such functions count as writing. -/
def loudX (bad : List Nat) (id : Nat) (os : List Oper) : Nat := match bad.contains (id + 20000) with
  | true => loudL2 os
  | false => match bad.contains (id + 50000) with
    | true => loudL3 os
    | false => loudL os
theorem loudX_bit {bad : List Nat} {id : Nat} (os : List Oper) (k : Nat) (o : Oper) (h : os[k]? = some o) (hl : loudOp o.op = true) : (loudX bad id os).testBit k = true := by
  unfold loudX
  split
  · exact loudL2_bit os k o h hl
  · split
    · exact loudL3_bit os k o h hl
    · rw [loudL_bit os k o h]; exact hl

/-- How often a number is in the list. -/
def cntN : List Nat → Nat → Nat
  | [], _ => 0
  | b :: l, i => match b == i with
    | true => cntN l i + 1
    | false => cntN l i
/-- In the regions whose number and 30000 is in the list the calls make blocks: as many as it is there. -/
def cntX (bad : List Nat) (id : Nat) (os : List Oper) : Nat := countMk os + cntN bad (id + 30000)
/-- Its regions are as the walk wants them; of those in the list another thing is asked. -/
def okE (bad : List Nat) (nt : Nat) : Code → Bool
  | .seq x y => okE bad nt x && okE bad nt y
  | .block _ c => okE bad nt c
  | .loop c => okE bad nt c
  | .scope c => okE bad nt c
  | .cond _ x y => okE bad nt x && okE bad nt y
  | .region _ ops false => dstsB nt ops.toList
  | .region id ops true => dstsB nt ops.toList && (if bad.contains id then conflB2 (m3of ops) ops else conflB (loudX bad id ops.toList) ops)
  | .rangeFunc _ _ a b => okE bad nt a && okE bad nt b
  | _ => true
mutual
def goE (bad : List Nat) (kp : List (Nat × List Nat)) (X : Tx) (r : Option Nat) (nb nt : Nat) (c : Code) (Q : Exit → St → Prop) (s : St) : Prop :=
  match c with
  | .skip => Q .normal s
  | .label _ => Q .normal s
  | .exit id => Q (.exit id) s
  | .ret => Q .ret s
  | .seq x y => goE bad kp X r nb nt x (thenQ (contE bad kp X r nb nt y Q) Q) s
  | .block id c => goE bad kp X r nb nt c (blockQ id Q) s
  | .scope c => goE bad kp X r nb nt c (noGoto Q) s
  | .cond c x y => match s.ev c with
    | .c (.d (.bool t)) => condP t (armE bad kp X r nb nt x Q s) (armE bad kp X r nb nt y Q s)
    | _ => False
  | .region id ops false => match bad.contains (id + 40000) with
    | true => AWP (X.cx r nb nt) (.region id ops false) (fun e t => stopQ bad (X.cx r nb nt) id (Q e) (trimK kp id t)) s
    | false => aW X r nb nt ops ops.toList (fun t => stopQ bad (X.cx r nb nt) id (Q .normal) (trimK kp id t)) s
  | .region id ops true => match bad.contains id with
    | true => dE X r nb nt (m3of ops) s.heap.length (holed (m3of ops) (cntX bad id ops.toList) s).heap.length ops 0 s.heap.length ops.toList [] (fun t => stopQ bad (X.cx r nb nt) id (Q .normal) (trimK kp id t)) (holed (m3of ops) (cntX bad id ops.toList) s)
    | false => dW X r nb nt ops (loudX bad id ops.toList) 0 ops.toList (fun t => stopQ bad (X.cx r nb nt) id (Q .normal) (trimK kp id t)) s
  | c => AWP (X.cx r nb nt) c Q s
def contE (bad : List Nat) (kp : List (Nat × List Nat)) (X : Tx) (r : Option Nat) (nb nt : Nat) (c : Code) (Q : Exit → St → Prop) (s : St) : Prop := goE bad kp X r nb nt c Q s
def armE (bad : List Nat) (kp : List (Nat × List Nat)) (X : Tx) (r : Option Nat) (nb nt : Nat) (c : Code) (Q : Exit → St → Prop) (s : St) : Prop := goE bad kp X r nb nt c Q s
end
theorem contE_at (bad : List Nat) (kp : List (Nat × List Nat)) (X : Tx) (r : Option Nat) (nb nt : Nat) (c : Code) (Q : Exit → St → Prop) (s : St) : contE bad kp X r nb nt c Q s = goE bad kp X r nb nt c Q s := by rw [contE]
theorem armE_at (bad : List Nat) (kp : List (Nat × List Nat)) (X : Tx) (r : Option Nat) (nb nt : Nat) (c : Code) (Q : Exit → St → Prop) (s : St) : armE bad kp X r nb nt c Q s = goE bad kp X r nb nt c Q s := by rw [armE]
theorem goE_sound {bad : List Nat} {kp : List (Nat × List Nat)} {X : Tx} {r : Option Nat} {nb nt : Nat} (hm : X.P.follows .mixedOrders = true) (c : Code) : okE bad nt c = true → ∀ {Q : Exit → St → Prop} {s : St}, goE bad kp X r nb nt c Q s → AWP (X.cx r nb nt) c Q s := by
  induction c with
  | skip => intro _ Q s h; rw [goE] at h; exact awp_skip h
  | label l => intro _ Q s h; rw [goE] at h; exact awp_label h
  | exit id => intro _ Q s h; rw [goE] at h; exact awp_exit h
  | ret => intro _ Q s h; rw [goE] at h; exact awp_ret h
  | seq x y ihx ihy =>
    intro hok Q s h
    simp only [okE, Bool.and_eq_true] at hok
    rw [goE] at h
    exact awp_seq ((ihx hok.1 h).mono (thenQ_mono fun s h => ihy hok.2 (by rw [contE_at] at h; exact h)))
  | block id c ih => intro hok Q s h; rw [goE] at h; exact awp_block (ih hok h)
  | scope c ih => intro hok Q s h; rw [goE] at h; exact awp_scope (ih hok h)
  | cond c x y ihx ihy =>
    intro hok Q s h
    simp only [okE, Bool.and_eq_true] at hok
    rw [goE] at h
    split at h
    · rename_i t hc
      rw [condP, armE_at, armE_at] at h
      exact awp_cond hc (fun e => ihx hok.1 (h.1 e)) (fun e => ihy hok.2 (h.2 e))
    · exact h.elim
  | region id ops d =>
    intro hok Q s h
    cases d with
    | false =>
      rw [goE] at h
      split at h
      · exact post_trim h
      · exact post_trim (awp_region (X := X.cx r nb nt) (Q := fun e t => stopQ bad (X.cx r nb nt) id (Q e) (trimK kp id t)) hok (aW_sound _ _ h))
    | true =>
      rw [goE] at h
      simp only [okE, Bool.and_eq_true] at hok
      split at h
      · rename_i hb
        rw [if_pos hb] at hok
        exact post_trim (awp_region_drawn2 (X := X.cx r nb nt) (Q := fun e t => stopQ bad (X.cx r nb nt) id (Q e) (trimK kp id t)) (m3of ops) (cntX bad id ops.toList) hm hok.1 hok.2 (dE_sound _ _ _ _ _ h))
      · rename_i hb
        rw [if_neg (by rw [hb]; simp)] at hok
        exact post_trim (awp_region_drawn (X := X.cx r nb nt) (Q := fun e t => stopQ bad (X.cx r nb nt) id (Q e) (trimK kp id t)) (loudX bad id ops.toList) hm hok.1 hok.2 (dW_sound _ _ _ (fun j o ho hlo => by rw [Nat.zero_add]; exact loudX_bit _ j o ho hlo) h))
  | _ => intro _ Q s h; unfold goE at h; exact h
theorem acall_ofE {bad : List Nat} {kp : List (Nat × List Nat)} {X : Tx} {f : FuncId} {fn : Func} {c : Code} {args : List V} {H : List AB} {nt : Nat} {rs : List ResultVar} {post : V → List AB → Prop} (hf : X.P.funcs[f]? = some fn) (hb : fn.body = some c) (hn0 : notNum fn = true)
    (hnt : args.length + (fn.ntmps - args.length) = nt) (hrs : fn.results.toList = rs) (hm : X.P.follows .mixedOrders = true) (hok : okE bad nt c = true)
    (h : goE bad kp X none H.length nt c (retG X rs post) { slots := argS 0 args, heap := H, marks := [] }) : ACall X.P f args H post := by
  subst hrs
  exact acall_of_awp (X := X) hf hb hn0 hnt ((goE_sound hm c hok h).mono retG_sound)
theorem pure_wkE {bad : List Nat} {kp : List (Nat × List Nat)} {X : Tx} {f : FuncId} {fn : Func} {c : Code} {args : List V} {r : V} {nt : Nat} {rs : List ResultVar} (hf : X.P.funcs[f]? = some fn) (hb : fn.body = some c) (hn0 : notNum fn = true)
    (hnt : args.length + (fn.ntmps - args.length) = nt) (hrs : fn.results.toList = rs) (hm : X.P.follows .mixedOrders = true) (hok : okE bad nt c = true) (ha : args.all (V.low 0) = true) (hr : r.low 0 = true)
    (h : (∀ x ∈ args, FitV x) → goE bad kp X none 0 nt c (retG X rs (fun x _ => WkV x r)) { slots := argS 0 args, heap := [], marks := [] }) : Pure X.P f args r :=
  ⟨ACall.wkpost (ACall.fit (callFunc_runs hf hb hn0) (fun hfit => acall_ofE (bad := bad) (X := X) hf hb hn0 hnt hrs hm hok (h hfit))), ha, hr⟩
theorem acall_atE {bad : List Nat} {kp : List (Nat × List Nat)} {X : Tx} {f : FuncId} {fn : Func} {c : Code} {args : List V} {H : List AB} {r : V} {nt : Nat} {rs : List ResultVar} (hf : X.P.funcs[f]? = some fn) (hb : fn.body = some c) (hn0 : notNum fn = true)
    (hnt : args.length + (fn.ntmps - args.length) = nt) (hrs : fn.results.toList = rs) (hm : X.P.follows .mixedOrders = true) (hok : okE bad nt c = true) (hr : r.low H.length = true) (hH : H.all (AB.low H.length) = true)
    (h : (∀ x ∈ args, FitV x) → goE bad kp X none H.length nt c (retG X rs (fun x H' => WkV x r ∧ ∃ T, H' = H ++ T)) { slots := argS 0 args, heap := H, marks := [] }) : ACall X.P f args H (one r H) :=
  ACall.drop hr hH (ACall.fit (callFunc_runs hf hb hn0) (fun hfit => acall_ofE (bad := bad) (kp := kp) (X := X) hf hb hn0 hnt hrs hm hok (h hfit)))
theorem acall_fitE {bad : List Nat} {kp : List (Nat × List Nat)} {X : Tx} {f : FuncId} {fn : Func} {c : Code} {args : List V} {H : List AB} {post : V → List AB → Prop} {nt : Nat} {rs : List ResultVar} (hf : X.P.funcs[f]? = some fn) (hb : fn.body = some c) (hn0 : notNum fn = true)
    (hnt : args.length + (fn.ntmps - args.length) = nt) (hrs : fn.results.toList = rs) (hm : X.P.follows .mixedOrders = true) (hok : okE bad nt c = true)
    (h : (∀ x ∈ args, FitV x) → goE bad kp X none H.length nt c (retG X rs post) { slots := argS 0 args, heap := H, marks := [] }) : ACall X.P f args H post :=
  ACall.fit (callFunc_runs hf hb hn0) (fun hfit => acall_ofE (bad := bad) (kp := kp) (X := X) hf hb hn0 hnt hrs hm hok (h hfit))
theorem pure_fzE {bad : List Nat} {kp : List (Nat × List Nat)} {X : Tx} {f : FuncId} {fn : Func} {c : Code} {args : List V} {r : V} {nt : Nat} {rs : List ResultVar} (hf : X.P.funcs[f]? = some fn) (hb : fn.body = some c) (hn0 : notNum fn = true)
    (hnt : args.length + (fn.ntmps - args.length) = nt) (hrs : fn.results.toList = rs) (hm : X.P.follows .mixedOrders = true) (hok : okE bad nt c = true) (ha : args.all (V.low 0) = true) (hr : r.low 0 = true)
    (h : (∀ x ∈ args, FitV x) → goE bad kp X none 0 nt c (retG X rs (fun x H' => ∃ id cs ds y, H'[id]? = some (.cells cs) ∧ toDs cs = some ds ∧ FzT id ds x y ∧ WkV y r)) { slots := argS 0 args, heap := [], marks := [] }) : Pure X.P f args r :=
  ⟨ACall.fzpost (ACall.fit (callFunc_runs hf hb hn0) (fun hfit => acall_ofE (bad := bad) (kp := kp) (X := X) hf hb hn0 hnt hrs hm hok (h hfit))), ha, hr⟩
theorem goE_t {bad : List Nat} {kp : List (Nat × List Nat)} {X : Tx} {r : Option Nat} {nb nt : Nat} {c : Code} {Q : Exit → St → Prop} {s : St} (b : Prop) : condP true (armE bad kp X r nb nt c Q s) b = goE bad kp X r nb nt c Q s := by rw [condP_t, armE_at]
theorem goE_f {bad : List Nat} {kp : List (Nat × List Nat)} {X : Tx} {r : Option Nat} {nb nt : Nat} {c : Code} {Q : Exit → St → Prop} {s : St} (a : Prop) : condP false a (armE bad kp X r nb nt c Q s) = goE bad kp X r nb nt c Q s := by rw [condP_f, armE_at]
theorem goE_if {bad : List Nat} {kp : List (Nat × List Nat)} {X : Tx} {r : Option Nat} {nb nt : Nat} {c c' : Code} {Q : Exit → St → Prop} {s : St} {t : Bool} (h1 : t = true → goE bad kp X r nb nt c Q s) (h2 : t = false → goE bad kp X r nb nt c' Q s) : condP t (armE bad kp X r nb nt c Q s) (armE bad kp X r nb nt c' Q s) :=
  ⟨fun h => by rw [armE_at]; exact h1 h, fun h => by rw [armE_at]; exact h2 h⟩
theorem goE_loop {bad : List Nat} {kp : List (Nat × List Nat)} {X : Tx} {r : Option Nat} {nb nt : Nat} {c : Code} {Q : Exit → St → Prop} {s : St} {α : Type} (S : α → St) (Inv : α → Prop) (μ : α → Nat) (a0 : α) (hm : X.P.follows .mixedOrders = true) (hok : okE bad nt c = true)
    (h0 : Ent (X.cx r nb nt) s (S a0)) (hI : Inv a0)
    (round : ∀ a, Inv a → goE bad kp X r nb nt c (thenQ (fun s' => ∃ a', Inv a' ∧ μ a' < μ a ∧ Ent (X.cx r nb nt) s' (S a')) Q) (S a)) : AWP (X.cx r nb nt) (.loop c) Q s := by
  refine AWP.ent h0 (awp_loop (fun m s' => ∃ a, Inv a ∧ μ a = m ∧ Ent (X.cx r nb nt) s' (S a)) (μ a0) ⟨a0, hI, rfl, Ent.refl⟩ ?_)
  rintro m s' ⟨a, hI, rfl, he⟩
  refine AWP.ent he ((goE_sound hm c hok (round a hI)).mono ?_)
  exact thenQ_mono fun s'' ⟨a', h1, h2, h3⟩ => ⟨μ a', h2, a', h1, rfl, h3⟩
end Go.Abs
/- Slices that are written, told otherwise: begun, frozen. -/
namespace Go.Abs
open Go
section
variable {X : Cx} {s s' : St}

/-- A slice of no element that will be appended to, and written. -/
theorem ent_vec (j sz : Nat) (hj : s.get j = .c (.full [])) : Ent X s { slots := setS s.slots j (.c (.vs s.heap.length 0)), heap := s.heap ++ [.vec 0 sz []], marks := s.marks } := fun bs w G a hR => by
  have h0 := hR.slots j
  rw [hj] at h0
  generalize hv0 : a.tmps.getD j undef = v0 at h0
  cases h0 with
  | c _ _ h0 =>
    obtain ⟨G', ad, R', L, rfl, hg⟩ := adopt_vec hR.rel h0 sz
    refine ⟨G',
      { rel := R'
        later := hR.later.trans L
        base := hR.base
        size := hR.size
        slots := fun i => ?_
        defers := ?_
        marks := fun i hi => Nat.lt_of_lt_of_le (hR.marks i hi) L.len }⟩
    · show VRel w _ _ (getS (setS s.slots j _) i) _
      rw [getS_setS]
      by_cases e : j = i
      · subst e
        rw [if_pos rfl, hv0]
        refine .c _ _ (.vs _ 0 ad 0 (by simp) ⟨Nat.le_refl _, fun e => absurd rfl e⟩ (fun m z cs hm => ?_))
        exact ⟨Nat.zero_le _, fun _ => hg⟩
      · rw [if_neg e]; exact (hR.slots i).mono L
    · obtain ⟨hs, hh, e⟩ := hR.defers
      refine ⟨hs, hh.mono L, ?_⟩
      rw [e]
      congr 1
      refine List.map_congr_left fun id hid => ?_
      simp only [markOf, L.rho id (hR.marks id hid)]

/-- A slice of cells that are data by now. -/
theorem fs_full {w : World} {G : Gh} {H : List AB} {n sz : Nat} {ds : List D} (hn : n ≤ lim) {v : Value} (h : CRel w G H (.fs n sz (ds.map .d)) v) : CRel w G H (.full (chunk sz n ds)) v := by
  cases h with
  | fs _ _ _ b o vs hl hn2 hcell hc =>
    have hlen : ds.length = n * sz := by simpa using hn2
    have hcl : (chunk sz n ds).length = n := chunk_length _ _ _
    have key := DRel.sl (w := w) (S := G.S) (chunk sz n ds) b o n sz (fun i j => (vs[i * sz + j]?).getD undef) (by omega) (by omega) (fun i r hr => ?_) (fun i j hi hj => ?_) (fun i j r x hr hx => ?_)
    · rw [hcl] at key
      exact .full _ _ n hcl.symm key
    · have hi : i < n := by have := (List.getElem?_eq_some_iff.1 hr).1; omega
      rw [chunk_get sz n _ i hi] at hr
      cases hr
      have : (i + 1) * sz ≤ n * sz := Nat.mul_le_mul_right _ (by omega)
      rw [Nat.succ_mul] at this
      simp; omega
    · have hi' : i < n := by omega
      have : (i + 1) * sz ≤ n * sz := Nat.mul_le_mul_right _ (by omega)
      rw [Nat.succ_mul] at this
      have hlt : i * sz + j < vs.length := by simp at hl; omega
      have hv : vs[i * sz + j]? = some vs[i * sz + j] := List.getElem?_eq_getElem hlt
      obtain ⟨⟨h1, h2⟩, _⟩ := hcell _ _ hv
      rw [hv, Nat.add_assoc]
      exact ⟨h1, h2⟩
    · have hi : i < n := by have := (List.getElem?_eq_some_iff.1 hr).1; omega
      rw [chunk_get sz n _ i hi] at hr
      cases hr
      rw [List.getElem?_take] at hx
      split at hx
      · have hx' := drop_get hx
        have hlt : i * sz + j < vs.length := by have := (List.getElem?_eq_some_iff.1 hx').1; simp at hl; omega
        have hv : vs[i * sz + j]? = some vs[i * sz + j] := List.getElem?_eq_getElem hlt
        rw [hv]
        have hx2 : (ds.map C.d)[i * sz + j]? = some (.d x) := by rw [List.getElem?_map, hx']; rfl
        cases hc _ _ _ hx2 hv with
        | d _ _ h => exact h
      · cases hx
theorem ent_fsd (j : Nat) {n sz : Nat} {ds : List D} (hn : n ≤ lim) (hj : s.get j = .c (.fs n sz (ds.map .d))) : Ent X s { slots := setS s.slots j (.c (.full (chunk sz n ds))), heap := s.heap, marks := s.marks } := fun bs w G a hR => by
  refine ⟨G, { rel := hR.rel, later := hR.later, base := hR.base, size := hR.size, slots := fun i => ?_, defers := hR.defers, marks := hR.marks }⟩
  show VRel w _ _ (getS (setS s.slots j _) i) _
  rw [getS_setS]
  by_cases e : j = i
  · subst e
    rw [if_pos rfl]
    have h0 := hR.slots j
    rw [hj] at h0
    generalize a.tmps.getD j undef = v0 at h0
    cases h0 with
    | c _ _ h0 => exact .c _ _ (fs_full hn h0)
  · rw [if_neg e]; exact hR.slots i

/-- The same for a slice that lies in a cell. -/
theorem ent_vec_cell (k i sz : Nat) {cs : List C} (hk : s.heap[k]? = some (.cells cs)) (hi : cs[i]? = some (.full [])) : Ent X s { slots := s.slots, heap := (s.heap.set k (.cells (cs.set i (.vs s.heap.length 0)))) ++ [.vec 0 sz []], marks := s.marks } := fun bs w G a hR => by
  have hkl : k < s.heap.length := (List.getElem?_eq_some_iff.1 hk).1
  cases hR.rel.ab k _ hk with
  | cells _ arr t hb hr hrole hS =>
  obtain ⟨v0, hv0, hc0, ho0⟩ := hr.get hi
  obtain ⟨G', ad, R', L, rfl, hg⟩ := adopt_vec hR.rel hc0 sz
  have hown : CRel w G' (s.heap ++ [.vec 0 sz []]) (.vs s.heap.length 0) (.slice ad 0 0) := .vs _ 0 ad 0 (by simp) ⟨Nat.le_refl _, fun e => absurd rfl e⟩ (fun m z cs hm => ⟨Nat.zero_le _, fun _ => hg⟩)
  have hk2 : (s.heap ++ [AB.vec 0 sz []])[k]? = some (.cells cs) := by rw [List.getElem?_append_left hkl]; exact hk
  have hb2 : w.heap[G'.rho k]? = some (.cells arr t (0, 0)) := by rw [L.rho k hkl]; exact hb
  have hset : (s.heap ++ [AB.vec 0 sz []]).set k (.cells (cs.set i (.vs s.heap.length 0))) = (s.heap.set k (.cells (cs.set i (.vs s.heap.length 0)))) ++ [.vec 0 sz []] := by rw [List.set_append_left _ _ hkl]
  have hr2 : CsRel w G' (s.heap ++ [.vec 0 sz []]) (cs.set i (.vs s.heap.length 0)) arr.toList := by
    have h1 := (hr.mono L).set (x := .vs s.heap.length 0) (v := .slice ad 0 0) hown ho0 i
    have h2 : arr.toList.set i (.slice ad 0 0) = arr.toList := by
      refine List.ext_getElem? fun j => ?_
      by_cases e : i = j
      · subst e
        have hlt := (List.getElem?_eq_some_iff.1 hv0).1
        rw [List.getElem?_set_self hlt]; exact hv0.symm
      · rw [List.getElem?_set_ne e]
    rwa [h2] at h1
  have he : w.putObj (G'.rho k) (.cells arr t (0, 0)) = w := put_self hb2
  obtain ⟨R2, L2⟩ := R'.put_cells (cs' := cs.set i (.vs s.heap.length 0)) (arr' := arr) hk2 hb2 hr2
  rw [he, hset] at R2 L2
  refine ⟨G',
    { rel := R2
      later := hR.later.trans (L.trans L2)
      base := hR.base
      size := hR.size
      slots := fun i => (hR.slots i).mono (L.trans L2)
      defers := ?_
      marks := fun i hi => Nat.lt_of_lt_of_le (hR.marks i hi) (L.trans L2).len }⟩
  obtain ⟨hs, hh, e⟩ := hR.defers
  refine ⟨hs, hh.mono (L.trans L2), ?_⟩
  rw [e]
  congr 1
  refine List.map_congr_left fun id hid => ?_
  simp only [markOf, L.rho id (hR.marks id hid)]

/-! ### Frozen -/
/-- A header of a frozen slice, as data. -/
def fzN (id n : Nat) (d : D) : C → C
  | .vs i m => if i = id ∧ m = n then .d d else .vs i m
  | c => c
def fzNV (id n : Nat) (d : D) : V → V
  | .c x => .c (fzN id n d x)
  | .agg cs => .agg (cs.map (fzN id n d))
  | .tup vs => .tup vs
def fzNB (id n : Nat) (d : D) : AB → AB
  | .cells cs => .cells (cs.map (fzN id n d))
  | .vec m sz cs => .vec m sz (cs.map (fzN id n d))
  | b => b
theorem ent_fzvec (id : Nat) {n sz : Nat} {cs : List C} {ds : List D} (hid : s.heap[id]? = some (.vec n sz cs)) (hd : toDs cs = some ds) (hz : 0 < sz) (hn : n ≤ lim) (hm : s'.marks = s.marks)
    (hh : s'.heap = (s.heap.map (fzNB id n (.sl (chunk sz n ds)))).set id .gone) (hsl : ∀ i, getS s'.slots i = fzNV id n (.sl (chunk sz n ds)) (s.get i) ∨ getS s'.slots i = .c .any) : Ent X s s' := fun bs w G a hR => by
  have hidl := (List.getElem?_eq_some_iff.1 hid).1
  have R := hR.rel
  obtain ⟨e1, e2⟩ := toDs_get hd
  generalize hdd : (D.sl (chunk sz n ds)) = dd at hh hsl
  -- the cells are put under those that nobody writes
  obtain ⟨S1, s1, s2, s3, hD⟩ : ∃ S1 : Nat → Nat → Prop, (∀ b o, G.S b o → S1 b o) ∧ (∀ b o, S1 b o → G.S b o ∨ G.role b = some id) ∧ (∀ b o, S1 b o → ∃ v, w.cell? ⟨b, o, none⟩ = some v) ∧ ∀ v, CRel w G s.heap (.vs id n) v → DRel w S1 dd v := by
    subst hdd
    by_cases hne : 0 < cs.length
    · obtain ⟨b, arr, t, cap, hg, hcap, hrole, hb, hsz, hr, hS, hl⟩ := vec_at R hid hne
      have hlen : cs.length ≤ arr.size := by have := hr.1; simp at this; omega
      have hcell : ∀ j, j < cs.length → w.cell? ⟨b, j, none⟩ = some (arr.toList.getD j undef) := fun j hj => by
        rw [cell_arr hb]
        have : j < arr.toList.length := by simp; omega
        simp [List.getD_eq_getElem?_getD, List.getElem?_eq_getElem this]
      refine ⟨fun b' o => G.S b' o ∨ (b' = b ∧ o < cs.length), fun _ _ h => .inl h, fun b' o h => ?_, fun b' o h => ?_, fun v hv => ?_⟩
      · rcases h with h | ⟨rfl, _⟩
        · exact .inl h
        · exact .inr hrole
      · rcases h with h | ⟨rfl, h⟩
        · exact R.sex b' o h
        · exact ⟨_, hcell o h⟩
      · cases hv with
        | vs _ _ a' cap' _ hne' hg' =>
          have h1 := (hg' _ _ _ hid).2 rfl
          rw [hg] at h1
          cases h1
          refine rows_rel (f := fun k => arr.toList.getD k undef) hcap hn (by omega) (fun k hk => ?_) (fun k x hx => ?_)
          · rw [Nat.zero_add]
            exact ⟨.inr ⟨rfl, by omega⟩, hcell k (by omega)⟩
          · have hk : k < cs.length := by rw [e1]; exact (List.getElem?_eq_some_iff.1 hx).1
            have hk2 : k < arr.toList.length := by simp; omega
            have h3 := (hr.2 k cs[k] arr.toList[k] (by simp [hk]) (by rw [List.getElem?_take, if_pos hk]; exact List.getElem?_eq_getElem hk2)).1
            have h4 := e2 k cs[k] x (by simp [hk]) hx
            have h5 : arr.toList.getD k undef = arr.toList[k] := by rw [List.getD_eq_getElem?_getD, List.getElem?_eq_getElem hk2]; rfl
            show DRel w _ x (arr.toList.getD k undef)
            rw [h5]
            exact (toD_rel h4 h3).mono (fun b o h => ⟨.inl h, rfl⟩)
    · have hn0 : n = 0 := by
        cases R.ab id _ hid with
        | vec _ _ _ _ _ _ _ hl _ =>
          have h0 : n * sz = 0 := by omega
          rcases Nat.mul_eq_zero.1 h0 with h | h
          · exact h
          · omega
      subst hn0
      refine ⟨G.S, fun _ _ h => h, fun _ _ h => .inl h, R.sex, fun v hv => ?_⟩
      cases hv with
      | vs _ _ a' cap' _ _ _ => exact .emp _ _
  let G1 : Gh := { G with S := S1 }
  have hlook : ∀ (i : Nat) (x : AB), s'.heap[i]? = some x → (i = id ∧ x = .gone) ∨ (i ≠ id ∧ ∃ y, s.heap[i]? = some y ∧ x = fzNB id n dd y) := fun i x hx => by
    rw [hh] at hx
    by_cases e : i = id
    · subst e
      rw [List.getElem?_set_self (by simpa using hidl)] at hx
      cases hx; exact .inl ⟨rfl, rfl⟩
    · rw [List.getElem?_set_ne (Ne.symm e), List.getElem?_map] at hx
      cases hy : s.heap[i]? with
      | none => rw [hy] at hx; cases hx
      | some y => rw [hy] at hx; cases hx; exact .inr ⟨e, y, rfl, rfl⟩
  have L : Later w G s.heap w G1 s'.heap :=
    { size := Nat.le_refl _
      S := fun b o h => ⟨s1 b o h, rfl⟩
      Snew := fun b o _ hr h => by
        rcases s2 b o h with h | h
        · exact h
        · rw [hr] at h; cases h
      len := by rw [hh]; simp
      rho := fun _ _ => rfl
      grow := fun i m z hi h => by
        rcases hlook i _ h with ⟨_, h⟩ | ⟨_, y, hy, h⟩
        · cases h
        · cases y <;> simp [fzNB] at h
          obtain ⟨rfl, rfl⟩ := h
          exact ⟨m, hy, .inr ⟨rfl, rfl⟩⟩
      vec := fun i m z cs hi h => by
        rcases hlook i _ h with ⟨_, h⟩ | ⟨_, y, hy, h⟩
        · cases h
        · cases y <;> simp [fzNB] at h
          obtain ⟨rfl, rfl, _⟩ := h
          exact ⟨_, _, _, hy, .inr ⟨rfl, rfl⟩⟩
      role := fun _ _ => rfl
      frame := fun _ _ _ => rfl
      os := rfl
      out := rfl }
  have conv : ∀ (c : C) (v : Value), CRel w G s.heap c v → CRel w G1 s'.heap (fzN id n dd c) v := fun c v h => by
    unfold fzN
    split
    · rename_i i m
      split
      · rename_i e
        obtain ⟨rfl, rfl⟩ := e
        exact .d _ _ (hD v h)
      · exact h.mono L
    · exact h.mono L
  have convs : ∀ (cs : List C) (vs : List Value), CsRel w G s.heap cs vs → CsRel w G1 s'.heap (cs.map (fzN id n dd)) vs := fun cs vs h =>
    ⟨by rw [List.length_map]; exact h.1, fun i x v hx hv => by
      rw [List.getElem?_map] at hx
      cases hc : cs[i]? with
      | none => rw [hc] at hx; cases hx
      | some y => rw [hc] at hx; cases hx; exact ⟨conv y v (h.2 i y v hc hv).1, (h.2 i y v hc hv).2⟩⟩
  have hnS : ∀ b o i, G.role b = some i → i ≠ id → S1 b o → G.S b o := fun b o i hr hi h => by
    rcases s2 b o h with h | h
    · exact h
    · rw [hr] at h; cases h; exact absurd rfl hi
  refine ⟨G1,
    { rel := ⟨s3, R.roleLt, fun i x hx => ?_⟩
      later := hR.later.trans L
      base := hR.base
      size := hR.size
      slots := fun i => ?_
      defers := ?_
      marks := fun i hi => by rw [hm] at hi; exact Nat.lt_of_lt_of_le (hR.marks i hi) L.len }⟩
  · rcases hlook i x hx with ⟨_, rfl⟩ | ⟨hi, y, hy, rfl⟩
    · exact .gone
    · have h0 := R.ab i y hy
      have hil := (List.getElem?_eq_some_iff.1 hy).1
      cases y with
      | cells cs =>
        cases h0 with
        | cells _ arr t hb hr hrole hS => exact .cells _ arr t hb (convs _ _ hr) hrole (fun o ho => hS o (hnS _ _ _ hrole hi ho))
      | vec m z cs =>
        cases h0 with
        | vec _ _ _ a cap hg hcap hl h =>
          refine .vec _ _ _ a cap hg hcap (by rw [List.length_map]; exact hl) (fun hz => ?_)
          obtain ⟨b, arr, t, h1, h2, h3, h4, h5, h6⟩ := h hz
          exact ⟨b, arr, t, h1, h2, h3, h4, by rw [List.length_map]; exact convs _ _ h5, fun o ho => h6 o (hnS _ _ _ h2 hi ho)⟩
      | _ => exact ABRel.mono R L hil h0 (fun _ _ => rfl) (fun b o hb h => hnS b o i hb hi h) rfl
  · have h0 := hR.slots i
    show VRel w _ _ (getS s'.slots i) _
    rcases hsl i with e | e
    · rw [e]
      generalize s.get i = x at h0
      generalize a.tmps.getD i undef = u at h0
      cases h0 with
      | c _ _ h => exact .c _ _ (conv _ _ h)
      | agg _ _ h => exact .agg _ _ (convs _ _ h)
      | tup _ _ hs h => exact .tup _ _ hs (fun j x v hx hv => (h j x v hx hv).mono L)
    · rw [e]; exact .c _ _ (.any _)
  · obtain ⟨hs, hh', e⟩ := hR.defers
    refine ⟨hs, hh'.mono L, ?_⟩
    rw [hm, e]
    rfl
end
/-! ### Heaps that stand for something name nothing that is not there; contracts told otherwise -/
theorem lows_low {n : Nat} {b : AB} (h : b.lowP n) : b.low n = true := by
  cases b with
  | cells cs => exact h
  | vec m z cs => exact h
  | mp es =>
    simp only [AB.low, List.all_eq_true, Bool.and_eq_true]
    exact h
  | lp r =>
    simp only [AB.low, Bool.and_eq_true, decide_eq_true_eq, List.all_eq_true]
    exact ⟨h.1, fun p _ => h.2 p.1⟩
  | _ => rfl
theorem Rel.low {w : World} {G : Gh} {H : List AB} (R : Rel w G H) : H.all (AB.low H.length) = true := List.all_eq_true.2 fun y hy => by
  obtain ⟨k, hk⟩ := List.getElem?_of_mem hy
  exact lows_low (R.ab k y hk).lows
theorem ACall.low_of {P : Program} {f : FuncId} {fn : Func} {c : Code} {args : List V} {H : List AB} {post : V → List AB → Prop} (hf : P.funcs[f]? = some fn) (hb : fn.body = some c) (hn0 : notNum fn = true) (h : H.all (AB.low H.length) = true → ACall P f args H post) : ACall P f args H post :=
  ⟨callFunc_runs hf hb hn0, fun w G vs R hl ha => (h (Rel.low R)).2 w G vs R hl ha⟩
theorem ACall.ent {X : Tx} {f : FuncId} {args : List V} {H : List AB} {post post' : V → List AB → Prop} (h : ACall X.P f args H post)
    (he : ∀ x H', post x H' → ∃ y H'', Ent (X.cx none H.length 1) { slots := [(0, x)], heap := H', marks := [] } { slots := [(0, y)], heap := H'', marks := [] } ∧ post' y H'') : ACall X.P f args H post' :=
  ⟨h.1, fun w G vs R hl hr => (h.2 w G vs R hl hr).mono fun _ w' ⟨v, x, H', G', a, hp, R', hv, L⟩ => by
    obtain ⟨y, H'', hE, hp'⟩ := he x H' hp
    obtain ⟨G2, hR2⟩ := hE ⟨w, G, H⟩ w' G' { tmps := #[v], defers := [] }
      { rel := R', later := L, base := rfl, size := rfl
        slots := fun i => by
          show VRel w' G' H' (getS [(0, x)] i) _
          simp only [getS]
          split
          · rename_i e; subst e; exact hv
          · exact .c _ _ (.any _)
        defers := ⟨[], Hid.nil _ _ _, rfl⟩
        marks := fun i hi => by cases hi }
    exact ⟨v, y, H'', G2, a, hp', hR2.rel, hR2.slots 0, hR2.later⟩⟩
end Go.Abs
/- Rounds of a range over a function, walked with drawn regions by the rule of windows. -/
namespace Go.Abs
open Go
theorem yc_ofE {bad : List Nat} {kp : List (Nat × List Nat)} {X : Tx} {id : Nat} {H : List AB} {r : LR} {x : V} {post : V → List AB → Prop} (hm : X.P.follows .mixedOrders = true) (hid : H[id]? = some (.lp r)) (hps : r.ps.size = 1) (hnt : r.ps.toList.all (fun p => decide (p < r.nt)) = true) (hoka : okE bad r.nt r.assign = true) (hokb : okE bad r.nt r.body = true)
    (h : ∀ l, goE bad kp X (some l) H.length r.nt r.assign (thenQ (fun t => ∃ t', busyH id t = some t' ∧ goE bad kp X (some l) H.length r.nt r.body (fun e u => ∃ u', Ent (X.cx (some l) H.length r.nt) u u' ∧ roundQ id post e u') t') (fun _ _ => False)) { slots := putPs r.ps.toList [x] r.slots, heap := H, marks := [] }) :
    YC X.P id H x post := by
  intro ro o E xo as ts ho hx hv
  have hsz : as.size = r.ps.size := by rw [hps, ← Array.length_toList, ← List.length_map (as := as.toList) E, hv]; rfl
  refine opAt_yield (tt := X.tt) ho hx hid hsz hnt (fun l => ?_)
  rw [hv]
  refine (goE_sound (X := X) (r := some l) (nb := H.length) hm r.assign hoka (h l)).mono ?_
  refine thenQ_mono fun t ht => ?_
  obtain ⟨t', h1, h2⟩ := ht
  exact ⟨t', h1, AWP.post (goE_sound (X := X) (r := some l) (nb := H.length) hm r.body hokb h2)⟩
/-- The same, with the code told apart. -/
theorem yc_ofC {bad : List Nat} {kp : List (Nat × List Nat)} {X : Tx} {id : Nat} {H : List AB} {r : LR} {cA cB : Code} {x : V} {post : V → List AB → Prop} (hm : X.P.follows .mixedOrders = true) (hid : H[id]? = some (.lp r)) (hA : r.assign = cA) (hB : r.body = cB) (hps : r.ps.size = 1) (hnt : r.ps.toList.all (fun p => decide (p < r.nt)) = true) (hoka : okE bad r.nt cA = true) (hokb : okE bad r.nt cB = true)
    (h : ∀ l, goE bad kp X (some l) H.length r.nt cA (thenQ (fun t => ∃ t', busyH id t = some t' ∧ goE bad kp X (some l) H.length r.nt cB (fun e u => ∃ u', Ent (X.cx (some l) H.length r.nt) u u' ∧ roundQ id post e u') t') (fun _ _ => False)) { slots := putPs r.ps.toList [x] r.slots, heap := H, marks := [] }) :
    YC X.P id H x post := by
  subst hA; subst hB
  exact yc_ofE hm hid hps hnt hoka hokb h
/-- What a call of yield with several values does at a heap. -/
def YCs (P : Program) (id : Nat) (H : List AB) (xs : List V) (post : V → List AB → Prop) : Prop :=
  ∀ (ro : Option Nat) (o : Oper) (E : Operand → V) (xo : Operand) (as : Array Operand) (ts : Array TypeId), o.op = .call { callee := .value xo, args := as, argTypes := ts } → E xo = .c (.yd id) → as.toList.map E = xs → OpAt P ro o H E post
theorem ycs_ofC {bad : List Nat} {kp : List (Nat × List Nat)} {X : Tx} {id : Nat} {H : List AB} {r : LR} {cA cB : Code} {xs : List V} {post : V → List AB → Prop} (hm : X.P.follows .mixedOrders = true) (hid : H[id]? = some (.lp r)) (hA : r.assign = cA) (hB : r.body = cB) (hps : r.ps.size = xs.length) (hnt : r.ps.toList.all (fun p => decide (p < r.nt)) = true) (hoka : okE bad r.nt cA = true) (hokb : okE bad r.nt cB = true)
    (h : ∀ l, goE bad kp X (some l) H.length r.nt cA (thenQ (fun t => ∃ t', busyH id t = some t' ∧ goE bad kp X (some l) H.length r.nt cB (fun e u => ∃ u', Ent (X.cx (some l) H.length r.nt) u u' ∧ roundQ id post e u') t') (fun _ _ => False)) { slots := putPs r.ps.toList xs r.slots, heap := H, marks := [] }) :
    YCs X.P id H xs post := by
  subst hA; subst hB
  intro ro o E xo as ts ho hx hv
  have hsz : as.size = r.ps.size := by rw [hps, ← Array.length_toList, ← List.length_map (as := as.toList) E, hv]
  refine opAt_yield (tt := X.tt) ho hx hid hsz hnt (fun l => ?_)
  rw [hv]
  refine (goE_sound (X := X) (r := some l) (nb := H.length) hm r.assign hoka (h l)).mono ?_
  refine thenQ_mono fun t ht => ?_
  obtain ⟨t', h1, h2⟩ := ht
  exact ⟨t', h1, AWP.post (goE_sound (X := X) (r := some l) (nb := H.length) hm r.body hokb h2)⟩
section
variable {X : Tx} {r : Option Nat} {nb nt : Nat} {s : St} {all : Array Oper} {Q : St → Prop} {o : Oper} {os : List Oper}
theorem dops_ycs {loud k : Nat} {id : Nat} {xs : List V} {y : V} {H' : List AB} (hy : YCs X.P id s.heap xs (one y H')) (hg : guardOf all s.get o = some true) (hc : calleeY s.ev o = some (id, xs)) (hk : loud.testBit k = true) (hl : loudsB loud (k + 1) os = true)
    (n : dW X r nb nt all loud (k + 1) os Q (s.put o.dst y H')) : DOps (X.cx r nb nt) all loud k (o :: os) Q s := by
  refine ⟨true, y, H', hg, ?_, fun h => (by rw [hk] at h; cases h), dW_sound _ _ _ (loudsB_spec hl) n⟩
  simp only [if_true]
  unfold calleeY at hc
  split at hc
  · rename_i xo as ts ho
    split at hc
    · rename_i id' hx
      simp only [Option.some.injEq, Prod.mk.injEq] at hc
      obtain ⟨rfl, h2⟩ := hc
      exact hy r o s.ev xo as ts ho hx h2
    · cases hc
  · cases hc
end
theorem code_gen {X : Cx} {g : Operand} {ps : Array Tmp} {A B : Code} {Q : Exit → St → Prop} {s : St} (h : ∀ A' B', A' = A → B' = B → AWP X (.rangeFunc g ps A' B') Q s) : AWP X (.rangeFunc g ps A B) Q s := h A B rfl rfl
theorem ACall.drop2 {P : Program} {f : FuncId} {args : List V} {H H1 : List AB} {r : V} (hl : H.length ≤ H1.length) (hr : r.low H1.length = true) (hH : H1.all (AB.low H1.length) = true) (h : ACall P f args H (fun x H' => WkV x r ∧ ∃ T, H' = H1 ++ T)) : ACall P f args H (one r H1) :=
  ⟨h.1, fun w G vs R hl' hrel => (h.2 w G vs R hl' hrel).mono fun _ w' ⟨v, x, H', G', a, ⟨h1, T, h2⟩, c, d, e⟩ => by
    subst h2
    exact ⟨v, r, H1, G', a, ⟨rfl, rfl⟩, c.trunc hH, (h1.rel d).trunc hr, e.trunc hl⟩⟩
section
variable {X : Tx} {r : Option Nat} {nb nt : Nat} {s : St} {all : Array Oper} {Q : St → Prop} {o : Oper} {os : List Oper}
/-- A call with any contract, in a region whose order is told. -/
theorem aops_gen {g : FuncId} {args args' : List V} {post : V → List AB → Prop} (h : ACall X.P g args' s.heap post) (hg : guardOf all s.get o = some true) (hc : calleeOf s.ev o = some (g, args)) (hw : WkVs args args')
    (k : ∀ y H', post y H' → aW X r nb nt all os Q (s.put o.dst y H')) : AOps (X.cx r nb nt) all (o :: os) Q s :=
  aops_call hg hc hw h (fun y H2 hp => aW_sound _ _ (k y H2 hp))
end
/-- The pairs of a region, the order asked first. -/
def pairs3 (m3 : Bool) (tab : List Nat) (ops : Array Oper) (acc : List Note) : Bool := acc.all fun b => sparse m3 ops b.at' || acc.all fun a => a.at' == b.at' || !lookB m3 ops a.at' || (ordB tab a.at' b.at' || apartB a.w b.w)
theorem pairsOk_ord {m3 : Bool} {ops : Array Oper} {acc : List Note} (h : (pairs3 m3 (ancGo ops.toList 0 []) ops acc && (!m3 || (freeT (ancGo ops.toList 0 []) acc && acc.all fun a => a.e.loc))) = true) : pairsOk m3 ops acc = true := by
  have e : pairs2 m3 (ancGo ops.toList 0 []) ops acc = pairs3 m3 (ancGo ops.toList 0 []) ops acc := by
    unfold pairs2 pairs3
    congr 1
    funext b
    congr 2
    funext a
    rw [Bool.or_assoc _ (apartB a.w b.w), Bool.or_comm (apartB a.w b.w)]
  rw [Bool.and_eq_true] at h
  unfold pairsOk
  rw [e, h.1, Bool.or_true, Bool.true_and]
  exact h.2
end Go.Abs
/- A map of slices that grow: what an append into an entry does. -/
namespace Go.Abs
open Go

/-! ### Numbers in a row -/
def ik (n : Int) : List D := [.int .i64 n]
theorem ints_fwd {w : World} {S : Nat → Nat → Prop} {l : List Int} {b o n cap : Nat} (h : DRel w S (.sl (l.map ik)) (.slice (some ⟨b, o, none⟩) n cap)) :
    n = l.length ∧ ∀ (k : Nat) (x : Int), l[k]? = some x → S b (o + k) ∧ w.cell? ⟨b, o + k, none⟩ = some (.int .i64 x) := by
  generalize he : l.map ik = rows at h
  cases h with
  | emp =>
    have : l = [] := by simpa using he
    subst this
    exact ⟨rfl, fun k x hx => by simp at hx⟩
  | sl _ _ _ _ sz f hcap hlim hsz hcell hrel =>
    subst he
    refine ⟨by simp, fun k x hx => ?_⟩
    have hk := (List.getElem?_eq_some_iff.1 hx).1
    have hr : (l.map ik)[k]? = some (ik x) := by rw [List.getElem?_map, hx]; rfl
    have h1 : sz = 1 := by have := hsz k _ hr; simpa [ik] using this.symm
    subst h1
    have hc := hcell k 0 (by simpa using hk) (by decide)
    have hd := hrel k 0 _ (.int .i64 x) hr rfl
    generalize hf : f k 0 = u at hc hd
    cases hd with
    | int => simpa using hc
theorem ints_bwd {w : World} {S : Nat → Nat → Prop} {l : List Int} {b o cap : Nat} (hcap : l.length ≤ cap) (hlim : l.length ≤ lim) (h : ∀ (k : Nat) (x : Int), l[k]? = some x → S b (o + k) ∧ w.cell? ⟨b, o + k, none⟩ = some (.int .i64 x)) :
    DRel w S (.sl (l.map ik)) (.slice (some ⟨b, o, none⟩) l.length cap) := by
  have key := DRel.sl (w := w) (S := S) (l.map ik) b o cap 1 (fun i _ => .int .i64 ((l[i]?).getD 0)) (by simpa using hcap) (by simpa using hlim) (fun i r hr => ?_) (fun i j hi hj => ?_) (fun i j r x hr hx => ?_)
  · rw [List.length_map] at key; exact key
  · rw [List.getElem?_map] at hr
    cases hl : l[i]? with
    | none => rw [hl] at hr; cases hr
    | some y => rw [hl] at hr; cases hr; rfl
  · have hj0 : j = 0 := by omega
    subst hj0
    have hi' : i < l.length := by simpa using hi
    have := h i l[i] (List.getElem?_eq_getElem hi')
    simpa [List.getElem?_eq_getElem hi'] using this
  · rw [List.getElem?_map] at hr
    cases hl : l[i]? with
    | none => rw [hl] at hr; cases hr
    | some y =>
      rw [hl] at hr
      cases hr
      cases j with
      | zero => simp [ik] at hx; subst hx; exact .int _ _
      | succ j => simp [ik] at hx
theorem ints_len {w : World} {S : Nat → Nat → Prop} {l : List Int} {a : Option Addr} {n cap : Nat} (h : DRel w S (.sl (l.map ik)) (.slice a n cap)) : n = l.length ∧ (l ≠ [] → ∃ b o, a = some ⟨b, o, none⟩) := by
  generalize he : l.map ik = rows at h
  cases h with
  | emp =>
    have : l = [] := by simpa using he
    subst this
    exact ⟨rfl, fun h => absurd rfl h⟩
  | sl _ b o _ sz f hcap hlim hsz hcell hrel =>
    subst he
    exact ⟨by simp, fun _ => ⟨b, o, rfl⟩⟩

/-! ### The block itself -/
theorem mpg_base {w w' : World} {G G' : Gh} {H : List AB} {id : Nat} {es es' : List (List Int × List Int)} {rs' : Array MapEntry} {clock' : Nat} (R : Rel w G H) (hid : H[id]? = some (.mpg es))
    (hsz : w.heap.size ≤ w'.heap.size) (hrho : G'.rho = G.rho) (hg : G'.g = G.g) (hrole : ∀ b, b < w.heap.size → G'.role b = G.role b) (hrole2 : ∀ b i, G'.role b = some i → b < w'.heap.size)
    (hS : ∀ b o, G.S b o → G'.S b o ∧ w'.cell? ⟨b, o, none⟩ = w.cell? ⟨b, o, none⟩) (hSn : ∀ b o, b < w.heap.size → G.role b ≠ some id → G'.S b o → G.S b o)
    (hfr : ∀ b, b < w.heap.size → G.role b ≠ some id → w'.heap[b]? = w.heap[b]?) (hsex : ∀ b o, G'.S b o → ∃ v, w'.cell? ⟨b, o, none⟩ = some v)
    (hos : w'.os = w.os) (hout : w'.output = w.output) (hb' : w'.heap[G.rho id]? = some (.map rs' clock')) (hok : MpgOk w' G' id es' rs' clock') :
    Rel w' G' (H.set id (.mpg es')) ∧ Later w G H w' G' (H.set id (.mpg es')) := by
  have hidl := (List.getElem?_eq_some_iff.1 hid).1
  have hro : G.role (G.rho id) = some id := by cases R.ab id _ hid with | mpg _ _ _ _ _ h => exact h
  have L : Later w G H w' G' (H.set id (.mpg es')) :=
    { size := hsz
      S := hS
      Snew := fun b o hb hr h => hSn b o hb (by rw [hr]; simp) h
      len := by simp
      rho := fun i _ => by rw [hrho]
      grow := fun i n z hi h => by
        by_cases e : id = i
        · subst e; simp [hidl] at h
        · rw [List.getElem?_set_ne e] at h
          exact ⟨n, h, .inr ⟨rfl, by rw [hg]⟩⟩
      vec := fun i n z cs hi h => by
        by_cases e : id = i
        · subst e; simp [hidl] at h
        · rw [List.getElem?_set_ne e] at h
          exact ⟨n, z, cs, h, .inr ⟨rfl, by rw [hg]⟩⟩
      role := hrole
      frame := fun b hb hr => hfr b hb (by rw [hr]; simp)
      os := hos
      out := hout }
  refine ⟨⟨hsex, hrole2, fun i x hx => ?_⟩, L⟩
  by_cases e : id = i
  · subst e
    simp [hidl] at hx
    subst hx
    exact .mpg es' rs' clock' (by rw [hrho]; exact hb') hok (by rw [hrho, hrole _ (R.roleLt _ _ hro)]; exact hro)
  · rw [List.getElem?_set_ne e] at hx
    have hil := (List.getElem?_eq_some_iff.1 hx).1
    have hne : ∀ b, G.role b = some i → G.role b ≠ some id := fun b hb h => by rw [hb] at h; cases h; exact e rfl
    exact (R.ab i x hx).mono R L hil (fun b hb => hfr b (R.roleLt b i hb) (hne b hb)) (fun b o hb h => hSn b o (R.roleLt b i hb) (hne b hb) h) (by rw [hg])

theorem mpg_at {w : World} {G : Gh} {H : List AB} {id : Nat} {es : List (List Int × List Int)} (R : Rel w G H) (hid : H[id]? = some (.mpg es)) : ∃ rs clock, w.heap[G.rho id]? = some (.map rs clock) ∧ MpgOk w G id es rs clock ∧ G.role (G.rho id) = some id := by
  cases R.ab id _ hid with
  | mpg _ rs clock hb hok hro => exact ⟨rs, clock, hb, hok, hro⟩

/-! ### Keys -/
def ic (n : Int) : C := .d (.int .i64 n)
def mpgV (e : List Int × List Int) : V × V := (.agg (e.1.map ic), .c (.d (.sl (e.2.map ik))))
theorem mpg_es {w : World} {G : Gh} {H : List AB} {id : Nat} {es : List (List Int × List Int)} {rs : Array MapEntry} {clock : Nat} (h : MpgOk w G id es rs clock) : EsRel w G H (es.map mpgV) rs.toList :=
  ⟨by simpa using h.len, fun i e r he hr => by
    rw [List.getElem?_map] at he
    cases hq : es[i]? with
    | none => rw [hq] at he; cases he
    | some q =>
      rw [hq] at he
      cases he
      obtain ⟨h1, a, cap, h2, h3, h4, _⟩ := h.ent i q r hq (by simpa using hr)
      refine ⟨?_, .c _ _ (.d _ _ h4)⟩
      rw [h1]
      refine .agg _ _ ⟨by simp, fun j x v hx hv => ?_⟩
      rw [List.getElem?_map] at hx
      simp only [List.getElem?_toArray, List.getElem?_map] at hv
      cases hk : q.1[j]? with
      | none => rw [hk] at hx; cases hx
      | some n =>
        rw [hk] at hx
        simp [hk] at hv
        cases hx; subst hv
        exact ⟨.d _ _ (.int _ _), rfl⟩⟩
/-- An entry more, or a longer one. -/
def mpgApp (k : List Int) (m : Int) : List (List Int × List Int) → List (List Int × List Int)
  | [] => [(k, [m])]
  | e :: es => if e.1 = k then (k, e.2 ++ [m]) :: es else e :: mpgApp k m es
theorem eqCs_ints : ∀ {a b : List Int}, a.length = b.length → eqCs (a.map ic) (b.map ic) = some (decide (a = b))
  | [], [], _ => by simp [eqCs]
  | x :: a, y :: b, h => by
    have ih := eqCs_ints (a := a) (b := b) (by simpa using h)
    have e : eqCs ((x :: a).map ic) ((y :: b).map ic) = (match eqCs (a.map ic) (b.map ic) with | some q => some (decide (x = y) && q) | none => none) := by
      simp only [List.map_cons, eqCs, ic, eqC, if_true]
      cases eqCs (a.map ic) (b.map ic) <;> rfl
    rw [e, ih]
    simp [Bool.decide_and]
  | [], _ :: _, h => by simp at h
  | _ :: _, [], h => by simp at h
theorem mpg_find {k : List Int} {m : Int} : ∀ {es : List (List Int × List Int)} (n : Nat), (∀ e ∈ es, e.1.length = k.length) →
    (findE (.agg (k.map ic)) (es.map mpgV) n = some none ∧ mpgApp k m es = es ++ [(k, [m])]) ∨
    (∃ j l, es[j]? = some (k, l) ∧ findE (.agg (k.map ic)) (es.map mpgV) n = some (some (n + j, .c (.d (.sl (l.map ik))))) ∧ mpgApp k m es = es.set j (k, l ++ [m]))
  | [], n, _ => .inl ⟨rfl, rfl⟩
  | e :: es, n, h => by
    have hl := h e (by simp)
    have he := eqCs_ints (a := k) (b := e.1) hl.symm
    have hstep : keyEq (.agg (k.map ic)) (mpgV e).1 = some (decide (k = e.1)) := he
    by_cases hk : k = e.1
    · refine .inr ⟨0, e.2, by simp [hk], ?_, by simp [mpgApp, hk]⟩
      have hs : keyEq (.agg (k.map ic)) (mpgV e).1 = some true := by rw [hstep]; simp [hk]
      simp only [List.map_cons, findE, hs]
      rfl
    · have hk' : e.1 ≠ k := fun x => hk x.symm
      rcases mpg_find (k := k) (m := m) (n + 1) (fun e he => h e (List.mem_cons_of_mem _ he)) with ⟨h1, h2⟩ | ⟨j, l, h1, h2, h3⟩
      · refine .inl ⟨?_, by simp [mpgApp, hk', h2]⟩
        have hs : keyEq (.agg (k.map ic)) (mpgV e).1 = some false := by rw [hstep]; simp [hk]
        simp only [List.map_cons, findE, hs]
        exact h1
      · refine .inr ⟨j + 1, l, by simpa using h1, ?_, by simp [mpgApp, hk', h3]⟩
        have hs : keyEq (.agg (k.map ic)) (mpgV e).1 = some false := by rw [hstep]; simp [hk]
        simp only [List.map_cons, findE, hs]
        rw [h2, Nat.add_assoc, Nat.add_comm 1 j]

theorem key_val {w : World} {G : Gh} {H : List AB} {k : List Int} {v : Value} (h : VRel w G H (.agg (k.map ic)) v) : v = .agg (k.map (Value.int .i64)).toArray := by
  cases h with
  | agg _ arr h =>
    congr 1
    apply Array.ext'
    refine List.ext_getElem? fun j => ?_
    have hl : k.length = arr.toList.length := by have := h.1; simpa using this
    by_cases hj : j < k.length
    · have hv := List.getElem?_eq_getElem (l := arr.toList) (i := j) (by omega)
      have hk := List.getElem?_eq_getElem hj
      have h1 := (h.2 j (ic k[j]) _ (by rw [List.getElem?_map, hk]; rfl) hv).1
      rw [hv]
      generalize arr.toList[j]'(by omega) = u at h1
      unfold ic at h1
      cases h1 with
      | d _ _ h1 => cases h1; simp [hk]
    · rw [List.getElem?_eq_none (by omega), List.getElem?_eq_none (by simpa using Nat.le_of_not_lt hj)]

theorem findNow_val {d : TypeDesc} {k v : Value} {j : Nat} : ∀ {rs : List MapEntry} {n : Nat}, Instr.findNow d k rs n = some (some (j, v)) → n ≤ j ∧ ∃ r, rs[j - n]? = some r ∧ r.val = v
  | [], n, h => by simp [Instr.findNow] at h
  | r :: rs, n, h => by
    simp only [Instr.findNow] at h
    split at h
    · cases h; exact ⟨Nat.le_refl _, r, by simp, rfl⟩
    · obtain ⟨h1, s, h2, h3⟩ := findNow_val h
      exact ⟨by omega, s, by rw [show j - n = (j - (n + 1)) + 1 by omega]; simpa using h2, h3⟩
    · cases h
theorem findAsking_val {P : Program} {t : TypeId} {k v : Value} {j : Nat} {w' : World} : ∀ {rs : List MapEntry} {n : Nat} {w : World}, (Instr.findAsking t k rs n).run P w = .ok (some (j, v)) w' → n ≤ j ∧ ∃ r, rs[j - n]? = some r ∧ r.val = v
  | [], n, w, h => by simp [Instr.findAsking] at h
  | r :: rs, n, w, h => by
    simp only [Instr.findAsking, Sem.run_bind] at h
    cases he : (Op.equal t k r.key).run P w with
    | ok b w1 =>
      rw [he, Result.andThen_ok] at h
      cases b with
      | true => simp at h; obtain ⟨⟨rfl, rfl⟩, _⟩ := h; exact ⟨Nat.le_refl _, r, by simp, rfl⟩
      | false =>
        obtain ⟨h1, s, h2, h3⟩ := findAsking_val (by simpa using h)
        exact ⟨by omega, s, by rw [show j - n = (j - (n + 1)) + 1 by omega]; simpa using h2, h3⟩
    | _ => rw [he] at h; cases h
theorem findKey_val {P : Program} {t : TypeId} {k v : Value} {j : Nat} {w w' : World} {rs : List MapEntry} (h : (Instr.findKey t k rs).run P w = .ok (some (j, v)) w') : ∃ r, rs[j]? = some r ∧ r.val = v := by
  simp only [Instr.findKey, Sem.run_bind] at h
  cases he : (underlying t).run P w with
  | ok d w1 =>
    rw [he, Result.andThen_ok] at h
    split at h
    · rename_i r hr
      simp at h
      obtain ⟨rfl, _⟩ := h
      obtain ⟨_, r, h2, h3⟩ := findNow_val hr
      exact ⟨r, h2, h3⟩
    · obtain ⟨_, r, h2, h3⟩ := findAsking_val h
      exact ⟨r, h2, h3⟩
  | _ => rw [he] at h; cases h
section
variable {X : Tx} {w : World} {G : Gh} {H : List AB}
/-- The entry is looked for, or begun. -/
theorem mpg_entry {t kt et id : Nat} {i j : TI} {es : List (List Int × List Int)} {k : List Int} {m : Int} {v mv : Value} (ht : X.tt t = some i) (hd : i.desc = .map kt et) (he : X.tt et = some j) (hz : j.zero = .c (.full [])) (R : Rel w G H) (hid : H[id]? = some (.mpg es))
    (hk : keyOk X kt (.agg (k.map ic)) = true) (hl : ∀ e ∈ es, e.1.length = k.length) (hm : VRel w G H (.c (.mp id)) mv) (hv : VRel w G H (.agg (k.map ic)) v) :
    ∃ w1 es1 rs1 clock1 n l r, (Instr.mapEntry t mv v).run X.P w = .ok (.tuple #[r.val, goInt r.born]) w1 ∧ Rel w1 G (H.set id (.mpg es1)) ∧ Later w G H w1 G (H.set id (.mpg es1)) ∧ es1[n]? = some (k, l) ∧ mpgApp k m es = es1.set n (k, l ++ [m]) ∧
      w1.heap[G.rho id]? = some (.map rs1 clock1) ∧ MpgOk w1 G id es1 rs1 clock1 ∧ rs1[n]? = some r ∧ (l = [] ∨ (k, l) ∈ es) := by
  obtain ⟨rs, clock, hb, hok, hro⟩ := mpg_at R hid
  have hidl := (List.getElem?_eq_some_iff.1 hid).1
  have em : mv = .map (some (G.rho id)) := by cases hm with | c _ _ h => cases h; rfl
  subst em
  have hg : (getObj (G.rho id)).run X.P w = .ok (.map rs clock) w := by simp [getObj, Sem.run, hb]
  have hc := run_checkKey (w := w) false hk hv
  have hes := mpg_es (H := H) hok
  rcases mpg_find (k := k) (m := m) 0 hl with ⟨hf, ha⟩ | ⟨n, l, h1, hf, ha⟩
  · obtain ⟨o', hr, hr2⟩ := run_findKey hk hv hes hf
    cases o' with
    | some p => exact hr2.elim
    | none =>
    obtain ⟨z, hz0, hz1, _⟩ := X.ok.run_zero he
    rw [hz] at hz1
    have ez : z = .slice none 0 0 := by
      simp only [zeroV, Bool.or_eq_true] at hz1
      rcases hz1 with h | h
      · cases h
      · unfold zeroC at h
        split at h <;> simp_all
    subst ez
    have hok' : MpgOk (w.putObj (G.rho id) (.map (rs.push { key := v, val := .slice none 0 0, born := clock }) (clock + 1))) G id (es ++ [(k, [])]) (rs.push { key := v, val := .slice none 0 0, born := clock }) (clock + 1) := by
      have hnc : ∀ j, w.cell? ⟨G.rho id, j, none⟩ = none := fun j => by simp [World.cell?, hb]
      have hcell : ∀ b o, G.S b o → (w.putObj (G.rho id) (.map (rs.push { key := v, val := .slice none 0 0, born := clock }) (clock + 1))).cell? ⟨b, o, none⟩ = w.cell? ⟨b, o, none⟩ := fun b o hS => by
        by_cases e : b = G.rho id
        · subst e; obtain ⟨v, hv⟩ := R.sex _ o hS; rw [hnc] at hv; cases hv
        · exact cell_of_heap (put_other e) o
      have hget : ∀ (q : Nat) (r : MapEntry), (rs.push { key := v, val := .slice none 0 0, born := clock })[q]? = some r → (q < rs.size ∧ rs[q]? = some r) ∨ (q = rs.size ∧ r = { key := v, val := .slice none 0 0, born := clock }) := fun q r hq => by
        rw [Array.getElem?_push] at hq
        split at hq
        · cases hq; exact .inr ⟨by assumption, rfl⟩
        · exact .inl ⟨(Array.getElem?_eq_some_iff.1 hq).1, hq⟩
      refine ⟨by simp [hok.len], fun q e r hq1 hq2 => ?_, fun q q' r s hq hq' hbn => ?_, fun q r hq => ?_, fun q q' r s b hq hq' hs1 hs2 => ?_⟩
      · rcases hget q r hq2 with ⟨hlt, hq2⟩ | ⟨rfl, rfl⟩
        · rw [List.getElem?_append_left (by rw [hok.len]; exact hlt)] at hq1
          obtain ⟨e1, a, cap, e2, e3, e4, e5, e6⟩ := hok.ent q e r hq1 hq2
          refine ⟨e1, a, cap, e2, e3, e4.mono (fun b o h => ⟨h, hcell b o h⟩), e5, fun x hx hn => ?_⟩
          obtain ⟨b, o, f1, f2, ⟨arr, t, f3, f5⟩, f4⟩ := e6 x hx hn
          have hne : b ≠ G.rho id := fun e => by subst e; rw [hb] at f3; cases f3
          exact ⟨b, o, f1, f2, ⟨arr, t, by rw [put_other hne]; exact f3, f5⟩, f4⟩
        · rw [List.getElem?_append_right (by rw [hok.len]; exact Nat.le_refl _), hok.len, Nat.sub_self] at hq1
          simp at hq1
          subst hq1
          exact ⟨key_val hv, none, 0, rfl, Nat.le_refl _, .emp none 0, fun _ => rfl, fun x hx => by cases hx⟩
      · rcases hget q r hq with ⟨hlt, hq⟩ | ⟨rfl, rfl⟩ <;> rcases hget q' s hq' with ⟨hlt', hq'⟩ | ⟨rfl, rfl⟩
        · exact hok.born q q' r s hq hq' hbn
        · have := hok.clk q r hq; simp at hbn; omega
        · have := hok.clk q' s hq'; simp at hbn; omega
        · rfl
      · rcases hget q r hq with ⟨hlt, hq⟩ | ⟨rfl, rfl⟩
        · have := hok.clk q r hq; omega
        · simp
      · rcases hget q r hq with ⟨hlt, hq⟩ | ⟨rfl, rfl⟩ <;> rcases hget q' s hq' with ⟨hlt', hq'⟩ | ⟨rfl, rfl⟩
        · exact hok.dist q q' r s b hq hq' hs1 hs2
        · simp [spareB] at hs2
        · simp [spareB] at hs1
        · rfl
    have hnc : ∀ j, w.cell? ⟨G.rho id, j, none⟩ = none := fun j => by simp [World.cell?, hb]
    obtain ⟨R1, L1⟩ := mpg_base (G' := G) (w' := w.putObj (G.rho id) (.map (rs.push { key := v, val := .slice none 0 0, born := clock }) (clock + 1))) R hid (by simp) rfl rfl (fun _ _ => rfl) (fun b i h => by simpa using R.roleLt b i h)
      (fun b o hS => ⟨hS, by
        by_cases e : b = G.rho id
        · subst e; obtain ⟨v, hv⟩ := R.sex _ o hS; rw [hnc] at hv; cases hv
        · exact cell_of_heap (put_other e) o⟩) (fun _ _ _ _ h => h) (fun b _ hr => put_other (fun e => by rw [e] at hr; exact hr hro))
      (fun b o hS => by
        obtain ⟨v, hv⟩ := R.sex b o hS
        by_cases e : b = G.rho id
        · subst e; rw [hnc] at hv; cases hv
        · exact ⟨v, by rw [cell_of_heap (put_other e) o]; exact hv⟩) rfl rfl (put_same hb) hok'
    refine ⟨_, es ++ [(k, [])], _, _, es.length, [], { key := v, val := .slice none 0 0, born := clock }, ?_, R1, L1, by simp, ?_, put_same hb, hok', ?_⟩
    · simp [Instr.mapEntry, X.ok.run_at ht hd rfl, hg, hc, hr, hz0, run_setMap hb]
    · rw [ha]; simp
    · exact ⟨by rw [hok.len]; simp, .inl rfl⟩
  · obtain ⟨o', hr, hr2⟩ := run_findKey hk hv hes hf
    cases o' with
    | none => exact hr2.elim
    | some p =>
    obtain ⟨n', u⟩ := p
    obtain ⟨rfl, hr2⟩ := hr2
    rw [Nat.zero_add] at hr
    have hlt : n < rs.size := by rw [← hok.len]; exact (List.getElem?_eq_some_iff.1 h1).1
    have hrn : rs[n]? = some rs[n] := by simp [hlt]
    obtain ⟨hkey, hgv⟩ := hok.ent n _ _ h1 hrn
    have hmod : (rs.modify n fun e => { e with key := v }) = rs := by
      apply Array.ext_getElem?
      intro q
      rw [Array.getElem?_modify]
      split
      · rename_i e
        subst e
        rw [hrn, key_val hv, ← hkey]; rfl
      · rfl
    have hu : u = rs[n].val := by
      obtain ⟨r, h2, h3⟩ := findKey_val hr
      rw [Array.getElem?_toList, hrn] at h2
      cases h2; exact h3.symm
    subst hu
    have hst : (Instr.keyThatStays (((rs[n]?).map (·.key)).getD v) v).run X.P w = .ok v w := by
      rw [hrn]
      simp only [Option.map_some, Option.getD_some, Instr.keyThatStays]
      have hs : Instr.sameBits 10000 rs[n].key v = true := by
        have hke := (hes.2 n (mpgV (k, l)) rs[n] (by rw [List.getElem?_map, h1]; rfl) (by rw [Array.getElem?_toList]; exact hrn)).1
        exact (keyEq_same (k' := (mpgV (k, l)).1) (by
          show eqCs (k.map ic) (k.map ic) = some true
          rw [eqCs_ints rfl]; simp) hv hke).2
      simp [hs]
    have hset : H.set id (.mpg es) = H := by
      apply List.ext_getElem?
      intro q
      by_cases e : id = q
      · subst e; rw [List.getElem?_set_self hidl]; exact hid.symm
      · rw [List.getElem?_set_ne e]
    refine ⟨w, es, rs, clock, n, l, rs[n], ?_, by rw [hset]; exact R, by rw [hset]; exact Later.refl _ _ _, h1, ha, hb, hok, hrn, .inr (List.mem_of_getElem? h1)⟩
    have hput : w.putObj (G.rho id) (.map rs clock) = w := put_self hb
    simp only [Instr.mapEntry, Sem.run_bind, X.ok.run_at ht hd rfl, Result.andThen_ok, hg, hc, hr, hst, hmod, run_setMap hb, hput, Sem.run_pure]
    rw [hrn]; rfl

theorem GrowV.mono' {w' : World} {G' : Gh} {id : Nat} {l : List Int} {v : Value} (h : GrowV w G id l v) (hS : ∀ b o, G.S b o → G'.S b o ∧ w'.cell? ⟨b, o, none⟩ = w.cell? ⟨b, o, none⟩)
    (hk : ∀ b, spareB v = some b → G.role b = some id → (∃ arr t, w.heap[b]? = some (.cells arr t (0, 0))) → G'.role b = some id ∧ w'.heap[b]? = w.heap[b]? ∧ ∀ j, G'.S b j → G.S b j) : GrowV w' G' id l v := by
  obtain ⟨a, cap, e2, e3, e4, e5, e6⟩ := h
  refine ⟨a, cap, e2, e3, e4.mono hS, e5, fun x hx hn => ?_⟩
  obtain ⟨b, o, f1, f2, ⟨arr, t, f3, f5⟩, f4⟩ := e6 x hx hn
  obtain ⟨g1, g2, g3⟩ := hk b (by rw [e2, hx, f1]; simp [spareB, hn]) f2 ⟨arr, t, f3⟩
  exact ⟨b, o, f1, g1, ⟨arr, t, by rw [g2]; exact f3, f5⟩, fun j hj hs => f4 j hj (g3 j hs)⟩
theorem mpg_set {w' : World} {G' : Gh} {id n clock : Nat} {es : List (List Int × List Int)} {rs : Array MapEntry} {k l' : List Int} {l : List Int} {u : Value} {r : MapEntry} (h : MpgOk w G id es rs clock) (hn : es[n]? = some (k, l)) (hr : rs[n]? = some r)
    (hkeep : ∀ q e s, q ≠ n → es[q]? = some e → rs[q]? = some s → GrowV w G id e.2 s.val → GrowV w' G' id e.2 s.val) (hnew : GrowV w' G' id l' u) (hd : ∀ q s b, q ≠ n → rs[q]? = some s → spareB u = some b → spareB s.val ≠ some b) :
    MpgOk w' G' id (es.set n (k, l')) (rs.modify n fun e => { e with val := u }) clock := by
  have hnl := (List.getElem?_eq_some_iff.1 hn).1
  have hget : ∀ (q : Nat) (s : MapEntry), (rs.modify n fun e => { e with val := u })[q]? = some s → (q = n ∧ s = { r with val := u }) ∨ (q ≠ n ∧ rs[q]? = some s) := fun q s hq => by
    rw [Array.getElem?_modify] at hq
    split at hq
    · rename_i e
      subst e
      rw [hr] at hq
      cases hq
      exact .inl ⟨rfl, rfl⟩
    · rename_i e
      exact .inr ⟨Ne.symm e, hq⟩
  refine ⟨by simp [h.len], fun q e s hq1 hq2 => ?_, fun q q' s s' hq hq' hbn => ?_, fun q s hq => ?_, fun q q' s s' b hq hq' hs1 hs2 => ?_⟩
  · rcases hget q s hq2 with ⟨rfl, rfl⟩ | ⟨hne, hq2⟩
    · rw [List.getElem?_set_self hnl] at hq1
      cases hq1
      exact ⟨(h.ent q _ _ hn hr).1, hnew⟩
    · rw [List.getElem?_set_ne (Ne.symm hne)] at hq1
      obtain ⟨h1, h2⟩ := h.ent q e s hq1 hq2
      exact ⟨h1, hkeep q e s hne hq1 hq2 h2⟩
  · rcases hget q s hq with ⟨e1, e2⟩ | ⟨hne, hq2⟩ <;> rcases hget q' s' hq' with ⟨e1', e2'⟩ | ⟨hne', hq2'⟩
    · rw [e1, e1']
    · subst e1; subst e2; exact h.born _ _ r s' hr hq2' hbn
    · subst e1'; subst e2'; exact h.born _ _ s r hq2 hr hbn
    · exact h.born _ _ _ _ hq2 hq2' hbn
  · rcases hget q s hq with ⟨e1, e2⟩ | ⟨hne, hq2⟩
    · subst e2; exact h.clk _ r hr
    · exact h.clk _ _ hq2
  · rcases hget q s hq with ⟨e1, e2⟩ | ⟨hne, hq2⟩ <;> rcases hget q' s' hq' with ⟨e1', e2'⟩ | ⟨hne', hq2'⟩
    · rw [e1, e1']
    · subst e2; exact absurd hs2 (hd _ _ b hne' hq2' hs1)
    · subst e2'; exact absurd hs1 (hd _ _ b hne hq2 hs2)
    · exact h.dist _ _ _ _ b hq2 hq2' hs1 hs2
theorem run_entryStore {mt n r0 clock : Nat} {rs : Array MapEntry} {r : MapEntry} {u : Value} {w2 : World} (hb : w2.heap[r0]? = some (.map rs clock)) (hr : rs[n]? = some r) (hborn : ∀ (i j : Nat) (r s : MapEntry), rs[i]? = some r → rs[j]? = some s → r.born = s.born → i = j) :
    (Instr.entryStore mt (.map (some r0)) (goInt r.born) u).run X.P w2 = .ok () (w2.putObj r0 (.map (rs.modify n fun e => { e with val := u }) clock)) := by
  have hlt := (Array.getElem?_eq_some_iff.1 hr).1
  have hrv : rs[n] = r := by simpa [hlt] using hr
  have hf : rs.findIdx? (fun e => (e.born : Int) == (r.born : Int)) = some n := by
    rw [Array.findIdx?_eq_some_iff_getElem]
    refine ⟨hlt, by rw [hrv]; simp, fun j hj => ?_⟩
    intro hh
    have hjl : j < rs.size := by omega
    have hb' : rs[j].born = r.born := by
      have : (rs[j].born : Int) = r.born := by simpa using hh
      omega
    have := hborn j n rs[j] r (by simp [hjl]) hr hb'
    omega
  have hg : (getObj r0).run X.P w2 = .ok (.map rs clock) w2 := by simp [getObj, Sem.run, hb]
  simp [Instr.entryStore, hg, asInt, asIntOf, goInt, hf, run_setMap hb]

theorem mpg_append {t t2 e mt : Nat} {i i2 i' : TI} (ht : X.tt t = some i) (hd : i.desc = .slice e) (ht2 : X.tt t2 = some i2) (hd2 : ∃ e', i2.desc = .slice e') (he : X.tt e = some i') (hz : i'.size = 1) {id n clock : Nat} {es : List (List Int × List Int)} {k l : List Int} {m : Int} {rs : Array MapEntry} {r : MapEntry}
    (R : Rel w G H) (hid : H[id]? = some (.mpg es)) (hb : w.heap[G.rho id]? = some (.map rs clock)) (hok : MpgOk w G id es rs clock) (hen : es[n]? = some (k, l)) (hrn : rs[n]? = some r) {y : C} {xv : Value} (hy : rowsOf y = some [ik m]) (hx : CRel w G H y xv)
    (hbd : (l.length + 1 + (l.length + 1) / 4 + 256) * i'.bytes ≤ 281474976710656) (hlim : l.length + 1 ≤ lim) {ty : TypeId} :
    ∃ u w2, (Builtin.append_ #[t, t2] ty #[r.val, xv]).run X.P w = .ok u w2 ∧ ∃ w3 G3, (Instr.entryStore mt (.map (some (G.rho id))) (goInt r.born) u).run X.P w2 = .ok () w3 ∧
      Rel w3 G3 (H.set id (.mpg (es.set n (k, l ++ [m])))) ∧ Later w G H w3 G3 (H.set id (.mpg (es.set n (k, l ++ [m])))) := by
  obtain ⟨e', hd2⟩ := hd2
  have T := X.ok
  have hro : G.role (G.rho id) = some id := by cases R.ab id _ hid with | mpg _ _ _ _ _ h => exact h
  have hnc : ∀ j, w.cell? ⟨G.rho id, j, none⟩ = none := fun j => by simp [World.cell?, hb]
  have hSr : ∀ o, ¬ G.S (G.rho id) o := fun o h => by obtain ⟨v, hv⟩ := R.sex _ o h; rw [hnc] at hv; cases hv
  obtain ⟨ax, capx, rfl, hDx⟩ := rowsOf_rel hy hx
  obtain ⟨us, hus1, hus2, _⟩ := run_firstCells (P := X.P) (H := H) hDx (sz := 1) (by simp [ik]) (by decide)
  have hus : us = [.int .i64 m] := by
    have h1 := hus2
    simp only [List.flatten_cons, List.flatten_nil, ik, List.append_nil, List.map_cons, List.map_nil] at h1
    match us, h1.1 with
    | [u], _ =>
      have h2 := (h1.2 0 _ u rfl rfl).1
      cases h2 with
      | d _ _ h2 => cases h2; rfl
  subst hus
  obtain ⟨_, a, cap, hval, hle, hD, hnil, hsp⟩ := hok.ent n _ _ hen hrn
  simp only at hval hle hD hnil hsp
  obtain ⟨inf, hi1, hi2⟩ := T.run_bytes he w
  rw [hval] at hD ⊢
  have hsize : (sizeOf e).run X.P w = .ok 1 w := by rw [T.run_sizeOf he, hz]
  have hx1 : ([ik m] : List (List D)).length = 1 := rfl
  rw [hx1] at hus1 ⊢
  by_cases hfit : l.length + 1 ≤ cap
  · -- in its place
    obtain ⟨x, rfl⟩ : ∃ x, a = some x := by
      cases a with
      | none => have := hnil rfl; omega
      | some x => exact ⟨x, rfl⟩
    obtain ⟨b, o, rfl, hrb, ⟨arr, tb, hbb, hsz⟩, hfree⟩ := hsp x rfl (by omega)
    have hbne : b ≠ G.rho id := fun e => by subst e; rw [hb] at hbb; cases hbb
    have hrun := run_storeCells X.P (b := b) (off := o + l.length) (t := tb) [.int .i64 m] 0 w arr hbb (by simp; omega) (by simp [Value.oneCell'])
    simp only [Nat.add_zero, setMany] at hrun
    generalize harr' : (arr.toList.set (o + l.length) (Value.int .i64 m)).toArray = arr' at hrun
    have hget : ∀ j, arr'[j]? = if j = o + l.length then some (.int .i64 m) else arr[j]? := fun j => by
      rw [← harr']
      simp only [List.getElem?_toArray, List.getElem?_set]
      by_cases e : o + l.length = j
      · subst e
        have : o + l.length < arr.size := by omega
        simp [this]
      · rw [if_neg e, if_neg (Ne.symm e)]; simp
    have hsame : (w.putObj b (.cells arr' tb (0, 0))).heap[b]? = some (.cells arr' tb (0, 0)) := put_same hbb
    have hb2 : (w.putObj b (.cells arr' tb (0, 0))).heap[G.rho id]? = some (.map rs clock) := by rw [put_other (Ne.symm hbne)]; exact hb
    refine ⟨.slice (some ⟨b, o, none⟩) (l.length + 1) cap, w.putObj b (.cells arr' tb (0, 0)), ?_, ?_⟩
    · simp [Builtin.append_, T.run_at ht hd rfl, hsize, T.run_at ht2 hd2 rfl, Builtin.lenOf, hfit, hus1 w rfl, Addr.add_lit, hrun]
    refine ⟨_, { G with S := fun b' j => G.S b' j ∨ (b' = b ∧ j = o + l.length) }, run_entryStore hb2 hrn hok.born, ?_⟩
    generalize hw3 : (w.putObj b (.cells arr' tb (0, 0))).putObj (G.rho id) (.map (rs.modify n fun e => { e with val := .slice (some ⟨b, o, none⟩) (l.length + 1) cap }) clock) = w3
    have h3r : w3.heap[G.rho id]? = some (.map (rs.modify n fun e => { e with val := .slice (some ⟨b, o, none⟩) (l.length + 1) cap }) clock) := by rw [← hw3]; exact put_same hb2
    have h3b : w3.heap[b]? = some (.cells arr' tb (0, 0)) := by rw [← hw3, put_other hbne]; exact hsame
    have h3o : ∀ q, q ≠ b → q ≠ G.rho id → w3.heap[q]? = w.heap[q]? := fun q h1 h2 => by rw [← hw3, put_other h2, put_other h1]
    have hcell3 : ∀ j, w3.cell? ⟨b, j, none⟩ = arr'[j]? := fun j => cell_of_row _ b j arr' tb (0, 0) h3b
    have hcell0 : ∀ j, w.cell? ⟨b, j, none⟩ = arr[j]? := fun j => cell_of_row w b j arr tb (0, 0) hbb
    have hS : ∀ b' j, G.S b' j → w3.cell? ⟨b', j, none⟩ = w.cell? ⟨b', j, none⟩ := fun b' j h => by
      by_cases e : b' = b
      · subst e
        rw [hcell3, hcell0, hget, if_neg]
        rintro rfl
        exact hfree _ (Nat.le_refl _) h
      · by_cases e2 : b' = G.rho id
        · subst e2; exact absurd h (hSr j)
        · exact cell_of_heap (h3o b' e e2) j
    have hspr : spareB r.val = some b := by rw [hval]; simp [spareB]; omega
    refine mpg_base R hid (by rw [← hw3]; simp) rfl rfl (fun _ _ => rfl) (fun q i h => by rw [← hw3]; simpa using R.roleLt q i h) (fun b' j h => ⟨.inl h, hS b' j h⟩) (fun b' j _ hr h => ?_) (fun b' _ hr => h3o b' (fun e => by subst e; exact hr hrb) (fun e => by subst e; exact hr hro)) (fun b' j h => ?_) (by rw [← hw3]; rfl) (by rw [← hw3]; rfl) h3r ?_
    · rcases h with h | ⟨rfl, _⟩
      · exact h
      · exact absurd hrb hr
    · rcases h with h | ⟨rfl, rfl⟩
      · obtain ⟨v, hv⟩ := R.sex b' j h
        exact ⟨v, by rw [hS b' j h]; exact hv⟩
      · exact ⟨_, by rw [hcell3, hget, if_pos rfl]⟩
    · refine mpg_set hok hen hrn (fun q e s hne hq1 hq2 hg => ?_) ?_ (fun q s b' hne hq hs1 hs2 => ?_)
      · refine hg.mono' (fun b' j h => ⟨.inl h, hS b' j h⟩) (fun b' hs hr ⟨arr2, t2, hc⟩ => ?_)
        have hb' : b' ≠ b := fun e => by subst e; exact hne (hok.dist q n s r b' hq2 hrn hs hspr)
        refine ⟨hr, h3o b' hb' (fun e => by subst e; rw [hb] at hc; cases hc), fun j h => ?_⟩
        rcases h with h | ⟨h, _⟩
        · exact h
        · exact absurd h hb'
      · refine ⟨some ⟨b, o, none⟩, cap, by simp, by simpa using hfit, ?_, (fun e => by cases e), fun x hx hn => ?_⟩
        · rw [show l.length + 1 = (l ++ [m]).length by simp]
          refine ints_bwd (by simpa using hfit) (by simpa using hlim) (fun q y hq => ?_)
          by_cases hql : q < l.length
          · rw [List.getElem?_append_left hql] at hq
            obtain ⟨g1, g2⟩ := (ints_fwd hD).2 q y hq
            exact ⟨.inl g1, by rw [hS _ _ g1]; exact g2⟩
          · have hq0 : q = l.length := by have := (List.getElem?_eq_some_iff.1 hq).1; simp at this; omega
            subst hq0
            rw [List.getElem?_append_right (Nat.le_refl _), Nat.sub_self] at hq
            cases hq
            exact ⟨.inr ⟨rfl, rfl⟩, by rw [hcell3, hget, if_pos rfl]⟩
        · cases hx
          simp only [List.length_append, List.length_cons, List.length_nil, Nat.zero_add] at hn ⊢
          refine ⟨b, o, rfl, hrb, ⟨arr', tb, h3b, by rw [← harr']; simpa using hsz⟩, fun j hj h => ?_⟩
          rcases h with h | ⟨_, h⟩
          · exact hfree j (by omega) h
          · omega
      · have : b' = b := by
          simp only [spareB] at hs1
          split at hs1
          · cases hs1; rfl
          · cases hs1
        subst this
        exact hne (hok.dist q n s r b' hq hrn hs2 hspr)
  · -- a new row
    obtain ⟨vs, hvs1, hvs2, _⟩ := run_firstCells (P := X.P) (H := H) hD (sz := 1) (by simp [ik]) (by decide)
    have hvl : vs = l.map (Value.int .i64) := by
      have hfl : ∀ l : List Int, (l.map ik).flatten = l.map (D.int .i64) := fun l => by
        induction l with
        | nil => rfl
        | cons a l ih => simp only [List.map_cons, List.flatten_cons, ih]; rfl
      have hvs2 : CsRel w G H (((l.map ik).flatten).map .d) vs := hvs2
      rw [hfl] at hvs2
      refine List.ext_getElem? fun q => ?_
      have hlen : l.length = vs.length := by have := hvs2.1; simpa using this
      by_cases hq : q < l.length
      · have h1 := List.getElem?_eq_getElem (l := vs) (i := q) (by omega)
        have h2 := List.getElem?_eq_getElem hq
        have h3 := (hvs2.2 q (.d (.int .i64 l[q])) _ (by rw [List.getElem?_map, List.getElem?_map, h2]; rfl) h1).1
        rw [h1, List.getElem?_map, h2]
        generalize vs[q]'(by omega) = u at h3
        cases h3 with
        | d _ _ h3 => cases h3; rfl
      · rw [List.getElem?_eq_none (by omega), List.getElem?_eq_none (by simpa using Nat.le_of_not_lt hq)]
    subst hvl
    obtain ⟨z, hz0, _, hz2, hz3⟩ := T.run_zero he
    have hzs : z.cells.size = 1 := by have := (zeroCs_rel (w := w) (G := G) (H := H) hz2).1; simp at this; omega
    have hnext : ¬ (Builtin.nextslicecap (l.length + 1) cap * inf.bytes > 2 ^ 48) := by
      have := nextslicecap_le (need := l.length + 1) (cap := cap) (by omega)
      rw [hi2]
      have := Nat.mul_le_mul_right i'.bytes this
      omega
    have hint' : ¬ (((l.length + 1 : Nat) : Int) > IntKind.i64.max ∧ (False ∨ inf.bytes = 0)) := by
      intro h
      have h1 := h.1
      have : IntKind.i64.max = 9223372036854775807 := by decide
      rw [this] at h1
      have : (lim : Nat) = 140737488355328 := rfl
      omega
    let q := Question.appendCap (l.length + 1) cap e
    let newCap := q.cut (w.tape w.drawn q)
    have hnc2 : l.length + 1 ≤ newCap := by
      show _ ≤ (l.length + 1) + _
      omega
    let arr : Array Value := (l.map (Value.int .i64)).toArray ++ [Value.int .i64 m].toArray ++ Builtin.zeroCells z.cells (newCap - (l.length + 1))
    have hi1' : ∀ w' : World, (typeInfo e).run X.P w' = .ok inf w' := fun w' => by
      have := hi1
      simp only [typeInfo, Sem.run_bind, run_program, Result.andThen_ok] at this ⊢
      cases hinf : X.P.info? e with
      | none => simp [hinf] at this
      | some x => simp [hinf] at this ⊢; exact this
    have hch : (choose (Question.appendCap (l.length + 1) cap e)).run X.P w = .ok newCap w.drew := by
      rw [run_choose]; rfl
    have hfit' : ¬ (l.length + 1 ≤ cap) := hfit
    have hz0' := fun w' => hz0 w'
    have hzl : (Builtin.zeroCells z.cells (newCap - (l.length + 1))).size = newCap - (l.length + 1) := by
      have h1 : (Builtin.zeroCells z.cells (newCap - (l.length + 1))).toList = zc z.cells.toList (newCap - (l.length + 1)) := rangeMap_toList _ _
      have h2 := congrArg List.length h1
      rw [zc_length] at h2
      simp [hzs] at h2; exact h2
    have harrs : arr.size = newCap := by
      show ((l.map (Value.int .i64)).toArray ++ [Value.int .i64 m].toArray ++ Builtin.zeroCells z.cells (newCap - (l.length + 1))).size = newCap
      rw [Array.size_append, Array.size_append, hzl]
      simp only [List.size_toArray, List.length_map, List.length_cons, List.length_nil]
      omega
    have hdrew : w.drew.heap = w.heap := rfl
    generalize hw2 : w.drew.alloc (.cells arr e) = w2
    have h2n : w2.heap[w.heap.size]? = some (.cells arr e (0, 0)) := by rw [← hw2]; exact heap_alloc_at w.drew _
    have h2o : ∀ b, b < w.heap.size → w2.heap[b]? = w.heap[b]? := fun b hb => by rw [← hw2]; exact heap_alloc_lt w.drew _ hb
    have h2s : w2.heap.size = w.heap.size + 1 := by rw [← hw2, World.size_alloc]; rfl
    have hrl : G.rho id < w.heap.size := R.roleLt _ _ hro
    have hb2 : w2.heap[G.rho id]? = some (.map rs clock) := by rw [h2o _ hrl]; exact hb
    refine ⟨.slice (some ⟨w.heap.size, 0, none⟩) (l.length + 1) newCap, w2, ?_, ?_⟩
    · simp only [Builtin.append_, List.getElem?_toArray, List.getElem?_cons_zero, List.getElem?_cons_succ, Sem.run_bind, T.run_at ht hd rfl, Result.andThen_ok, hsize, T.run_at ht2 hd2 rfl, Builtin.lenOf, Sem.run_pure, Bool.false_eq_true, if_false, hfit', hi1', if_neg hint', if_neg hnext, hch, run_askRoom, Bool.not_false, if_true, hvs1 w.drew rfl, hus1 w.drew rfl, hz0']
      simp only [newRow, Sem.run_bind, run_newObj, Result.andThen_ok, Sem.run_pure]
      rw [← hw2]
      rfl
    refine ⟨_, { G with S := fun b' j => G.S b' j ∨ (b' = w.heap.size ∧ j < l.length + 1), role := upd G.role w.heap.size (some id) }, run_entryStore hb2 hrn hok.born, ?_⟩
    generalize hw3 : w2.putObj (G.rho id) (.map (rs.modify n fun e => { e with val := .slice (some ⟨w.heap.size, 0, none⟩) (l.length + 1) newCap }) clock) = w3
    have h3r : w3.heap[G.rho id]? = some (.map (rs.modify n fun e => { e with val := .slice (some ⟨w.heap.size, 0, none⟩) (l.length + 1) newCap }) clock) := by rw [← hw3]; exact put_same hb2
    have h3n : w3.heap[w.heap.size]? = some (.cells arr e (0, 0)) := by rw [← hw3, put_other (by omega)]; exact h2n
    have h3o : ∀ q, q < w.heap.size → q ≠ G.rho id → w3.heap[q]? = w.heap[q]? := fun q h1 h2 => by rw [← hw3, put_other h2, h2o q h1]
    have h3s : w3.heap.size = w.heap.size + 1 := by rw [← hw3]; simpa using h2s
    have hcell3 : ∀ j, w3.cell? ⟨w.heap.size, j, none⟩ = arr[j]? := fun j => cell_of_row _ _ j arr e (0, 0) h3n
    have hltS : ∀ b' j, G.S b' j → b' < w.heap.size := fun b' j h => by obtain ⟨v, hv⟩ := R.sex b' j h; exact World.block_lt_of_cell? w _ hv
    have hS : ∀ b' j, G.S b' j → w3.cell? ⟨b', j, none⟩ = w.cell? ⟨b', j, none⟩ := fun b' j h => by
      by_cases e2 : b' = G.rho id
      · subst e2; exact absurd h (hSr j)
      · exact cell_of_heap (h3o b' (hltS b' j h) e2) j
    have harrg : ∀ (q : Nat) (y : Int), (l ++ [m])[q]? = some y → arr[q]? = some (.int .i64 y) := fun q y hq => by
      have hql := (List.getElem?_eq_some_iff.1 hq).1
      have e1 : arr.toList = (l ++ [m]).map (Value.int .i64) ++ (Builtin.zeroCells z.cells (newCap - (l.length + 1))).toList := by simp [arr]
      rw [← Array.getElem?_toList, e1, List.getElem?_append_left (by simpa using hql), List.getElem?_map, hq]; rfl
    have hroleS : ∀ q i, upd G.role w.heap.size (some id) q = some i → q < w.heap.size + 1 := fun q i h => by
      by_cases e2 : q = w.heap.size
      · omega
      · rw [upd_ne _ _ e2] at h; have := R.roleLt q i h; omega
    refine mpg_base R hid (by omega) rfl rfl (fun q hq => upd_ne _ _ (Nat.ne_of_lt hq)) (fun q i h => by rw [h3s]; exact hroleS q i h) (fun b' j h => ⟨.inl h, hS b' j h⟩) (fun b' j hlt hr h => ?_) (fun b' hlt hr => h3o b' hlt (fun e => by subst e; exact hr hro)) (fun b' j h => ?_) (by rw [← hw3, ← hw2]; rfl) (by rw [← hw3, ← hw2]; rfl) h3r ?_
    · rcases h with h | ⟨rfl, _⟩
      · exact h
      · omega
    · rcases h with h | ⟨rfl, hj⟩
      · obtain ⟨v, hv⟩ := R.sex b' j h
        exact ⟨v, by rw [hS b' j h]; exact hv⟩
      · exact ⟨arr[j]'(by omega), by rw [hcell3]; simp⟩
    · refine mpg_set hok hen hrn (fun q e s hne hq1 hq2 hg => ?_) ?_ (fun q s b' hne hq hs1 hs2 => ?_)
      · refine hg.mono' (fun b' j h => ⟨.inl h, hS b' j h⟩) (fun b' hs hr ⟨arr2, t2, hc⟩ => ?_)
        have hlt := R.roleLt _ _ hr
        refine ⟨(upd_ne _ _ (Nat.ne_of_lt hlt)).trans hr, h3o b' hlt (fun e => by subst e; rw [hb] at hc; cases hc), fun j h => ?_⟩
        rcases h with h | ⟨h, _⟩
        · exact h
        · omega
      · refine ⟨some ⟨w.heap.size, 0, none⟩, newCap, by simp, by simpa using hnc2, ?_, (fun e => by cases e), fun x hx hn => ?_⟩
        · rw [show l.length + 1 = (l ++ [m]).length by simp]
          refine ints_bwd (by simpa using hnc2) (by simpa using hlim) (fun q y hq => ?_)
          have hql := (List.getElem?_eq_some_iff.1 hq).1
          exact ⟨.inr ⟨rfl, by
            have : (l ++ [m]).length = l.length + 1 := by simp
            omega⟩, by rw [hcell3, Nat.zero_add]; exact harrg q y hq⟩
        · cases hx
          refine ⟨w.heap.size, 0, rfl, upd_same _ _ _, ⟨arr, e, h3n, by omega⟩, fun j hj h => ?_⟩
          simp only [List.length_append, List.length_cons, List.length_nil, Nat.zero_add] at hj
          rcases h with h | ⟨_, h⟩
          · have := hltS _ _ h; omega
          · omega
      · have hb' : b' = w.heap.size := by
          simp only [spareB] at hs1
          split at hs1
          · cases hs1; rfl
          · cases hs1
        subst hb'
        obtain ⟨_, a2, cap2, g1, g2, g3, g4, g5⟩ := hok.ent q _ _ (List.getElem?_eq_getElem (by rw [hok.len]; exact (Array.getElem?_eq_some_iff.1 hq).1)) hq
        rw [g1] at hs2
        cases a2 with
        | none => simp [spareB] at hs2
        | some x =>
          simp only [spareB] at hs2
          split at hs2
          · rename_i hlt
            obtain ⟨b2, o2, rfl, f2, _⟩ := g5 x rfl hlt
            have := R.roleLt _ _ f2
            cases hs2
            exact absurd this (Nat.lt_irrefl _)
          · cases hs2
end
end Go.Abs
/- Regions whose steps are taken several at once: an append into an entry of a map. -/
namespace Go.Abs
open Go

/-- The operations from k on, n of them. -/
def SOps (X : Cx) (all : Array Oper) (k n : Nat) (Q : St → Prop) (s : St) : Prop :=
  ∀ (bs : Base) (w : World) (G : Gh) (a : Act) (K : Exit → Act → World → Prop), RelSt bs X.nb X.nt w G s a → (∀ s' G' a' w', Q s' → RelSt bs X.nb X.nt w' G' s' a' → K .normal a' w') → wpOpsIn (Wd X.r) 0 X.P all K (List.range' k n) a w
section
variable {X : Tx} {r : Option Nat} {nb nt : Nat} {s : St} {all : Array Oper} {Q : St → Prop}
theorem awp_regionS {X : Cx} {id : Nat} {ops : Array Oper} {n : Nat} {Q : Exit → St → Prop} (hn : ops.size = n) (h : SOps X ops 0 n (Q .normal) s) : AWP X (.region id ops false) Q s := fun bs w G a hR => by
  subst hn
  refine wpIn_region ?_
  rw [List.range_eq_range']
  exact h bs w G a _ hR fun s' G' a' w' h1 h2 => ⟨s', G', h1, h2⟩
theorem sops_nil {X : Cx} {k : Nat} (h : Q s) : SOps X all k 0 Q s := fun bs w G a K hR hK => hK s G a w h hR
theorem sops_op {k n : Nat} {o : Oper} {x : V} {H' : List AB} (ho : all[k]? = some o) (hg : o.guard = none) (hd : ∀ d, o.dst = some d → d < nt) (h : op1 X s.heap s.ev o.op = some (true, x, H')) (hn : SOps (X.cx r nb nt) all (k + 1) n Q (s.put o.dst x H')) : SOps (X.cx r nb nt) all k (n + 1) Q s := fun bs w G a K hR hK => by
  simp only [List.range'_succ, wpOpsIn, ho]
  have hw : Region.wanted o (yielded all a.tmps) = true := by unfold Region.wanted; rw [hg]
  rw [hw, if_pos rfl]
  refine op1_sound (ro := r) o h w G a _ _ hR.rel (fun y _ => hR.ev y) ?_
  rintro v _ _ G' w' ⟨rfl, rfl⟩ hv R L
  exact hn bs w' G' _ K (hR.put hv R L hd) hK

theorem wp_value {P : Program} {ro : Option Nat} {o : Oper} {a : Act} {w w' : World} {v : Value} {next : Act → World → Prop} {K : Exit → Act → World → Prop} {sm : (Operand → Value) → Sem Value} (hd : ∀ c, o.op ≠ .defer c) (hs : ∀ ρ, execOp ρ o = (do pure (.value (← sm ρ)))) (h : (sm a.eval).run P w = .ok v w') (hn : next (a.put o.dst v) w') : o.wpIn (Wd ro) 0 P a w next K := by
  refine ⟨fun _ _ => trivial, ?_⟩
  rw [Oper.semAt_eq _ _ _ hd, hs]
  simp only [Sem.run_bind, h, Result.andThen_ok, Sem.run_pure, Oper.uponIn_value]
  exact hn
theorem wp_unit {P : Program} {ro : Option Nat} {o : Oper} {a : Act} {w w' : World} {next : Act → World → Prop} {K : Exit → Act → World → Prop} {sm : (Operand → Value) → Sem Unit} (hd : ∀ c, o.op ≠ .defer c) (hs : ∀ ρ, execOp ρ o = (do sm ρ; pure .skip)) (h : (sm a.eval).run P w = .ok () w') (hn : next (a.put o.dst undef) w') : o.wpIn (Wd ro) 0 P a w next K := by
  refine ⟨fun _ _ => trivial, ?_⟩
  rw [Oper.semAt_eq _ _ _ hd, hs]
  simp only [Sem.run_bind, h, Result.andThen_ok, Sem.run_pure, Oper.uponIn_skip]
  exact hn
theorem eval_put {a : Act} {d t : Nat} {v : Value} (hd : d < a.tmps.size) : (a.put (some d) v).eval (.tmp t) = if d = t then v else a.eval (.tmp t) := by
  show (a.tmps.setIfInBounds d v).getD t undef = _
  rw [getD_set]
  by_cases e : d = t
  · rw [if_pos ⟨e, hd⟩, if_pos e]
  · rw [if_neg (fun h => e h.1), if_neg e]; rfl
theorem put_size {a : Act} {d : Nat} {v : Value} : (a.put (some d) v).tmps.size = a.tmps.size := by simp [Act.put]

/-- An append into an entry: five operations. -/
theorem sops_mapApp {k n d1 d2 d3 d4 tm tk ty t t1 t2 kt et e id : Nat} {o1 o2 o3 o4 o5 : Oper} {i j i1 i2 i' : TI} {es : List (List Int × List Int)} {kk : List Int} {m : Int} {y : C}
    (ho1 : all[k]? = some o1) (ho2 : all[k + 1]? = some o2) (ho3 : all[k + 2]? = some o3) (ho4 : all[k + 3]? = some o4) (ho5 : all[k + 4]? = some o5)
    (hg : o1.guard = none ∧ o2.guard = none ∧ o3.guard = none ∧ o4.guard = none ∧ o5.guard = none) (hds : o1.dst = some d1 ∧ o2.dst = some d2 ∧ o3.dst = some d3 ∧ o4.dst = some d4 ∧ o5.dst = none)
    (hp1 : o1.op = .mapEntry t (.tmp tm) (.tmp tk)) (hp2 : o2.op = .extract (.tmp d1) 0) (hp3 : o3.op = .call { callee := .builtin .append, args := #[.tmp d2, .tmp ty], argTypes := #[t1, t2] }) (hp4 : o4.op = .extract (.tmp d1) 1) (hp5 : o5.op = .entryStore t (.tmp tm) (.tmp d4) (.tmp d3))
    (hlt : d1 < nt ∧ d2 < nt ∧ d3 < nt ∧ d4 < nt) (hne : d1 ≠ ty ∧ d2 ≠ ty ∧ d1 ≠ tm ∧ d2 ≠ tm ∧ d3 ≠ tm ∧ d4 ≠ tm ∧ d2 ≠ d1 ∧ d3 ≠ d1 ∧ d4 ≠ d3)
    (ht : X.tt t = some i) (hd : i.desc = .map kt et) (he : X.tt et = some j) (hz : j.zero = .c (.full [])) (ht1 : X.tt t1 = some i1) (hd1 : i1.desc = .slice e) (ht2 : X.tt t2 = some i2) (hd2 : ∃ e', i2.desc = .slice e') (hei : X.tt e = some i') (hsz : i'.size = 1)
    (hm : s.get tm = .c (.mp id)) (hid : s.heap[id]? = some (.mpg es)) (hk : s.get tk = .agg (kk.map ic)) (hok : keyOk X kt (.agg (kk.map ic)) = true) (hl : ∀ e ∈ es, e.1.length = kk.length) (hy : s.get ty = .c y) (hrows : rowsOf y = some [ik m])
    (hbd : ∀ e ∈ es, (e.2.length + 1 + (e.2.length + 1) / 4 + 256) * i'.bytes ≤ 281474976710656 ∧ e.2.length + 1 ≤ lim) (hbd0 : (0 + 1 + (0 + 1) / 4 + 256) * i'.bytes ≤ 281474976710656)
    (hn : SOps (X.cx r nb nt) all (k + 5) n Q ((((s.put (some d1) (.c .any) (s.heap.set id (.mpg (mpgApp kk m es)))).put (some d2) (.c .any) (s.heap.set id (.mpg (mpgApp kk m es)))).put (some d3) (.c .any) (s.heap.set id (.mpg (mpgApp kk m es)))).put (some d4) (.c .any) (s.heap.set id (.mpg (mpgApp kk m es))))) :
    SOps (X.cx r nb nt) all k (n + 5) Q s := fun bs w G a K hR hK => by
  obtain ⟨g1, g2, g3, g4, g5⟩ := hg
  obtain ⟨c1, c2, c3, c4, c5⟩ := hds
  obtain ⟨l1, l2, l3, l4⟩ := hlt
  obtain ⟨e1, e2, e3, e4, e5, e6, e7, e8, e9⟩ := hne
  have hidl := (List.getElem?_eq_some_iff.1 hid).1
  have hwant : ∀ (o : Oper) (tm : Array Value), o.guard = none → Region.wanted o (yielded all tm) = true := fun o tm hg => by unfold Region.wanted; rw [hg]
  have hsize : a.tmps.size = nt := hR.size
  have vm := hR.slots tm
  rw [hm] at vm
  have vk := hR.slots tk
  rw [hk] at vk
  have vy := hR.slots ty
  rw [hy] at vy
  have hxm : a.eval (.tmp tm) = .map (some (G.rho id)) := by
    show a.tmps.getD tm undef = _
    generalize a.tmps.getD tm undef = u at vm
    cases vm with
    | c _ _ h => cases h; rfl
  obtain ⟨w1, es1, rs1, clock1, q, l, rr, h1, R1, L1, f1, f2, f3, f4, f5, f6⟩ := mpg_entry (m := m) ht hd he hz hR.rel hid hok hl vm vk
  have hid1 : (s.heap.set id (.mpg es1))[id]? = some (.mpg es1) := by simp [hidl]
  have hll : (l.length + 1 + (l.length + 1) / 4 + 256) * i'.bytes ≤ 281474976710656 ∧ l.length + 1 ≤ lim := by
    rcases f6 with rfl | h
    · exact ⟨hbd0, by decide⟩
    · exact hbd _ h
  have vy1 : CRel w1 G (s.heap.set id (.mpg es1)) y (a.tmps.getD ty undef) := by
    generalize a.tmps.getD ty undef = u at vy
    cases vy with
    | c _ _ h => exact h.mono L1
  obtain ⟨u, w2, h2, w3, G3, h3, R3, L3⟩ := mpg_append (mt := t) (ty := o3.type) ht1 hd1 ht2 hd2 hei hsz R1 hid1 f3 f4 f1 f5 hrows vy1 hll.1 hll.2
  rw [List.set_set, ← f2] at R3 L3
  have hrun : List.range' k (n + 5) = k :: (k + 1) :: (k + 2) :: (k + 3) :: (k + 4) :: List.range' (k + 5) n := by
    simp only [List.range'_succ, Nat.add_assoc]
  rw [hrun]
  simp only [wpOpsIn, ho1, ho2, ho3, ho4, ho5, hwant _ _ g1, hwant _ _ g2, hwant _ _ g3, hwant _ _ g4, hwant _ _ g5, if_true]
  refine wp_value (v := .tuple #[rr.val, goInt rr.born]) (sm := fun ρ => Instr.mapEntry t (ρ (.tmp tm)) (ρ (.tmp tk))) (by simp [hp1]) (fun ρ => by simp [execOp, hp1]) h1 ?_
  rw [c1]
  have z1 : (a.put (some d1) (.tuple #[rr.val, goInt rr.born])).tmps.size = nt := put_size.trans hsize
  refine wp_value (v := rr.val) (sm := fun ρ => Instr.extract (ρ (.tmp d1)) 0) (by simp [hp2]) (fun ρ => by simp [execOp, hp2]) (w' := w1) (by
    simp only [eval_put (by rw [hsize]; exact l1), if_true]
    simp [Instr.extract]) ?_
  rw [c2]
  have z2 : ((a.put (some d1) (.tuple #[rr.val, goInt rr.born])).put (some d2) rr.val).tmps.size = nt := put_size.trans z1
  refine wp_value (v := u) (sm := fun ρ => Builtin.append_ #[t1, t2] o3.type (#[Operand.tmp d2, Operand.tmp ty].map ρ)) (by simp [hp3]) (fun ρ => ?_) (w' := w2) ?_ ?_
  · have hb : ∀ (ty : TypeId) (c : Array Bool) (vs : Array Value), builtin .append #[t1, t2] ty c vs = (do pure (.value (← Builtin.append_ #[t1, t2] ty vs))) := fun _ _ _ => rfl
    simp only [execOp, hp3, resolve, invoke]
    exact hb _ #[] _
  · rw [show (#[Operand.tmp d2, Operand.tmp ty].map ((a.put (some d1) (.tuple #[rr.val, goInt rr.born])).put (some d2) rr.val).eval) = #[((a.put (some d1) (.tuple #[rr.val, goInt rr.born])).put (some d2) rr.val).eval (.tmp d2), ((a.put (some d1) (.tuple #[rr.val, goInt rr.born])).put (some d2) rr.val).eval (.tmp ty)] from by simp]
    simp only [eval_put (show d2 < _ by rw [z1]; exact l2), eval_put (show d1 < _ by rw [hsize]; exact l1), if_true, if_neg e1, if_neg e2]
    exact h2
  rw [c3]
  have z3 : (((a.put (some d1) (.tuple #[rr.val, goInt rr.born])).put (some d2) rr.val).put (some d3) u).tmps.size = nt := put_size.trans z2
  refine wp_value (v := goInt rr.born) (sm := fun ρ => Instr.extract (ρ (.tmp d1)) 1) (by simp [hp4]) (fun ρ => by simp [execOp, hp4]) (w' := w2) (by
    simp only [eval_put (show d3 < _ by rw [z2]; exact l3), eval_put (show d2 < _ by rw [z1]; exact l2), eval_put (show d1 < _ by rw [hsize]; exact l1), if_true, if_neg e7, if_neg e8]
    simp [Instr.extract]) ?_
  rw [c4]
  have z4 : ((((a.put (some d1) (.tuple #[rr.val, goInt rr.born])).put (some d2) rr.val).put (some d3) u).put (some d4) (goInt rr.born)).tmps.size = nt := put_size.trans z3
  refine wp_unit (sm := fun ρ => Instr.entryStore t (ρ (.tmp tm)) (ρ (.tmp d4)) (ρ (.tmp d3))) (by simp [hp5]) (fun ρ => by simp [execOp, hp5]) (w' := w3) (by
    simp only [eval_put (show d4 < _ by rw [z3]; exact l4), eval_put (show d3 < _ by rw [z2]; exact l3), eval_put (show d2 < _ by rw [z1]; exact l2), eval_put (show d1 < _ by rw [hsize]; exact l1), if_true, if_neg e3, if_neg e4, if_neg e5, if_neg e6, if_neg e9, hxm]
    exact h3) ?_
  rw [c5]
  have hany : ∀ v, VRel w3 G3 (s.heap.set id (.mpg (mpgApp kk m es))) (.c .any) v := fun v => .c _ _ (.any _)
  have hR1 := hR.put (dst := some d1) (hany (.tuple #[rr.val, goInt rr.born])) R3 (L1.trans L3) (fun d h => by cases h; exact l1)
  have hR2 := hR1.put (dst := some d2) (hany rr.val) R3 (Later.refl _ _ _) (fun d h => by cases h; exact l2)
  have hR3 := hR2.put (dst := some d3) (hany u) R3 (Later.refl _ _ _) (fun d h => by cases h; exact l3)
  have hR4 := hR3.put (dst := some d4) (hany (goInt rr.born)) R3 (Later.refl _ _ _) (fun d h => by cases h; exact l4)
  exact hn bs w3 G3 _ K hR4 hK
/-- The same by the list of what is left. -/
def LOps (X : Cx) (all : Array Oper) (os : List Oper) (Q : St → Prop) (s : St) : Prop := ∀ k, (∀ j : Nat, os[j]? = all[k + j]?) → SOps X all k os.length Q s
theorem awp_regionL {X : Cx} {id : Nat} {ops : Array Oper} {Q : Exit → St → Prop} {s : St} (h : LOps X ops ops.toList (Q .normal) s) : AWP X (.region id ops false) Q s :=
  awp_regionS (n := ops.toList.length) (by simp) (h 0 (fun j => by simp))
theorem lops_nil {X : Cx} (h : Q s) : LOps X all [] Q s := fun k _ => sops_nil h
theorem lops_op {o : Oper} {os : List Oper} {x : V} {H' : List AB} (h : op1 X s.heap s.ev o.op = some (true, x, H')) (hg : o.guard = none) (hd : (match o.dst with | some d => decide (d < nt) | none => true) = true) (hn : LOps (X.cx r nb nt) all os Q (s.put o.dst x H')) : LOps (X.cx r nb nt) all (o :: os) Q s := fun k hk => by
  refine sops_op (by simpa using (hk 0).symm) hg (fun d e => by rw [e] at hd; simpa using hd) h (hn (k + 1) (fun j => ?_))
  have := hk (j + 1)
  simpa [Nat.add_assoc, Nat.add_comm 1 j] using this
theorem lops_mapApp {d1 d2 d3 d4 tm tk ty t t1 t2 kt et e id : Nat} {o1 o2 o3 o4 o5 : Oper} {os : List Oper} {i j i1 i2 i' : TI} {es : List (List Int × List Int)} {kk : List Int} {m : Int} {y : C}
    (hg : o1.guard = none ∧ o2.guard = none ∧ o3.guard = none ∧ o4.guard = none ∧ o5.guard = none) (hds : o1.dst = some d1 ∧ o2.dst = some d2 ∧ o3.dst = some d3 ∧ o4.dst = some d4 ∧ o5.dst = none)
    (hp1 : o1.op = .mapEntry t (.tmp tm) (.tmp tk)) (hp2 : o2.op = .extract (.tmp d1) 0) (hp3 : o3.op = .call { callee := .builtin .append, args := #[.tmp d2, .tmp ty], argTypes := #[t1, t2] }) (hp4 : o4.op = .extract (.tmp d1) 1) (hp5 : o5.op = .entryStore t (.tmp tm) (.tmp d4) (.tmp d3))
    (hlt : d1 < nt ∧ d2 < nt ∧ d3 < nt ∧ d4 < nt) (hne : d1 ≠ ty ∧ d2 ≠ ty ∧ d1 ≠ tm ∧ d2 ≠ tm ∧ d3 ≠ tm ∧ d4 ≠ tm ∧ d2 ≠ d1 ∧ d3 ≠ d1 ∧ d4 ≠ d3)
    (ht : X.tt t = some i) (hd : i.desc = .map kt et) (he : X.tt et = some j) (hz : j.zero = .c (.full [])) (ht1 : X.tt t1 = some i1) (hd1 : i1.desc = .slice e) (ht2 : X.tt t2 = some i2) (hd2 : ∃ e', i2.desc = .slice e') (hei : X.tt e = some i') (hsz : i'.size = 1)
    (hm : s.get tm = .c (.mp id)) (hid : s.heap[id]? = some (.mpg es)) (hk : s.get tk = .agg (kk.map ic)) (hok : keyOk X kt (.agg (kk.map ic)) = true) (hl : ∀ e ∈ es, e.1.length = kk.length) (hy : s.get ty = .c y) (hrows : rowsOf y = some [ik m])
    (hbd : ∀ e ∈ es, (e.2.length + 1 + (e.2.length + 1) / 4 + 256) * i'.bytes ≤ 281474976710656 ∧ e.2.length + 1 ≤ lim) (hbd0 : (0 + 1 + (0 + 1) / 4 + 256) * i'.bytes ≤ 281474976710656)
    (hn : LOps (X.cx r nb nt) all os Q ((((s.put (some d1) (.c .any) (s.heap.set id (.mpg (mpgApp kk m es)))).put (some d2) (.c .any) (s.heap.set id (.mpg (mpgApp kk m es)))).put (some d3) (.c .any) (s.heap.set id (.mpg (mpgApp kk m es)))).put (some d4) (.c .any) (s.heap.set id (.mpg (mpgApp kk m es))))) :
    LOps (X.cx r nb nt) all (o1 :: o2 :: o3 :: o4 :: o5 :: os) Q s := fun k hkk => by
  refine sops_mapApp (n := os.length) (by simpa using (hkk 0).symm) (by simpa using (hkk 1).symm) (by simpa using (hkk 2).symm) (by simpa using (hkk 3).symm) (by simpa using (hkk 4).symm) hg hds hp1 hp2 hp3 hp4 hp5 hlt hne ht hd he hz ht1 hd1 ht2 hd2 hei hsz hm hid hk hok hl hy hrows hbd hbd0 (hn (k + 5) (fun j => ?_))
  have := hkk (j + 5)
  rw [show k + 5 + j = k + (j + 5) by omega, ← this]
  simp
end
theorem ent_same {X : Cx} {s : St} {H' : List AB} (h : ∀ (w : World) (G : Gh), Rel w G s.heap → Rel w G H' ∧ Later w G s.heap w G H') : Ent X s { slots := s.slots, heap := H', marks := s.marks } := fun bs w G a hR => by
  obtain ⟨R, L⟩ := h w G hR.rel
  refine ⟨G,
    { rel := R
      later := hR.later.trans L
      base := hR.base
      size := hR.size
      slots := fun i => (hR.slots i).mono L
      defers := ?_
      marks := fun i hi => Nat.lt_of_lt_of_le (hR.marks i hi) L.len }⟩
  obtain ⟨hs, hh, e⟩ := hR.defers
  exact ⟨hs, hh.mono L, e⟩
/-- A map of slices that grow, begun; and at rest. -/
theorem ent_mpg {X : Cx} {s : St} (id : Nat) (hid : s.heap[id]? = some (.mp [])) : Ent X s { slots := s.slots, heap := s.heap.set id (.mpg []), marks := s.marks } := ent_same fun w G R => by
  cases R.ab id _ hid with
  | mp _ rs clock hb hr hro =>
    have e0 : rs = #[] := by
      have := hr.1
      exact Array.eq_empty_of_size_eq_zero (by simpa using this.symm)
    subst e0
    have L := Later.put_own (w := w) (G := G) (H := s.heap) (id := id) (b := G.rho id) (o := .map #[] clock) (y := .mpg []) hro (fun j hj => by rw [put_self hb]) (fun n sz e => by cases e) (fun n sz cs e => by cases e)
    have R' := R.put_own hro L (fun _ => .mpg [] #[] clock (put_same hb) ⟨rfl, fun i e r he => by simp at he, fun i j r s h => by simp at h, fun i r h => by simp at h, fun i j r s b h => by simp at h⟩ hro)
    rw [put_self hb] at L R'
    exact ⟨R', L⟩
theorem ent_mp {X : Cx} {s : St} (id : Nat) {es : List (List Int × List Int)} (hid : s.heap[id]? = some (.mpg es)) : Ent X s { slots := s.slots, heap := s.heap.set id (.mp (es.map mpgV)), marks := s.marks } := ent_same fun w G R => by
  cases R.ab id _ hid with
  | mpg _ rs clock hb hok hro =>
    have L := Later.put_own (w := w) (G := G) (H := s.heap) (id := id) (b := G.rho id) (o := .map rs clock) (y := .mp (es.map mpgV)) hro (fun j hj => by rw [put_self hb]) (fun n sz e => by cases e) (fun n sz cs e => by cases e)
    have R' := R.put_own hro L (fun _ => .mp _ rs clock (put_same hb) ((mpg_es (H := s.heap) hok).mono L) hro)
    rw [put_self hb] at L R'
    exact ⟨R', L⟩
end Go.Abs
