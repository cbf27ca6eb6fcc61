/- Rounds of a range over a function, told by contracts of the call of yield. -/
import Derived.Test.YtklmpopomokglaaME
set_option linter.unusedSimpArgs false
set_option linter.unusedVariables false
namespace Go.Abs
open Go

/-- What a call of yield does at a heap. -/
def YC (P : Program) (id : Nat) (H : List AB) (x : V) (post : V → List AB → Prop) : Prop :=
  ∀ (ro : Option Nat) (o : Oper) (E : Operand → V) (xo : Operand) (as : Array Operand) (ts : Array TypeId), o.op = .call { callee := .value xo, args := as, argTypes := ts } → E xo = .c (.yd id) → as.toList.map E = [x] → OpAt P ro o H E post

def calleeY (E : Operand → V) (o : Oper) : Option (Nat × List V) := match o.op with
  | .call { callee := .value xo, args := as, argTypes := _ } => match E xo with
    | .c (.yd id) => some (id, as.toList.map E)
    | _ => none
  | _ => none

theorem AWP.post {X : Cx} {c : Code} {Q : Exit → St → Prop} {s : St} (h : AWP X c (fun e t => ∃ t', Ent X t t' ∧ Q e t') s) : AWP X c Q s := fun bs w G a hR => by
  refine wpIn_mono (h bs w G a hR) ?_
  rintro e a' w' ⟨t, G1, ⟨t', he, hq⟩, hR'⟩
  obtain ⟨G2, hR2⟩ := he bs w' G1 a' hR'
  exact ⟨t', G2, hq, hR2⟩

section
variable {X : Tx} {r : Option Nat} {nb nt : Nat} {s : St} {all : Array Oper} {Q : St → Prop} {o : Oper} {os : List Oper}
theorem aops_yc {id : Nat} {x : V} {post : V → List AB → Prop} (hy : YC X.P id s.heap x post) (hg : guardOf all s.get o = some true) (hc : calleeY s.ev o = some (id, [x])) (k : ∀ y H', post y H' → aW X r nb nt all os Q (s.put o.dst y H')) :
    AOps (X.cx r nb nt) all (o :: os) Q s := by
  simp only [AOps, hg]
  unfold calleeY at hc
  split at hc
  · rename_i xo as ts ho
    split at hc
    · rename_i id' hx
      simp only [Option.some.injEq, Prod.mk.injEq] at hc
      obtain ⟨rfl, h2⟩ := hc
      exact (hy r o s.ev xo as ts ho hx h2).mono fun y H' h => aW_sound _ _ (k y H' h)
    · cases hc
  · cases hc
end

theorem yc_of {X : Tx} {id : Nat} {H : List AB} {r : LR} {x : V} {post : V → List AB → Prop} (hm : X.P.follows .mixedOrders = true) (hid : H[id]? = some (.lp r)) (hps : r.ps.size = 1) (hnt : r.ps.toList.all (fun p => decide (p < r.nt)) = true) (hoka : okC r.nt r.assign = true) (hokb : okC r.nt r.body = true)
    (h : ∀ l, go X (some l) H.length r.nt r.assign (thenQ (fun t => ∃ t', busyH id t = some t' ∧ go X (some l) H.length r.nt r.body (fun e u => ∃ u', Ent (X.cx (some l) H.length r.nt) u u' ∧ roundQ id post e u') t') (fun _ _ => False)) { slots := putPs r.ps.toList [x] r.slots, heap := H, marks := [] }) :
    YC X.P id H x post := by
  intro ro o E xo as ts ho hx hv
  have hsz : as.size = r.ps.size := by rw [hps, ← Array.length_toList, ← List.length_map (as := as.toList) E, hv]; rfl
  refine opAt_yield (tt := X.tt) ho hx hid hsz hnt (fun l => ?_)
  rw [hv]
  refine (go_sound (X := X) (r := some l) (nb := H.length) hm r.assign hoka (h l)).mono ?_
  refine thenQ_mono fun t ht => ?_
  obtain ⟨t', h1, h2⟩ := ht
  exact ⟨t', h1, AWP.post (go_sound (X := X) (r := some l) (nb := H.length) hm r.body hokb h2)⟩
/-- A slice in a cell that will grow. -/
theorem ent_own_cell {X : Cx} {s : St} (k i sz : Nat) {cs : List C} {rows : List (List D)} (hk : s.heap[k]? = some (.cells cs)) (hi : cs[i]? = some (.full rows)) :
    Ent X s { slots := s.slots, heap := (s.heap.set k (.cells (cs.set i (.own s.heap.length rows)))) ++ [.grow rows.length sz], marks := s.marks } := fun bs w G a hR => by
  have hkl := (List.getElem?_eq_some_iff.1 hk).1
  cases hR.rel.ab k _ hk with
  | cells _ arr t hb hr hrole hS =>
  obtain ⟨v0, hv0, hc0, ho0⟩ := hr.get hi
  cases hc0 with
  | full _ ad n hn h =>
  have hget : ∀ j, j < s.heap.length → j ≠ k → ((s.heap.set k (.cells (cs.set i (.own s.heap.length rows)))) ++ [AB.grow rows.length sz])[j]? = s.heap[j]? := fun j hj hne => by
    rw [List.getElem?_append_left (by simpa using hj), List.getElem?_set_ne (Ne.symm hne)]
  have hgk : ((s.heap.set k (.cells (cs.set i (.own s.heap.length rows)))) ++ [AB.grow rows.length sz])[k]? = some (.cells (cs.set i (.own s.heap.length rows))) := by
    rw [List.getElem?_append_left (by simpa using hkl)]; simp [hkl]
  have L : Later w G s.heap w { G with g := upd G.g s.heap.length (ad, n) } ((s.heap.set k (.cells (cs.set i (.own s.heap.length rows)))) ++ [.grow rows.length sz]) :=
    { size := Nat.le_refl _
      S := fun b o h => ⟨h, rfl⟩
      Snew := fun b o _ _ h => h
      len := by simp
      rho := fun _ _ => rfl
      grow := fun j m z hj h => by
        by_cases e : j = k
        · subst e; rw [hgk] at h; cases h
        · rw [hget j hj e] at h
          exact ⟨m, h, .inr ⟨rfl, upd_ne _ _ (by omega)⟩⟩
      role := fun _ _ => rfl
      frame := fun _ _ _ => rfl
      os := rfl
      out := rfl }
  have hown : CRel w { G with g := upd G.g s.heap.length (ad, n) } ((s.heap.set k (.cells (cs.set i (.own s.heap.length rows)))) ++ [.grow rows.length sz]) (.own s.heap.length rows) (.slice ad n n) := by
    refine .own _ rows ad n n (by simp) hn h (fun m z hm => ?_)
    rw [List.getElem?_append_right (by simp)] at hm
    simp at hm
    obtain ⟨rfl, rfl⟩ := hm
    exact ⟨Nat.le_refl _, fun _ => upd_same _ _ _⟩
  have R' : Rel w { G with g := upd G.g s.heap.length (ad, n) } ((s.heap.set k (.cells (cs.set i (.own s.heap.length rows)))) ++ [.grow rows.length sz]) :=
    { sex := hR.rel.sex
      roleLt := hR.rel.roleLt
      ab := fun j x hx => by
        by_cases hj : j < s.heap.length
        · by_cases e : j = k
          · subst e
            rw [hgk] at hx
            cases hx
            have hset := (hr.mono L).set (i := i) hown rfl
            have harr : arr.toList.set i (.slice ad n n) = arr.toList := by
              refine List.ext_getElem? fun q => ?_
              by_cases hq : i = q
              · subst hq
                have hlt := (List.getElem?_eq_some_iff.1 hv0).1
                rw [List.getElem?_set_self hlt, hv0]
              · rw [List.getElem?_set_ne hq]
            rw [harr] at hset
            exact .cells _ arr t hb hset hrole hS
          · rw [hget j hj e] at hx
            exact ABRel.mono hR.rel L hj (hR.rel.ab j x hx) (fun _ _ => rfl) (fun _ _ _ h => h) (upd_ne _ _ (by omega))
        · have hlt := (List.getElem?_eq_some_iff.1 hx).1
          simp at hlt
          obtain rfl : j = s.heap.length := by omega
          rw [List.getElem?_append_right (by simp)] at hx
          simp at hx
          subst hx
          refine .grow rows.length sz ad n (upd_same _ _ _) (by omega) (fun x _ hlt => absurd hlt (by omega)) (fun e => ?_)
          subst e
          cases h with
          | emp => rfl }
  exact ⟨{ G with g := upd G.g s.heap.length (ad, n) },
    { rel := R', later := hR.later.trans L, base := hR.base, size := hR.size, slots := fun i => (hR.slots i).mono L, defers := hR.defers, marks := fun i hi => Nat.lt_of_lt_of_le (hR.marks i hi) L.len }⟩

/-- A contract at a heap holds at a longer one. -/
theorem ACall.frame {P : Program} {f : FuncId} {args : List V} {H : List AB} {y : V} (h : ACall P f args H (one y H)) (hH : H.all (AB.low H.length) = true) (ha : args.all (V.low H.length) = true) (hy : y.low H.length = true) (T : List AB) :
    ACall P f args (H ++ T) (one y (H ++ T)) := by
  refine ⟨h.1, fun w G vs R hl hr => ?_⟩
  have R1 : Rel w (G.clean H.length) H := (R.trunc hH).clean
  refine (h.2 w (G.clean H.length) vs R1 hl (fun i x v hx hv => ?_)).mono ?_
  · have h1 := List.all_eq_true.1 ha x (List.mem_of_getElem? hx)
    exact (VRel.trunc (hr i x v hx hv) h1).clean
  · rintro e w' ⟨v, x, H', G2, rfl, ⟨rfl, rfl⟩, R', hv, L⟩
    let G3 : Gh := { S := G2.S, rho := fun i => if i < H'.length then G2.rho i else G.rho i, g := fun i => if i < H'.length then G2.g i else G.g i, role := fun b => if b < w.heap.size then G.role b else G2.role b }
    have rho_lt : ∀ i, i < H'.length → G3.rho i = G2.rho i := fun i hi => if_pos hi
    have g_lt : ∀ i, i < H'.length → G3.g i = G2.g i := fun i hi => if_pos hi
    have hlen : (H' ++ T).length = H'.length + T.length := by simp
    have cr : ∀ (x : C) (u : Value), x.low H'.length = true → CRel w' G2 H' x u → CRel w' G3 (H' ++ T) x u := by
      intro x u hl h
      induction h with
      | any v => exact .any v
      | d x v h => exact .d x v h
      | ptr i off h =>
        have := CRel.ptr (w := w') (G := G3) (H := H' ++ T) i off (by rw [hlen]; omega)
        rwa [rho_lt i h] at this
      | nilp => exact .nilp
      | dp ds b o f hcell hrel => exact .dp ds b o f hcell hrel
      | full rows a n hn h => exact .full rows a n hn h
      | own i rows a m cap hid hn h hg =>
        refine .own i rows a m cap (by rw [hlen]; omega) hn h (fun m' sz hm => ?_)
        rw [List.getElem?_append_left hid] at hm
        rw [g_lt i hid]
        exact hg m' sz hm
      | ms i off len cap h =>
        have := CRel.ms (w := w') (G := G3) (H := H' ++ T) i off len cap (by rw [hlen]; omega)
        rwa [rho_lt i h] at this
      | fn f caps arr hs _ ih =>
        simp only [C.low] at hl
        exact .fn f caps arr hs (fun i x v hx hv => ih i x v hx hv (C.lowL_get hl hx))
      | mp i h =>
        have := CRel.mp (w := w') (G := G3) (H := H' ++ T) i (by rw [hlen]; omega)
        rwa [rho_lt i h] at this
      | yd i h =>
        have := CRel.yd (w := w') (G := G3) (H := H' ++ T) i (by rw [hlen]; omega)
        rwa [rho_lt i h] at this
    have vr : ∀ (x : V) (u : Value), x.low H'.length = true → VRel w' G2 H' x u → VRel w' G3 (H' ++ T) x u := by
      intro x u hl h
      induction h with
      | c x v h => exact .c x v (cr x v (by simpa [V.low] using hl) h)
      | agg cs arr h =>
        simp only [V.low] at hl
        exact .agg cs arr ⟨h.1, fun i x v hx hv => ⟨cr x v (C.lowL_get hl hx) (h.2 i x v hx hv).1, (h.2 i x v hx hv).2⟩⟩
      | tup vs arr hs _ ih =>
        simp only [V.low] at hl
        exact .tup vs arr hs (fun i x v hx hv => ih i x v hx hv (V.lowL_get hl hx))
    have hrole : ∀ b k, G2.role b = some k → b < w.heap.size → k < H'.length ∧ G.role b = some k := fun b k hb hlt => by
      have h1 := L.role b hlt
      rw [hb] at h1
      simp only [Gh.clean] at h1
      cases hg : G.role b with
      | none => rw [hg] at h1; cases h1
      | some j =>
        rw [hg] at h1
        simp only at h1
        split at h1
        · cases h1; rename_i hj; exact ⟨hj, rfl⟩
        · cases h1
    have L3 : Later w G (H' ++ T) w' G3 (H' ++ T) :=
      { size := L.size
        S := L.S
        Snew := fun b o hb hr h => L.Snew b o hb (by simp [Gh.clean, hr]) h
        len := Nat.le_refl _
        rho := fun i hi => by
          show (if i < H'.length then G2.rho i else G.rho i) = _
          split
          · rename_i h; exact L.rho i h
          · rfl
        grow := fun i n sz hi hx => by
          refine ⟨n, hx, .inr ⟨rfl, ?_⟩⟩
          show (if i < H'.length then G2.g i else G.g i) = _
          split
          · rename_i h
            rw [List.getElem?_append_left h] at hx
            obtain ⟨m, hm, hc⟩ := L.grow i n sz h hx
            rw [hx] at hm
            cases hm
            rcases hc with hc | ⟨_, hc⟩
            · exact absurd hc (Nat.lt_irrefl _)
            · exact hc
          · rfl
        role := fun b hb => if_pos hb
        frame := fun b hb hr => L.frame b hb (by simp [Gh.clean, hr])
        os := L.os
        out := L.out }
    refine ⟨v, x, H' ++ T, G3, rfl, ⟨rfl, rfl⟩, ⟨R'.sex, fun b k hb => ?_, fun i z hz => ?_⟩, vr x v hy hv, L3⟩
    · have hb' : (if b < w.heap.size then G.role b else G2.role b) = some k := hb
      by_cases hlt : b < w.heap.size
      · exact Nat.lt_of_lt_of_le hlt L.size
      · rw [if_neg hlt] at hb'; exact R'.roleLt b k hb'
    · by_cases hi : i < H'.length
      · rw [List.getElem?_append_left hi] at hz
        have hab := R'.ab i z hz
        refine hab.ren (q := H'.length) (n := H'.length) (fun x u _ hl h => cr x u hl h) (fun x u _ hl h => vr x u hl h) (AB.low_free (Nat.le_refl _) hab.lows) hab.lows i (rho_lt i hi) (g_lt i hi) (fun b hb => ?_) (fun _ _ h => h) (fun j _ hj => ⟨rho_lt j hj, by rw [hlen]; omega⟩)
        show (if b < w.heap.size then G.role b else G2.role b) = some i
        split
        · rename_i hlt; exact (hrole b i hb hlt).2
        · exact hb
      · refine (R.ab i z hz).mono R L3 (List.getElem?_eq_some_iff.1 hz).1 (fun b hb => L.frame b (R.roleLt b i hb) ?_) (fun b o hb hs => L.Snew b o (R.roleLt b i hb) ?_ hs) ?_
        · simp [Gh.clean, hb, hi]
        · simp [Gh.clean, hb, hi]
        · show (if i < H'.length then G2.g i else G.g i) = _
          rw [if_neg hi]
end Go.Abs
