/- A new block in the place of a hole. -/
import Derived.Test.YtfgdbeijjbijnaaGreatDoorJG06
set_option linter.unusedSimpArgs false
set_option linter.unusedVariables false
namespace Go.Abs
open Go
mutual
def C.free (n : Nat) : C → Bool
 | .ptr id _ => id != n
 | .own id _ => id != n
 | .ms id _ _ _ => id != n
 | .mp id => id != n
 | .yd id => id != n
 | .vs id _ => id != n
 | .vc id _ => id != n
 | .fs _ _ cs => C.freeL n cs
 | .vp id _ _ => id != n
 | .fn _ cs => C.freeL n cs
 | .mv _ x => C.free n x
 | .ma _ cs => C.freeL n cs
 | _ => true
def C.freeL (n : Nat) : List C → Bool
 | [] => true
 | c :: cs => C.free n c && C.freeL n cs
end
theorem C.freeL_get {n : Nat} : ∀ {cs : List C} {i : Nat} {x : C}, C.freeL n cs = true → cs[i]? = some x → C.free n x = true
 | c :: cs, 0, x, h, hx => by simp [C.freeL] at h hx; rw [← hx]; exact h.1
 | c :: cs, i + 1, x, h, hx => by simp [C.freeL] at h; exact C.freeL_get h.2 (by simpa using hx)
 | [], i, x, h, hx => by simp at hx
mutual
def V.free (n : Nat) : V → Bool
 | .c x => x.free n
 | .agg cs => C.freeL n cs
 | .tup vs => V.freeL n vs
def V.freeL (n : Nat) : List V → Bool
 | [] => true
 | v :: vs => V.free n v && V.freeL n vs
end
theorem V.freeL_get {n : Nat} : ∀ {cs : List V} {i : Nat} {x : V}, V.freeL n cs = true → cs[i]? = some x → V.free n x = true
 | v :: vs, 0, x, h, hx => by simp [V.freeL] at h hx; rw [← hx]; exact h.1
 | v :: vs, i + 1, x, h, hx => by simp [V.freeL] at h; exact V.freeL_get h.2 (by simpa using hx)
 | [], i, x, h, hx => by simp at hx
def AB.freeP (n : Nat) : AB → Prop
 | .cells cs => C.freeL n cs = true
 | .vec _ _ cs => C.freeL n cs = true
 | .mp es => ∀ e ∈ es, e.1.free n = true ∧ e.2.free n = true
 | .mpb es _ => ∀ e ∈ es, e.1.free n = true ∧ e.2.1.free n = true
 | .lp r => r.D ≠ n ∧ ∀ i, (Aw r.slots i).free n = true
 | _ => True
def AB.lowP (n : Nat) : AB → Prop
 | .cells cs => C.lowL n cs = true
 | .vec _ _ cs => C.lowL n cs = true
 | .mp es => ∀ e ∈ es, e.1.low n = true ∧ e.2.low n = true
 | .mpb es _ => ∀ e ∈ es, e.1.low n = true ∧ e.2.1.low n = true
 | .lp r => r.D < n ∧ ∀ i, (Aw r.slots i).low n = true
 | _ => True
mutual
theorem C.low_free {n id : Nat} (h : n ≤ id) : ∀ {c : C}, c.low n = true → c.free id = true
 | .ptr i _, hc => by simp [C.low] at hc; simp [C.free]; omega
 | .own i _, hc => by simp [C.low] at hc; simp [C.free]; omega
 | .ms i _ _ _, hc => by simp [C.low] at hc; simp [C.free]; omega
 | .mp i, hc => by simp [C.low] at hc; simp [C.free]; omega
 | .yd i, hc => by simp [C.low] at hc; simp [C.free]; omega
 | .vs i _, hc => by simp [C.low] at hc; simp [C.free]; omega
 | .vc i _, hc => by simp [C.low] at hc; simp [C.free]; omega
 | .fs _ _ cs, hc => by simp only [C.low] at hc; simp only [C.free]; exact C.lowL_free h hc
 | .vp i _ _, hc => by simp [C.low] at hc; simp [C.free]; omega
 | .gp _, _ => rfl
 | .fn _ cs, hc => by simp only [C.low] at hc; simp only [C.free]; exact C.lowL_free h hc
 | .mv _ x, hc => by simp only [C.low] at hc; simp only [C.free]; exact C.low_free h hc
 | .ma _ cs, hc => by simp only [C.low] at hc; simp only [C.free]; exact C.lowL_free h hc
 | .any, _ => rfl
 | .d _, _ => rfl
 | .nilp, _ => rfl
 | .dp _, _ => rfl
 | .full _, _ => rfl
theorem C.lowL_free {n id : Nat} (h : n ≤ id) : ∀ {cs : List C}, C.lowL n cs = true → C.freeL id cs = true
 | [], _ => rfl
 | c :: cs, hc => by simp only [C.lowL, Bool.and_eq_true] at hc; simp only [C.freeL, Bool.and_eq_true]; exact ⟨C.low_free h hc.1, C.lowL_free h hc.2⟩
end
mutual
theorem V.low_free {n id : Nat} (h : n ≤ id) : ∀ {v : V}, v.low n = true → v.free id = true
 | .c x, hc => C.low_free h (by simpa [V.low] using hc)
 | .agg cs, hc => by simp only [V.low] at hc; simp only [V.free]; exact C.lowL_free h hc
 | .tup vs, hc => by simp only [V.low] at hc; simp only [V.free]; exact V.lowL_free h hc
theorem V.lowL_free {n id : Nat} (h : n ≤ id) : ∀ {cs : List V}, V.lowL n cs = true → V.freeL id cs = true
 | [], _ => rfl
 | x :: xs, hc => by simp only [V.lowL, Bool.and_eq_true] at hc; simp only [V.freeL, Bool.and_eq_true]; exact ⟨V.low_free h hc.1, V.lowL_free h hc.2⟩
end
theorem AB.low_free {n id : Nat} (h : n ≤ id) {b : AB} (hb : b.lowP n) : b.freeP id := by
 cases b with
 | cells cs => exact C.lowL_free h hb
 | vec _ _ cs => exact C.lowL_free h hb
 | mp es => exact fun e he => ⟨V.low_free h (hb e he).1, V.low_free h (hb e he).2⟩
 | mpb es _ => exact fun e he => ⟨V.low_free h (hb e he).1, V.low_free h (hb e he).2⟩
 | lp r => exact ⟨by have := hb.1; omega, fun i => V.low_free h (hb.2 i)⟩
 | _ => trivial
section
variable {w : World} {G : Gh} {H : List AB}
theorem lowL_of {n : Nat} : ∀ {cs : List C}, (∀ (i : Nat) (x : C), cs[i]? = some x → x.low n = true) → C.lowL n cs = true
 | [], _ => rfl
 | c :: cs, h => by simp only [C.lowL, Bool.and_eq_true]; exact ⟨h 0 c rfl, lowL_of (fun i x hx => h (i + 1) x (by simpa using hx))⟩
theorem vlowL_of {n : Nat} : ∀ {cs : List V}, (∀ (i : Nat) (x : V), cs[i]? = some x → x.low n = true) → V.lowL n cs = true
 | [], _ => rfl
 | c :: cs, h => by simp only [V.lowL, Bool.and_eq_true]; exact ⟨h 0 c rfl, vlowL_of (fun i x hx => h (i + 1) x (by simpa using hx))⟩
theorem Ap.lows {x : C} {v : Value} (h : Ap w G H x v) : x.low H.length = true := by
 induction h with
 | any v => rfl
 | d x v h => rfl
 | ptr id off h => simpa [C.low] using h
 | nilp => rfl
 | dp ds b o f hcell hrel => rfl
 | full rows a n hn h => rfl
 | own id rows a n cap hid hn h hg => simpa [C.low] using hid
 | ms id off n cap h => simpa [C.low] using h
 | fn f caps arr hs h ih =>
  simp only [C.low]
  refine lowL_of (fun i x hx => ?_)
  have hlt : i < arr.size := by rw [hs]; exact (List.getElem?_eq_some_iff.1 hx).1
  exact ih i x _ hx (Array.getElem?_eq_getElem hlt)
 | mv f x v h ih => simpa [C.low] using ih
 | ma f cs arr hs ho h ih =>
  simp only [C.low]
  refine lowL_of (fun i x hx => ?_)
  have hlt : i < arr.size := by rw [hs]; exact (List.getElem?_eq_some_iff.1 hx).1
  exact ih i x _ hx (Array.getElem?_eq_getElem hlt)
 | mp id h => simpa [C.low] using h
 | yd id h => simpa [C.low] using h
 | gp g => rfl
 | vs id n a cap hid ha hg => simpa [C.low] using hid
 | vc id n a hid ha hg => simpa [C.low] using hid
 | fs n sz cs b o vs hl hn hcell h ih =>
  simp only [C.low]
  refine lowL_of (fun i x hx => ?_)
  have hlt : i < vs.length := by rw [← hl]; exact (List.getElem?_eq_some_iff.1 hx).1
  exact ih i x _ hx (List.getElem?_eq_getElem hlt)
 | vp id n off a hid hg => simpa [C.low] using hid
theorem An.lows {cs : List C} {vs : List Value} (h : An w G H cs vs) : C.lowL H.length cs = true := by
 refine lowL_of (fun i x hx => ?_)
 have hlt : i < vs.length := by rw [← h.1]; exact (List.getElem?_eq_some_iff.1 hx).1
 exact (h.2 i x _ hx (List.getElem?_eq_getElem hlt)).1.lows
theorem Ag.lows {x : V} {v : Value} (h : Ag w G H x v) : x.low H.length = true := by
 induction h with
 | c x v h => simpa [V.low] using h.lows
 | agg cs arr h => simp only [V.low]; exact h.lows
 | tup vs arr hs h ih =>
  simp only [V.low]
  refine vlowL_of (fun i x hx => ?_)
  have hlt : i < arr.size := by rw [hs]; exact (List.getElem?_eq_some_iff.1 hx).1
  exact ih i x _ hx (Array.getElem?_eq_getElem hlt)
theorem AW.lows {k : Nat} {b : AB} (h : AW w G H k b) : b.lowP H.length := by
 cases h with
 | cells cs arr t hb hr hro hS => exact hr.lows
 | vec n sz cs a cap hg hcap hl h =>
  by_cases hz : cap = 0
  ·have : cs = [] := List.eq_nil_of_length_eq_zero (by rw [hl]; have : n = 0 := by omega
                                                       rw [this, Nat.zero_mul])
   subst this; rfl
  ·obtain ⟨b, arr, t, h1, h2, h3, h4, h5, h6⟩ := h hz
   exact h5.lows
 | mp es rs clock hb hr hro =>
  intro e he
  obtain ⟨i, hi⟩ := List.getElem?_of_mem he
  have hlt : i < rs.toList.length := by rw [← hr.1]; exact (List.getElem?_eq_some_iff.1 hi).1
  have := hr.2 i e _ hi (List.getElem?_eq_getElem hlt)
  exact ⟨this.1.lows, this.2.lows⟩
 | mpb es clock rs hb hr hbn hro =>
  intro e he
  obtain ⟨i, hi⟩ := List.getElem?_of_mem he
  have hi' : (mpE es)[i]? = some (e.1, e.2.1) := by simp [mpE, hi]
  have hlt : i < rs.toList.length := by rw [← hr.1]; exact (List.getElem?_eq_some_iff.1 hi').1
  have := hr.2 i _ _ hi' (List.getElem?_eq_getElem hlt)
  exact ⟨this.1.lows, this.2.lows⟩
 | lp r fn tmps hb hsz hD hs hro => exact ⟨hD, fun i => (hs i).lows⟩
 | _ => trivial
theorem AW.ren {G' : Gh} {H' : List AB} {k q n : Nat} {b : AB} (h : AW w G H k b)
  (hc : ∀ (x : C) (v : Value), x.free q = true → x.low n = true → Ap w G H x v → Ap w G' H' x v) (hv : ∀ (x : V) (v : Value), x.free q = true → x.low n = true → Ag w G H x v → Ag w G' H' x v) (hf : b.freeP q) (hl : b.lowP n)
  (id : Nat) (hrho : G'.rho id = G.rho k) (hg : G'.g id = G.g k) (hrole : ∀ b, G.role b = some k → G'.role b = some id) (hS : ∀ b o, G'.S b o → G.S b o)
  (hD : ∀ i, i ≠ q → i < n → G'.rho i = G.rho i ∧ i < H'.length) : AW w G' H' id b := by
 cases h with
 | gone => exact .gone
 | cells cs arr t hb hr hro hS' =>
  exact .cells cs arr t (by rw [hrho]; exact hb) ⟨hr.1, fun i x v hx hv' => ⟨hc x v (C.freeL_get hf hx) (C.lowL_get hl hx) (hr.2 i x v hx hv').1, (hr.2 i x v hx hv').2⟩⟩ (by rw [hrho]; exact hrole _ hro) (fun o ho => hS' o (by rw [hrho] at ho; exact hS _ _ ho))
 | grow n' sz a cap hg' hcap h hnil =>
  refine .grow n' sz a cap (hg.trans hg') hcap (fun x hx hn => ?_) hnil
  obtain ⟨b, o, h1, h2, h3, h4⟩ := h x hx hn
  exact ⟨b, o, h1, hrole b h2, h3, fun j hj hs => h4 j hj (hS _ _ hs)⟩
 | vec n' sz cs a cap hg' hcap hl' h =>
  refine .vec n' sz cs a cap (hg.trans hg') hcap hl' (fun hz => ?_)
  obtain ⟨b, arr, t, h1, h2, h3, h4, h5, h6⟩ := h hz
  exact ⟨b, arr, t, h1, hrole b h2, h3, h4, ⟨h5.1, fun i x v hx hv' => ⟨hc x v (C.freeL_get hf hx) (C.lowL_get hl hx) (h5.2 i x v hx hv').1, (h5.2 i x v hx hv').2⟩⟩, fun o hs => h6 o (hS _ _ hs)⟩
 | mp es rs clock hb hr hro =>
  refine .mp es rs clock (by rw [hrho]; exact hb) ⟨hr.1, fun i e r he hr' => ?_⟩ (by rw [hrho]; exact hrole _ hro)
  have h1 := hf e (List.mem_of_getElem? he)
  have h2 := hl e (List.mem_of_getElem? he)
  exact ⟨hv _ _ h1.1 h2.1 (hr.2 i e r he hr').1, hv _ _ h1.2 h2.2 (hr.2 i e r he hr').2⟩
 | mpb es clock rs hb hr hbn hro =>
  refine .mpb es clock rs (by rw [hrho]; exact hb) ⟨hr.1, fun i e r he hr' => ?_⟩ hbn (by rw [hrho]; exact hrole _ hro)
  obtain ⟨e0, he0, rfl⟩ := List.mem_map.1 (show e ∈ es.map (fun e => (e.1, e.2.1)) from List.mem_of_getElem? he)
  have h1 := hf e0 he0
  have h2 := hl e0 he0
  exact ⟨hv _ _ h1.1 h2.1 (hr.2 i _ r he hr').1, hv _ _ h1.2 h2.2 (hr.2 i _ r he hr').2⟩
 | mpg es rs clock hb hok hro =>
  refine .mpg es rs clock (by rw [hrho]; exact hb) (hok.mono (fun x v h => ?_) (fun b h => ⟨hrole b h, rfl, hS b⟩)) (by rw [hrho]; exact hrole _ hro)
  have := hc (.d x) v rfl rfl (.d _ _ h)
  cases this with
  | d _ _ h => exact h
 | lp r fn tmps hb hsz hD' hs hro =>
  obtain ⟨e1, e2⟩ := hD r.D hf.1 hl.1
  exact .lp r fn tmps (by rw [hrho, e1]; exact hb) hsz e2 (fun i => hv _ _ (hf.2 i) (hl.2 i) (hs i)) (by rw [hrho]; exact hrole _ hro)
 | df hb hro => exact .df (by rw [hrho]; exact hb) (by rw [hrho]; exact hrole _ hro)
 | gl g ds f hc' hr =>
  have h1 := hc (.dp ds) (.pointer (some ⟨g, 0, none⟩)) rfl rfl (.dp ds g 0 f (fun j hj => by simpa using hc' j hj) hr)
  cases h1 with
  | dp _ _ _ f' hcell hrel => exact .gl g ds f' (fun j hj => by simpa using hcell j hj) hrel
end
inductive MkK where
 | ptr
 | ms (len cap : Nat)
 | mp
 | own (rows : List (List D))
 | vs (len : Nat)
def MkK.at (n : Nat) : MkK → C
 | .ptr => .ptr n 0
 | .ms len cap => .ms n 0 len cap
 | .mp => .mp n
 | .own rows => .own n rows
 | .vs len => .vs n len
def Gh.clean (G : Gh) (n : Nat) : Gh := { G with role := fun b => match G.role b with | some k => if k < n then some k else none | none => none }
theorem Rel.clean {w : World} {G : Gh} {H : List AB} (R : Rel w G H) : Rel w (G.clean H.length) H where
 sex := R.sex
 roleLt := fun b id h => by
  simp only [Gh.clean] at h
  cases hr : G.role b with
  | none => rw [hr] at h; cases h
  | some k => exact R.roleLt b k hr
 ab := fun id x hx => by
  have hid := (List.getElem?_eq_some_iff.1 hx).1
  have hrole : ∀ b, G.role b = some id → (G.clean H.length).role b = some id := fun b hb => by simp [Gh.clean, hb, hid]
  have cr : ∀ (x : C) (v : Value), Ap w G H x v → Ap w (G.clean H.length) H x v := fun x v h => by
   induction h with
   | any v => exact .any v
   | d x v h => exact .d x v h
   | ptr id off h => exact .ptr id off h
   | nilp => exact .nilp
   | dp ds b o f hcell hrel => exact .dp ds b o f hcell hrel
   | full rows a n hn h => exact .full rows a n hn h
   | own id rows a n cap hid hn h hg => exact .own id rows a n cap hid hn h hg
   | ms id off n cap h => exact .ms id off n cap h
   | fn f caps arr hs _ ih => exact .fn f caps arr hs ih
   | ma f cs arr hs ho _ ih => exact .ma f cs arr hs ho ih
   | mv f x v _ ih => exact .mv f x v ih
   | mp id h => exact .mp id h
   | yd id h => exact .yd id h
   | gp g => exact .gp g
   | vs id n a cap hid ha hg => exact .vs id n a cap hid ha hg
   | vc id n a hid ha hg => exact .vc id n a hid ha hg
   | fs n sz cs b o vs hl hn hcell _ ih => exact .fs n sz cs b o vs hl hn hcell ih
   | vp id n off a hid hg => exact .vp id n off a hid hg
  have vr : ∀ (x : V) (v : Value), Ag w G H x v → Ag w (G.clean H.length) H x v := fun x v h => by
   induction h with
   | c x v h => exact .c x v (cr x v h)
   | agg cs arr h => exact .agg cs arr ⟨h.1, fun i x v hx hv => ⟨cr x v (h.2 i x v hx hv).1, (h.2 i x v hx hv).2⟩⟩
   | tup vs arr hs _ ih => exact .tup vs arr hs ih
  cases R.ab id x hx with
  | gone => exact .gone
  | cells cs arr t hb hr hro hS => exact .cells cs arr t hb ⟨hr.1, fun i x v hx hv => ⟨cr x v (hr.2 i x v hx hv).1, (hr.2 i x v hx hv).2⟩⟩ (hrole _ hro) hS
  | grow n sz a cap hg hcap h hnil => exact .grow n sz a cap hg hcap (fun x hx hn => by obtain ⟨b, o, h1, h2, h3⟩ := h x hx hn; exact ⟨b, o, h1, hrole b h2, h3⟩) hnil
  | vec n sz cs a cap hg hcap hl h => exact .vec n sz cs a cap hg hcap hl (fun hz => by obtain ⟨b, arr, t, h1, h2, h3, h4, h5, h6⟩ := h hz; exact ⟨b, arr, t, h1, hrole b h2, h3, h4, ⟨h5.1, fun i x v hx hv => ⟨cr x v (h5.2 i x v hx hv).1, (h5.2 i x v hx hv).2⟩⟩, h6⟩)
  | mp es rs clock hb hr hro => exact .mp es rs clock hb ⟨hr.1, fun i e r he hr' => ⟨vr _ _ (hr.2 i e r he hr').1, vr _ _ (hr.2 i e r he hr').2⟩⟩ (hrole _ hro)
  | mpg es rs clock hb hok hro => exact .mpg es rs clock hb (hok.mono (fun _ _ h => h) (fun b h => ⟨hrole b h, rfl, fun _ h => h⟩)) (hrole _ hro)
  | mpb es clock rs hb hr hbn hro => exact .mpb es clock rs hb ⟨hr.1, fun i e r he hr' => ⟨vr _ _ (hr.2 i e r he hr').1, vr _ _ (hr.2 i e r he hr').2⟩⟩ hbn (hrole _ hro)
  | lp r fn tmps hb hsz hD hs hro => exact .lp r fn tmps hb hsz hD (fun i => vr _ _ (hs i)) (hrole _ hro)
  | df hb hro => exact .df hb (hrole _ hro)
  | gl g ds f hc hr => exact .gl g ds f hc hr
theorem Ag.clean {w : World} {G : Gh} {H : List AB} {n : Nat} {x : V} {v : Value} (h : Ag w G H x v) : Ag w (G.clean n) H x v := by
 have cr : ∀ (x : C) (v : Value), Ap w G H x v → Ap w (G.clean n) H x v := fun x v h => by
  induction h with
  | any v => exact .any v
  | d x v h => exact .d x v h
  | ptr id off h => exact .ptr id off h
  | nilp => exact .nilp
  | dp ds b o f hcell hrel => exact .dp ds b o f hcell hrel
  | full rows a n hn h => exact .full rows a n hn h
  | own id rows a n cap hid hn h hg => exact .own id rows a n cap hid hn h hg
  | ms id off n cap h => exact .ms id off n cap h
  | fn f caps arr hs _ ih => exact .fn f caps arr hs ih
  | ma f cs arr hs ho _ ih => exact .ma f cs arr hs ho ih
  | mv f x v _ ih => exact .mv f x v ih
  | mp id h => exact .mp id h
  | yd id h => exact .yd id h
  | gp g => exact .gp g
  | vs id n a cap hid ha hg => exact .vs id n a cap hid ha hg
  | vc id n a hid ha hg => exact .vc id n a hid ha hg
  | fs n sz cs b o vs hl hn hcell _ ih => exact .fs n sz cs b o vs hl hn hcell ih
  | vp id n off a hid hg => exact .vp id n off a hid hg
 induction h with
 | c x v h => exact .c x v (cr x v h)
 | agg cs arr h => exact .agg cs arr ⟨h.1, fun i x v hx hv => ⟨cr x v (h.2 i x v hx hv).1, (h.2 i x v hx hv).2⟩⟩
 | tup vs arr hs _ ih => exact .tup vs arr hs ih
section
variable {bs : EF} {nb nt : Nat} {w : World} {G : Gh} {s : St} {a : Act}
def Gh.fill (G : Gh) (z : Nat) (G' : Gh) (n id : Nat) : Gh :=
 {S := G'.S, rho := upd G'.rho id (G'.rho n), g := upd G'.g id (G'.g n),
  role := fun c => if c < z then G.role c else (match G'.role c with | some k => if k = n then some id else some k | none => none) }
theorem hole_step {P : Program} {r : Option Nat} {o : Oper} {id : Nat} {k : MkK} {b : AB} (hR : AP bs nb nt w G s a) (hid : s.heap[id]? = some .gone) (hnb : nb ≤ id)
  (hsl : ∀ d, (s.get d).free id = true) (hbl : ∀ (j : Nat) (y : AB), s.heap[j]? = some y → y.freeP id) (hmk : ∀ m ∈ s.marks, m ≠ id) (hbf : b.freeP id) (hblo : b.lowP s.heap.length)
  (hop : AL P r o s.heap s.ev (one (.c (k.at s.heap.length)) (s.heap ++ [b]))) (hd : ∀ d, o.dst = some d → d < nt) {next : Act → World → Prop} {Q : Exit → Act → World → Prop}
  (hn : ∀ v w' G', AP bs nb nt w' G' (s.put o.dst (.c (k.at id)) (s.heap.set id b)) (a.put o.dst v) → next (a.put o.dst v) w') : o.wpIn { Fence.wide with round := r } 0 P a w next Q := by
 refine hop w (G.clean s.heap.length) a next Q hR.rel.clean (fun x _ => (hR.ev x).clean) ?_
 rintro v x H' G' w' ⟨rfl, rfl⟩ hv R' L
 have hidl : id < s.heap.length := (List.getElem?_eq_some_iff.1 hid).1
 let n := s.heap.length
 let G2 := G.fill w.heap.size G' n id
 have hlen : (s.heap.set id b).length = n := by simp [n]
 have rho_ne : ∀ i, i ≠ id → G2.rho i = G'.rho i := fun i hi => AJ _ _ hi
 have rho_id : G2.rho id = G'.rho n := Ao _ _ _
 have g_ne : ∀ i, i ≠ id → G2.g i = G'.g i := fun i hi => AJ _ _ hi
 have g_id : G2.g id = G'.g n := Ao _ _ _
 have cr : ∀ (x : C) (u : Value), x.free id = true → x.low n = true → Ap w' G' (s.heap ++ [b]) x u → Ap w' G2 (s.heap.set id b) x u := by
  intro x u hf hl h
  induction h with
  | any v => exact .any v
  | d x v h => exact .d x v h
  | ptr i off h =>
   have hi : i ≠ id := by simpa [C.free] using hf
   have hi2 : i < n := by simpa [C.low] using hl
   have := Ap.ptr (w := w') (G := G2) (H := s.heap.set id b) i off (by rw [hlen]; exact hi2)
   rwa [rho_ne i hi] at this
  | nilp => exact .nilp
  | dp ds b o f hcell hrel => exact .dp ds b o f hcell hrel
  | full rows a n hn h => exact .full rows a n hn h
  | own i rows a m cap hid' hn h hg =>
   have hi : i ≠ id := by simpa [C.free] using hf
   have hi2 : i < n := by simpa [C.low] using hl
   refine .own i rows a m cap (by rw [hlen]; exact hi2) hn h (fun m' sz hm => ?_)
   rw [List.getElem?_set_ne (Ne.symm hi)] at hm
   rw [g_ne i hi]
   exact hg m' sz (by rw [List.getElem?_append_left hi2]; exact hm)
  | ms i off len cap h =>
   have hi : i ≠ id := by simpa [C.free] using hf
   have hi2 : i < n := by simpa [C.low] using hl
   have := Ap.ms (w := w') (G := G2) (H := s.heap.set id b) i off len cap (by rw [hlen]; exact hi2)
   rwa [rho_ne i hi] at this
  | fn f caps arr hs _ ih =>
   simp only [C.free] at hf
   simp only [C.low] at hl
   exact .fn f caps arr hs (fun i x v hx hv => ih i x v hx hv (C.freeL_get hf hx) (C.lowL_get hl hx))
  | mv f x v _ ih => exact .mv f x v (ih (by simpa [C.free] using hf) (by simpa [C.low] using hl))
  | ma f cs arr hs ho _ ih =>
   simp only [C.free] at hf
   simp only [C.low] at hl
   exact .ma f cs arr hs ho (fun i x v hx hv => ih i x v hx hv (C.freeL_get hf hx) (C.lowL_get hl hx))
  | mp i h =>
   have hi : i ≠ id := by simpa [C.free] using hf
   have hi2 : i < n := by simpa [C.low] using hl
   have := Ap.mp (w := w') (G := G2) (H := s.heap.set id b) i (by rw [hlen]; exact hi2)
   rwa [rho_ne i hi] at this
  | yd i h =>
   have hi : i ≠ id := by simpa [C.free] using hf
   have hi2 : i < n := by simpa [C.low] using hl
   have := Ap.yd (w := w') (G := G2) (H := s.heap.set id b) i (by rw [hlen]; exact hi2)
   rwa [rho_ne i hi] at this
  | gp g => exact .gp g
  | fs m sz cs b o vs hl' hn hcell _ ih =>
   simp only [C.free] at hf
   simp only [C.low] at hl
   exact .fs m sz cs b o vs hl' hn hcell (fun i x v hx hv => ih i x v hx hv (C.freeL_get hf hx) (C.lowL_get hl hx))
  | vc i m a hid' ha hg =>
   have hi : i ≠ id := by simpa [C.free] using hf
   have hi2 : i < n := by simpa [C.low] using hl
   refine .vc i m a (by rw [hlen]; exact hi2) ha (fun m' sz cs hm => ?_)
   rw [List.getElem?_set_ne (Ne.symm hi)] at hm
   rw [g_ne i hi]
   exact hg m' sz cs (by rw [List.getElem?_append_left hi2]; exact hm)
  | vs i m a cap hid' ha hg =>
   have hi : i ≠ id := by simpa [C.free] using hf
   have hi2 : i < n := by simpa [C.low] using hl
   refine .vs i m a cap (by rw [hlen]; exact hi2) ha (fun m' sz cs hm => ?_)
   rw [List.getElem?_set_ne (Ne.symm hi)] at hm
   rw [g_ne i hi]
   exact hg m' sz cs (by rw [List.getElem?_append_left hi2]; exact hm)
  | vp i m off a hid' hg =>
   have hi : i ≠ id := by simpa [C.free] using hf
   have hi2 : i < n := by simpa [C.low] using hl
   refine .vp i m off a (by rw [hlen]; exact hi2) (fun m' sz cs hm => ?_)
   rw [List.getElem?_set_ne (Ne.symm hi)] at hm
   rw [g_ne i hi]
   exact hg m' sz cs (by rw [List.getElem?_append_left hi2]; exact hm)
 have vr : ∀ (x : V) (u : Value), x.free id = true → x.low n = true → Ag w' G' (s.heap ++ [b]) x u → Ag w' G2 (s.heap.set id b) x u := by
  intro x u hf hl h
  induction h with
  | c x v h => exact .c x v (cr x v (by simpa [V.free] using hf) (by simpa [V.low] using hl) h)
  | agg cs arr h =>
   simp only [V.free] at hf
   simp only [V.low] at hl
   exact .agg cs arr ⟨h.1, fun i x v hx hv => ⟨cr x v (C.freeL_get hf hx) (C.lowL_get hl hx) (h.2 i x v hx hv).1, (h.2 i x v hx hv).2⟩⟩
  | tup vs arr hs _ ih =>
   simp only [V.free] at hf
   simp only [V.low] at hl
   exact .tup vs arr hs (fun i x v hx hv => ih i x v hx hv (V.freeL_get hf hx) (V.lowL_get hl hx))
 have role_new : ∀ c k', G'.role c = some k' → (w.heap.size ≤ c → G2.role c = if k' = n then some id else some k') := fun c k' h hc => by
  show (if c < w.heap.size then G.role c else _) = _
  rw [if_neg (by omega), h]
 have role_old : ∀ c k', G'.role c = some k' → c < w.heap.size → k' < n ∧ G2.role c = some k' := fun c k' h hc => by
  have h1 := L.role c hc
  rw [h] at h1
  simp only [Gh.clean] at h1
  cases hg : G.role c with
  | none => rw [hg] at h1; cases h1
  | some j =>
   rw [hg] at h1
   simp only at h1
   split at h1
   ·cases h1
    rename_i hj
    refine ⟨hj, ?_⟩
    show (if c < w.heap.size then G.role c else _) = _
    rw [if_pos hc, hg]
   ·cases h1
 have R2 : Rel w' G2 (s.heap.set id b) := by
  refine ⟨R'.sex, fun c j hr => ?_, fun j y hy => ?_⟩
  ·have hr' : (if c < w.heap.size then G.role c else (match G'.role c with | some k => if k = n then some id else some k | none => none)) = some j := hr
   by_cases hc : c < w.heap.size
   ·exact Nat.lt_of_lt_of_le hc L.size
   ·rw [if_neg hc] at hr'
    cases hg : G'.role c with
    | none => rw [hg] at hr'; cases hr'
    | some k' => exact R'.roleLt c k' hg
  ·by_cases hj : id = j
   ·subst hj
    simp [hidl] at hy
    subst hy
    refine (R'.ab n b (by simp [n])).ren (q := id) (n := n) cr vr hbf hblo id rho_id g_id (fun c hc => ?_) (fun _ _ h => h) (fun i hi hi2 => ⟨rho_ne i hi, by rw [hlen]; exact hi2⟩)
    by_cases hcs : c < w.heap.size
    ·exact absurd (role_old c n hc hcs).1 (Nat.lt_irrefl _)
    ·rw [role_new c n hc (by omega), if_pos rfl]
   ·rw [List.getElem?_set_ne hj] at hy
    have hjl := (List.getElem?_eq_some_iff.1 hy).1
    refine (R'.ab j y (by rw [List.getElem?_append_left hjl]; exact hy)).ren (q := id) (n := n) cr vr (hbl j y hy) (hR.rel.ab j y hy).lows j (rho_ne j (Ne.symm hj)) (g_ne j (Ne.symm hj)) (fun c hc => ?_) (fun _ _ h => h) (fun i hi hi2 => ⟨rho_ne i hi, by rw [hlen]; exact hi2⟩)
    by_cases hcs : c < w.heap.size
    ·exact (role_old c j hc hcs).2
    ·rw [role_new c j hc (by omega), if_neg (by omega)]
 have hx : Ag w' G2 (s.heap.set id b) (.c (k.at id)) v := by
  cases k with
  | ptr =>
   cases hv with
   | c _ _ h => cases h with
    | ptr _ _ h =>
     have := Ap.ptr (w := w') (G := G2) (H := s.heap.set id b) id 0 (by rw [hlen]; exact hidl)
     rw [rho_id] at this
     exact .c _ _ this
  | ms len cap =>
   cases hv with
   | c _ _ h => cases h with
    | ms _ _ _ _ h =>
     have := Ap.ms (w := w') (G := G2) (H := s.heap.set id b) id 0 len cap (by rw [hlen]; exact hidl)
     rw [rho_id] at this
     exact .c _ _ this
  | mp =>
   cases hv with
   | c _ _ h => cases h with
    | mp _ h =>
     have := Ap.mp (w := w') (G := G2) (H := s.heap.set id b) id (by rw [hlen]; exact hidl)
     rw [rho_id] at this
     exact .c _ _ this
  | own rows =>
   cases hv with
   | c _ _ h => cases h with
    | own _ _ a m cap hid' hn h hg =>
     refine .c _ _ (.own id rows a m cap (by rw [hlen]; exact hidl) hn h (fun m' sz hm => ?_))
     rw [g_id]
     simp [hidl] at hm
     exact hg m' sz (by simp [hm])
  | vs len =>
   cases hv with
   | c _ _ h => cases h with
    | vs _ _ a cap hid' ha hg =>
     refine .c _ _ (.vs id len a cap (by rw [hlen]; exact hidl) ha (fun m' sz cs hm => ?_))
     rw [g_id]
     simp [hidl] at hm
     exact hg m' sz cs (by simp [hm])
 have hlater := hR.later
 have hbase := hR.base
 refine hn v w' G2
  {rel := R2
   later :=
    {size := Nat.le_trans hlater.size L.size
     S := fun c o h => ⟨(L.S c o (hlater.S c o h).1).1, ((L.S c o (hlater.S c o h).1).2).trans (hlater.S c o h).2⟩
     Snew := fun c o hc hr h => hlater.Snew c o hc hr (L.Snew c o (Nat.lt_of_lt_of_le hc hlater.size) (by simp [Gh.clean, hlater.role c hc, hr]) h)
     len := by show bs.H.length ≤ (s.heap.set id b).length; rw [hlen]; exact hlater.len
     rho := fun i hi => by
      have h1 : i ≠ id := by omega
      have h2 : i < s.heap.length := Nat.lt_of_lt_of_le hi hlater.len
      rw [rho_ne i h1, L.rho i h2]
      exact hlater.rho i hi
     grow := fun i m sz hi h => by
      have h1 : i ≠ id := by omega
      have h2 : i < s.heap.length := Nat.lt_of_lt_of_le hi hlater.len
      have h : (s.heap.set id b)[i]? = some (.grow m sz) := h
      rw [List.getElem?_set_ne (Ne.symm h1)] at h
      obtain ⟨m1, hm1, hc1⟩ := L.grow i m sz h2 (by rw [List.getElem?_append_left h2]; exact h)
      obtain ⟨m2, hm2, hc2⟩ := hlater.grow i m1 sz hi hm1
      refine ⟨m2, hm2, ?_⟩
      rw [g_ne i h1]
      rcases hc1 with hc1 | ⟨rfl, hc1⟩ <;> rcases hc2 with hc2 | ⟨rfl, hc2⟩
      ·exact .inl (Nat.lt_trans hc2 hc1)
      ·exact .inl hc1
      ·exact .inl hc2
      ·exact .inr ⟨rfl, hc1.trans hc2⟩
     vec := fun i m sz ds hi h => by
      have h1 : i ≠ id := by omega
      have h2 : i < s.heap.length := Nat.lt_of_lt_of_le hi hlater.len
      have h : (s.heap.set id b)[i]? = some (.vec m sz ds) := h
      rw [List.getElem?_set_ne (Ne.symm h1)] at h
      obtain ⟨m1, sz1, ds1, hm1, hc1⟩ := L.vec i m sz ds h2 (by rw [List.getElem?_append_left h2]; exact h)
      obtain ⟨m2, sz2, ds2, hm2, hc2⟩ := hlater.vec i m1 sz1 ds1 hi hm1
      refine ⟨m2, sz2, ds2, hm2, ?_⟩
      rw [g_ne i h1]
      rcases hc1 with hc1 | ⟨rfl, hc1⟩ <;> rcases hc2 with hc2 | ⟨rfl, hc2⟩
      ·exact .inl (Nat.lt_trans hc2 hc1)
      ·exact .inl hc1
      ·exact .inl hc2
      ·exact .inr ⟨rfl, hc1.trans hc2⟩
     role := fun c hc => by
      have h1 : c < w.heap.size := Nat.lt_of_lt_of_le hc hlater.size
      show (if c < w.heap.size then G.role c else _) = _
      rw [if_pos h1]
      exact hlater.role c hc
     frame := fun c hc hr => (L.frame c (Nat.lt_of_lt_of_le hc hlater.size) (by simp [Gh.clean, hlater.role c hc, hr])).trans (hlater.frame c hc hr)
     os := L.os.trans hlater.os
     out := L.out.trans hlater.out }
   base := hbase
   size := by cases o.dst <;> simp [Act.put, hR.size]
   slots := fun i => ?_
   defers := ?_
   marks := fun m hm => by simpa [St.put] using hR.marks m hm }
 ·have old : Ag w' G2 (s.heap.set id b) (s.get i) (a.tmps.getD i undef) := vr _ _ (hsl i) (hR.slots i).lows ((hR.slots i).clean.mono L)
  cases hdst : o.dst with
  | none => exact old
  | some d =>
   have hd' := hd d hdst
   simp only [St.get, St.put, Bv, Act.put, Ht, hR.size, hd', and_true]
   by_cases e : d = i
   ·simp only [e, if_true]; exact hx
   ·simp only [e, if_false]; exact old
 ·have : (a.put o.dst v).defers = a.defers := by cases o.dst <;> rfl
  obtain ⟨hs, hh, e⟩ := hR.defers
  refine ⟨hs, ⟨hh.nd, fun c hc => ?_⟩, ?_⟩
  ·obtain ⟨k1, k2, k3, k4⟩ := hh.at' c hc
   refine ⟨k1, Nat.lt_of_lt_of_le k2 L.size, ?_, (L.frame c k2 (by simp [Gh.clean, k3])).trans k4⟩
   show (if c < w.heap.size then G.role c else _) = _
   rw [if_pos k2]; exact k3
  rw [this, e]
  congr 1
  refine List.map_congr_left fun m hm => ?_
  have h1 := hmk m hm
  have h2 : (G.clean s.heap.length).rho m = G.rho m := rfl
  simp only [CX, rho_ne m h1, L.rho m (hR.marks m hm), h2]
end
end Go.Abs
namespace Go.Abs
open Go
theorem AG {α : Type} : ∀ (vs l : List α) (off i : Nat), (setMany l off vs)[i]? = if off ≤ i ∧ i < off + vs.length ∧ i < l.length then vs[i - off]? else l[i]?
 | [], l, off, i => by simp [setMany]; omega
 | v :: vs, l, off, i => by
  rw [setMany, AG vs (l.set off v) (off + 1) i]
  simp only [List.length_set, List.length_cons]
  by_cases h1 : off + 1 ≤ i ∧ i < off + 1 + vs.length ∧ i < l.length
  ·rw [if_pos h1, if_pos (by omega)]
   have : i - off = (i - (off + 1)) + 1 := by omega
   rw [this]; simp
  ·rw [if_neg h1]
   by_cases h2 : off = i
   ·subst h2
    by_cases h3 : off < l.length
    ·rw [if_pos (by omega)]; simp [h3]
    ·rw [if_neg (by omega)]; simp [h3]
   ·rw [List.getElem?_set_ne h2, if_neg (by omega)]
def C.shift (d : Nat) : C → C
 | .ptr id off => .ptr (d + id) off
 | .ms id off n cap => .ms (d + id) off n cap
 | .vs id n => .vs (d + id) n
 | .mp id => .mp (d + id)
 | c => c
def C.shB (m : Nat) : C → Bool
 | .ptr id _ => decide (id < m)
 | .ms id _ _ _ => decide (id < m)
 | .vs id _ => decide (id < m)
 | .mp id => decide (id < m)
 | .any => true
 | .d _ => true
 | .nilp => true
 | .dp _ => true
 | .full _ => true
 | _ => false
def V.shift (d : Nat) : V → V
 | .c x => .c (x.shift d)
 | .agg cs => .agg (cs.map (C.shift d))
 | v => v
def V.shB (m : Nat) : V → Bool
 | .c x => x.shB m
 | .agg cs => cs.all (C.shB m)
 | _ => false
def AB.shift (d : Nat) : AB → AB
 | .cells cs => .cells (cs.map (C.shift d))
 | .vec n sz cs => .vec n sz (cs.map (C.shift d))
 | b => b
def AB.shB (m : Nat) : AB → Bool
 | .cells cs => cs.all (C.shB m)
 | .vec _ _ cs => cs.all (C.shB m)
 | .grow _ _ => true
 | .gone => true
 | _ => false
def Kr (id m : Nat) (p : Nat → Prop) : Prop := ∀ k, id ≤ k → k < id + m → p k
section
variable {w : World} {G : Gh} {H : List AB}
theorem AW.renM {G' : Gh} {H' : List AB} {k q m n : Nat} {b : AB} (h : AW w G H k b)
  (hc : ∀ (x : C) (v : Value), Kr q m (fun k => x.free k = true) → x.low n = true → Ap w G H x v → Ap w G' H' x v) (hv : ∀ (x : V) (v : Value), Kr q m (fun k => x.free k = true) → x.low n = true → Ag w G H x v → Ag w G' H' x v) (hf : Kr q m b.freeP) (hl : b.lowP n)
  (id : Nat) (hrho : G'.rho id = G.rho k) (hg : G'.g id = G.g k) (hrole : ∀ b, G.role b = some k → G'.role b = some id) (hS : ∀ b o, G'.S b o → G.S b o)
  (hD : ∀ i, ¬ (q ≤ i ∧ i < q + m) → i < n → G'.rho i = G.rho i ∧ i < H'.length) : AW w G' H' id b := by
 cases h with
 | gone => exact .gone
 | cells cs arr t hb hr hro hS' =>
  exact .cells cs arr t (by rw [hrho]; exact hb) ⟨hr.1, fun i x v hx hv' => ⟨hc x v (fun k h1 h2 => C.freeL_get (hf k h1 h2) hx) (C.lowL_get hl hx) (hr.2 i x v hx hv').1, (hr.2 i x v hx hv').2⟩⟩ (by rw [hrho]; exact hrole _ hro) (fun o ho => hS' o (by rw [hrho] at ho; exact hS _ _ ho))
 | grow n' sz a cap hg' hcap h hnil =>
  refine .grow n' sz a cap (hg.trans hg') hcap (fun x hx hn => ?_) hnil
  obtain ⟨b, o, h1, h2, h3, h4⟩ := h x hx hn
  exact ⟨b, o, h1, hrole b h2, h3, fun j hj hs => h4 j hj (hS _ _ hs)⟩
 | vec n' sz cs a cap hg' hcap hl' h =>
  refine .vec n' sz cs a cap (hg.trans hg') hcap hl' (fun hz => ?_)
  obtain ⟨b, arr, t, h1, h2, h3, h4, h5, h6⟩ := h hz
  exact ⟨b, arr, t, h1, hrole b h2, h3, h4, ⟨h5.1, fun i x v hx hv' => ⟨hc x v (fun k h1 h2 => C.freeL_get (hf k h1 h2) hx) (C.lowL_get hl hx) (h5.2 i x v hx hv').1, (h5.2 i x v hx hv').2⟩⟩, fun o hs => h6 o (hS _ _ hs)⟩
 | mp es rs clock hb hr hro =>
  refine .mp es rs clock (by rw [hrho]; exact hb) ⟨hr.1, fun i e r he hr' => ?_⟩ (by rw [hrho]; exact hrole _ hro)
  have h2 := hl e (List.mem_of_getElem? he)
  exact ⟨hv _ _ (fun k h1 h2 => (hf k h1 h2 e (List.mem_of_getElem? he)).1) h2.1 (hr.2 i e r he hr').1, hv _ _ (fun k h1 h2 => (hf k h1 h2 e (List.mem_of_getElem? he)).2) h2.2 (hr.2 i e r he hr').2⟩
 | mpb es clock rs hb hr hbn hro =>
  refine .mpb es clock rs (by rw [hrho]; exact hb) ⟨hr.1, fun i e r he hr' => ?_⟩ hbn (by rw [hrho]; exact hrole _ hro)
  obtain ⟨e0, he0, rfl⟩ := List.mem_map.1 (show e ∈ es.map (fun e => (e.1, e.2.1)) from List.mem_of_getElem? he)
  have h2 := hl e0 he0
  exact ⟨hv _ _ (fun k h1 h2 => (hf k h1 h2 e0 he0).1) h2.1 (hr.2 i _ r he hr').1, hv _ _ (fun k h1 h2 => (hf k h1 h2 e0 he0).2) h2.2 (hr.2 i _ r he hr').2⟩
 | mpg es rs clock hb hok hro =>
  refine .mpg es rs clock (by rw [hrho]; exact hb) (hok.mono (fun x v h => ?_) (fun b h => ⟨hrole b h, rfl, hS b⟩)) (by rw [hrho]; exact hrole _ hro)
  have := hc (.d x) v (fun _ _ _ => rfl) rfl (.d _ _ h)
  cases this with
  | d _ _ h => exact h
 | lp r fn tmps hb hsz hD' hs hro =>
  obtain ⟨e1, e2⟩ := hD r.D (fun h => (hf r.D h.1 h.2).1 rfl) hl.1
  exact .lp r fn tmps (by rw [hrho, e1]; exact hb) hsz e2 (fun i => hv _ _ (fun k h1 h2 => (hf k h1 h2).2 i) (hl.2 i) (hs i)) (by rw [hrho]; exact hrole _ hro)
 | df hb hro => exact .df (by rw [hrho]; exact hb) (by rw [hrho]; exact hrole _ hro)
 | gl g ds f hc' hr =>
  have h1 := hc (.dp ds) (.pointer (some ⟨g, 0, none⟩)) (fun _ _ _ => rfl) rfl (.dp ds g 0 f (fun j hj => by simpa using hc' j hj) hr)
  cases h1 with
  | dp _ _ _ f' hcell hrel => exact .gl g ds f' (fun j hj => by simpa using hcell j hj) hrel
theorem AW.shift {G' : Gh} {H' : List AB} {k m n id j : Nat} {b : AB} (h : AW w G H k (b.shift n))
  (hc : ∀ (x : C) (v : Value), x.shB m = true → Ap w G H (x.shift n) v → Ap w G' H' (x.shift j) v) (hb : b.shB m = true)
  (hrho : G'.rho id = G.rho k) (hg : G'.g id = G.g k) (hrole : ∀ b, G.role b = some k → G'.role b = some id) (hS : ∀ b o, G'.S b o → G.S b o) : AW w G' H' id (b.shift j) := by
 cases b with
 | gone => exact .gone
 | grow n' sz =>
  cases h with
  | grow n' sz a cap hg' hcap h hnil =>
   refine .grow n' sz a cap (hg.trans hg') hcap (fun x hx hn => ?_) hnil
   obtain ⟨b, o, h1, h2, h3, h4⟩ := h x hx hn
   exact ⟨b, o, h1, hrole b h2, h3, fun j hj hs => h4 j hj (hS _ _ hs)⟩
 | cells cs =>
  simp only [AB.shB, List.all_eq_true] at hb
  cases h with
  | cells cs' arr t hb' hr hro hS' =>
   refine .cells _ arr t (by rw [hrho]; exact hb') ⟨by simpa using hr.1, fun i x v hx hv => ?_⟩ (by rw [hrho]; exact hrole _ hro) (fun o ho => hS' o (by rw [hrho] at ho; exact hS _ _ ho))
   rw [List.getElem?_map, Option.map_eq_some_iff] at hx
   obtain ⟨y, hy, rfl⟩ := hx
   have := hr.2 i (y.shift n) v (by rw [List.getElem?_map, hy]; rfl) hv
   exact ⟨hc y v (hb y (List.mem_of_getElem? hy)) this.1, this.2⟩
 | vec n' sz cs =>
  simp only [AB.shB, List.all_eq_true] at hb
  cases h with
  | vec _ _ cs' a cap hg' hcap hl' h =>
   refine .vec n' sz _ a cap (hg.trans hg') hcap (by simpa using hl') (fun hz => ?_)
   obtain ⟨b, arr, t, h1, h2, h3, h4, h5, h6⟩ := h hz
   refine ⟨b, arr, t, h1, hrole b h2, h3, h4, ⟨by simpa using h5.1, fun i x v hx hv => ?_⟩, fun o hs => h6 o (hS _ _ hs)⟩
   rw [List.getElem?_map, Option.map_eq_some_iff] at hx
   obtain ⟨y, hy, rfl⟩ := hx
   have := h5.2 i (y.shift n) v (by rw [List.getElem?_map, hy]; rfl) (by simpa using hv)
   exact ⟨hc y v (hb y (List.mem_of_getElem? hy)) this.1, this.2⟩
 | _ => cases hb
end
section
variable {bs : EF} {nb nt : Nat} {w : World} {G : Gh} {s : St} {a : Act}
def Gh.fillM (G : Gh) (z : Nat) (G' : Gh) (n id m : Nat) : Gh :=
 {S := G'.S, rho := fun i => if id ≤ i ∧ i < id + m then G'.rho (n + (i - id)) else G'.rho i, g := fun i => if id ≤ i ∧ i < id + m then G'.g (n + (i - id)) else G'.g i,
  role := fun c => if c < z then G.role c else (match G'.role c with | some k => some (if n ≤ k ∧ k < n + m then id + (k - n) else k) | none => none) }
theorem Rr {P : Program} {r : Option Nat} {o : Oper} {id : Nat} {x : V} {B : List AB} (hR : AP bs nb nt w G s a) (hid : id + B.length ≤ s.heap.length) (hnb : nb ≤ id)
  (hsl : ∀ d, Kr id B.length (fun k => (s.get d).free k = true)) (hbl : ∀ (j : Nat) (y : AB), s.heap[j]? = some y → (id ≤ j ∧ j < id + B.length) ∨ Kr id B.length y.freeP) (hmk : ∀ m ∈ s.marks, m < id) (hbf : B.all (AB.shB B.length) = true) (hxf : x.shB B.length = true)
  (hop : AL P r o s.heap s.ev (one (x.shift s.heap.length) (s.heap ++ B.map (AB.shift s.heap.length)))) (hd : ∀ d, o.dst = some d → d < nt) {next : Act → World → Prop} {Q : Exit → Act → World → Prop}
  (hn : ∀ v w' G', AP bs nb nt w' G' (s.put o.dst (x.shift id) (setMany s.heap id (B.map (AB.shift id)))) (a.put o.dst v) → next (a.put o.dst v) w') : o.wpIn { Fence.wide with round := r } 0 P a w next Q := by
 refine hop w (G.clean s.heap.length) a next Q hR.rel.clean (fun x _ => (hR.ev x).clean) ?_
 rintro v x' H' G' w' ⟨rfl, rfl⟩ hv R' L
 let n := s.heap.length
 let m := B.length
 have hBl : (B.map (AB.shift id)).length = m := by simp [m]
 let G2 := G.fillM w.heap.size G' n id m
 have hlen : (setMany s.heap id (B.map (AB.shift id))).length = n := by simp [n, As]
 have rho_ne : ∀ i, ¬ (id ≤ i ∧ i < id + m) → G2.rho i = G'.rho i := fun i hi => if_neg hi
 have rho_id : ∀ i, i < m → G2.rho (id + i) = G'.rho (n + i) := fun i hi => by
  show (if id ≤ id + i ∧ id + i < id + m then G'.rho (n + (id + i - id)) else _) = _
  rw [if_pos ⟨by omega, by omega⟩, Nat.add_sub_cancel_left]
 have g_ne : ∀ i, ¬ (id ≤ i ∧ i < id + m) → G2.g i = G'.g i := fun i hi => if_neg hi
 have g_id : ∀ i, i < m → G2.g (id + i) = G'.g (n + i) := fun i hi => by
  show (if id ≤ id + i ∧ id + i < id + m then G'.g (n + (id + i - id)) else _) = _
  rw [if_pos ⟨by omega, by omega⟩, Nat.add_sub_cancel_left]
 have get_ne : ∀ i, ¬ (id ≤ i ∧ i < id + m) → (setMany s.heap id (B.map (AB.shift id)))[i]? = s.heap[i]? := fun i hi => by
  rw [AG, if_neg (by rw [hBl]; omega)]
 have get_id : ∀ i, i < m → (setMany s.heap id (B.map (AB.shift id)))[id + i]? = (B[i]?).map (AB.shift id) := fun i hi => by
  rw [AG, if_pos ⟨by omega, by rw [hBl]; omega, by omega⟩, Nat.add_sub_cancel_left, List.getElem?_map]
 have get_new : ∀ i, (s.heap ++ B.map (AB.shift n))[n + i]? = (B[i]?).map (AB.shift n) := fun i => by
  rw [List.getElem?_append_right (by omega), Nat.add_sub_cancel_left, List.getElem?_map]
 have cr : ∀ (x : C) (u : Value), Kr id m (fun k => x.free k = true) → x.low n = true → Ap w' G' (s.heap ++ B.map (AB.shift n)) x u → Ap w' G2 (setMany s.heap id (B.map (AB.shift id))) x u := by
  intro x u hf hl h
  induction h with
  | any v => exact .any v
  | d x v h => exact .d x v h
  | ptr i off h =>
   have hi : ¬ (id ≤ i ∧ i < id + m) := fun h => by have := hf i h.1 h.2; simp [C.free] at this
   have hi2 : i < n := by simpa [C.low] using hl
   have := Ap.ptr (w := w') (G := G2) (H := setMany s.heap id (B.map (AB.shift id))) i off (by rw [hlen]; exact hi2)
   rwa [rho_ne i hi] at this
  | nilp => exact .nilp
  | dp ds b o f hcell hrel => exact .dp ds b o f hcell hrel
  | full rows a n hn h => exact .full rows a n hn h
  | own i rows a m1 cap hid' hn h hg =>
   have hi : ¬ (id ≤ i ∧ i < id + m) := fun h => by have := hf i h.1 h.2; simp [C.free] at this
   have hi2 : i < n := by simpa [C.low] using hl
   refine .own i rows a m1 cap (by rw [hlen]; exact hi2) hn h (fun m' sz hm => ?_)
   rw [get_ne i hi] at hm
   rw [g_ne i hi]
   exact hg m' sz (by rw [List.getElem?_append_left hi2]; exact hm)
  | ms i off len cap h =>
   have hi : ¬ (id ≤ i ∧ i < id + m) := fun h => by have := hf i h.1 h.2; simp [C.free] at this
   have hi2 : i < n := by simpa [C.low] using hl
   have := Ap.ms (w := w') (G := G2) (H := setMany s.heap id (B.map (AB.shift id))) i off len cap (by rw [hlen]; exact hi2)
   rwa [rho_ne i hi] at this
  | fn f caps arr hs _ ih =>
   simp only [C.low] at hl
   exact .fn f caps arr hs (fun i x v hx hv => ih i x v hx hv (fun k h1 h2 => C.freeL_get (by simpa only [C.free, V.free] using hf k h1 h2) hx) (C.lowL_get hl hx))
  | mv f x v _ ih => exact .mv f x v (ih (fun k h1 h2 => by simpa [C.free] using hf k h1 h2) (by simpa [C.low] using hl))
  | ma f cs arr hs ho _ ih =>
   simp only [C.low] at hl
   exact .ma f cs arr hs ho (fun i x v hx hv => ih i x v hx hv (fun k h1 h2 => C.freeL_get (by simpa only [C.free, V.free] using hf k h1 h2) hx) (C.lowL_get hl hx))
  | mp i h =>
   have hi : ¬ (id ≤ i ∧ i < id + m) := fun h => by have := hf i h.1 h.2; simp [C.free] at this
   have hi2 : i < n := by simpa [C.low] using hl
   have := Ap.mp (w := w') (G := G2) (H := setMany s.heap id (B.map (AB.shift id))) i (by rw [hlen]; exact hi2)
   rwa [rho_ne i hi] at this
  | yd i h =>
   have hi : ¬ (id ≤ i ∧ i < id + m) := fun h => by have := hf i h.1 h.2; simp [C.free] at this
   have hi2 : i < n := by simpa [C.low] using hl
   have := Ap.yd (w := w') (G := G2) (H := setMany s.heap id (B.map (AB.shift id))) i (by rw [hlen]; exact hi2)
   rwa [rho_ne i hi] at this
  | gp g => exact .gp g
  | fs m1 sz cs b o vs hl' hn hcell _ ih =>
   simp only [C.low] at hl
   exact .fs m1 sz cs b o vs hl' hn hcell (fun i x v hx hv => ih i x v hx hv (fun k h1 h2 => C.freeL_get (by simpa only [C.free, V.free] using hf k h1 h2) hx) (C.lowL_get hl hx))
  | vc i m1 a hid' ha hg =>
   have hi : ¬ (id ≤ i ∧ i < id + m) := fun h => by have := hf i h.1 h.2; simp [C.free] at this
   have hi2 : i < n := by simpa [C.low] using hl
   refine .vc i m1 a (by rw [hlen]; exact hi2) ha (fun m' sz cs hm => ?_)
   rw [get_ne i hi] at hm
   rw [g_ne i hi]
   exact hg m' sz cs (by rw [List.getElem?_append_left hi2]; exact hm)
  | vs i m1 a cap hid' ha hg =>
   have hi : ¬ (id ≤ i ∧ i < id + m) := fun h => by have := hf i h.1 h.2; simp [C.free] at this
   have hi2 : i < n := by simpa [C.low] using hl
   refine .vs i m1 a cap (by rw [hlen]; exact hi2) ha (fun m' sz cs hm => ?_)
   rw [get_ne i hi] at hm
   rw [g_ne i hi]
   exact hg m' sz cs (by rw [List.getElem?_append_left hi2]; exact hm)
  | vp i m1 off a hid' hg =>
   have hi : ¬ (id ≤ i ∧ i < id + m) := fun h => by have := hf i h.1 h.2; simp [C.free] at this
   have hi2 : i < n := by simpa [C.low] using hl
   refine .vp i m1 off a (by rw [hlen]; exact hi2) (fun m' sz cs hm => ?_)
   rw [get_ne i hi] at hm
   rw [g_ne i hi]
   exact hg m' sz cs (by rw [List.getElem?_append_left hi2]; exact hm)
 have vr : ∀ (x : V) (u : Value), Kr id m (fun k => x.free k = true) → x.low n = true → Ag w' G' (s.heap ++ B.map (AB.shift n)) x u → Ag w' G2 (setMany s.heap id (B.map (AB.shift id))) x u := by
  intro x u hf hl h
  induction h with
  | c x v h => exact .c x v (cr x v (fun k h1 h2 => by simpa [V.free] using hf k h1 h2) (by simpa [V.low] using hl) h)
  | agg cs arr h =>
   simp only [V.low] at hl
   exact .agg cs arr ⟨h.1, fun i x v hx hv => ⟨cr x v (fun k h1 h2 => C.freeL_get (by simpa only [C.free, V.free] using hf k h1 h2) hx) (C.lowL_get hl hx) (h.2 i x v hx hv).1, (h.2 i x v hx hv).2⟩⟩
  | tup vs arr hs _ ih =>
   simp only [V.low] at hl
   exact .tup vs arr hs (fun i x v hx hv => ih i x v hx hv (fun k h1 h2 => V.freeL_get (by simpa only [V.free] using hf k h1 h2) hx) (V.lowL_get hl hx))
 have sr : ∀ (x : C) (u : Value), x.shB m = true → Ap w' G' (s.heap ++ B.map (AB.shift n)) (x.shift n) u → Ap w' G2 (setMany s.heap id (B.map (AB.shift id))) (x.shift id) u := by
  intro x u hs h
  cases x with
  | any => exact .any u
  | nilp => cases h; exact .nilp
  | d x => cases h with
   | d _ _ h => exact .d _ _ h
  | dp ds => cases h with
   | dp _ b o f hcell hrel => exact .dp ds b o f hcell hrel
  | full rows => cases h with
   | full _ a n hn h => exact .full rows a n hn h
  | ptr i off =>
   have hs : i < m := by simpa [C.shB] using hs
   cases h with
   | ptr _ _ h =>
    have := Ap.ptr (w := w') (G := G2) (H := setMany s.heap id (B.map (AB.shift id))) (id + i) off (by rw [hlen]; omega)
    rwa [rho_id i hs] at this
  | ms i off len cap =>
   have hs : i < m := by simpa [C.shB] using hs
   cases h with
   | ms _ _ _ _ h =>
    have := Ap.ms (w := w') (G := G2) (H := setMany s.heap id (B.map (AB.shift id))) (id + i) off len cap (by rw [hlen]; omega)
    rwa [rho_id i hs] at this
  | mp i =>
   have hs : i < m := by simpa [C.shB] using hs
   cases h with
   | mp _ h =>
    have := Ap.mp (w := w') (G := G2) (H := setMany s.heap id (B.map (AB.shift id))) (id + i) (by rw [hlen]; omega)
    rwa [rho_id i hs] at this
  | vs i len =>
   have hs : i < m := by simpa [C.shB] using hs
   cases h with
   | vs _ _ a cap hid' ha hg =>
    refine .vs (id + i) len a cap (by rw [hlen]; omega) ha (fun m' sz cs hm => ?_)
    rw [get_id i hs, Option.map_eq_some_iff] at hm
    obtain ⟨b, hb, hm⟩ := hm
    rw [g_id i hs]
    cases b with
    | vec n1 sz1 cs1 =>
     simp only [AB.shift, AB.vec.injEq] at hm
     obtain ⟨rfl, rfl, _⟩ := hm
     exact hg n1 sz1 _ (by rw [get_new, hb]; rfl)
    | _ => cases hm
  | _ => cases hs
 have role_new : ∀ c k', G'.role c = some k' → (w.heap.size ≤ c → G2.role c = some (if n ≤ k' ∧ k' < n + m then id + (k' - n) else k')) := fun c k' h hc => by
  show (if c < w.heap.size then G.role c else _) = _
  rw [if_neg (by omega), h]
 have role_old : ∀ c k', G'.role c = some k' → c < w.heap.size → k' < n ∧ G2.role c = some k' := fun c k' h hc => by
  have h1 := L.role c hc
  rw [h] at h1
  simp only [Gh.clean] at h1
  cases hg : G.role c with
  | none => rw [hg] at h1; cases h1
  | some j =>
   rw [hg] at h1
   simp only at h1
   split at h1
   ·cases h1
    rename_i hj
    refine ⟨hj, ?_⟩
    show (if c < w.heap.size then G.role c else _) = _
    rw [if_pos hc, hg]
   ·cases h1
 have R2 : Rel w' G2 (setMany s.heap id (B.map (AB.shift id))) := by
  refine ⟨R'.sex, fun c j hr => ?_, fun j y hy => ?_⟩
  ·have hr' : (if c < w.heap.size then G.role c else (match G'.role c with | some k => some (if n ≤ k ∧ k < n + m then id + (k - n) else k) | none => none)) = some j := hr
   by_cases hc : c < w.heap.size
   ·exact Nat.lt_of_lt_of_le hc L.size
   ·rw [if_neg hc] at hr'
    cases hg : G'.role c with
    | none => rw [hg] at hr'; cases hr'
    | some k' => exact R'.roleLt c k' hg
  ·by_cases hj : id ≤ j ∧ j < id + m
   ·obtain ⟨i, rfl⟩ : ∃ i, j = id + i := ⟨j - id, by omega⟩
    have him : i < m := by omega
    rw [get_id i him, Option.map_eq_some_iff] at hy
    obtain ⟨b, hb, rfl⟩ := hy
    refine (R'.ab (n + i) (b.shift n) (by rw [get_new, hb]; rfl)).shift (m := m) sr (List.all_eq_true.1 hbf b (List.mem_of_getElem? hb)) (rho_id i him) (g_id i him) (fun c hc => ?_) (fun _ _ h => h)
    by_cases hcs : c < w.heap.size
    ·exact absurd (role_old c _ hc hcs).1 (by omega)
    ·rw [role_new c _ hc (by omega), if_pos ⟨by omega, by omega⟩, Nat.add_sub_cancel_left]
   ·rw [get_ne j hj] at hy
    have hjl := (List.getElem?_eq_some_iff.1 hy).1
    refine (R'.ab j y (by rw [List.getElem?_append_left hjl]; exact hy)).renM (q := id) (m := m) (n := n) cr vr ((hbl j y hy).resolve_left hj) (hR.rel.ab j y hy).lows j (rho_ne j hj) (g_ne j hj) (fun c hc => ?_) (fun _ _ h => h) (fun i hi hi2 => ⟨rho_ne i hi, by rw [hlen]; exact hi2⟩)
    by_cases hcs : c < w.heap.size
    ·exact (role_old c j hc hcs).2
    ·rw [role_new c j hc (by omega), if_neg (by omega)]
 have hx : Ag w' G2 (setMany s.heap id (B.map (AB.shift id))) (x.shift id) v := by
  cases x with
  | c y =>
   cases hv with
   | c _ _ h => exact .c _ _ (sr y v hxf h)
  | agg cs =>
   simp only [V.shB, List.all_eq_true] at hxf
   cases hv with
   | agg _ arr h =>
    refine .agg _ arr ⟨by simpa using h.1, fun i x v hx hv => ?_⟩
    rw [List.getElem?_map, Option.map_eq_some_iff] at hx
    obtain ⟨y, hy, rfl⟩ := hx
    have := h.2 i (y.shift n) v (by rw [List.getElem?_map, hy]; rfl) hv
    exact ⟨sr y v (hxf y (List.mem_of_getElem? hy)) this.1, this.2⟩
  | tup vs => cases hxf
 have hlater := hR.later
 have hbase := hR.base
 refine hn v w' G2
  {rel := R2
   later :=
    {size := Nat.le_trans hlater.size L.size
     S := fun c o h => ⟨(L.S c o (hlater.S c o h).1).1, ((L.S c o (hlater.S c o h).1).2).trans (hlater.S c o h).2⟩
     Snew := fun c o hc hr h => hlater.Snew c o hc hr (L.Snew c o (Nat.lt_of_lt_of_le hc hlater.size) (by simp [Gh.clean, hlater.role c hc, hr]) h)
     len := by show bs.H.length ≤ (setMany s.heap id (B.map (AB.shift id))).length; rw [hlen]; exact hlater.len
     rho := fun i hi => by
      have h1 : ¬ (id ≤ i ∧ i < id + m) := by omega
      have h2 : i < s.heap.length := Nat.lt_of_lt_of_le hi hlater.len
      rw [rho_ne i h1, L.rho i h2]
      exact hlater.rho i hi
     grow := fun i m0 sz hi h => by
      have h1 : ¬ (id ≤ i ∧ i < id + m) := by omega
      have h2 : i < s.heap.length := Nat.lt_of_lt_of_le hi hlater.len
      have h : (setMany s.heap id (B.map (AB.shift id)))[i]? = some (.grow m0 sz) := h
      rw [get_ne i h1] at h
      obtain ⟨m1, hm1, hc1⟩ := L.grow i m0 sz h2 (by rw [List.getElem?_append_left h2]; exact h)
      obtain ⟨m2, hm2, hc2⟩ := hlater.grow i m1 sz hi hm1
      refine ⟨m2, hm2, ?_⟩
      rw [g_ne i h1]
      rcases hc1 with hc1 | ⟨rfl, hc1⟩ <;> rcases hc2 with hc2 | ⟨rfl, hc2⟩
      ·exact .inl (Nat.lt_trans hc2 hc1)
      ·exact .inl hc1
      ·exact .inl hc2
      ·exact .inr ⟨rfl, hc1.trans hc2⟩
     vec := fun i m0 sz ds hi h => by
      have h1 : ¬ (id ≤ i ∧ i < id + m) := by omega
      have h2 : i < s.heap.length := Nat.lt_of_lt_of_le hi hlater.len
      have h : (setMany s.heap id (B.map (AB.shift id)))[i]? = some (.vec m0 sz ds) := h
      rw [get_ne i h1] at h
      obtain ⟨m1, sz1, ds1, hm1, hc1⟩ := L.vec i m0 sz ds h2 (by rw [List.getElem?_append_left h2]; exact h)
      obtain ⟨m2, sz2, ds2, hm2, hc2⟩ := hlater.vec i m1 sz1 ds1 hi hm1
      refine ⟨m2, sz2, ds2, hm2, ?_⟩
      rw [g_ne i h1]
      rcases hc1 with hc1 | ⟨rfl, hc1⟩ <;> rcases hc2 with hc2 | ⟨rfl, hc2⟩
      ·exact .inl (Nat.lt_trans hc2 hc1)
      ·exact .inl hc1
      ·exact .inl hc2
      ·exact .inr ⟨rfl, hc1.trans hc2⟩
     role := fun c hc => by
      have h1 : c < w.heap.size := Nat.lt_of_lt_of_le hc hlater.size
      show (if c < w.heap.size then G.role c else _) = _
      rw [if_pos h1]
      exact hlater.role c hc
     frame := fun c hc hr => (L.frame c (Nat.lt_of_lt_of_le hc hlater.size) (by simp [Gh.clean, hlater.role c hc, hr])).trans (hlater.frame c hc hr)
     os := L.os.trans hlater.os
     out := L.out.trans hlater.out }
   base := hbase
   size := by cases o.dst <;> simp [Act.put, hR.size]
   slots := fun i => ?_
   defers := ?_
   marks := fun m' hm => by simpa [St.put, As] using hR.marks m' hm }
 ·have old : Ag w' G2 (setMany s.heap id (B.map (AB.shift id))) (s.get i) (a.tmps.getD i undef) := vr _ _ (fun k h1 h2 => hsl i k h1 h2) (hR.slots i).lows ((hR.slots i).clean.mono L)
  cases hdst : o.dst with
  | none => exact old
  | some d =>
   have hd' := hd d hdst
   simp only [St.get, St.put, Bv, Act.put, Ht, hR.size, hd', and_true]
   by_cases e : d = i
   ·simp only [e, if_true]; exact hx
   ·simp only [e, if_false]; exact old
 ·have : (a.put o.dst v).defers = a.defers := by cases o.dst <;> rfl
  obtain ⟨hs, hh, e⟩ := hR.defers
  refine ⟨hs, ⟨hh.nd, fun c hc => ?_⟩, ?_⟩
  ·obtain ⟨k1, k2, k3, k4⟩ := hh.at' c hc
   refine ⟨k1, Nat.lt_of_lt_of_le k2 L.size, ?_, (L.frame c k2 (by simp [Gh.clean, k3])).trans k4⟩
   show (if c < w.heap.size then G.role c else _) = _
   rw [if_pos k2]; exact k3
  rw [this, e]
  congr 1
  refine List.map_congr_left fun m' hm => ?_
  have h1 : ¬ (id ≤ m' ∧ m' < id + m) := by have := hmk m' hm; omega
  have h2 : (G.clean s.heap.length).rho m' = G.rho m' := rfl
  simp only [CX, rho_ne m' h1, L.rho m' (hR.marks m' hm), h2]
end
end Go.Abs
