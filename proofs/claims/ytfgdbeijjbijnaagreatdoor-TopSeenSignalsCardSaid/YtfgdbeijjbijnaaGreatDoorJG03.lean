/- Slices that append made and that are written afterwards: blocks whose place is hidden. -/
import Derived.Test.YtfgdbeijjbijnaaGreatDoorJG02
import Derived.Test.YtfgdbeijjbijnaaGreatDoorJG00
set_option linter.unusedSimpArgs false
set_option linter.unusedVariables false
namespace Go.Abs
open Go
theorem NI (a : Addr) (k m : Nat) : (a.add k).add m = a.add (k + m) := by
 unfold Addr.add
 by_cases hk : k = 0
 ·simp [hk]
 ·by_cases hm : m = 0
  ·simp [hm]
  ·simp [hk, hm]; omega
theorem Hm {α : Type} : ∀ (vs l : List α) (off n : Nat), (setMany l off vs).take n = setMany (l.take n) off vs
 | [], l, off, n => rfl
 | v :: vs, l, off, n => by rw [setMany, setMany, Hm vs, List.take_set]
theorem OS {α : Type} {vs l : List α} {off : Nat} (h : off + vs.length ≤ l.length) : (setMany l off vs).take (off + vs.length) = l.take off ++ vs := by
 refine List.ext_getElem? fun j => ?_
 rw [List.getElem?_take, FE vs l off j h]
 by_cases h1 : j < off
 ·rw [if_pos (by omega), if_neg (by omega), List.getElem?_append_left (by simp; omega), List.getElem?_take, if_pos h1]
 ·rw [List.getElem?_append_right (by simp; omega), List.length_take, Nat.min_eq_left (by omega)]
  by_cases h2 : j < off + vs.length
  ·rw [if_pos h2, if_pos ⟨by omega, h2⟩]
  ·rw [if_neg h2, List.getElem?_eq_none (by omega)]
section
variable {P : Program} {tt : Nat → Option TI} {w : World} {G : Gh} {H : List AB}
theorem Kg (R : Rel w G H) {id n sz : Nat} {cs : List C} (h : H[id]? = some (.vec n sz cs)) (hne : 0 < cs.length) : ∃ b arr t cap, G.g id = (some ⟨b, 0, none⟩, cap) ∧ n ≤ cap ∧ G.role b = some id ∧ w.heap[b]? = some (.cells arr t (0, 0)) ∧ cap * sz ≤ arr.size ∧
  An w G H cs (arr.toList.take cs.length) ∧ (∀ o, ¬ G.S b o) ∧ cs.length = n * sz := by
 cases R.ab id _ h with
 | vec _ _ _ a cap hg hcap hl h =>
  obtain ⟨b, arr, t, rfl, h2, h3, h4, h5, h6⟩ := h (by
   intro e
   have : n = 0 := by omega
   subst this
   rw [hl, Nat.zero_mul] at hne
   exact absurd hne (Nat.lt_irrefl _))
  exact ⟨b, arr, t, cap, hg, hcap, h2, h3, h4, h5, h6, hl⟩
theorem Vc {id n off sz b cap : Nat} {cs : List C} {v : Value} (hid : H[id]? = some (.vec n sz cs)) (hg : G.g id = (some ⟨b, 0, none⟩, cap)) (h : Ag w G H (.c (.vp id n off)) v) : v = .pointer (some ⟨b, off, none⟩) := by
 cases h with
 | c _ _ h => cases h with
  | vp _ _ _ a hl hg' =>
   obtain ⟨x, h1, h2⟩ := (hg' _ _ _ hid).2 rfl
   rw [hg] at h1
   cases h1
   rw [h2, Addr.add_lit, Nat.zero_add]
theorem Kh (T : By P tt) {t : Nat} {i : TI} (ht : tt t = some i) {id n off sz : Nat} {cs : List C} {a : Value} (R : Rel w G H) (hid : H[id]? = some (.vec n sz cs)) (hz : 0 < i.size) (hoff : off + i.size ≤ cs.length)
  (ha : Ag w G H (.c (.vp id n off)) a) : Aj P (Instr.loadAt t a) w G H (mkV i cs off) H := by
 obtain ⟨b, arr, t', cap, hg, hcap, hrole, hb, hsz, hr, hS, hl⟩ := Kg R hid (by omega)
 obtain rfl := Vc hid hg ha
 have := D7 T ht (b := b) R hr hoff (fun j hj => by rw [Cr hb, List.getElem?_take, if_pos (by omega)])
 obtain ⟨v, w', G', h1, h2⟩ := this
 exact ⟨v, w', G', by simpa [Instr.loadAt, Instr.sureAddr] using h1, h2⟩
theorem L6 (T : By P tt) {t : Nat} {i : TI} (ht : tt t = some i) {id n off sz : Nat} {cs : List C} {x : V} {a v : Value} (R : Rel w G H) (hid : H[id]? = some (.vec n sz cs)) (ha : Ag w G H (.c (.vp id n off)) a) (hx : Ag w G H x v) (hs : x.solid = true)
  (hl : x.cs.length = i.size) (hz : 0 < i.size) (hoff : off + i.size ≤ cs.length) : Does P (Instr.storeAt t a v) w G H (H.set id (.vec n sz (setMany cs off x.cs))) := by
 obtain ⟨b, arr, t', cap, hg, hcap, hrole, hb, hsz0, hr, hS, hcl⟩ := Kg R hid (by omega)
 obtain rfl := Vc hid hg ha
 have hc := hx.cells hs
 have hsz : v.cells.size = i.size := by rw [← hl, hc.1]; simp
 have hlen : cs.length ≤ arr.size := by have := hr.1; simp at this; omega
 have L : Am w G H (w.putObj b (.cells (setMany arr.toList off v.cells.toList).toArray t' (0, 0))) G (H.set id (.vec n sz (setMany cs off x.cs))) :=
  Am.put_own hrole (fun j hj => absurd hj (hS j)) (fun n sz e => by cases e) (fun n' sz' cs' e _ => by cases e; exact ⟨n, sz, cs, hid, .inr rfl⟩)
 refine ⟨_, G, ?_, R.put_own hrole L (fun _ => .vec n sz _ (some ⟨b, 0, none⟩) cap hg hcap (by rw [As]; exact hcl) (fun _ => ⟨b, _, t', rfl, hrole, DH hb, by simp [As]; omega, ?_, hS⟩)), L⟩
 ·simp only [Instr.storeAt, Instr.sureAddr, Sem.run_bind, Sem.run_pure, Result.andThen_ok, storeVar, T.run_sizeOf ht, hsz, ne_eq, not_true, if_false]
  have := BK P (b := b) (off := off) (t := t') v.cells.toList 0 w arr hb (by simp; omega) hc.ones
  simpa using this
 ·rw [As]
  simp only [List.toList_toArray, Hm]
  exact (hr.setMany off hc).mono L
theorem Hn (T : By P tt) {t f : Nat} {i i' : TI} {fs : Array Field} {fd : Field} (ht : tt t = some i) (hd : i.desc = .struct fs) (hf : fs[f]? = some fd) (hi : tt fd.type = some i') (hz : i'.size ≠ 0)
  {id n off : Nat} {a : Value} (R : Rel w G H) (ha : Ag w G H (.c (.vp id n off)) a) : Aj P (Instr.fieldAt t a f) w G H (.c (.vp id n (off + fd.offset))) H := by
 cases ha with
 | c _ _ ha => cases ha with
  | vp _ _ _ x hl hg =>
   refine Aj.still R (v := .pointer (some (x.add fd.offset))) ?_ (.c _ _ (.vp _ _ _ _ hl (fun m sz cs hm => ⟨(hg m sz cs hm).1, fun e => ?_⟩)))
   ·obtain ⟨fs', e1, e2⟩ := T.run_struct ht hd w
    obtain ⟨fd', e3, e4, e5⟩ := Hc e2 hf
    rw [← e4] at hi
    simp [Instr.fieldAt, e1, e3, ← e5, Instr.sureAddr, fieldPlace, T.run_sizeOf hi, hz]
   ·obtain ⟨y, h1, h2⟩ := (hg m sz cs hm).2 e
    exact ⟨y, h1, by rw [h2, NI]⟩
theorem Ho (T : By P tt) {t e : Nat} {i i' : TI} (ht : tt t = some i) (hd : i.desc = .slice e) (he : tt e = some i') {k : IntKind} {n : Int} (h0 : 0 ≤ n) {id m : Nat} (h1 : n < m)
  {a ix : Value} (R : Rel w G H) (ha : Ag w G H (.c (.vs id m)) a) (hx : Ag w G H (.c (.d (.int k n))) ix) : Aj P (Instr.indexAt t a ix) w G H (.c (.vp id m (n.toNat * i'.size))) H := by
 cases ha with
 | c _ _ ha =>
  cases ha with
  | vs _ _ a cap hid hne hg =>
   obtain rfl := Bz hx
   obtain ⟨x, rfl⟩ := hne.2 (by omega)
   refine Aj.still R (v := .pointer (some (x.add (n.toNat * i'.size)))) ?_ (.c _ _ (.vp _ _ _ _ hid (fun m' sz cs hm => ⟨(hg m' sz cs hm).1, fun e => ⟨x, by rw [(hg m' sz cs hm).2 e], rfl⟩⟩)))
   simp [Instr.indexAt, asIntOf, T.run_at ht hd rfl, T.run_sizeOf he, h0, h1]
theorem JA (T : By P tt) {t e : Nat} {i i' : TI} (ht : tt t = some i) (hd : i.desc = .slice e) (he : tt e = some i') {id n : Nat} {a : Value} (R : Rel w G H) (ha : Ap w G H (.vs id n) a) {lo hi mx : Option Value}
  (e1 : match lo with | some v => ∃ k, v = .int k ((0 : Nat) : Int) | none => True) (e2 : ∃ k, hi = some (.int k (n : Int))) (e3 : ∃ k, mx = some (.int k (n : Int))) : Aj P (Instr.sliceAt t a lo hi mx) w G H (.c (.vc id n)) H := by
 cases ha with
 | vs _ _ a cap hid hne hg =>
  obtain ⟨k2, rfl⟩ := e2
  obtain ⟨k3, rfl⟩ := e3
  have hb := Bs (P := P) (w := w) (fl := true) (len := n) (cap := cap) (lo := lo) (hi := some (.int k2 (n : Int))) (mx := some (.int k3 (n : Int))) (l := 0) (h := n) (m := n) ⟨k3, rfl, hne.1⟩ ⟨⟨k2, rfl⟩, Nat.le_refl _⟩ (by cases lo with | none => rfl | some v => exact ⟨e1, Nat.zero_le _⟩)
  refine Aj.still R (v := .slice (if n = 0 then a else a.map (·.add (0 * i'.size))) (n - 0) (n - 0)) ?_ ?_
  ·simp only [Instr.sliceAt, Sem.run_bind, T.run_at ht hd rfl, Result.andThen_ok, Instr.slice, hb, T.run_sizeOf he, Sem.run_pure]
  ·have ea : (if n = 0 then a else a.map (·.add (0 * i'.size))) = a := by
    split
    ·rfl
    ·cases a with
     | none => rfl
     | some x => simp [Addr.add]
   rw [ea]
   exact .c _ _ (.vc id n a hid hne.2 (fun m sz cs hm => ⟨(hg m sz cs hm).1, fun e => by rw [(hg m sz cs hm).2 e]⟩))
theorem OT {id n k sz cap b : Nat} {cs new : List C} {us : List Value} (R : Rel w G H) (hid : H[id]? = some (.vec n sz cs)) (hg : G.g id = (some ⟨b, 0, none⟩, cap)) (hc : n + k ≤ cap) (hk : 0 < k) (hus : An w G H new us) (hnl : new.length = k * sz) :
  ∃ w', (storeCells ⟨b, n * sz, none⟩ us).run P w = .ok () w' ∧ Rel w' G (H.set id (.vec (n + k) sz (cs ++ new))) ∧ Am w G H w' G (H.set id (.vec (n + k) sz (cs ++ new))) := by
 cases R.ab id _ hid with
 | vec _ _ _ a cap' hg' hcap hl h =>
  rw [hg] at hg'
  cases hg'
  obtain ⟨b', arr, t, e, hrole, hb, hsz, hr, hS⟩ := h (by omega)
  cases e
  have hul : us.length = k * sz := by rw [← hus.1, hnl]
  have hmul : (n + k) * sz ≤ cap * sz := Nat.mul_le_mul_right sz hc
  rw [Nat.add_mul] at hmul
  have hrun := BK P (b := b) (off := n * sz) (t := t) us 0 w arr hb (by omega) hus.ones
  simp only [Nat.add_zero] at hrun
  have L : Am w G H (w.putObj b (.cells (setMany arr.toList (n * sz) us).toArray t (0, 0))) G (H.set id (.vec (n + k) sz (cs ++ new))) :=
   Am.put_own hrole (fun j hj => absurd hj (hS j)) (fun n sz e => by cases e) (fun n' sz' cs' e _ => by cases e; exact ⟨n, sz, cs, hid, .inl (by omega)⟩)
  refine ⟨_, hrun, R.put_own hrole L (fun _ => .vec _ sz _ (some ⟨b, 0, none⟩) cap hg hc (by rw [List.length_append, hl, hnl, Nat.add_mul]) (fun _ => ⟨b, _, t, rfl, hrole, DH hb, by simp [As]; omega, ?_, hS⟩)), L⟩
  have e1 : (cs ++ new).length = n * sz + us.length := by rw [List.length_append, hl, hnl, hul]
  rw [e1, List.toList_toArray, OS (by simp; omega)]
  rw [hl] at hr
  exact (hr.append hus).mono L
theorem TM {id n k sz cap : Nat} {t : TypeId} {cs new : List C} {vs us ex : List Value} (R : Rel w G H) (hid : H[id]? = some (.vec n sz cs)) (hc : n + k ≤ cap) (hk : 0 < k) (hvs : An w G H cs vs) (hus : An w G H new us) (hcl : cs.length = n * sz) (hnl : new.length = k * sz)
  (hex : ex.length = (cap - (n + k)) * sz) {arr : Array Value} (harr : arr.toList = vs ++ us ++ ex) :
  ∃ G', Rel (w.alloc (.cells arr t)) G' (H.set id (.vec (n + k) sz (cs ++ new))) ∧ Am w G H (w.alloc (.cells arr t)) G' (H.set id (.vec (n + k) sz (cs ++ new))) ∧
   Ap (w.alloc (.cells arr t)) G' (H.set id (.vec (n + k) sz (cs ++ new))) (.vs id (n + k)) (.slice (some ⟨w.heap.size, 0, none⟩) (n + k) cap) := by
 have hidlt : id < H.length := (List.getElem?_eq_some_iff.1 hid).1
 have hvl : vs.length = n * sz := by rw [← hvs.1, hcl]
 have hul : us.length = k * sz := by rw [← hus.1, hnl]
 have hmul : cap * sz = n * sz + k * sz + (cap - (n + k)) * sz := by
  rw [← Nat.add_mul, ← Nat.add_mul]; congr 1; omega
 have hal : arr.size = cap * sz := by
  have := congrArg List.length harr
  simp at this; omega
 let b := w.heap.size
 let G' : Gh := { G with g := upd G.g id (some ⟨b, 0, none⟩, cap), role := upd G.role b (some id) }
 have hnew : (w.alloc (.cells arr t)).heap[b]? = some (.cells arr t (0, 0)) := Bx w _
 have L : Am w G H (w.alloc (.cells arr t)) G' (H.set id (.vec (n + k) sz (cs ++ new))) :=
  {size := by simp
   S := fun b' j hS => ⟨hS, by
    obtain ⟨v, hv⟩ := R.sex b' j hS
    exact AQ (AU w _ (World.block_lt_of_cell? w _ hv)) j⟩
   Snew := fun _ _ _ _ h => h
   len := by simp
   rho := fun _ _ => rfl
   grow := fun id' n sz' hid' hh => by
    by_cases e : id = id'
    ·subst e
     simp [hidlt] at hh
    ·rw [List.getElem?_set_ne e] at hh
     exact ⟨n, hh, .inr ⟨rfl, AJ _ _ (Ne.symm e)⟩⟩
   vec := fun id' n' sz' cs' hid' hh => by
    by_cases e : id = id'
    ·subst e
     simp [hidlt] at hh
     exact ⟨n, sz, cs, hid, .inl (by omega)⟩
    ·rw [List.getElem?_set_ne e] at hh
     exact ⟨n', sz', cs', hh, .inr ⟨rfl, AJ _ _ (Ne.symm e)⟩⟩
   role := fun b' hb' => AJ _ _ (Nat.ne_of_lt hb')
   frame := fun b' hb' _ => AU w _ hb'
   os := rfl
   out := rfl }
 refine ⟨G', ⟨fun b' j hS => ?_, fun b' i hr => ?_, fun i x hx => ?_⟩, L, ?_⟩
 ·obtain ⟨v, hv⟩ := R.sex b' j hS
  exact ⟨v, ((L.S b' j hS).2).trans hv⟩
 ·simp only [World.size_alloc]
  by_cases e : b' = b
  ·rw [e]; exact Nat.lt_succ_self _
  ·have := R.roleLt b' i (by simpa [G', AJ _ _ e] using hr)
   omega
 ·by_cases e : id = i
  ·subst e
   simp [hidlt] at hx
   rw [← hx]
   refine .vec _ _ _ (some ⟨b, 0, none⟩) cap (Ao _ _ _) hc (by rw [List.length_append, hcl, hnl, Nat.add_mul]) (fun _ => ⟨b, arr, t, rfl, Ao _ _ _, hnew, by omega, ?_, fun o hS => R.noS_new o hS⟩)
   have e1 : (cs ++ new).length = (vs ++ us).length := by rw [List.length_append, List.length_append, hvs.1, hus.1]
   have e2 : arr.toList.take (cs ++ new).length = vs ++ us := by rw [harr, e1, List.take_left']; rfl
   rw [e2]
   exact (hvs.append hus).mono L
  ·rw [List.getElem?_set_ne e] at hx
   exact (R.ab i x hx).mono R L (List.getElem?_eq_some_iff.1 hx).1 (fun b' hb' => AU w _ (R.roleLt b' i hb')) (fun b' j hb' hS => hS) (AJ _ _ (Ne.symm e))
 ·refine .vs id (n + k) _ cap (by simpa using hidlt) ⟨hc, fun _ => ⟨_, rfl⟩⟩ (fun m sz' cs' hm => ?_)
  simp [hidlt] at hm
  exact ⟨by omega, fun _ => Ao _ _ _⟩
theorem Ec {id n sz cap : Nat} {cs : List C} {a : Option Addr} (R : Rel w G H) (hid : H[id]? = some (.vec n sz cs)) (ha : (G.g id).1 = a) :
  ∃ vs : List Value, (∀ w' : World, w'.heap = w.heap → (Builtin.firstCells sz n (.slice a n cap)).run P w' = .ok vs.toArray w') ∧ An w G H cs vs := by
 by_cases hne : 0 < cs.length
 ·obtain ⟨b, arr, t, cap', hg, hcap, hrole, hb, hsz, hr, hS, hl⟩ := Kg R hid hne
  rw [hg] at ha
  subst ha
  have hlen : cs.length ≤ arr.size := by have := hr.1; simp at this; omega
  refine ⟨arr.toList.take cs.length, fun w' hw => ?_, hr⟩
  have := run_loadCells_list (P := P) w' ⟨b, 0, none⟩ (arr.toList.take cs.length) (fun j v hj => by
   rw [Addr.add_lit, Nat.zero_add, AQ (w := w) (by rw [hw]), Cr hb]
   rw [List.getElem?_take] at hj
   split at hj
   ·exact hj
   ·cases hj)
  have hl2 : (arr.toList.take cs.length).length = n * sz := by rw [← hr.1]; exact hl
  rw [hl2] at this
  simpa [Builtin.firstCells] using this
 ·have hc0 : cs = [] := List.eq_nil_of_length_eq_zero (by omega)
  subst hc0
  have hz : n * sz = 0 := by
   cases R.ab id _ hid with
   | vec _ _ _ _ _ _ _ hl _ => simpa using hl.symm
  refine ⟨[], fun w' _ => ?_, An.nil⟩
  cases a with
  | none => simp [Builtin.firstCells]
  | some x => simp [Builtin.firstCells, hz, loadCells, loadCellsFrom]
theorem C5 (T : By P tt) {t t2 e : Nat} {i i2 i' : TI} (ht : tt t = some i) (hd : i.desc = .slice e) (ht2 : tt t2 = some i2) (hd2 : ∃ e', i2.desc = .slice e') (he : tt e = some i')
  {id n k cap : Nat} {cs new : List C} {a ax : Option Addr} {capx : Nat} {us : List Value} {ty : TypeId} (R : Rel w G H) (hid : H[id]? = some (.vec n i'.size cs)) (ha : (G.g id).1 = a) (hne : n ≠ 0 → ∃ x, a = some x) (hcapn : n ≤ cap) (hfit : n + k ≤ cap → G.g id = (a, cap))
  (hus1 : ∀ w' : World, w'.heap = w.heap → (Builtin.firstCells i'.size k (.slice ax k capx)).run P w' = .ok us.toArray w') (hus2 : An w G H new us) (hnl : new.length = k * i'.size)
  (hb : (n + k + (n + k) / 4 + 256) * i'.bytes ≤ 281474976710656) (hl : n + k ≤ lim) :
  Aj P (Builtin.append_ #[t, t2] ty #[.slice a n cap, .slice ax k capx]) w G H (.c (.vs id (n + k))) (H.set id (.vec (n + k) i'.size (cs ++ new))) := by
 obtain ⟨e', hd2⟩ := hd2
 have hidlt : id < H.length := (List.getElem?_eq_some_iff.1 hid).1
 obtain ⟨inf, hi1, hi2⟩ := T.run_bytes he w
 have hcl : cs.length = n * i'.size ∧ n ≤ (G.g id).2 := by
  cases R.ab id _ hid with
  | vec _ _ _ a' cap' hg' hcap' hl' _ => exact ⟨hl', by rw [hg']; exact hcap'⟩
 obtain ⟨hcl, hcap0⟩ := hcl
 by_cases hc : n + k ≤ cap
 ·have hg := hfit hc
  by_cases h0 : k = 0
  ·subst h0
   have hn0 : new = [] := List.eq_nil_of_length_eq_zero (by rw [hnl, Nat.zero_mul])
   subst hn0
   have hus0 : us = [] := by have := hus2.1; simpa using this.symm
   subst hus0
   have hset : H.set id (.vec (n + 0) i'.size (cs ++ [])) = H := by
    simp only [Nat.add_zero, List.append_nil]
    apply List.ext_getElem?
    intro j
    by_cases e : id = j
    ·subst e; simp [hidlt]; rw [List.getElem?_eq_getElem hidlt] at hid; exact (Option.some.inj hid).symm
    ·rw [List.getElem?_set_ne e]
   rw [hset]
   refine Aj.still R (v := .slice a n cap) ?_ (.c _ _ (.vs id n a cap hidlt ⟨hcapn, hne⟩ (fun m sz cs' hm => by rw [hid] at hm; cases hm; exact ⟨Nat.le_refl _, fun _ => hg⟩)))
   have := hus1 w rfl
   simp only [Nat.add_zero] at hc
   cases a <;> simp [Builtin.append_, T.run_at ht hd rfl, T.run_sizeOf he, T.run_at ht2 hd2 rfl, Builtin.lenOf, hc, this, storeCells]
  ·obtain ⟨b, rfl⟩ : ∃ b, a = some ⟨b, 0, none⟩ := by
    cases R.ab id _ hid with
    | vec _ _ _ a' cap' hg' hcap' hl' hh =>
     rw [hg] at hg'; cases hg'
     obtain ⟨b, _, _, e, _⟩ := hh (by omega)
     exact ⟨b, e⟩
   obtain ⟨w', h1, h2, h3⟩ := OT (P := P) R hid hg hc (by omega) hus2 hnl
   refine ⟨.slice (some ⟨b, 0, none⟩) (n + k) cap, w', G, ?_, .c _ _ (.vs id (n + k) _ cap (by simpa using hidlt) ⟨hc, fun _ => ⟨_, rfl⟩⟩ (fun m sz cs' hm => ?_)), h2, h3⟩
   ·simp [Builtin.append_, T.run_at ht hd rfl, T.run_sizeOf he, T.run_at ht2 hd2 rfl, Builtin.lenOf, hc, hus1 w rfl, Addr.add_lit, h1]
   ·simp [hidlt] at hm
    exact ⟨by omega, fun _ => hg⟩
 ·obtain ⟨vs, hvs1, hvs2⟩ := Ec (P := P) (cap := cap) R hid ha
  obtain ⟨z, hz0, _, hz2, hz3⟩ := T.run_zero he
  have hzs : z.cells.size = i'.size := by have := (BD (w := w) (G := G) (H := H) hz2).1; simp at this; omega
  have hnext : ¬ (Builtin.nextslicecap (n + k) cap * inf.bytes > 2 ^ 48) := by
   have := Fv (need := n + k) (cap := cap) (by omega)
   rw [hi2]
   have := Nat.mul_le_mul_right i'.bytes this
   omega
  have hint : ¬ (((n + k : Nat) : Int) > IntKind.i64.max ∧ (false = true ∨ inf.bytes = 0)) := by
   intro h
   have h1 := h.1
   have : IntKind.i64.max = 9223372036854775807 := by decide
   rw [this] at h1
   have : (lim : Nat) = 140737488355328 := rfl
   omega
  have hint' : ¬ (((n + k : Nat) : Int) > IntKind.i64.max ∧ (False ∨ inf.bytes = 0)) := fun h => hint ⟨h.1, by simpa using h.2⟩
  let q := Question.appendCap (n + k) cap e
  let newCap := q.cut (w.tape w.drawn q)
  have hnc : n + k ≤ newCap := by
   show _ ≤ (n + k) + _
   omega
  obtain ⟨R1, L1⟩ := Rel.of_heap (w := w) (w' := w.drew) rfl R
  let arr : Array Value := vs.toArray ++ us.toArray ++ Builtin.zeroCells z.cells (newCap - (n + k))
  have hzl : (Builtin.zeroCells z.cells (newCap - (n + k))).toList = zc z.cells.toList (newCap - (n + k)) := BE _ _
  obtain ⟨G', h2, h3, h4⟩ := TM (w := w.drew) (t := e) R1 hid hnc (by omega) (hvs2.mono L1) (hus2.mono L1) hcl hnl (ex := zc z.cells.toList (newCap - (n + k))) (by rw [CI]; simp [hzs]) (arr := arr) (by simp [arr, hzl])
  refine ⟨_, _, G', ?_, .c _ _ h4, h2, L1.trans h3⟩
  have hz0' := fun w' => hz0 w'
  have hi1' : ∀ w' : World, (typeInfo e).run P w' = .ok inf w' := fun w' => by
   have := hi1
   simp only [typeInfo, Sem.run_bind, run_program, Result.andThen_ok] at this ⊢
   cases hinf : P.info? e with
   | none => simp [hinf] at this
   | some x => simp [hinf] at this ⊢; exact this
  have hch : (choose (Question.appendCap (n + k) cap e)).run P w = .ok newCap w.drew := by
   rw [run_choose]; rfl
  simp only [Builtin.append_, List.getElem?_toArray, List.getElem?_cons_zero, List.getElem?_cons_succ, Sem.run_bind, T.run_at ht hd rfl, Result.andThen_ok, T.run_sizeOf he, T.run_at ht2 hd2 rfl, Builtin.lenOf, Sem.run_pure, Bool.false_eq_true, if_false, hc, hi1', if_neg hint', if_neg hnext, hch, run_askRoom, Bool.not_false, if_true, hvs1 w.drew rfl, hus1 w.drew rfl, hz0']
  simp only [newRow, Sem.run_bind, run_newObj, Result.andThen_ok, Sem.run_pure]
  rfl
theorem Ic {v : Value} (R : Rel w G H) (h : Ap w G H (.full []) v) (sz : Nat) :
  ∃ G' a, Rel w G' (H ++ [.vec 0 sz []]) ∧ Am w G H w G' (H ++ [.vec 0 sz []]) ∧ v = .slice a 0 0 ∧ G'.g H.length = (a, 0) := by
 cases h with
 | full _ a n hn h =>
  subst hn
  have L : Am w G H w (G.adopt H.length a 0) (H ++ [.vec 0 sz []]) :=
   {size := Nat.le_refl _
    S := fun _ _ h => ⟨h, rfl⟩
    Snew := fun _ _ _ _ h => h
    len := by simp
    rho := fun _ _ => rfl
    grow := fun id n sz' hid h => ⟨n, by rwa [List.getElem?_append_left hid] at h, .inr ⟨rfl, AJ _ _ (Nat.ne_of_lt hid)⟩⟩
    vec := fun id n sz' cs hid h => ⟨n, sz', cs, by rwa [List.getElem?_append_left hid] at h, .inr ⟨rfl, AJ _ _ (Nat.ne_of_lt hid)⟩⟩
    role := fun _ _ => rfl
    frame := fun _ _ _ => rfl
    os := rfl
    out := rfl }
  refine ⟨G.adopt H.length a 0, a, ⟨R.sex, R.roleLt, fun id x hx => ?_⟩, L, rfl, Ao _ _ _⟩
  by_cases e : id < H.length
  ·rw [List.getElem?_append_left e] at hx
   exact (R.ab id x hx).mono R L e (fun _ _ => rfl) (fun _ _ _ h => h) (AJ _ _ (Nat.ne_of_lt e))
  ·have : id = H.length := by
    have := (List.getElem?_eq_some_iff.1 hx).1
    simp at this
    omega
   subst this
   simp at hx
   rw [← hx]
   exact .vec _ _ _ a 0 (Ao _ _ _) (Nat.le_refl _) (by simp) (fun e => absurd rfl e)
def Fz (H : List AB) (sz : Nat) : C → Option (Nat × List C)
 | .vs id n => match H[id]? with
  | some (.vec m sz' cs) => if decide (m = n) && decide (sz' = sz) then some (n, cs) else none
  | _ => none
 | .ms id off len _ => match H[id]? with
  | some (.cells cs) => if off + len * sz ≤ cs.length then some (len, (cs.drop off).take (len * sz)) else none
  | _ => none
 | .fs n sz' cs => if sz' = sz then some (n, cs) else none
 | c => match CW c with
  | some rows => if rows.all (fun r => r.length == sz) then some (rows.length, rows.flatten.map .d) else none
  | none => none
theorem NJ {c : C} {sz k : Nat} {new : List C} {v : Value} (hz : 0 < sz) (R : Rel w G H) (h : Fz H sz c = some (k, new)) (hv : Ap w G H c v) :
  ∃ ax capx us, v = .slice ax k capx ∧ (∀ w' : World, w'.heap = w.heap → (Builtin.firstCells sz k (.slice ax k capx)).run P w' = .ok us.toArray w') ∧ An w G H new us ∧ new.length = k * sz := by
 have data : ∀ rows : List (List D), CW c = some rows → (if rows.all (fun r => r.length == sz) then some (rows.length, rows.flatten.map C.d) else none) = some (k, new) → ∃ ax capx us, v = .slice ax k capx ∧ (∀ w' : World, w'.heap = w.heap → (Builtin.firstCells sz k (.slice ax k capx)).run P w' = .ok us.toArray w') ∧ An w G H new us ∧ new.length = k * sz := by
  intro rows hr h
  split at h
  ·rename_i hall
   cases h
   have hu : ∀ r ∈ rows, r.length = sz := fun r hr => by simpa using List.all_eq_true.1 hall r hr
   obtain ⟨ax, capx, rfl, hD⟩ := Dp hr hv
   obtain ⟨us, h1, h2, _⟩ := Ea (P := P) (H := H) hD hu hz
   exact ⟨ax, capx, us, rfl, h1, h2, by rw [List.length_map, AS hu]⟩
  ·cases h
 cases c with
 | vs id n =>
  simp only [Fz] at h
  split at h
  ·rename_i m sz' cs hid
   split at h
   ·rename_i hc
    simp only [Bool.and_eq_true, decide_eq_true_eq] at hc
    obtain ⟨rfl, rfl⟩ := hc
    cases h
    cases hv with
    | vs _ _ a cap _ ha hg =>
     obtain ⟨us, h1, h2⟩ := Ec (P := P) (cap := cap) R hid (show (G.g id).1 = a by rw [(hg _ _ _ hid).2 rfl])
     refine ⟨a, cap, us, rfl, h1, h2, ?_⟩
     cases R.ab id _ hid with
     | vec _ _ _ _ _ _ _ hl _ => exact hl
   ·cases h
  ·cases h
 | ms id off len cap =>
  simp only [Fz] at h
  split at h
  ·rename_i cs hid
   split at h
   ·rename_i hle
    cases h
    cases hv with
    | ms _ _ _ _ hidl =>
     obtain ⟨arr, t, hb, hr⟩ := CQ R hid
     have hl := hr.1
     have hr' := (hr.drop off).take (k * sz)
     have hlen : ((arr.toList.drop off).take (k * sz)).length = k * sz := by rw [List.length_take, List.length_drop, ← hl]; omega
     refine ⟨_, cap, (arr.toList.drop off).take (k * sz), rfl, fun w' hw => ?_, hr', by rw [List.length_take, List.length_drop]; omega⟩
     have := run_loadCells_list (P := P) w' ⟨G.rho id, off, none⟩ ((arr.toList.drop off).take (k * sz)) (fun j v hj => by
      rw [Addr.add_lit, AQ (w := w) (by rw [hw]), Cr hb]
      rw [List.getElem?_take] at hj
      split at hj
      ·rwa [List.getElem?_drop] at hj
      ·cases hj)
     rw [hlen] at this
     simpa [Builtin.firstCells] using this
   ·cases h
  ·cases h
 | fs n sz' cs =>
  simp only [Fz] at h
  split at h
  ·rename_i e
   subst e
   cases h
   cases hv with
   | fs _ _ _ b o vs hl hn hcell hh =>
    refine ⟨_, _, vs, rfl, fun w' hw => ?_, ⟨hl, fun i x v hx hv => ⟨hh i x v hx hv, (hcell i v hv).2⟩⟩, hn⟩
    have := run_loadCells_list (P := P) w' ⟨b, o, none⟩ vs (fun j v hj => by
     rw [Addr.add_lit, AQ (w := w) (by rw [hw])]
     exact (hcell j v hj).1.2)
    rw [← hl, hn] at this
    simpa [Builtin.firstCells] using this
  ·cases h
 | d x => simp only [Fz] at h; split at h; exact data _ (by assumption) h; cases h
 | full x => simp only [Fz] at h; split at h; exact data _ (by assumption) h; cases h
 | own i x => simp only [Fz] at h; split at h; exact data _ (by assumption) h; cases h
 | _ => simp [Fz, CW] at h
theorem L7 {t : TypeId} {n sz : Nat} {cs : List C} {arr : Array Value} (R : Rel w G H) (hc : An w G H cs arr.toList) (hsz : cs.length = n * sz) :
  Aj P (do pure (.slice (some (← newRow t arr)) n n)) w G H (.c (.fs n sz cs)) H := by
 have L := Am.alloc_data R (.cells arr t) arr.size
 refine ⟨.slice (some ⟨w.heap.size, 0, none⟩) n n, w.alloc (.cells arr t), G.lay w.heap.size arr.size, ?_, ?_, R.alloc_data arr t, L⟩
 ·simp [newRow]
 ·refine .c _ _ (.fs n sz cs _ 0 arr.toList hc.1 hsz (fun j v hj => ⟨⟨.inr ⟨rfl, ?_⟩, ?_⟩, ?_⟩) (fun i x v hx hv => (hc.2 i x v hx hv).1.mono L))
  ·have := (List.getElem?_eq_some_iff.1 hj).1; simpa using this
  ·rw [Nat.zero_add, World.cell?_alloc_new]; simpa using hj
  ·have hlt : j < cs.length := by rw [hc.1]; exact (List.getElem?_eq_some_iff.1 hj).1
   exact (hc.2 j cs[j] v (by simp [hlt]) hj).2
theorem FJ (T : By P tt) {t n e : Nat} {i i' : TI} (ht : tt t = some i) (hd : i.desc = .slice e) (he : tt e = some i') {ps : Array (Nat × Value)} {qs : List (Nat × V)} {cs : List C}
  (R : Rel w G H) (hq : IN w G H qs ps.toList) (hf : C0 (fun k => some (k * i'.size, i'.size)) (zc i'.zero.cs n) qs = some cs) (h0 : 0 < n * i'.size) (hlim : n * i'.size ≤ 2 ^ 24) :
  Aj P (Instr.buildSlice t n ps) w G H (.c (.fs n i'.size cs)) H := by
 obtain ⟨z, hz, h1, h2, h3⟩ := T.run_zero he
 have hz2 := (BD (w := w) (G := G) (H := H) h2)
 have hzs : z.cells.size = i'.size := by have := hz2.1; simp at this; omega
 have hcl : cs.length = n * i'.size := by
  have hzl : (zc i'.zero.cs n).length = n * i'.size := by rw [CI, h3]
  have : ∀ (qs : List (Nat × V)) (c c' : List C), C0 (fun k => some (k * i'.size, i'.size)) c qs = some c' → c'.length = c.length := by
   intro qs
   induction qs with
   | nil => intro c c' h; simp [C0] at h; rw [h]
   | cons q qs ih =>
    intro c c' h
    obtain ⟨k, v⟩ := q
    simp only [C0] at h
    split at h
    ·rw [ih _ _ h, As]
    ·cases h
  rw [this _ _ _ hf, hzl]
 have hc0 : An w G H (zc i'.zero.cs n) ((Array.range (n * i'.size)).map (fun i => z.cells[i % z.cells.size]!)).toList := by
  rw [← hzs, BE]
  exact J8 hz2 n
 obtain ⟨arr', h4, h5, _⟩ := D8 hq hc0 hf
 obtain ⟨v, w', G', h6, h7⟩ := L7 (P := P) (t := e) (n := n) (sz := i'.size) R h5 hcl
 refine ⟨v, w', G', ?_, h7⟩
 have h0' : ¬ n * i'.size = 0 := by omega
 simp only [Instr.buildSlice, Sem.run_bind, T.run_at ht hd rfl, Result.andThen_ok, T.run_sizeOf he, gt_iff_lt, Nat.not_lt.2 hlim, if_false, h0', Sem.run_ite, hz, Sem.run_pure, h4]
 simpa using h6
def Rc : C → Option Nat
 | .vs _ n => some n
 | .vc _ n => some n
 | .fs n _ _ => some n
 | c => Q9 c
theorem OU {X : Tx} {t e : Nat} {i : TI} (ht : X.tt t = some i) (hd : i.desc = .slice e) {c : C} {n : Nat} {x : Value} {ty : TypeId} (R : Rel w G H) (hc : Rc c = some n) (hx : Ap w G H c x) :
  Aj X.P (Builtin.len_ #[t] ty #[x]) w G H (I n) H := by
 have key : ∀ a cap, x = .slice a n cap → Aj X.P (Builtin.len_ #[t] ty #[x]) w G H (I n) H := by
  rintro a cap rfl
  refine Aj.still R (v := .int .i64 n) ?_ (.c _ _ (.d _ _ (.int _ _)))
  simp [Builtin.len_, X.ok.run_at ht hd rfl, goInt]
 cases c with
 | vs id m => simp [Rc] at hc; subst hc; cases hx; exact key _ _ rfl
 | vc id m => simp [Rc] at hc; subst hc; cases hx; exact key _ _ rfl
 | fs m sz cs => simp [Rc] at hc; subst hc; cases hx; exact key _ _ rfl
 | _ => obtain ⟨a, cap, e⟩ := OL (by simpa only [Rc] using hc) hx; exact key a cap e
end
end Go.Abs
namespace Go.Abs
open Go
structure St where
 slots : List (Nat × V)
 heap : List AB
 marks : List Nat
def EM : List (Nat × V) → Nat → V → List (Nat × V)
 | [], j, x => [(j, x)]
 | (i, v) :: r, j, x => if i = j then (i, x) :: r else (i, v) :: EM r j x
theorem Bv : ∀ (l : List (Nat × V)) (j : Nat) (x : V) (k : Nat), Aw (EM l j x) k = if j = k then x else Aw l k
 | [], j, x, k => by simp [EM, Aw]
 | (i, v) :: r, j, x, k => by
  simp only [EM]
  by_cases h : i = j
  ·subst h
   simp only [if_true, Aw]
   by_cases h2 : i = k <;> simp [h2]
  ·simp only [h, if_false, Aw, Bv r j x k]
   by_cases h2 : i = k
   ·subst h2; simp [Ne.symm h]
   ·simp [h2]
def St.put (s : St) (dst : Option Nat) (x : V) (H : List AB) : St :=
 {slots := match dst with | some j => EM s.slots j x | none => s.slots, heap := H, marks := s.marks }
def SX : Value → V
 | .int k n => .c (.d (.int k n))
 | .bool b => .c (.d (.bool b))
 | .slice none 0 0 => .c (.full [])
 | .pointer none => .c .nilp
 | _ => .c .any
def evS (f : Nat → V) : Operand → V
 | .tmp t => f t
 | .const v => SX v
 | .func g => .c (.fn (.func g) [])
 | .global g => .c (.gp g)
def St.get (s : St) : Nat → V := Aw s.slots
def St.ev (s : St) : Operand → V := evS s.get
theorem TN {w : World} {G : Gh} {H : List AB} (v : Value) : Ag w G H (SX v) v := by
 unfold SX
 split
 ·exact .c _ _ (.d _ _ (.int _ _))
 ·exact .c _ _ (.d _ _ (.bool _))
 ·exact .c _ _ (.full [] none 0 rfl (.emp none 0))
 ·exact .c _ _ .nilp
 ·exact .c _ _ (.any _)
structure EF where
 w : World
 G : Gh
 H : List AB
def CX (G : Gh) (id : Nat) : Deferred := { target := .collected (G.rho id), args := #[] }
def aEZ (b : Nat) : Deferred := { target := .collected b, args := #[] }
structure Hid (bs : EF) (w : World) (G : Gh) (hs : List Nat) : Prop where
 nd : hs.Nodup
 at' : ∀ b, b ∈ hs → bs.w.heap.size ≤ b ∧ b < w.heap.size ∧ G.role b = none ∧ w.heap[b]? = some (.deferred (some []))
theorem Hid.nil (bs : EF) (w : World) (G : Gh) : Hid bs w G [] := ⟨.nil, fun b h => by simp at h⟩
theorem Hid.mono {bs : EF} {w w' : World} {G G' : Gh} {H H' : List AB} {hs : List Nat} (h : Hid bs w G hs) (L : Am w G H w' G' H') : Hid bs w' G' hs :=
 ⟨h.nd, fun b hb => by
  obtain ⟨h1, h2, h3, h4⟩ := h.at' b hb
  exact ⟨h1, Nat.lt_of_lt_of_le h2 L.size, (L.role b h2).trans h3, (L.frame b h2 h3).trans h4⟩⟩
structure AP (bs : EF) (nb nt : Nat) (w : World) (G : Gh) (s : St) (a : Act) : Prop where
 rel : Rel w G s.heap
 later : Am bs.w bs.G bs.H w G s.heap
 base : bs.H.length = nb
 size : a.tmps.size = nt
 slots : ∀ i, Ag w G s.heap (s.get i) (a.tmps.getD i undef)
 defers : ∃ hs, Hid bs w G hs ∧ a.defers = s.marks.map (CX G) ++ hs.map aEZ
 marks : ∀ id, id ∈ s.marks → id < s.heap.length
theorem AP.ev {bs : EF} {nb nt : Nat} {w : World} {G : Gh} {s : St} {a : Act} (h : AP bs nb nt w G s a) (x : Operand) : Ag w G s.heap (s.ev x) (a.eval x) := by
 cases x with
 | tmp t => exact h.slots t
 | const v => exact TN v
 | global g => exact .c _ _ (.gp g)
 | func f => exact .c _ _ (.fn _ [] #[] rfl (fun i x v h => by simp at h))
abbrev Wd (r : Option Nat) : Fence := { Fence.wide with round := r }
structure Cx where
 P : Program
 tt : Nat → Option TI
 r : Option Nat
 nb : Nat
 nt : Nat
def AWP (X : Cx) (c : Code) (Q : Exit → St → Prop) (s : St) : Prop :=
 ∀ (bs : EF) (w : World) (G : Gh) (a : Act), AP bs X.nb X.nt w G s a →
  c.wpIn (Wd X.r) 0 X.P (fun e a' w' => ∃ s' G', Q e s' ∧ AP bs X.nb X.nt w' G' s' a') a w
section
variable {X : Cx} {Q : Exit → St → Prop} {s : St}
theorem AWP.mono {c : Code} {Q' : Exit → St → Prop} (h : AWP X c Q s) (hq : ∀ e s, Q e s → Q' e s) : AWP X c Q' s :=
 fun bs w G a hR => wpIn_mono (h bs w G a hR) fun _ _ _ ⟨s', G', h1, h2⟩ => ⟨s', G', hq _ _ h1, h2⟩
def Ent (X : Cx) (s s' : St) : Prop := ∀ bs w G a, AP bs X.nb X.nt w G s a → ∃ G', AP bs X.nb X.nt w G' s' a
theorem AWP.ent {c : Code} {s' : St} (h : Ent X s s') (k : AWP X c Q s') : AWP X c Q s := fun bs w G a hR => by
 obtain ⟨G', hR'⟩ := h bs w G a hR
 exact k bs w G' a hR'
def DV (K : St → Prop) (Q : Exit → St → Prop) : Exit → St → Prop
 | .normal, s => K s
 | e, s => Q e s
theorem Ki (h : Q .normal s) : AWP X .skip Q s := fun _ _ G _ hR => wpIn_skip ⟨s, G, h, hR⟩
theorem Ie {l : Nat} (h : Q .normal s) : AWP X (.label l) Q s := fun _ _ G _ hR => wpIn_label ⟨s, G, h, hR⟩
theorem Hp {id : Nat} (h : Q (.exit id) s) : AWP X (.exit id) Q s := fun _ _ G _ hR => wpIn_exit ⟨s, G, h, hR⟩
theorem NK (h : Q .ret s) : AWP X .ret Q s := fun _ _ G _ hR => wpIn_ret ⟨s, G, h, hR⟩
theorem NL {x y : Code} (h : AWP X x (DV (AWP X y Q) Q) s) : AWP X (.seq x y) Q s := fun bs w G a hR => by
 refine wpIn_seq (wpIn_mono (h bs w G a hR) ?_)
 rintro e a' w' ⟨s', G', hq, hR'⟩
 cases e with
 | normal => exact hq bs w' G' a' hR'
 | _ => exact ⟨s', G', hq, hR'⟩
theorem Hq {c : Operand} {x y : Code} {t : Bool} (hc : s.ev c = .c (.d (.bool t))) (ht : t = true → AWP X x Q s) (hf : t = false → AWP X y Q s) : AWP X (.cond c x y) Q s := fun bs w G a hR => by
 have hv := hR.ev c
 rw [hc] at hv
 obtain ⟨b, hb⟩ : ∃ b, a.eval c = .bool b ∧ b = t := by
  cases hv with
  | c _ _ h =>
   cases h with
   | d _ _ h =>
    generalize hv : a.eval c = v at h
    cases h with
    | bool b => exact ⟨_, rfl, rfl⟩
 obtain ⟨hb, rfl⟩ := hb
 exact wpIn_cond_split hb (fun e => ht e bs w G a hR) (fun e => hf e bs w G a hR)
def GI (id : Nat) (Q : Exit → St → Prop) : Exit → St → Prop
 | .exit id', s => if id' = id then Q .normal s else Q (.exit id') s
 | e, s => Q e s
theorem If {id : Nat} {c : Code} (h : AWP X c (GI id Q) s) : AWP X (.block id c) Q s := fun bs w G a hR => by
 refine wpIn_block (wpIn_mono (h bs w G a hR) ?_)
 rintro e a' w' ⟨s', G', hq, hR'⟩
 cases e with
 | exit id' =>
  simp only [GI] at hq
  simp only [Exit.inBlock]
  split <;> rename_i he
  ·simp only [he, if_true] at hq; exact ⟨s', G', hq, hR'⟩
  ·simp only [he, if_false] at hq; exact ⟨s', G', hq, hR'⟩
 | _ => exact ⟨s', G', hq, hR'⟩
theorem CJ {P : Program} {b : Frame} {a : Act} {k : List Item} {cs : List Frame} {w : World} {c : Code} :
  step P (lone (b.atR a (.code (.scope c) :: k)) cs w) = .next (lone (b.atR a (.code c :: .inScope c :: k)) cs w) :=
 step_lone_go (by simp [stepG, stepG.exec, Frame.atR])
theorem Kj {P : Program} {b : Frame} {a : Act} {k : List Item} {cs : List Frame} {w : World} {c : Code} : step P (lone (b.atR a (.inScope c :: k)) cs w) = .next (lone (b.atR a k) cs w) :=
 step_lone_go (by simp [stepG, stepG.exec, Frame.atR])
def NM (Q : Exit → St → Prop) : Exit → St → Prop
 | .goto _, _ => False
 | e, s => Q e s
theorem Ig {c : Code} (h : AWP X c (NM Q) s) : AWP X (.scope c) Q s := fun bs w G a hR => by
 intro b k cs hro hb hr
 have h0 : (lone (b.atR a (.code (.scope c) :: k)) cs w).fenced X.P (Wd X.r) := fenced_calm hb hr rfl
 obtain ⟨e, a₁, w₁, ⟨s', G', hq, hR'⟩, harr⟩ := h bs w G a hR b (.inScope c :: k) cs hro hb hr
 cases e with
 | normal => exact ⟨.normal, a₁, w₁, ⟨s', G', hq, hR'⟩, .head h0 CJ (StepsIn.trans harr (.one (fenced_calm hb hr rfl) Kj))⟩
 | exit id' =>
  have hx : exitTo id' (.inScope c :: k) = exitTo id' k := by simp [exitTo]
  exact ⟨.exit id', a₁, w₁, ⟨s', G', hq, hR'⟩, fun k' hk => .head h0 CJ (harr.1 k' (by rw [hx]; exact hk)),
   fun hr' hk => let ⟨k₁, h1, h2⟩ := harr.2 hr' (by rw [hx]; exact hk); ⟨k₁, h1, .head h0 CJ h2⟩⟩
 | goto l => exact hq.elim
 | ret => exact ⟨_, a₁, w₁, ⟨s', G', hq, hR'⟩, .of_steps (.one h0 CJ) harr⟩
 | panic ch => exact ⟨_, a₁, w₁, ⟨s', G', hq, hR'⟩, .of_steps (.one h0 CJ) harr⟩
 | outgrown => exact ⟨_, a₁, w₁, ⟨s', G', hq, hR'⟩, .of_steps (.one h0 CJ) harr⟩
theorem L8 {F : Fence} {n : Nat} {P : Program} {Q : Exit → Act → World → Prop} {a : Act} {w : World} {c : Code} (J : Nat → Act → World → Prop) (m : Nat) (h₀ : J m a w)
  (round : ∀ m a w, J m a w → c.wpIn F n P (Exit.then (fun a' w' => ∃ k, k < m ∧ J k a' w') Q) a w) : (Code.loop c).wpIn F n P Q a w := by
 intro b k cs hro hb hr
 have key : ∀ j a w, J j a w →
   ∃ e a' w', Q e a' w' ∧ ArrivesIn (Machine.fenced P F) P (lone (b.atR a (.code c :: .inLoop c :: k)) cs w) b k cs e a' w' := by
  intro j
  induction j using Nat.strongRecOn with
  | _ j ih =>
   intro a w hI
   obtain ⟨e, a₁, w₁, hq, harr⟩ := round j a w hI b (.inLoop c :: k) cs hro hb hr
   cases e with
   | normal =>
    obtain ⟨j', hlt, hI₁⟩ := hq
    obtain ⟨e₂, a₂, w₂, hq₂, harr₂⟩ := ih j' hlt a₁ w₁ hI₁
    exact ⟨e₂, a₂, w₂, hq₂, .of_steps (StepsIn.trans harr (.one (fenced_calm hb hr rfl) stepR_inLoop)) harr₂⟩
   | exit id => exact ⟨_, a₁, w₁, hq, .pass (x := .inLoop c) rfl (fun _ _ => .inl (by simp)) harr⟩
   | goto l => exact ⟨_, a₁, w₁, hq, .pass (x := .inLoop c) rfl (fun _ _ => .inl (by simp)) harr⟩
   | ret => exact ⟨_, a₁, w₁, hq, .pass (x := .inLoop c) rfl (fun _ _ => .inl (by simp)) harr⟩
   | panic ch => exact ⟨_, a₁, w₁, hq, .pass (x := .inLoop c) rfl (fun _ _ => .inl (by simp)) harr⟩
   | outgrown => exact ⟨_, a₁, w₁, hq, .pass (x := .inLoop c) rfl (fun _ _ => .inl (by simp)) harr⟩
 obtain ⟨e, a', w', hq, harr⟩ := key m a w h₀
 exact ⟨e, a', w', hq, .of_steps (.one (fenced_calm hb hr rfl) stepR_loop) harr⟩
theorem Hr {c : Code} (I : Nat → St → Prop) (m : Nat) (h0 : I m s) (round : ∀ m s, I m s → AWP X c (DV (fun s' => ∃ k, k < m ∧ I k s') Q) s) : AWP X (.loop c) Q s := fun bs w G a hR => by
 refine L8 (fun m a w => ∃ s G, I m s ∧ AP bs X.nb X.nt w G s a) m ⟨s, G, h0, hR⟩ ?_
 rintro m a w ⟨s, G, hI, hR⟩
 refine wpIn_mono (round m s hI bs w G a hR) ?_
 rintro e a' w' ⟨s', G', hq, hR'⟩
 cases e with
 | normal => obtain ⟨k, hk, hI'⟩ := hq; exact ⟨k, hk, s', G', hI', hR'⟩
 | _ => exact ⟨s', G', hq, hR'⟩
theorem Ent.refl : Ent X s s := fun _ _ G _ h => ⟨G, h⟩
theorem Ent.trans {s s1 s2 : St} (a : Ent X s s1) (b : Ent X s1 s2) : Ent X s s2 := fun bs w G x h => by
 obtain ⟨G1, h1⟩ := a bs w G x h
 exact b bs w G1 x h1
end
def Ay (all : Array Oper) (g : Nat → V) (o : Oper) : Option Bool :=
 match o.guard with
 | none => some true
 | some (j, t) =>
  match (all[j]?).bind (·.dst) with
  | some d => match g d with
   | .c (.d (.bool b)) => some (b == t)
   | .tup [] => some false
   | _ => none
  | none => none
def CS (X : Cx) (all : Array Oper) : List Oper → (St → Prop) → St → Prop
 | [], Q, s => Q s
 | o :: os, Q, s =>
  match Ay all s.get o with
  | some true => AL X.P X.r o s.heap s.ev fun x H' => CS X all os Q (s.put o.dst x H')
  | some false => CS X all os Q (s.put o.dst (.tup []) s.heap)
  | none => False
theorem Ht {tm : Array Value} {d : Nat} {v : Value} (i : Nat) : (tm.setIfInBounds d v).getD i undef = if d = i ∧ d < tm.size then v else tm.getD i undef := by
 by_cases h : d = i
 ·subst h
  by_cases hd : d < tm.size
  ·simp [hd]
  ·simp [hd]
 ·simp [h]
theorem AP.put {bs : EF} {nb nt : Nat} {w w' : World} {G G' : Gh} {s : St} {a : Act} {dst : Option Nat} {x : V} {v : Value} {H' : List AB} (h : AP bs nb nt w G s a)
  (hx : Ag w' G' H' x v) (R : Rel w' G' H') (L : Am w G s.heap w' G' H') (hd : ∀ d, dst = some d → d < nt) : AP bs nb nt w' G' (s.put dst x H') (a.put dst v) where
 rel := R
 later := h.later.trans L
 base := h.base
 size := by cases dst <;> simp [Act.put, h.size]
 slots := fun i => by
  cases dst with
  | none => exact (h.slots i).mono L
  | some d =>
   have hd' := hd d rfl
   simp only [St.get, St.put, Bv, Act.put, Ht, h.size, hd', and_true]
   by_cases e : d = i
   ·simp only [e, if_true]; exact hx
   ·simp only [e, if_false]; exact (h.slots i).mono L
 defers := by
  have : (a.put dst v).defers = a.defers := by cases dst <;> rfl
  obtain ⟨hs, hh, e⟩ := h.defers
  refine ⟨hs, hh.mono L, ?_⟩
  rw [this, e]
  congr 1
  refine List.map_congr_left fun id hid => ?_
  simp only [CX, L.rho id (h.marks id hid)]
 marks := fun id hid => Nat.lt_of_lt_of_le (h.marks id hid) L.len
theorem Ct {bs : EF} {nb nt : Nat} {w : World} {G : Gh} {s : St} {a : Act} {all : Array Oper} {o : Oper} (h : AP bs nb nt w G s a) {t : Bool} (hg : Ay all s.get o = some t) :
  Region.wanted o (yielded all a.tmps) = t := by
 unfold Ay at hg
 unfold Region.wanted
 cases ho : o.guard with
 | none => simp only [ho] at hg; simpa using hg
 | some g =>
  obtain ⟨j, want⟩ := g
  simp only [ho] at hg
  cases hd : (all[j]?).bind (·.dst) with
  | none => simp [hd] at hg
  | some d =>
   simp only [hd] at hg
   have hv := h.slots d
   unfold yielded
   simp only [hd, Option.bind_some]
   split at hg
   ·rename_i b hb
    rw [hb] at hv
    have e : a.tmps[d]? = some (.bool b) := by
     cases hv with
     | c _ _ hv =>
      cases hv with
      | d _ _ hv =>
       generalize hu : a.tmps.getD d undef = u at hv
       cases hv with
       | bool =>
        cases he : a.tmps[d]? with
        | none => simp [Array.getD_eq_getD_getElem?, he, undef] at hu
        | some y => simp [Array.getD_eq_getD_getElem?, he] at hu; rw [hu]
    simp [e] at hg ⊢
    exact hg
   ·rename_i hb
    rw [hb] at hv
    simp at hg
    subst hg
    have e : a.tmps[d]?.getD undef = .tuple #[] := by
     generalize hu : a.tmps.getD d undef = u at hv
     cases hv with
     | tup _ arr hs _ =>
      rw [Array.getD_eq_getD_getElem?] at hu
      rw [hu]
      congr 1
      exact Array.eq_empty_of_size_eq_zero (by simpa using hs)
    cases he : a.tmps[d]? with
    | none => simp
    | some y => simp [he] at e; subst e; simp
   ·cases hg
section
variable {X : Cx} {s : St} {all : Array Oper}
theorem GJ (hall : ∀ (i : Nat) (o : Oper), all[i]? = some o → ∀ d, o.dst = some d → d < X.nt) {Q : Exit → St → Prop} : ∀ (os : List Oper) (k : Nat) (s : St) (bs : EF) (w : World) (G : Gh) (a : Act),
  (∀ j, os[j]? = all[k + j]?) → AP bs X.nb X.nt w G s a → CS X all os (Q .normal) s →
  wpOpsIn (Wd X.r) 0 X.P all (fun e a' w' => ∃ s' G', Q e s' ∧ AP bs X.nb X.nt w' G' s' a') (List.range' k os.length) a w
 | [], k, s, bs, w, G, a, _, hR, h => by simpa [wpOpsIn] using ⟨s, h, G, hR⟩
 | o :: os, k, s, bs, w, G, a, hl, hR, h => by
  have ho : all[k]? = some o := by simpa using (hl 0).symm
  have hl' : ∀ j, os[j]? = all[k + 1 + j]? := fun j => by have := hl (j + 1); simpa [Nat.add_assoc, Nat.add_comm 1 j] using this
  simp only [List.length_cons, List.range'_succ, wpOpsIn, ho]
  simp only [CS] at h
  cases hg : Ay all s.get o with
  | none => simp [hg] at h
  | some t =>
   rw [Ct hR hg]
   cases t with
   | true =>
    simp only [hg] at h
    simp only [if_true]
    refine h w G a _ _ hR.rel (fun x _ => hR.ev x) ?_
    intro v x H' G' w' hpo hv R L
    exact GJ hall os (k + 1) _ bs w' G' _ hl' (hR.put hv R L (hall k o ho)) hpo
   | false =>
    simp only [hg] at h
    simp only [Bool.false_eq_true, if_false]
    refine ⟨fun _ _ => trivial, ?_⟩
    exact GJ hall os (k + 1) _ bs w G _ hl' (hR.put (x := .tup []) (v := undef) (.tup [] #[] rfl (fun i x v h => by simp at h)) hR.rel (Am.refl _ _ _) (hall k o ho)) h
def C6 (nt : Nat) (ops : List Oper) : Bool := ops.all fun o => match o.dst with | some d => decide (d < nt) | none => true
theorem GK {id : Nat} {ops : Array Oper} {Q : Exit → St → Prop} (hd : C6 X.nt ops.toList = true) (h : CS X ops ops.toList (Q .normal) s) : AWP X (.region id ops false) Q s := fun bs w G a hR => by
 refine wpIn_region ?_
 have := GJ (X := X) (all := ops) (Q := Q) (fun i o ho d hod => by
  simp only [C6, List.all_eq_true] at hd
  have hm : o ∈ ops.toList := Array.mem_toList_iff.2 (Array.mem_of_getElem? ho)
  have := hd o hm
  simpa [hod] using this) ops.toList 0 s bs w G a (fun j => by simp) hR h
 simpa [List.range_eq_range'] using this
end
end Go.Abs
namespace Go.Abs
open Go
def aD5 (t : Bool) (a b : V) : V :=
 match a, b with
 | .c (.d (.bool x)), .c (.d (.bool y)) => B (bif t then x else y)
 | _, _ => if t then a else b
def E7 : List V → Option (List C)
 | [] => some []
 | .c x :: r => (E7 r).map (x :: ·)
 | _ => none
def Ed (E : Operand → V) (a : Option Operand) (n : Int) : Option Int :=
 match a with
 | some x => match E x with
  | .c (.d (.int _ m)) => some m
  | _ => none
 | none => some n
def OV : List AB → Nat → Option (List D)
 | [], _ => none
 | .gl g' ds :: r, g => if g' = g then some ds else OV r g
 | _ :: r, g => OV r g
theorem NN : ∀ {H : List AB} {g : Nat} {ds : List D}, OV H g = some ds → AB.gl g ds ∈ H
 | [], g, ds, h => by simp [OV] at h
 | x :: r, g, ds, h => by
  cases x with
  | gl g' ds' =>
   simp only [OV] at h
   split at h
   ·rename_i e; subst e; cases h; simp
   ·exact List.mem_cons_of_mem _ (NN h)
  | _ => exact List.mem_cons_of_mem _ (NN (by simpa [OV] using h))
theorem Vd {w : World} {G : Gh} {H : List AB} {g : Nat} {ds : List D} (R : Rel w G H) (h : OV H g = some ds) : Ap w G H (.dp ds) (.pointer (some ⟨g, 0, none⟩)) := by
 obtain ⟨id, hid⟩ := List.getElem?_of_mem (NN h)
 cases R.ab id _ hid with
 | gl _ _ f hc hr => exact .dp ds g 0 f (fun j hj => by simpa using hc j hj) hr
inductive VecK where
 | none
 | new
 | old (id n : Nat)
 | cut (id n : Nat)
def NO (vm : Bool) : C → VecK
 | .vs id n => .old id n
 | .vc id n => .cut id n
 | .full [] => match vm with | true => .new | false => .none
 | _ => .none
theorem OW {vm : Bool} {c : C} {id n : Nat} (h : NO vm c = .old id n) : c = .vs id n := by
 unfold NO at h
 split at h
 ·cases h; rfl
 ·cases h
 ·cases vm <;> cases h
 ·cases h
theorem OX {vm : Bool} {c : C} {id n : Nat} (h : NO vm c = .cut id n) : c = .vc id n := by
 unfold NO at h
 split at h
 ·cases h
 ·cases h; rfl
 ·cases vm <;> cases h
 ·cases h
theorem OY {vm : Bool} {c : C} (h : NO vm c = .new) : c = .full [] := by
 unfold NO at h
 split at h
 ·cases h
 ·cases h
 ·rfl
 ·cases h
def SY : Operand → Bool
 | .const (.slice none 0 0) => true
 | _ => false
def Mx : C → Bool
 | .ms _ _ _ _ => true
 | .d (.sl (_ :: _)) => true
 | .full (_ :: _) => true
 | .vs _ (_ + 1) => true
 | _ => false
def TO (X : Tx) (op : BinOp) (t : Nat) (x : V) (y : Operand) : Option V :=
 match x, SY y with
 | .c c, true => match X.tt t with
  | some i => match i.desc with
   | .slice _ => match Mx c, op with
    | true, .eql => some (B false)
    | true, .neq => some (B true)
    | _, _ => none
   | _ => none
  | none => none
 | _, _ => none
theorem TP {w : World} {G : Gh} {H : List AB} {c : C} {v : Value} (h : Mx c = true) (hr : Ap w G H c v) : ∃ x n cap, v = .slice (some x) n cap := by
 unfold Mx at h
 split at h
 ·cases hr; exact ⟨_, _, _, rfl⟩
 ·cases hr with
  | d _ _ hr => cases hr; exact ⟨_, _, _, rfl⟩
 ·cases hr with
  | full _ a n hn hr => cases hr; exact ⟨_, _, _, rfl⟩
 ·cases hr with
  | vs _ _ a cap hid ha hg =>
   obtain ⟨x, rfl⟩ := ha.2 (by omega)
   exact ⟨_, _, _, rfl⟩
 ·cases h
theorem Re {X : Tx} {w : World} {G : Gh} {H : List AB} {op : BinOp} {t : Nat} {x y : Operand} {p z : V} {v : Value} (R : Rel w G H) (hp : Ag w G H p v) (h : TO X op t p y = some z) :
  Aj X.P (do eqGuard op t x y v (.slice none 0 0); binOp op t v (.slice none 0 0)) w G H z H := by
 unfold TO at h
 split at h
 ·rename_i c hn
  split at h
  ·rename_i i hi
   split at h
   ·rename_i e hd
    have hu := X.ok.desc_at hi hd rfl
    cases hp with
    | c _ _ hp =>
     have key : ∀ b, Mx c = true → z = B b → (op = .eql ∧ b = false ∨ op = .neq ∧ b = true) → Aj X.P (do eqGuard op t x y v (.slice none 0 0); binOp op t v (.slice none 0 0)) w G H z H := fun b hs hz ho => by
      obtain ⟨a, n, cap, rfl⟩ := TP hs hp
      have he : (Op.equalIn 10000 t (.slice (some a) n cap) (.slice none 0 0)).run X.P w = .ok false w := by
       have key : ∀ d, (Op.equalIn (d + 1) t (.slice (some a) n cap) (.slice none 0 0)).run X.P w = .ok false w := fun d => by
        simp only [Op.equalIn, Sem.run_bind, Go.run_underlying hu, Result.andThen_ok, Sem.run_pure]
       exact key 9999
      have hg : (eqGuard op t x y (.slice (some a) n cap) (.slice none 0 0)).run X.P w = .ok () w := by
       rcases ho with ⟨rfl, _⟩ | ⟨rfl, _⟩ <;> simp [eqGuard]
      subst hz
      refine Aj.still R (v := .bool b) ?_ (.c _ _ (.d _ _ (.bool _)))
      rcases ho with ⟨rfl, rfl⟩ | ⟨rfl, rfl⟩ <;> simp [hg, binOp, Op.equal, Op.maxDepth, he]
     split at h
     ·rename_i hs; cases h; exact key false hs rfl (.inl ⟨rfl, rfl⟩)
     ·rename_i hs; cases h; exact key true hs rfl (.inr ⟨rfl, rfl⟩)
     ·cases h
   ·cases h
  ·cases h
 ·cases h
def op1 (X : Tx) (H : List AB) (E : Operand → V) (op : Op) : Option (Bool × V × List AB) :=
  match op with
  | .move x | .assign x => some (true, E x, H)
  | .pick c a b => match E c with
    | .c (.d (.bool t)) => some (true, aD5 t (E a) (E b), H)
    | _ => none
  | .alloc t => match X.tt t with
    | some i => some (true, .c (.ptr H.length 0), H ++ [.cells i.zero.cs])
    | none => none
  | .box _ x => some ((E x).solid, .c (.ptr H.length 0), H ++ [.cells (E x).cs])
  | .load t x => match X.tt t, E x with
    | some i, .c (.ptr id off) => match H[id]? with
      | some (.cells cs) => some (decide (off + i.size ≤ cs.length), mkV i cs off, H)
      | _ => none
    | some i, .c (.vp id n off) => match H[id]? with
      | some (.vec m _ cs) => some (decide (n = m) && decide (0 < i.size) && decide (off + i.size ≤ cs.length), mkV i cs off, H)
      | _ => none
    | some i, .c (.dp ds) => some (decide (i.size ≤ ds.length), mkV i (ds.map .d) 0, H)
    | some i, .c (.gp g) => match OV H g with
      | some ds => some (decide (i.size ≤ ds.length), mkV i (ds.map .d) 0, H)
      | none => none
    | _, _ => none
  | .store t a x => match X.tt t, E a with
    | some i, .c (.ptr id off) => match H[id]? with
      | some (.cells cs) => some ((E x).solid && decide ((E x).cs.length = i.size) && decide (off + i.size ≤ cs.length), .c .any, H.set id (.cells (setMany cs off (E x).cs)))
      | _ => none
    | some i, .c (.vp id n off) => match H[id]? with
      | some (.vec m sz cs) => some (decide (n = m) && decide (0 < i.size) && (E x).solid && decide ((E x).cs.length = i.size) && decide (off + i.size ≤ cs.length), .c .any, H.set id (.vec m sz (setMany cs off (E x).cs)))
      | _ => none
    | _, _ => none
  | .nilCheck x => match E x with
    | .c (.ptr id off) => some (true, .c (.ptr id off), H)
    | .c (.dp ds) => some (true, .c (.dp ds), H)
    | .c (.fn (.func f) cs) => some (true, .c (.fn (.func f) cs), H)
    | _ => none
  | .binOp op t x y _ => match aD3 X op t (E x) (E y) with
    | some (c, z) => some (c, z, H)
    | none => match TO X op t (E x) y with
      | some z => some (true, z, H)
      | none => none
  | .unOp u _ x => match u, E x with
    | .not, .c (.d (.bool b)) => some (true, B (!b), H)
    | .neg, .c (.d (.int k n)) => some (true, .c (.d (.int k (wr k (-n)))), H)
    | _, _ => none
  | .convert s t x => match X.tt s, X.tt t, E x with
    | some _, some j, .c (.d (.int _ n)) => match j.desc with
      | .int k => some (true, .c (.d (.int k (wr k n))), H)
      | _ => none
    | _, _, _ => none
  | .makeFunc f first caps => if first.isEmpty then match E7 (caps.toList.map E) with
    | some cs => some (true, .c (.fn f cs), H)
    | none => none
    else match first.toList.map E, caps.isEmpty with
    | [.c x], true => some (true, .c (.mv f x), H)
    | [.agg cs], true => some (true, .c (.ma f cs), H)
    | _, _ => none
  | .makeMap _ none => some (true, .c (.mp H.length), H ++ [.mp []])
  | .makeSlice t l c => match X.tt t, E l, E c with
    | some i, .c (.d (.int _ n)), .c (.d (.int _ m)) => match i.desc with
      | .slice e => match X.tt e with
        | some j => some (decide (0 ≤ n) && decide (n ≤ m) && decide ((j.bytes : Int) * m ≤ 140737488355328) && decide (m ≤ lim), .c (.ms H.length 0 n.toNat m.toNat), H ++ [.cells (zc j.zero.cs m.toNat)])
        | none => none
      | _ => none
    | _, _, _ => none
  | .fieldAddr t x f => match X.tt t with
    | some i => match i.desc with
      | .struct fs => match fs[f]? with
        | some fd => match X.tt fd.type, E x with
          | some j, .c (.ptr id off) => some (!(j.size == 0), .c (.ptr id (off + fd.offset)), H)
          | some j, .c (.dp ds) => some (!(j.size == 0), .c (.dp (ds.drop fd.offset)), H)
          | some j, .c (.vp id n off) => some (!(j.size == 0), .c (.vp id n (off + fd.offset)), H)
          | _, _ => none
        | none => none
      | _ => none
    | none => none
  | .field t x f => match X.tt t with
    | some i => match i.desc with
      | .struct fs => match fs[f]? with
        | some fd => match X.tt fd.type, E x with
          | some j, .agg cs => some (decide (fd.offset + j.size ≤ cs.length), mkV j cs fd.offset, H)
          | _, _ => none
        | none => none
      | _ => none
    | none => none
  | .indexAddr t x y => match X.tt t, E y with
    | some i, .c (.d (.int _ n)) => match i.desc with
      | .array len e => match X.tt e, E x with
        | some j, .c (.ptr id off) => some (decide (0 ≤ n) && decide (n < len), .c (.ptr id (off + n.toNat * j.size)), H)
        | some j, .c (.dp ds) => some (decide (0 ≤ n) && decide (n < len), .c (.dp (ds.drop (n.toNat * j.size))), H)
        | _, _ => none
      | .slice e => match X.tt e, E x with
        | some j, .c (.ms id off len _) => some (decide (0 ≤ n) && decide (n < len), .c (.ptr id (off + n.toNat * j.size)), H)
        | some j, .c (.vs id m) => some (decide (0 ≤ n) && decide (n < m), .c (.vp id m (n.toNat * j.size)), H)
        | some j, .c x => match CW x with
          | some rows => some (decide (0 ≤ n) && decide (n < rows.length) && decide ((rows[n.toNat]?.getD []).length = j.size), .c (.dp (rows[n.toNat]?.getD [])), H)
          | none => none
        | _, _ => none
      | _ => none
    | _, _ => none
  | .index t x y => match X.tt t, E y with
    | some i, .c (.d (.int _ n)) => match i.desc with
      | .array len e => match X.tt e, E x with
        | some j, .agg cs => some (decide (0 ≤ n) && decide (n < len) && decide (n.toNat * j.size + j.size ≤ cs.length), mkV j cs (n.toNat * j.size), H)
        | _, _ => none
      | _ => none
    | _, _ => none
  | .extract x n => match E x with
    | .tup vs => match vs[n]? with
      | some v => some (true, v, H)
      | none => none
    | _ => none
  | .build t parts => match X.tt t with
    | some i => match i.desc with
      | .struct fs => match C0 (J3 X.tt fs) i.zero.cs (parts.toList.map fun p => (p.1, E p.2)) with
        | some cs => some (fs.toList.all (fun f => (X.tt f.type).isSome), .agg cs, H)
        | none => none
      | .array _ e => match X.tt e with
        | some j => match C0 (fun k => some (k * j.size, j.size)) i.zero.cs (parts.toList.map fun p => (p.1, E p.2)) with
          | some cs => some (true, .agg cs, H)
          | none => none
        | none => none
      | _ => none
    | none => none
  | .buildSlice t n parts => match X.tt t with
    | some i => match i.desc with
      | .slice e => match X.tt e with
        | some j => match C0 (fun k => some (k * j.size, j.size)) (zc j.zero.cs n) (parts.toList.map fun p => (p.1, E p.2)) with
          | some cs => match DY cs with
            | some ds => some (decide (n * j.size ≤ 16777216) && decide (n ≤ lim), .c (.full (BC j.size n ds)), H)
            | none => some (decide (0 < n * j.size) && decide (n * j.size ≤ 16777216), .c (.fs n j.size cs), H)
          | none => none
        | none => none
      | _ => none
    | none => none
  | .slice t x lo hi mx => match X.tt t with
    | some i => match i.desc with
      | .array n e => match X.tt e, lo, hi, mx, E x with
        | some _, none, none, none, .c (.ptr id off) => some (true, .c (.ms id off n n), H)
        | some j, lo, hi, mx, .c (.ptr id off) => match Ed E lo 0, Ed E hi n, Ed E mx n with
          | some l, some h, some m => some (decide (0 ≤ l) && decide (l ≤ h) && decide (h ≤ m) && decide (m ≤ n) && (mx.isNone || hi.isSome), .c (J9 j.size id off l.toNat h.toNat m.toNat), H)
          | _, _, _ => none
        | _, _, _, _, _ => none
      | .slice e => match X.tt e, E x with
        | some j, .c (.ms id off len cap) => match Ed E lo 0, Ed E hi len, Ed E mx cap with
          | some l, some h, some m => some (decide (0 ≤ l) && decide (l ≤ h) && decide (h ≤ m) && decide (m ≤ cap) && (mx.isNone || hi.isSome), .c (J9 j.size id off l.toNat h.toNat m.toNat), H)
          | _, _, _ => none
        | some _, .c (.vs id n) => match Ed E lo 0, Ed E hi 0, Ed E mx 0 with
          | some l, some h, some m => some (decide (l = 0) && decide (h = n) && decide (m = n) && hi.isSome && mx.isSome, .c (.vc id n), H)
          | _, _, _ => none
        | some j, .c x => match CW x with
          | some rows =>
            match Ed E lo 0, Ed E hi rows.length with
            | some l, some h =>
              match mx with
              | none => some (decide (0 ≤ l) && decide (l ≤ h) && decide (h ≤ rows.length) && rows.all (fun r => r.length == j.size), .c (.d (.sl ((rows.take h.toNat).drop l.toNat))), H)
              | some b => match E b with
                | .c (.d (.int _ m)) => some (decide (0 ≤ l) && decide (l ≤ h) && decide (h ≤ rows.length) && decide (m = h) && hi.isSome && rows.all (fun r => r.length == j.size), .c (.full ((rows.take h.toNat).drop l.toNat)), H)
                | _ => none
            | _, _ => none
          | none => none
        | _, _ => none
      | _ => none
    | none => none
  | .lookup t m k ok => match X.tt t, E m with
    | some i, .c (.mp id) => match i.desc, H[id]? with
      | .map kt et, some (.mp es) => match X.tt et, Cj (E k) es 0 with
        | some j, some o => some (Dl X kt (E k), SW ok j o, H)
        | _, _ => none
      | _, _ => none
    | _, _ => none
  | .mapUpdate t m k x => match X.tt t, E m with
    | some i, .c (.mp id) => match i.desc, H[id]? with
      | .map kt _, some (.mp es) => match Cj (E k) es 0 with
        | some o => some (Dl X kt (E k), .c .any, H.set id (.mp (aFj (E k) (E x) es o)))
        | none => none
      | _, _ => none
    | _, _ => none
  | .call { callee := .builtin b, args := as, argTypes := ts } =>
    match b, ts.toList, as.toList.map E with
    | .len, [t], [x] => match X.tt t with
      | some i => match i.desc, x with
        | .slice _, .c c => match Rc c with
          | some n => some (true, I n, H)
          | none => none
        | .array n _, _ => some (true, I n, H)
        | .map _ _, .c (.mp id) => match H[id]? with
          | some (.mp es) => some (true, I es.length, H)
          | _ => none
        | _, _ => none
      | none => none
    | .min, _, vs => match E5 vs with
      | some (k, m :: l) => some (true, .c (.d (.int k (L4 m l))), H)
      | _ => none
    | .max, _, vs => match E5 vs with
      | some (k, m :: l) => some (true, .c (.d (.int k (Jz m l))), H)
      | _ => none
    | .append, [t, t2], [.c s, .c y] => match X.tt t, X.tt t2 with
      | some i, some i2 => match i.desc, i2.desc with
        | .slice e, .slice _ => match X.tt e with
          | some j => match NO X.vm s with
           | .old id n => match H[id]?, Fz H j.size y with
             | some (.vec m sz cs), some (k, new) => some (decide (m = n) && decide (sz = j.size) && decide (0 < j.size) && decide ((n + k + (n + k) / 4 + 256) * j.bytes ≤ 281474976710656) && decide (n + k ≤ lim), .c (.vs id (n + k)), H.set id (.vec (n + k) j.size (cs ++ new)))
             | _, _ => none
           | .cut id n => match H[id]?, Fz H j.size y with
             | some (.vec m sz cs), some (k, new) => some (decide (m = n) && decide (sz = j.size) && decide (0 < j.size) && decide (0 < k) && decide ((n + k + (n + k) / 4 + 256) * j.bytes ≤ 281474976710656) && decide (n + k ≤ lim), .c (.vs id (n + k)), H.set id (.vec (n + k) j.size (cs ++ new)))
             | _, _ => none
           | .new => match Fz H j.size y with
             | some (k, new) => some (decide (0 < j.size) && decide ((k + k / 4 + 256) * j.bytes ≤ 281474976710656) && decide (k ≤ lim), .c (.vs H.length k), H ++ [.vec k j.size new])
             | _ => none
           | .none => match C4 H j.size y with
           | some new =>
            match s with
            | .own id rows => match H[id]? with
              | some (.grow n sz) =>
                some (decide (n = rows.length) && decide (sz = j.size) && decide (0 < j.size) && rows.all (fun r => r.length == j.size) && new.all (fun r => r.length == j.size) && decide ((rows.length + new.length + (rows.length + new.length) / 4 + 256) * j.bytes ≤ 281474976710656) && decide (rows.length + new.length ≤ lim),
                  .c (.own id (rows ++ new)), H.set id (.grow (rows.length + new.length) j.size))
              | _ => none
            | .full rows =>
              some (decide (0 < j.size) && rows.all (fun r => r.length == j.size) && new.all (fun r => r.length == j.size) && decide ((rows.length + new.length + (rows.length + new.length) / 4 + 256) * j.bytes ≤ 281474976710656) && decide (rows.length + new.length ≤ lim),
                .c (.own H.length (rows ++ new)), H ++ [.grow (rows.length + new.length) j.size])
            | _ => none
           | none => none
          | none => none
        | _, _ => none
      | _, _ => none
    | .copy, [t, _], [.c (.ms id off len _), .c y] => match X.tt t, H[id]?, Q9 y with
      | some i, some (.cells cs), some m => match i.desc with
        | .slice e => match X.tt e with
          | some j => match DI H j.size (Nat.min m len) y with
            | some cs' => some (decide (0 < j.size) && decide (off + Nat.min m len * j.size ≤ cs.length) && decide (cs'.length = Nat.min m len * j.size), I (Nat.min m len), H.set id (.cells (setMany cs off cs')))
            | none => none
          | none => none
        | _ => none
      | _, _, _ => none
    | .delete, [t, _], [.c (.mp id), k] => match X.tt t, H[id]? with
      | some i, some (.mp es) => match i.desc with
        | .map kt _ => match Cj k es 0 with
          | some o => some (Dl X kt k, .tup [], H.set id (.mp (delE es o)))
          | none => none
        | _ => none
      | _, _ => none
    | .clear, [t], [.c (.ms id off len _)] => match X.tt t, H[id]? with
      | some i, some (.cells cs) => match i.desc with
        | .slice e => match X.tt e with
          | some j => some (decide (len ≠ 0) && decide (off + len * j.size ≤ cs.length), .tup [], H.set id (.cells (setMany cs off (zc j.zero.cs len))))
          | none => none
        | _ => none
      | _, _ => none
    | _, _, _ => none
  | _ => none
end Go.Abs
