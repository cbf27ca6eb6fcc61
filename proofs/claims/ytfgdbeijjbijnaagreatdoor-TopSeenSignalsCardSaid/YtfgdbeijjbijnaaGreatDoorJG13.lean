/- Maps whose entries' births are told: an entry is begun, or found, and written. -/
import Derived.Test.YtfgdbeijjbijnaaGreatDoorJG02
import Derived.Test.YtfgdbeijjbijnaaGreatDoorJG03
import Derived.Test.YtfgdbeijjbijnaaGreatDoorJG04
set_option linter.unusedSimpArgs false
set_option linter.unusedVariables false
namespace Go.Abs
open Go
section
variable {X : Tx} {w : World} {G : Gh} {H : List AB}
theorem In {id clock : Nat} {es : List (V × V × Nat)} (R : Rel w G H) (hid : H[id]? = some (.mpb es clock)) : ∃ rs, w.heap[G.rho id]? = some (.map rs clock) ∧ Cq w G H (mpE es) rs.toList ∧ rs.toList.map (·.born) = es.map (·.2.2) ∧ G.role (G.rho id) = some id := by
 cases R.ab id _ hid with
 | mpb _ _ rs hb hr hbn hro => exact ⟨rs, hb, hr, hbn, hro⟩
theorem Ge {id clock clock' : Nat} {es es' : List (V × V × Nat)} {rs rs' : Array MapEntry} (R : Rel w G H) (hid : H[id]? = some (.mpb es clock)) (hb : w.heap[G.rho id]? = some (.map rs clock)) (hr' : Cq w G H (mpE es') rs'.toList) (hbn : rs'.toList.map (·.born) = es'.map (·.2.2)) :
  Rel (w.putObj (G.rho id) (.map rs' clock')) G (H.set id (.mpb es' clock')) ∧ Am w G H (w.putObj (G.rho id) (.map rs' clock')) G (H.set id (.mpb es' clock')) := by
 obtain ⟨_, _, _, _, hrole⟩ := In R hid
 have hnc : ∀ j, w.cell? ⟨G.rho id, j, none⟩ = none := fun j => by simp [World.cell?, hb]
 have L : Am w G H (w.putObj (G.rho id) (.map rs' clock')) G (H.set id (.mpb es' clock')) :=
  Am.put_own hrole (fun j hj => by obtain ⟨v, hv⟩ := R.sex _ j hj; rw [hnc] at hv; cases hv) (fun n sz e => by cases e) (fun n sz cs e => by cases e)
 exact ⟨R.put_own hrole L (fun _ => .mpb _ clock' rs' (DH hb) (hr'.mono L) hbn hrole), L⟩
def Io : List (V × V × Nat) → Nat → Nat
 | [], _ => 0
 | e :: _, 0 => e.2.2
 | _ :: es, n + 1 => Io es n
def EQ (b : Int) : List (V × V × Nat) → Option Nat
 | [] => none
 | e :: es => match (e.2.2 : Int) == b with
  | true => some 0
  | false => match EQ b es with
   | some n => some (n + 1)
   | none => none
def CP (x : V) : List (V × V × Nat) → Nat → List (V × V × Nat)
 | [], _ => []
 | e :: es, 0 => (e.1, x, e.2.2) :: es
 | e :: es, n + 1 => e :: CP x es n
theorem MM : ∀ {es : List (V × V × Nat)} {rs : List MapEntry} {n : Nat} {r : MapEntry}, rs.map (·.born) = es.map (·.2.2) → rs[n]? = some r → r.born = Io es n
 | [], rs, n, r, h, hr => by simp at h; subst h; simp at hr
 | e :: es, [], n, r, h, hr => by simp at hr
 | e :: es, r0 :: rs, 0, r, h, hr => by (simp only [List.map_cons, List.cons.injEq] at h; simp only [List.getElem?_cons_zero, Option.some.injEq] at hr; subst hr; exact h.1)
 | e :: es, r0 :: rs, n + 1, r, h, hr => by
  simp at h hr
  show r.born = Io es n
  exact MM h.2 hr
theorem IX {b : Int} : ∀ {es : List (V × V × Nat)} {rs : List MapEntry} {n : Nat}, rs.map (·.born) = es.map (·.2.2) → EQ b es = some n → rs.findIdx? (fun e => (e.born : Int) == b) = some n
 | [], rs, n, h, hn => by simp [EQ] at hn
 | e :: es, [], n, h, hn => by simp at h
 | e :: es, r0 :: rs, n, h, hn => by
  simp only [List.map_cons, List.cons.injEq] at h
  simp only [EQ] at hn
  rw [List.findIdx?_cons, h.1]
  split at hn
  ·rename_i hb; cases hn; rw [hb]; rfl
  ·rename_i hb
   rw [hb]
   split at hn
   ·rename_i m hm
    cases hn
    rw [IX h.2 hm]; rfl
   ·cases hn
theorem FR {x : V} : ∀ {es : List (V × V × Nat)} {n : Nat}, (CP x es n).map (·.2.2) = es.map (·.2.2)
 | [], _ => rfl
 | _ :: _, 0 => rfl
 | e :: es, n + 1 => by simp [CP, FR (es := es) (n := n)]
theorem GS {x : V} : ∀ {es : List (V × V × Nat)} {n : Nat} {e : V × V}, (mpE es)[n]? = some e → mpE (CP x es n) = (mpE es).set n (e.1, x)
 | [], _, _, h => by simp [mpE] at h
 | e0 :: es, 0, e, h => by simp [mpE] at h; subst h; simp [mpE, CP]
 | e0 :: es, n + 1, e, h => by
  have := GS (x := x) (es := es) (n := n) (e := e) (by simpa [mpE] using h)
  simp only [mpE] at this ⊢
  simp only [CP, List.map_cons, List.set_cons_succ, this]
theorem KK {t kt et id clock : Nat} {i j : TI} {es : List (V × V × Nat)} {k : V} {o : Option (Nat × V)} {m v : Value} {ok : Bool} (ht : X.tt t = some i) (hd : i.desc = .map kt et) (he : X.tt et = some j) (R : Rel w G H) (hid : H[id]? = some (.mpb es clock))
  (hk : Dl X kt k = true) (hf : Cj k (mpE es) 0 = some o) (hm : Ag w G H (.c (.mp id)) m) (hv : Ag w G H k v) :
  Aj X.P (Instr.lookup t m v ok) w G H (SW ok j o) H := by
 obtain ⟨rs, hb, hr, _, _⟩ := In R hid
 have em : m = .map (some (G.rho id)) := by cases hm with | c _ _ h => cases h; rfl
 subst em
 have hg : (getObj (G.rho id)).run X.P w = .ok (.map rs clock) w := by simp [getObj, Sem.run, hb]
 obtain ⟨o', h1, h2⟩ := CD hk hv hr hf
 have hc := Cm (w := w) rs.isEmpty hk hv
 obtain ⟨z, hz, hz1, _⟩ := X.ok.run_zero he
 have fin : ∀ (y : V) (u : Value) (f : Bool), Ag w G H y u → Ag w G H (if ok then .tup [y, B f] else y) (if ok then .tuple #[u, .bool f] else u) := fun y u f h => by
  cases ok with
  | false => simpa using h
  | true =>
   simp only [if_true]
   refine .tup _ _ rfl (fun i x q hx hq => ?_)
   match i with
   | 0 => simp at hx hq; subst hx; subst hq; exact h
   | 1 => simp at hx hq; subst hx; subst hq; exact .c _ _ (.d _ _ (.bool _))
   | i + 2 => simp at hx
 cases o with
 | none =>
  cases o' with
  | none =>
   refine Aj.still R (v := if ok then .tuple #[z, .bool false] else z) ?_ (fin j.zero z false (F5 hz1))
   simp [Instr.lookup, X.ok.run_at ht hd rfl, hg, hc, h1, hz]
  | some p => exact h2.elim
 | some p =>
  cases o' with
  | none => exact h2.elim
  | some p' =>
   obtain ⟨n, y⟩ := p
   obtain ⟨n', u⟩ := p'
   refine Aj.still R (v := if ok then .tuple #[u, .bool true] else u) ?_ (fin y u true h2.2)
   simp [Instr.lookup, X.ok.run_at ht hd rfl, hg, hc, h1]
theorem Pl {w' : World} {G' : Gh} {H' : List AB} {y : V} {u : Value} {n : Nat} (h : Ag w' G' H' y u) : Ag w' G' H' (.tup [y, I (n : Int)]) (.tuple #[u, goInt n]) := by
 refine .tup _ _ rfl (fun i x q hx hq => ?_)
 match i with
 | 0 => simp at hx hq; subst hx; subst hq; exact h
 | 1 => simp at hx hq; subst hx; subst hq; exact .c _ _ (.d _ _ (.int _ _))
 | i + 2 => simp at hx
def entV (es : List (V × V × Nat)) (clock : Nat) (z : V) : Option (Nat × V) → V
 | some (n, y) => .tup [y, I ((Io es n : Nat) : Int)]
 | none => .tup [z, I (clock : Int)]
def entH (H : List AB) (id : Nat) (es : List (V × V × Nat)) (clock : Nat) (k z : V) : Option (Nat × V) → List AB
 | some _ => H
 | none => H.set id (.mpb (es ++ [(k, z, clock)]) (clock + 1))
theorem Ip {t kt et id clock : Nat} {i j : TI} {es : List (V × V × Nat)} {k : V} {o : Option (Nat × V)} {m v : Value} (ht : X.tt t = some i) (hd : i.desc = .map kt et) (he : X.tt et = some j) (R : Rel w G H) (hid : H[id]? = some (.mpb es clock))
  (hk : Dl X kt k = true) (hf : Cj k (mpE es) 0 = some o) (hm : Ag w G H (.c (.mp id)) m) (hv : Ag w G H k v) :
  Aj X.P (Instr.mapEntry t m v) w G H (entV es clock j.zero o) (entH H id es clock k j.zero o) := by
 obtain ⟨rs, hb, hr, hbn, hro⟩ := In R hid
 have em : m = .map (some (G.rho id)) := by cases hm with | c _ _ h => cases h; rfl
 subst em
 have hg : (getObj (G.rho id)).run X.P w = .ok (.map rs clock) w := by simp [getObj, Sem.run, hb]
 obtain ⟨o', h1, h2⟩ := CD hk hv hr hf
 have hc := Cm (w := w) false hk hv
 cases o with
 | none =>
  cases o' with
  | some p => exact h2.elim
  | none =>
   obtain ⟨z, hz, hz1, _⟩ := X.ok.run_zero he
   have hre : Cq w G H (mpE (es ++ [(k, j.zero, clock)])) (rs.push { key := v, val := z, born := clock }).toList := by
    rw [Array.toList_push]
    have e0 : mpE (es ++ [(k, j.zero, clock)]) = mpE es ++ [(k, j.zero)] := by simp [mpE]
    rw [e0]
    refine ⟨by simp [hr.1], fun q a b ha hb => ?_⟩
    by_cases hj : q < (mpE es).length
    ·rw [List.getElem?_append_left hj] at ha
     rw [List.getElem?_append_left (by rw [← hr.1]; exact hj)] at hb
     exact hr.2 q a b ha hb
    ·rw [List.getElem?_append_right (by omega)] at ha
     rw [List.getElem?_append_right (by rw [← hr.1]; omega), ← hr.1] at hb
     cases hjj : q - (mpE es).length with
     | zero => rw [hjj] at ha hb; simp at ha hb; subst ha; subst hb; exact ⟨hv, F5 hz1⟩
     | succ q => rw [hjj] at ha; simp at ha
   obtain ⟨R', L'⟩ := Ge (clock' := clock + 1) (es' := es ++ [(k, j.zero, clock)]) (rs' := rs.push { key := v, val := z, born := clock }) R hid hb hre (by rw [Array.toList_push]; simp [hbn])
   refine ⟨.tuple #[z, goInt clock], _, G, ?_, Pl (F5 hz1), R', L'⟩
   simp [Instr.mapEntry, X.ok.run_at ht hd rfl, hg, hc, h1, hz, BL hb]
 | some p =>
  cases o' with
  | none => exact h2.elim
  | some p' =>
   obtain ⟨n, y⟩ := p
   obtain ⟨n', u⟩ := p'
   obtain ⟨rfl, h2⟩ := h2
   obtain ⟨_, e, he1, he2, _⟩ := E6 hf
   rw [Nat.sub_zero] at he1
   have hlt : n < rs.toList.length := by rw [← hr.1]; exact (List.getElem?_eq_some_iff.1 he1).1
   have hrn : rs.toList[n]? = some rs.toList[n] := List.getElem?_eq_getElem hlt
   have hke := (hr.2 n e _ he1 hrn).1
   obtain ⟨hs1, hs2⟩ := GH he2 hv hke
   have hra : rs[n]? = some rs.toList[n] := by rw [← Array.getElem?_toList]; exact hrn
   have hst : (Instr.keyThatStays (((rs[n]?).map (·.key)).getD v) v).run X.P w = .ok v w := by
    rw [hra]
    simp only [Option.map_some, Option.getD_some, Instr.keyThatStays]
    rw [hs1]
    rw [hs1] at hs2
    simp [hs2]
   have hmod : (rs.modify n fun e => { e with key := v }) = rs := by
    apply Array.ext_getElem?
    intro q
    rw [Array.getElem?_modify]
    split
    ·rename_i e
     subst e
     rw [hra]
     simp only [Option.map_some]
     rw [← hs1]
    ·rfl
   have hself : w.putObj (G.rho id) (.map rs clock) = w := J0 hb
   have hbo : (Option.map (fun x : MapEntry => (x.born : Int)) rs[n]?).getD 0 = ((Io es n : Nat) : Int) := by rw [hra]; simp only [Option.map_some, Option.getD_some]; rw [MM hbn hrn]
   refine ⟨.tuple #[u, goInt (Io es n)], w, G, ?_, Pl h2, R, Am.refl _ _ _⟩
   simp [Instr.mapEntry, X.ok.run_at ht hd rfl, hg, hc, h1, hst, hmod, BL hb, hself, hbo]
theorem Iq {t id clock n : Nat} {es : List (V × V × Nat)} {b : Int} {x : V} {m sv u : Value} (R : Rel w G H) (hid : H[id]? = some (.mpb es clock)) (hn : EQ b es = some n) (hm : Ag w G H (.c (.mp id)) m) (hs : Ag w G H (I b) sv) (hx : Ag w G H x u) :
  ∃ w' G', (Instr.entryStore t m sv u).run X.P w = .ok () w' ∧ Rel w' G' (H.set id (.mpb (CP x es n) clock)) ∧ Am w G H w' G' (H.set id (.mpb (CP x es n) clock)) := by
 obtain ⟨rs, hb, hr, hbn, hro⟩ := In R hid
 have em : m = .map (some (G.rho id)) := by cases hm with | c _ _ h => cases h; rfl
 subst em
 have es0 : sv = .int .i64 b := by cases hs with | c _ _ h => cases h with | d _ _ h => cases h; rfl
 subst es0
 have hg : (getObj (G.rho id)).run X.P w = .ok (.map rs clock) w := by simp [getObj, Sem.run, hb]
 have hfi := IX hbn hn
 have hfa : rs.findIdx? (fun e => (e.born : Int) == b) = some n := by
  have e : rs = rs.toList.toArray := by simp
  rw [e, List.findIdx?_toArray]; exact hfi
 have hlt : n < rs.toList.length := (List.findIdx?_eq_some_iff_getElem.1 hfi).1
 have hltE : n < (mpE es).length := by rw [hr.1]; exact hlt
 have hen : (mpE es)[n]? = some (mpE es)[n] := List.getElem?_eq_getElem hltE
 have hrn : rs.toList[n]? = some rs.toList[n] := List.getElem?_eq_getElem hlt
 have hre : Cq w G H (mpE (CP x es n)) (rs.modify n fun e => { e with val := u }).toList := by
  rw [Array.toList_modify, GS hen]
  refine ⟨by simp [hr.1], fun q a c ha hc => ?_⟩
  rw [List.getElem?_modify] at hc
  by_cases hq : n = q
  ·subst hq
   rw [List.getElem?_set_self hltE] at ha
   rw [hrn] at hc
   simp at ha hc
   subst ha; subst hc
   exact ⟨(hr.2 n _ _ hen hrn).1, hx⟩
  ·rw [List.getElem?_set_ne hq] at ha
   exact hr.2 q a c ha (by simpa [hq] using hc)
 have hbn' : (rs.modify n fun e => { e with val := u }).toList.map (·.born) = (CP x es n).map (·.2.2) := by
  rw [FR, ← hbn, Array.toList_modify]
  refine List.ext_getElem? fun q => ?_
  rw [List.getElem?_map, List.getElem?_map, List.getElem?_modify]
  cases rs.toList[q]? with
  | none => split <;> rfl
  | some r => split <;> rfl
 obtain ⟨R', L'⟩ := Ge (clock' := clock) (es' := CP x es n) (rs' := rs.modify n fun e => { e with val := u }) R hid hb hre hbn'
 refine ⟨_, G, ?_, R', L'⟩
 simp [Instr.entryStore, hg, asInt, asIntOf, hfa, BL hb]
def aFw (k x : V) (es : List (V × V × Nat)) (clock : Nat) : Option (Nat × V) → AB
 | some (n, _) => .mpb (CP x es n) clock
 | none => .mpb (es ++ [(k, x, clock)]) (clock + 1)
theorem JG {t kt et id clock : Nat} {i : TI} {es : List (V × V × Nat)} {k x : V} {o : Option (Nat × V)} {m v u : Value} (ht : X.tt t = some i) (hd : i.desc = .map kt et) (R : Rel w G H) (hid : H[id]? = some (.mpb es clock))
  (hk : Dl X kt k = true) (hf : Cj k (mpE es) 0 = some o) (hm : Ag w G H (.c (.mp id)) m) (hv : Ag w G H k v) (hx : Ag w G H x u) :
  ∃ w' G', (Instr.mapUpdate t m v u).run X.P w = .ok () w' ∧ Rel w' G' (H.set id (aFw k x es clock o)) ∧ Am w G H w' G' (H.set id (aFw k x es clock o)) := by
 obtain ⟨rs, hb, hr, hbn, hro⟩ := In R hid
 have em : m = .map (some (G.rho id)) := by cases hm with | c _ _ h => cases h; rfl
 subst em
 have hg : (getObj (G.rho id)).run X.P w = .ok (.map rs clock) w := by simp [getObj, Sem.run, hb]
 obtain ⟨o', h1, h2⟩ := CD hk hv hr hf
 have hc := Cm (w := w) false hk hv
 cases o with
 | none =>
  cases o' with
  | some p => exact h2.elim
  | none =>
   have hre : Cq w G H (mpE (es ++ [(k, x, clock)])) (rs.push { key := v, val := u, born := clock }).toList := by
    rw [Array.toList_push]
    have e0 : mpE (es ++ [(k, x, clock)]) = mpE es ++ [(k, x)] := by simp [mpE]
    rw [e0]
    refine ⟨by simp [hr.1], fun q a b ha hb => ?_⟩
    by_cases hj : q < (mpE es).length
    ·rw [List.getElem?_append_left hj] at ha
     rw [List.getElem?_append_left (by rw [← hr.1]; exact hj)] at hb
     exact hr.2 q a b ha hb
    ·rw [List.getElem?_append_right (by omega)] at ha
     rw [List.getElem?_append_right (by rw [← hr.1]; omega), ← hr.1] at hb
     cases hjj : q - (mpE es).length with
     | zero => rw [hjj] at ha hb; simp at ha hb; subst ha; subst hb; exact ⟨hv, hx⟩
     | succ q => rw [hjj] at ha; simp at ha
   obtain ⟨R', L'⟩ := Ge (clock' := clock + 1) (es' := es ++ [(k, x, clock)]) (rs' := rs.push { key := v, val := u, born := clock }) R hid hb hre (by rw [Array.toList_push]; simp [hbn])
   refine ⟨_, G, ?_, R', L'⟩
   simp [Instr.mapUpdate, X.ok.run_at ht hd rfl, hg, hc, h1, BL hb]
 | some p =>
  cases o' with
  | none => exact h2.elim
  | some p' =>
   obtain ⟨n, y⟩ := p
   obtain ⟨n', u'⟩ := p'
   obtain ⟨rfl, h2⟩ := h2
   obtain ⟨_, e, he1, he2, _⟩ := E6 hf
   rw [Nat.sub_zero] at he1
   have hlt : n < rs.toList.length := by rw [← hr.1]; exact (List.getElem?_eq_some_iff.1 he1).1
   have hrn : rs.toList[n]? = some rs.toList[n] := List.getElem?_eq_getElem hlt
   have hke := (hr.2 n e _ he1 hrn).1
   obtain ⟨hs1, hs2⟩ := GH he2 hv hke
   have hra : rs[n]? = some rs.toList[n] := by rw [← Array.getElem?_toList]; exact hrn
   have hst : (Instr.keyThatStays (((rs[n]?).map (·.key)).getD v) v).run X.P w = .ok v w := by
    rw [hra]
    simp only [Option.map_some, Option.getD_some, Instr.keyThatStays]
    rw [hs1]
    rw [hs1] at hs2
    simp [hs2]
   have hltE : n < (mpE es).length := by rw [hr.1]; exact hlt
   have hre : Cq w G H (mpE (CP x es n)) (rs.modify n fun e => { e with key := v, val := u }).toList := by
    rw [Array.toList_modify, GS he1]
    refine ⟨by simp [hr.1], fun q a c ha hc => ?_⟩
    rw [List.getElem?_modify] at hc
    by_cases hq : n = q
    ·subst hq
     rw [List.getElem?_set_self hltE] at ha
     rw [hrn] at hc
     simp at ha hc
     subst ha; subst hc
     rw [hs1] at hke
     exact ⟨hke, hx⟩
    ·rw [List.getElem?_set_ne hq] at ha
     exact hr.2 q a c ha (by simpa [hq] using hc)
   have hbn' : (rs.modify n fun e => { e with key := v, val := u }).toList.map (·.born) = (CP x es n).map (·.2.2) := by
    rw [FR, ← hbn, Array.toList_modify]
    refine List.ext_getElem? fun q => ?_
    rw [List.getElem?_map, List.getElem?_map, List.getElem?_modify]
    cases rs.toList[q]? with
    | none => split <;> rfl
    | some r => split <;> rfl
   obtain ⟨R', L'⟩ := Ge (clock' := clock) (es' := CP x es n) (rs' := rs.modify n fun e => { e with key := v, val := u }) R hid hb hre hbn'
   refine ⟨_, G, ?_, R', L'⟩
   simp [Instr.mapUpdate, X.ok.run_at ht hd rfl, hg, hc, h1, hst, BL hb]
theorem Gf {α β : Type} (f : α → β) : ∀ (l : List α) (n : Nat), (l.eraseIdx n).map f = (l.map f).eraseIdx n
 | [], _ => rfl
 | _ :: _, 0 => rfl
 | a :: l, n + 1 => by simp [Gf f l n]
def delB (es : List (V × V × Nat)) : Option (Nat × V) → List (V × V × Nat)
 | some (n, _) => es.eraseIdx n
 | none => es
theorem N7 {t kt et id clock : Nat} {i : TI} {es : List (V × V × Nat)} {k : V} {o : Option (Nat × V)} {m v : Value} {ty : TypeId} {ts : Array TypeId} (ht : X.tt t = some i) (hd : i.desc = .map kt et) (h0 : ts[0]? = some t) (R : Rel w G H) (hid : H[id]? = some (.mpb es clock))
  (hk : Dl X kt k = true) (hf : Cj k (mpE es) 0 = some o) (hm : Ag w G H (.c (.mp id)) m) (hv : Ag w G H k v) :
  Aj X.P (Builtin.delete_ ts ty #[m, v]) w G H (.tup []) (H.set id (.mpb (delB es o) clock)) := by
 obtain ⟨rs, hb, hr, hbn, hro⟩ := In R hid
 have em : m = .map (some (G.rho id)) := by cases hm with | c _ _ h => cases h; rfl
 subst em
 have hg : (getObj (G.rho id)).run X.P w = .ok (.map rs clock) w := by simp [getObj, Sem.run, hb]
 obtain ⟨o', h1, h2⟩ := CD hk hv hr hf
 have hc := Cm (w := w) rs.isEmpty hk hv
 have tupR : ∀ (w' : World) (G' : Gh) (H' : List AB), Ag w' G' H' (.tup []) (.tuple #[]) := fun w' G' H' => .tup [] #[] rfl (fun i x v h => by simp at h)
 cases o with
 | none =>
  cases o' with
  | none =>
   obtain ⟨R', L'⟩ := Ge (rs' := rs) (clock' := clock) (es' := es) R hid hb hr hbn
   refine ⟨.tuple #[], _, G, ?_, tupR _ _ _, R', L'⟩
   simp [Builtin.delete_, h0, X.ok.run_at ht hd rfl, hg, hc, h1, BL hb]
  | some p => exact h2.elim
 | some p =>
  cases o' with
  | none => exact h2.elim
  | some p' =>
   obtain ⟨n, y⟩ := p
   obtain ⟨n', u⟩ := p'
   obtain ⟨rfl, h2⟩ := h2
   have e : (rs.eraseIdxIfInBounds n).toList = rs.toList.eraseIdx n := by
    unfold Array.eraseIdxIfInBounds
    split
    ·simp [Array.toList_eraseIdx]
    ·rename_i hh; rw [List.eraseIdx_of_length_le (by simpa using hh)]
   have hre : Cq w G H (mpE (es.eraseIdx n)) (rs.eraseIdxIfInBounds n).toList := by
    rw [e, show mpE (es.eraseIdx n) = (mpE es).eraseIdx n from Gf _ _ _]
    refine ⟨?_, fun j a b ha hb => ?_⟩
    ·have := hr.1; rw [List.length_eraseIdx, List.length_eraseIdx, this]
    ·rw [List.getElem?_eraseIdx] at ha hb
     split at ha
     ·rename_i hjn; rw [if_pos hjn] at hb; exact hr.2 j a b ha hb
     ·rename_i hjn; rw [if_neg hjn] at hb; exact hr.2 (j + 1) a b ha hb
   obtain ⟨R', L'⟩ := Ge (rs' := rs.eraseIdxIfInBounds n) (clock' := clock) (es' := es.eraseIdx n) R hid hb hre (by rw [e, Gf, Gf, hbn])
   refine ⟨.tuple #[], _, G, ?_, tupR _ _ _, R', L'⟩
   simp [Builtin.delete_, h0, X.ok.run_at ht hd rfl, hg, hc, h1, BL hb]
end
def opB (X : Tx) (mb : Bool) (H : List AB) (E : Operand → V) (op : Op) : Option (V × List AB) := match op with
 | .makeMap _ none => match mb with
  | true => some (.c (.mp H.length), H ++ [.mpb [] 0])
  | false => none
 | .lookup t m k ok => match X.tt t, E m with
  | some i, .c (.mp id) => match i.desc, H[id]? with
   | .map kt et, some (.mpb es _) => match X.tt et, Cj (E k) (mpE es) 0, Dl X kt (E k) with
    | some j, some o, true => some (SW ok j o, H)
    | _, _, _ => none
   | _, _ => none
  | _, _ => none
 | .mapEntry t m k => match X.tt t, E m with
  | some i, .c (.mp id) => match i.desc, H[id]? with
   | .map kt et, some (.mpb es clock) => match X.tt et, Cj (E k) (mpE es) 0, Dl X kt (E k) with
    | some j, some o, true => some (entV es clock j.zero o, entH H id es clock (E k) j.zero o)
    | _, _, _ => none
   | _, _ => none
  | _, _ => none
 | .entryStore _ m s x => match E m, E s with
  | .c (.mp id), .c (.d (.int .i64 b)) => match H[id]? with
   | some (.mpb es clock) => match EQ b es with
    | some n => some (.c .any, H.set id (.mpb (CP (E x) es n) clock))
    | none => none
   | _ => none
  | _, _ => none
 | .mapUpdate t m k x => match X.tt t, E m with
  | some i, .c (.mp id) => match i.desc, H[id]? with
   | .map kt _, some (.mpb es clock) => match Cj (E k) (mpE es) 0, Dl X kt (E k) with
    | some o, true => some (.c .any, H.set id (aFw (E k) (E x) es clock o))
    | _, _ => none
   | _, _ => none
  | _, _ => none
 | .call { callee := .builtin .delete, args := as, argTypes := ts } => match ts.toList, as.toList.map E with
  | [t, _], [.c (.mp id), k] => match X.tt t, H[id]? with
   | some i, some (.mpb es clock) => match i.desc with
    | .map kt _ => match Cj k (mpE es) 0, Dl X kt k with
     | some o, true => some (.tup [], H.set id (.mpb (delB es o) clock))
     | _, _ => none
    | _ => none
   | _, _ => none
  | _, _ => none
 | _ => none
theorem Ir {X : Tx} {mb : Bool} {H H' : List AB} {E : Operand → V} {ro : Option Nat} {o : Oper} {z : V} (h : opB X mb H E o.op = some (z, H')) : AL X.P ro o H E (one z H') := by
 unfold opB at h
 split at h
 ·rename_i t ho
  split at h
  ·simp only [Option.some.injEq, Prod.mk.injEq] at h
   obtain ⟨rfl, rfl⟩ := h
   refine AL.of_value (s := fun _ => Instr.makeMap t none) (by simp [ho]) (fun ρ => by simp [execOp, ho]) (fun w G a R hE => ?_)
   have R' : Rel (w.alloc (.map #[] 0)) (G.own H.length w.heap.size) (H ++ [.mpb [] 0]) := by
    refine R.alloc_own _ _ (.mpb [] 0 #[] ?_ ⟨rfl, fun i e r he => by simp [mpE] at he⟩ rfl ?_)
    ·simp only [Gh.own, Ao]; exact Bx w _
    ·simp [Gh.own, Ao]
   refine ⟨.map (some w.heap.size), w.alloc (.map #[] 0), G.own H.length w.heap.size, by simp [Instr.makeMap], ?_, R', Am.alloc_own R _ _⟩
   have := Ap.mp (w := w.alloc (.map #[] 0)) (G := G.own H.length w.heap.size) (H := H ++ [.mpb [] 0]) H.length (by simp)
   simp only [Gh.own, Ao] at this
   exact .c _ _ this
  ·cases h
 ·rename_i t m k ok ho
  split at h
  ·rename_i i id hi hp
   split at h
   ·rename_i kt et es clock hd hid
    split at h
    ·rename_i j p hj hf hk
     simp only [Option.some.injEq, Prod.mk.injEq] at h
     obtain ⟨rfl, rfl⟩ := h
     refine AL.of_value (s := fun ρ => Instr.lookup t (ρ m) (ρ k) ok) (by simp [ho]) (fun ρ => by simp [execOp, ho]) (fun w G a R hE => ?_)
     have hm := hE m (by simp [ho, Op.operands])
     have hkk := hE k (by simp [ho, Op.operands])
     rw [hp] at hm
     exact KK (ok := ok) hi hd hj R hid hk hf hm hkk
    ·cases h
   ·cases h
  ·cases h
 ·rename_i t m k ho
  split at h
  ·rename_i i id hi hp
   split at h
   ·rename_i kt et es clock hd hid
    split at h
    ·rename_i j p hj hf hk
     simp only [Option.some.injEq, Prod.mk.injEq] at h
     obtain ⟨rfl, rfl⟩ := h
     refine AL.of_value (s := fun ρ => Instr.mapEntry t (ρ m) (ρ k)) (by simp [ho]) (fun ρ => by simp [execOp, ho]) (fun w G a R hE => ?_)
     have hm := hE m (by simp [ho, Op.operands])
     have hkk := hE k (by simp [ho, Op.operands])
     rw [hp] at hm
     exact Ip hi hd hj R hid hk hf hm hkk
    ·cases h
   ·cases h
  ·cases h
 ·rename_i t m s x ho
  split at h
  ·rename_i id b hp hs
   split at h
   ·rename_i es clock hid
    split at h
    ·rename_i n hn
     simp only [Option.some.injEq, Prod.mk.injEq] at h
     obtain ⟨rfl, rfl⟩ := h
     refine AL.of_unit (s := fun ρ => Instr.entryStore t (ρ m) (ρ s) (ρ x)) (by simp [ho]) (fun ρ => by simp [execOp, ho]) (fun w G a R hE => ?_)
     have hm := hE m (by simp [ho, Op.operands])
     have hss := hE s (by simp [ho, Op.operands])
     have hx := hE x (by simp [ho, Op.operands])
     rw [hp] at hm
     rw [hs] at hss
     exact Iq R hid hn hm hss hx
    ·cases h
   ·cases h
  ·cases h
 ·rename_i t m k x ho
  split at h
  ·rename_i i id hi hp
   split at h
   ·rename_i kt et es clock hd hid
    split at h
    ·rename_i p hf hk
     simp only [Option.some.injEq, Prod.mk.injEq] at h
     obtain ⟨rfl, rfl⟩ := h
     refine AL.of_unit (s := fun ρ => Instr.mapUpdate t (ρ m) (ρ k) (ρ x)) (by simp [ho]) (fun ρ => by simp [execOp, ho]) (fun w G a R hE => ?_)
     have hm := hE m (by simp [ho, Op.operands])
     have hkk := hE k (by simp [ho, Op.operands])
     have hx := hE x (by simp [ho, Op.operands])
     rw [hp] at hm
     exact JG hi hd R hid hk hf hm hkk hx
    ·cases h
   ·cases h
  ·cases h
 ·rename_i as ts ho
  split at h
  ·rename_i t t2 id k ht hx
   have ht' : ts = #[t, t2] := by obtain ⟨l⟩ := ts; simp at ht; rw [ht]
   split at h
   ·rename_i i es clock hi hid
    split at h
    ·rename_i kt et hd
     split at h
     ·rename_i o' hf hk
      simp only [Option.some.injEq, Prod.mk.injEq] at h
      obtain ⟨rfl, rfl⟩ := h
      refine BX (f := Builtin.delete_) ho (fun _ _ _ => rfl) (fun w G a R hE => ?_)
      obtain ⟨v, u, e1, e2, e3⟩ := JN (a := a) hx hE
      rw [e1, ht']
      exact N7 hi hd rfl R hid hk hf e2 e3
     ·cases h
    ·cases h
   ·cases h
  ·cases h
 ·cases h
def N8 : Op → Bool
 | .lookup _ _ _ _ => true
 | _ => false
theorem MN {X : Tx} {mb : Bool} {H H' : List AB} {E : Operand → V} {op : Op} {z : V} (hq : N8 op = true) (h : opB X mb H E op = some (z, H')) : H' = H := by
 cases op <;> simp only [N8, Bool.false_eq_true] at hq
 simp only [opB] at h
 split at h
 ·split at h
  ·split at h
   ·simp only [Option.some.injEq, Prod.mk.injEq] at h; exact h.2.symm
   ·cases h
  ·cases h
 ·cases h
end Go.Abs
