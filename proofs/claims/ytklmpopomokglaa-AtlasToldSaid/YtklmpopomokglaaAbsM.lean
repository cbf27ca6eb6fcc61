/- Maps whose keys are flat: look-up, update, delete. -/
import Derived.Test.YtklmpopomokglaaAbs13
set_option linter.unusedSimpArgs false
set_option linter.unusedVariables false
namespace Go.Abs
open Go

section
variable {P : Program} {tt : Nat → Option TI} {w : World} {G : Gh} {H : List AB}

theorem checkKey_flat (T : TTok P tt) (empty : Bool) : ∀ (n t : Nat) (i : TI), tt t = some i → flatB P tt n t = true → ∀ (d : Nat), n ≤ d → ∀ (xs : Array Value) (off : Nat), off + i.size ≤ xs.size →
    ∃ v, (part t xs off).run P w = .ok v w ∧ (Instr.checkKey empty d t v).run P w = .ok () w
  | 0, t, i, _, hf, _, _, _, _, _ => by simp [flatB] at hf
  | n + 1, t, i, ht, hf, d, hd, xs, off, hl => by
    obtain ⟨d, rfl⟩ : ∃ k, d = k + 1 := ⟨d - 1, by omega⟩
    simp only [flatB, ht] at hf
    have agg : isAggD i.desc = true → (∀ (xs' : Array Value), xs'.size = i.size → (Instr.checkKey empty (d + 1) t (.agg xs')).run P w = .ok () w) → ∃ v, (part t xs off).run P w = .ok v w ∧ (Instr.checkKey empty (d + 1) t v).run P w = .ok () w := fun ha hrun => by
      refine ⟨.agg (xs.extract off (off + i.size)), by simp [part, T.run_isAgg ht, ha, T.run_sizeOf ht], hrun _ (by simp; omega)⟩
    cases hdesc : i.desc with
    | int k0 =>
      simp only [hdesc, beq_iff_eq] at hf
      have ho : off < xs.size := by omega
      refine ⟨xs[off], by simp [part, T.run_isAgg ht, hdesc, isAggD, ho], ?_⟩
      simp only [Instr.checkKey, Sem.run_bind, T.run_at ht hdesc rfl, Result.andThen_ok]
      generalize xs[off] = v
      cases v <;> rfl
    | struct fs0 =>
      obtain ⟨fs, hu, _⟩ := T.desc_struct ht hdesc
      simp only [hdesc, hu, Bool.and_eq_true, Bool.not_eq_true'] at hf
      obtain ⟨hst, hfold⟩ := hf
      refine agg (by rw [hdesc]; rfl) (fun xs' hx' => ?_)
      have hur : (underlying t).run P w = .ok (.struct fs) w := by simp [underlying, hu]
      simp only [Instr.checkKey, Sem.run_bind, hur, Result.andThen_ok]
      simp only [beq_iff_eq] at hfold
      have key : ∀ (fl : List Field) (k : Nat) (ok : Bool), (fl.foldl (fun (a : Bool × Nat) f => (a.1 && f.name != "_" && f.offset == a.2 && flatB P tt n f.type && (tt f.type).isSome, a.2 + ((tt f.type).map (·.size)).getD 0)) (ok, k)) = (true, i.size) →
          (forIn fl PUnit.unit (fun f (_ : PUnit) => (do
            if f.name ≠ "_" then Instr.checkKey empty d f.type (← part f.type xs' f.offset)
            pure (ForInStep.yield PUnit.unit) : Sem (ForInStep PUnit)))).run P w = .ok PUnit.unit w := by
        intro fl
        induction fl with
        | nil => intro k ok hk; simp
        | cons f fl ih =>
          intro k ok hk
          simp only [List.foldl_cons] at hk
          have hok : ∀ (fl : List Field) (a : Bool × Nat), (fl.foldl (fun (a : Bool × Nat) f => (a.1 && f.name != "_" && f.offset == a.2 && flatB P tt n f.type && (tt f.type).isSome, a.2 + ((tt f.type).map (·.size)).getD 0)) a).1 = true → a.1 = true := by
            intro fl
            induction fl with
            | nil => intro a h; exact h
            | cons g fl ih => intro a h; have := ih _ h; simp at this; exact this.1.1.1.1
          have hle : ∀ (fl : List Field) (a : Bool × Nat), a.2 ≤ (fl.foldl (fun (a : Bool × Nat) f => (a.1 && f.name != "_" && f.offset == a.2 && flatB P tt n f.type && (tt f.type).isSome, a.2 + ((tt f.type).map (·.size)).getD 0)) a).2 := by
            intro fl
            induction fl with
            | nil => intro a; exact Nat.le_refl _
            | cons g fl ih => intro a; rw [List.foldl_cons]; exact Nat.le_trans (Nat.le_add_right _ _) (ih (a.1 && g.name != "_" && g.offset == a.2 && flatB P tt n g.type && (tt g.type).isSome, a.2 + ((tt g.type).map (·.size)).getD 0))
          have h1 := hok fl _ (by rw [hk])
          have h2 := hle fl (ok && f.name != "_" && f.offset == k && flatB P tt n f.type && (tt f.type).isSome, k + ((tt f.type).map (·.size)).getD 0)
          rw [hk] at h2
          simp only [Bool.and_eq_true, bne_iff_ne, ne_eq, beq_iff_eq] at h1
          obtain ⟨⟨⟨⟨_, hnm⟩, ho⟩, hfl⟩, hs⟩ := h1
          obtain ⟨i', hi'⟩ := Option.isSome_iff_exists.1 hs
          simp only [hi', Option.map_some, Option.getD_some] at h2 hk
          obtain ⟨v, p1, p2⟩ := checkKey_flat T empty n f.type i' hi' hfl d (by omega) xs' f.offset (by rw [ho, hx']; exact h2)
          simp only [List.forIn_cons, ne_eq, hnm, not_false_eq_true, if_true, Sem.run_bind, p1, p2, Result.andThen_ok, Sem.run_pure]
          exact ih _ _ hk
      have := key fs.toList 0 true hfold
      rw [← Array.forIn_toList]
      simp at this ⊢
      rw [this]
      rfl
    | array len e =>
      simp only [hdesc, Bool.and_eq_true, beq_iff_eq] at hf
      obtain ⟨⟨hfl, hs⟩, hsz⟩ := hf
      obtain ⟨i', hi'⟩ := Option.isSome_iff_exists.1 hs
      simp only [hi', Option.map_some, Option.getD_some] at hsz
      refine agg (by rw [hdesc]; rfl) (fun xs' hx' => ?_)
      simp only [Instr.checkKey, Sem.run_bind, T.run_at ht hdesc rfl, Result.andThen_ok, T.run_sizeOf hi']
      rw [Std.Legacy.Range.forIn_eq_forIn_range']
      have key : ∀ (m k : Nat), k + m = len →
          (forIn (List.range' k m) PUnit.unit (fun j (_ : PUnit) => (do
            let __do_lift ← sizeOf e
            let __do_lift ← part e xs' (j * __do_lift)
            Instr.checkKey empty d e __do_lift
            pure (ForInStep.yield PUnit.unit) : Sem (ForInStep PUnit)))).run P w = .ok PUnit.unit w := by
        intro m
        induction m with
        | zero => intro k hk; simp
        | succ m ih =>
          intro k hk
          have hmul : (k + 1) * i'.size ≤ len * i'.size := Nat.mul_le_mul_right _ (by omega)
          rw [Nat.succ_mul] at hmul
          obtain ⟨v, p1, p2⟩ := checkKey_flat T empty n e i' hi' hfl d (by omega) xs' (k * i'.size) (by omega)
          simp only [List.range'_succ, List.forIn_cons, Sem.run_bind, T.run_sizeOf hi', p1, p2, Result.andThen_ok, Sem.run_pure]
          exact ih (k + 1) (by omega)
      have h1 := key len 0 (by omega)
      have e0 : (List.range' ([:len] : Std.Legacy.Range).start ([:len] : Std.Legacy.Range).size ([:len] : Std.Legacy.Range).step) = List.range' 0 len := by simp [Std.Legacy.Range.size]
      rw [e0]
      simp at h1 ⊢
      rw [h1]
      rfl
    | _ => simp [hdesc] at hf

/-! ### Entries -/
theorem eqCs_len : ∀ {a b : List C} {p : Bool}, eqCs a b = some p → a.length = b.length
  | [], [], _, _ => rfl
  | x :: a, y :: b, p, h => by
    simp only [eqCs] at h
    split at h
    · rename_i u v hu hv
      simp [eqCs_len hv]
    · cases h
  | [], _ :: _, _, h => by simp [eqCs] at h
  | _ :: _, [], _, h => by simp [eqCs] at h

def keyEq : V → V → Option Bool
  | .c (.d (.int k a)), .c (.d (.int k' b)) => if k = k' then some (decide (a = b)) else none
  | .agg xs, .agg ys => eqCs xs ys
  | _, _ => none
def findE (k : V) : List (V × V) → Nat → Option (Option (Nat × V))
  | [], _ => some none
  | e :: es, i => match keyEq k e.1 with
    | some true => some (some (i, e.2))
    | some false => findE k es (i + 1)
    | none => none
/-- A key of a flat type. -/
def keyOk (X : Tx) (t : Nat) : V → Bool
  | .c (.d (.int _ _)) => match X.tt t with
    | some i => match i.desc with
      | .int _ => true
      | _ => false
    | none => false
  | .agg cs => match X.tt t with
    | some i => X.eqs t && isAggD i.desc && cs.length == i.size
    | none => false
  | _ => false
end

section
variable {X : Tx} {w : World} {G : Gh} {H : List AB}

theorem run_checkKey {t : Nat} {k : V} {v : Value} (empty : Bool) (hk : keyOk X t k = true) (hv : VRel w G H k v) : (Instr.checkKey empty 10000 t v).run X.P w = .ok () w := by
  unfold keyOk at hk
  split at hk
  · split at hk
    · rename_i i hi
      split at hk
      · rename_i k0 hd
        obtain rfl := int_rel hv
        have key : ∀ (d : Nat) (kk : IntKind) (m : Int), (Instr.checkKey empty (d + 1) t (.int kk m)).run X.P w = .ok () w := fun d kk m => by
          simp only [Instr.checkKey, Sem.run_bind, X.ok.run_at hi hd rfl, Result.andThen_ok]
          rfl
        exact key 9999 _ _
      · cases hk
    · cases hk
  · rename_i cs
    split at hk
    · rename_i i hi
      simp only [Bool.and_eq_true, beq_iff_eq] at hk
      obtain ⟨⟨h1, h2⟩, h3⟩ := hk
      obtain ⟨arr, rfl, hx⟩ := agg_rel hv
      have hsz : arr.size = i.size := by have := hx.1; simp at this; omega
      obtain ⟨v, p1, p2⟩ := checkKey_flat (w := w) X.ok empty 20 t i hi (X.eok t h1).1 10000 (by omega) arr 0 (by omega)
      have f1 : (part t arr 0).run X.P w = .ok (.agg arr) w := by
        simp [part, X.ok.run_isAgg hi, h2, X.ok.run_sizeOf hi, ← hsz]
      rw [f1] at p1
      cases p1
      exact p2
    · cases hk
  · cases hk

theorem findAsking_run {t : Nat} {i : TI} (hi : X.tt t = some i) (he : X.eqs t = true) (ha : isAggD i.desc = true) {xs : List C} {arr : Array Value} (hx : CsRel w G H xs arr.toList) (hl : xs.length = i.size) :
    ∀ (es : List (V × V)) (rs : List MapEntry) (n : Nat) (o : Option (Nat × V)), EsRel w G H es rs → findE (.agg xs) es n = some o →
      ∃ o', (Instr.findAsking t (.agg arr) rs n).run X.P w = .ok o' w ∧ (match o, o' with | none, none => True | some (j, y), some (j', v) => j = j' ∧ VRel w G H y v | _, _ => False)
  | [], rs, n, o, hr, h => by
    have : rs = [] := by have := hr.1; simpa using this.symm
    subst this
    simp [findE] at h
    subst h
    exact ⟨none, by simp [Instr.findAsking], trivial⟩
  | e :: es, [], n, o, hr, h => by have := hr.1; simp at this
  | e :: es, r :: rs, n, o, hr, h => by
    have h0 := hr.2 0 e r rfl rfl
    have hr' : EsRel w G H es rs := ⟨by have := hr.1; simpa using this, fun j a b ha hb => hr.2 (j + 1) a b (by simpa using ha) (by simpa using hb)⟩
    have core : ∀ b, keyEq (.agg xs) e.1 = some b → (Op.equal t (.agg arr) r.key).run X.P w = .ok b w := fun b hb => by
      cases hk : e.1 with
      | agg ys =>
        rw [hk] at hb
        simp only [keyEq] at hb
        have hy := h0.1
        rw [hk] at hy
        obtain ⟨arr', hr2, hy⟩ := agg_rel hy
        rw [hr2]
        have hly : ys.length = xs.length := (eqCs_len hb).symm
        obtain ⟨v, u, e1, e2, e3⟩ := eqAt_flat (w := w) (G := G) (H := H) X.ok 20 t i hi (X.eok t he).1 10000 (by omega) xs ys arr arr' 0 b hx hy (by omega) (by omega) (by
          rw [List.drop_zero, List.drop_zero, List.take_of_length_le (by omega), List.take_of_length_le (by omega)]; exact hb)
        have l1 : arr.size = i.size := by have := hx.1; simp at this; omega
        have l2 : arr'.size = i.size := by have := hy.1; simp at this; omega
        have f1 : (part t arr 0).run X.P w = .ok (.agg arr) w := by simp [part, X.ok.run_isAgg hi, ha, X.ok.run_sizeOf hi, ← l1]
        have f2 : (part t arr' 0).run X.P w = .ok (.agg arr') w := by simp [part, X.ok.run_isAgg hi, ha, X.ok.run_sizeOf hi, ← l2]
        rw [f1] at e1; rw [f2] at e2
        cases e1; cases e2
        simpa [Op.equal, Op.maxDepth] using e3
      | _ => rw [hk] at hb; simp [keyEq] at hb
    simp only [findE] at h
    split at h
    · rename_i hb
      cases h
      exact ⟨some (n, r.val), by simp [Instr.findAsking, core _ hb], rfl, h0.2⟩
    · rename_i hb
      obtain ⟨o', h1, h2⟩ := findAsking_run hi he ha hx hl es rs (n + 1) o hr' h
      exact ⟨o', by simp [Instr.findAsking, core _ hb, h1], h2⟩
    · cases h

/-- What a search finds, as values. -/
def FoundRel (w : World) (G : Gh) (H : List AB) : Option (Nat × V) → Option (Nat × Value) → Prop
  | none, none => True
  | some (j, y), some (j', v) => j = j' ∧ VRel w G H y v
  | _, _ => False

theorem findNow_run {k0 : IntKind} {k : IntKind} {m : Int} : ∀ (es : List (V × V)) (rs : List MapEntry) (n : Nat) (o : Option (Nat × V)), EsRel w G H es rs → findE (.c (.d (.int k m))) es n = some o →
      ∃ o', Instr.findNow (.int k0) (.int k m) rs n = some o' ∧ FoundRel w G H o o'
  | [], rs, n, o, hr, h => by
    have : rs = [] := by have := hr.1; simpa using this.symm
    subst this
    simp [findE] at h
    subst h
    exact ⟨none, rfl, trivial⟩
  | e :: es, [], n, o, hr, h => by have := hr.1; simp at this
  | e :: es, r :: rs, n, o, hr, h => by
    have h0 := hr.2 0 e r rfl rfl
    have hr' : EsRel w G H es rs := ⟨by have := hr.1; simpa using this, fun j a b ha hb => hr.2 (j + 1) a b (by simpa using ha) (by simpa using hb)⟩
    have core : ∀ b, keyEq (.c (.d (.int k m))) e.1 = some b → Instr.sameNow (.int k0) (.int k m) r.key = some b := fun b hb => by
      unfold keyEq at hb
      split at hb
      · rename_i k1 a1 k2 b1 h1 h2
        cases h1
        have hk := h0.1
        rw [h2] at hk
        rw [int_rel hk]
        split at hb
        · rename_i he
          subst he
          cases hb
          simp [Instr.sameNow, BEq.beq]
        · cases hb
      · rename_i h1 h2; cases h1
      · cases hb
    simp only [findE] at h
    split at h
    · rename_i hb
      cases h
      exact ⟨some (n, r.val), by simp [Instr.findNow, core _ hb], rfl, h0.2⟩
    · rename_i hb
      obtain ⟨o', h1, h2⟩ := findNow_run (k0 := k0) es rs (n + 1) o hr' h
      exact ⟨o', by simp [Instr.findNow, core _ hb, h1], h2⟩
    · cases h

theorem run_findKey {t : Nat} {k : V} {v : Value} {es : List (V × V)} {rs : List MapEntry} {o : Option (Nat × V)} (hk : keyOk X t k = true) (hv : VRel w G H k v) (hr : EsRel w G H es rs) (h : findE k es 0 = some o) :
    ∃ o', (Instr.findKey t v rs).run X.P w = .ok o' w ∧ FoundRel w G H o o' := by
  unfold keyOk at hk
  split at hk
  · split at hk
    · rename_i i hi
      split at hk
      · rename_i k0 hd
        obtain rfl := int_rel hv
        obtain ⟨o', h1, h2⟩ := findNow_run (k0 := k0) es rs 0 o hr h
        exact ⟨o', by simp [Instr.findKey, X.ok.run_at hi hd rfl, h1], h2⟩
      · cases hk
    · cases hk
  · rename_i cs
    split at hk
    · rename_i i hi
      simp only [Bool.and_eq_true, beq_iff_eq] at hk
      obtain ⟨⟨h1, h2⟩, h3⟩ := hk
      obtain ⟨arr, rfl, hx⟩ := agg_rel hv
      obtain ⟨d, hd1, hd2⟩ := X.ok.desc t i hi
      have hu : (underlying t).run X.P w = .ok d w := by simp [underlying, hd1]
      cases rs with
      | nil =>
        have : es = [] := by have := hr.1; simpa using this
        subst this
        simp [findE] at h
        subst h
        exact ⟨none, by simp [Instr.findKey, hu, Instr.findNow], trivial⟩
      | cons r rs =>
        obtain ⟨o', h4, h5⟩ := findAsking_run hi h1 h2 hx h3 es (r :: rs) 0 o hr h
        have hn : Instr.findNow d (.agg arr) (r :: rs) 0 = none := by
          have : Instr.sameNow d (.agg arr) r.key = none := by cases d <;> rfl
          simp [Instr.findNow, this]
        refine ⟨o', by simp [Instr.findKey, hu, hn, h4], ?_⟩
        cases o <;> cases o' <;> exact h5
    · cases hk
  · cases hk

theorem mp_at {id : Nat} {es : List (V × V)} (R : Rel w G H) (hid : H[id]? = some (.mp es)) : ∃ rs clock, w.heap[G.rho id]? = some (.map rs clock) ∧ EsRel w G H es rs.toList ∧ G.role (G.rho id) = some id := by
  cases R.ab id _ hid with
  | mp _ rs clock hb hr hrole => exact ⟨rs, clock, hb, hr, hrole⟩

def lookV (ok : Bool) (j : TI) (o : Option (Nat × V)) : V :=
  if ok then .tup [match o with | some (_, y) => y | none => j.zero, B o.isSome] else match o with | some (_, y) => y | none => j.zero

theorem yields_lookup {t kt et id : Nat} {i j : TI} {es : List (V × V)} {k : V} {o : Option (Nat × V)} {m v : Value} {ok : Bool} (ht : X.tt t = some i) (hd : i.desc = .map kt et) (he : X.tt et = some j) (R : Rel w G H) (hid : H[id]? = some (.mp es))
    (hk : keyOk X kt k = true) (hf : findE k es 0 = some o) (hm : VRel w G H (.c (.mp id)) m) (hv : VRel w G H k v) :
    Yields X.P (Instr.lookup t m v ok) w G H (lookV ok j o) H := by
  obtain ⟨rs, clock, hb, hr, _⟩ := mp_at R hid
  have em : m = .map (some (G.rho id)) := by cases hm with | c _ _ h => cases h; rfl
  subst em
  have hg : (getObj (G.rho id)).run X.P w = .ok (.map rs clock) w := by simp [getObj, Sem.run, hb]
  obtain ⟨o', h1, h2⟩ := run_findKey hk hv hr hf
  have hc := run_checkKey (w := w) rs.isEmpty hk hv
  obtain ⟨z, hz, hz1, _⟩ := X.ok.run_zero he
  have fin : ∀ (y : V) (u : Value) (f : Bool), VRel w G H y u → VRel w G H (if ok then .tup [y, B f] else y) (if ok then .tuple #[u, .bool f] else u) := fun y u f h => by
    cases ok with
    | false => simpa using h
    | true =>
      simp only [if_true]
      refine .tup _ _ rfl (fun i x q hx hq => ?_)
      match i with
      | 0 => simp at hx hq; subst hx; subst hq; exact h
      | 1 => simp at hx hq; subst hx; subst hq; exact .c _ _ (.d _ _ (.bool _))
      | i + 2 => simp at hx
  cases o with
  | none =>
    cases o' with
    | none =>
      refine Yields.still R (v := if ok then .tuple #[z, .bool false] else z) ?_ (fin j.zero z false (zeroV_rel hz1))
      simp [Instr.lookup, X.ok.run_at ht hd rfl, hg, hc, h1, hz]
    | some p => exact h2.elim
  | some p =>
    cases o' with
    | none => exact h2.elim
    | some p' =>
      obtain ⟨n, y⟩ := p
      obtain ⟨n', u⟩ := p'
      refine Yields.still R (v := if ok then .tuple #[u, .bool true] else u) ?_ (fin y u true h2.2)
      simp [Instr.lookup, X.ok.run_at ht hd rfl, hg, hc, h1]

/-- Another list of entries in the same block. -/
theorem mp_put {id : Nat} {es es' : List (V × V)} {rs rs' : Array MapEntry} {clock clock' : Nat} (R : Rel w G H) (hid : H[id]? = some (.mp es)) (hb : w.heap[G.rho id]? = some (.map rs clock)) (hr' : EsRel w G H es' rs'.toList) :
    Rel (w.putObj (G.rho id) (.map rs' clock')) G (H.set id (.mp es')) ∧ Later w G H (w.putObj (G.rho id) (.map rs' clock')) G (H.set id (.mp es')) := by
  obtain ⟨_, _, _, _, hrole⟩ := mp_at R hid
  have hnc : ∀ j, w.cell? ⟨G.rho id, j, none⟩ = none := fun j => by simp [World.cell?, hb]
  have L : Later w G H (w.putObj (G.rho id) (.map rs' clock')) G (H.set id (.mp es')) :=
    Later.put_own hrole (fun j hj => by obtain ⟨v, hv⟩ := R.sex _ j hj; rw [hnc] at hv; cases hv) (fun n sz e => by cases e)
  exact ⟨R.put_own hrole L (fun _ => .mp _ rs' clock' (put_same hb) (hr'.mono L) hrole), L⟩

theorem run_setMap {P : Program} {r : Nat} {o : Obj} {rs : Array MapEntry} {clock : Nat} (h : w.heap[r]? = some (.map rs clock)) : (setObj r o).run P w = .ok () (w.putObj r o) := by
  simp [setObj, Sem.run, h, World.putObj]

def updE (k x : V) (es : List (V × V)) : Option (Nat × V) → List (V × V)
  | some (i, _) => es.set i (k, x)
  | none => es ++ [(k, x)]
def delE (es : List (V × V)) : Option (Nat × V) → List (V × V)
  | some (i, _) => es.eraseIdx i
  | none => es

theorem does_delete {t kt et id : Nat} {i : TI} {es : List (V × V)} {k : V} {o : Option (Nat × V)} {m v : Value} {ty : TypeId} {ts : Array TypeId} (ht : X.tt t = some i) (hd : i.desc = .map kt et) (h0 : ts[0]? = some t) (R : Rel w G H) (hid : H[id]? = some (.mp es))
    (hk : keyOk X kt k = true) (hf : findE k es 0 = some o) (hm : VRel w G H (.c (.mp id)) m) (hv : VRel w G H k v) :
    Yields X.P (Builtin.delete_ ts ty #[m, v]) w G H (.tup []) (H.set id (.mp (delE es o))) := by
  obtain ⟨rs, clock, hb, hr, _⟩ := mp_at R hid
  have em : m = .map (some (G.rho id)) := by cases hm with | c _ _ h => cases h; rfl
  subst em
  have hg : (getObj (G.rho id)).run X.P w = .ok (.map rs clock) w := by simp [getObj, Sem.run, hb]
  obtain ⟨o', h1, h2⟩ := run_findKey hk hv hr hf
  have hc := run_checkKey (w := w) rs.isEmpty hk hv
  have tupR : ∀ (w' : World) (G' : Gh) (H' : List AB), VRel w' G' H' (.tup []) (.tuple #[]) := fun w' G' H' => .tup [] #[] rfl (fun i x v h => by simp at h)
  cases o with
  | none =>
    cases o' with
    | none =>
      obtain ⟨R', L'⟩ := mp_put (rs' := rs) (clock' := clock) R hid hb hr
      refine ⟨.tuple #[], _, G, ?_, tupR _ _ _, R', L'⟩
      simp [Builtin.delete_, h0, X.ok.run_at ht hd rfl, hg, hc, h1, run_setMap hb]
    | some p => exact h2.elim
  | some p =>
    cases o' with
    | none => exact h2.elim
    | some p' =>
      obtain ⟨n, y⟩ := p
      obtain ⟨n', u⟩ := p'
      obtain ⟨rfl, h2⟩ := h2
      have hre : EsRel w G H (es.eraseIdx n) (rs.eraseIdxIfInBounds n).toList := by
        have e : (rs.eraseIdxIfInBounds n).toList = rs.toList.eraseIdx n := by
          unfold Array.eraseIdxIfInBounds
          split
          · simp [Array.toList_eraseIdx]
          · rename_i hh; rw [List.eraseIdx_of_length_le (by simpa using hh)]
        rw [e]
        refine ⟨?_, fun j a b ha hb => ?_⟩
        · have := hr.1; rw [List.length_eraseIdx, List.length_eraseIdx, this]
        · rw [List.getElem?_eraseIdx] at ha hb
          split at ha
          · rename_i hjn; rw [if_pos hjn] at hb; exact hr.2 j a b ha hb
          · rename_i hjn; rw [if_neg hjn] at hb; exact hr.2 (j + 1) a b ha hb
      obtain ⟨R', L'⟩ := mp_put (rs' := rs.eraseIdxIfInBounds n) (clock' := clock) R hid hb hre
      refine ⟨.tuple #[], _, G, ?_, tupR _ _ _, R', L'⟩
      simp [Builtin.delete_, h0, X.ok.run_at ht hd rfl, hg, hc, h1, run_setMap hb]

theorem sameBits_cells : ∀ (n : Nat) (cs : List C) (l : List Value), (∀ x ∈ cs, ∃ k m, x = .d (.int k m)) → CsRel w G H cs l → ((l.zip l).all fun (x, y) => Instr.sameBits n x y) = true
  | n, [], l, _, h => by have : l = [] := by have := h.1; simpa using this.symm
                         subst this; rfl
  | n, c :: cs, [], _, h => by have := h.1; simp at this
  | n, c :: cs, v :: l, hc, h => by
    have h0 := h.2 0 c v rfl rfl
    have h' : CsRel w G H cs l := ⟨by have := h.1; simpa using this, fun i x u hx hu => h.2 (i + 1) x u (by simpa using hx) (by simpa using hu)⟩
    obtain ⟨k, m, rfl⟩ := hc c (by simp)
    have hv : v = .int k m := by cases h0.1 with | d _ _ h => cases h; rfl
    subst hv
    have ih := sameBits_cells n cs l (fun x hx => hc x (List.mem_cons_of_mem _ hx)) h'
    simp only [List.zip_cons_cons, List.all_cons, ih, Bool.and_true]
    cases n <;> simp [Instr.sameBits]

/-- Keys that are equal are the same value. -/
theorem keyEq_same {k k' : V} {v u : Value} (h : keyEq k k' = some true) (hv : VRel w G H k v) (hu : VRel w G H k' u) : u = v ∧ Instr.sameBits 10000 u v = true := by
  unfold keyEq at h
  split at h
  · rename_i kk a kk' b
    split at h
    · rename_i he
      subst he
      have hab : a = b := by simpa using h
      subst hab
      rw [int_rel hv, int_rel hu]
      exact ⟨rfl, by simp [Instr.sameBits]⟩
    · cases h
  · rename_i xs ys
    obtain ⟨arr, rfl, hx⟩ := agg_rel hv
    obtain ⟨arr', rfl, hy⟩ := agg_rel hu
    have key : ∀ (xs ys : List C) (l l' : List Value), eqCs xs ys = some true → CsRel w G H xs l → CsRel w G H ys l' → l' = l ∧ ∀ x ∈ ys, ∃ k m, x = .d (.int k m) := by
      intro xs
      induction xs with
      | nil =>
        intro ys l l' he hx hy
        cases ys with
        | nil =>
          have e1 : l = [] := by have := hx.1; simpa using this.symm
          have e2 : l' = [] := by have := hy.1; simpa using this.symm
          rw [e1, e2]; exact ⟨rfl, fun x h => by cases h⟩
        | cons y ys => simp [eqCs] at he
      | cons x xs ih =>
        intro ys l l' he hx hy
        cases ys with
        | nil => simp [eqCs] at he
        | cons y ys =>
          simp only [eqCs] at he
          split at he
          · rename_i p q hp hq
            have hpq : p = true ∧ q = true := by simpa using he
            obtain ⟨rfl, rfl⟩ := hpq
            cases l with
            | nil => have := hx.1; simp at this
            | cons v l =>
              cases l' with
              | nil => have := hy.1; simp at this
              | cons u l' =>
                have hx' : CsRel w G H xs l := ⟨by have := hx.1; simpa using this, fun i x u hx0 hu => hx.2 (i + 1) x u (by simpa using hx0) (by simpa using hu)⟩
                have hy' : CsRel w G H ys l' := ⟨by have := hy.1; simpa using this, fun i x u hx0 hu => hy.2 (i + 1) x u (by simpa using hx0) (by simpa using hu)⟩
                obtain ⟨e1, e2⟩ := ih ys l l' hq hx' hy'
                obtain ⟨k, m, n, hv1, hu1, hb⟩ := eqC_one hp (hx.2 0 x v rfl rfl).1 (hy.2 0 y u rfl rfl).1
                have hmn : m = n := by simpa using hb.symm
                subst hmn
                refine ⟨by rw [e1, hv1, hu1], fun z hz => ?_⟩
                rcases List.mem_cons.1 hz with rfl | hz
                · have hy0 := (hy.2 0 z u rfl rfl).1
                  unfold eqC at hp
                  split at hp
                  · exact ⟨_, _, rfl⟩
                  · cases hp
                · exact e2 z hz
          · cases he
    obtain ⟨e1, e2⟩ := key xs ys arr.toList arr'.toList h hx hy
    have e3 : arr' = arr := Array.toList_inj.1 e1
    subst e3
    refine ⟨rfl, ?_⟩
    have hs := sameBits_cells 9999 ys arr'.toList e2 hy
    show Instr.sameBits (9999 + 1) (.agg arr') (.agg arr') = true
    simp only [Instr.sameBits, beq_self_eq_true, Bool.true_and]
    exact hs
  · cases h

theorem findE_spec {k : V} : ∀ {es : List (V × V)} {n i : Nat} {y : V}, findE k es n = some (some (i, y)) → n ≤ i ∧ ∃ e, es[i - n]? = some e ∧ keyEq k e.1 = some true ∧ e.2 = y
  | [], n, i, y, h => by simp [findE] at h
  | e :: es, n, i, y, h => by
    simp only [findE] at h
    split at h
    · rename_i hb
      simp only [Option.some.injEq, Prod.mk.injEq] at h
      obtain ⟨rfl, rfl⟩ := h
      exact ⟨Nat.le_refl _, e, by simp, hb, rfl⟩
    · obtain ⟨h1, e', h2, h3⟩ := findE_spec h
      refine ⟨by omega, e', ?_, h3⟩
      have : i - n = (i - (n + 1)) + 1 := by omega
      rw [this]; simpa using h2
    · cases h

theorem does_mapUpdate {t kt et id : Nat} {i : TI} {es : List (V × V)} {k x : V} {o : Option (Nat × V)} {m v u : Value} (ht : X.tt t = some i) (hd : i.desc = .map kt et) (R : Rel w G H) (hid : H[id]? = some (.mp es))
    (hk : keyOk X kt k = true) (hf : findE k es 0 = some o) (hm : VRel w G H (.c (.mp id)) m) (hv : VRel w G H k v) (hx : VRel w G H x u) :
    ∃ w' G', (Instr.mapUpdate t m v u).run X.P w = .ok () w' ∧ Rel w' G' (H.set id (.mp (updE k x es o))) ∧ Later w G H w' G' (H.set id (.mp (updE k x es o))) := by
  obtain ⟨rs, clock, hb, hr, _⟩ := mp_at R hid
  have em : m = .map (some (G.rho id)) := by cases hm with | c _ _ h => cases h; rfl
  subst em
  have hg : (getObj (G.rho id)).run X.P w = .ok (.map rs clock) w := by simp [getObj, Sem.run, hb]
  obtain ⟨o', h1, h2⟩ := run_findKey hk hv hr hf
  have hc := run_checkKey (w := w) false hk hv
  cases o with
  | none =>
    cases o' with
    | none =>
      have hre : EsRel w G H (es ++ [(k, x)]) (rs.push { key := v, val := u, born := clock }).toList := by
        rw [Array.toList_push]
        refine ⟨by simp [hr.1], fun j a b ha hb => ?_⟩
        by_cases hj : j < es.length
        · rw [List.getElem?_append_left hj] at ha
          rw [List.getElem?_append_left (by rw [← hr.1]; exact hj)] at hb
          exact hr.2 j a b ha hb
        · rw [List.getElem?_append_right (by omega)] at ha
          rw [List.getElem?_append_right (by rw [← hr.1]; omega), ← hr.1] at hb
          cases hjj : j - es.length with
          | zero => rw [hjj] at ha hb; simp at ha hb; subst ha; subst hb; exact ⟨hv, hx⟩
          | succ q => rw [hjj] at ha; simp at ha
      obtain ⟨R', L'⟩ := mp_put (rs' := rs.push { key := v, val := u, born := clock }) (clock' := clock + 1) R hid hb hre
      refine ⟨_, G, ?_, R', L'⟩
      simp [Instr.mapUpdate, X.ok.run_at ht hd rfl, hg, hc, h1, run_setMap hb]
    | some p => exact h2.elim
  | some p =>
    cases o' with
    | none => exact h2.elim
    | some p' =>
      obtain ⟨n, y⟩ := p
      obtain ⟨n', u'⟩ := p'
      obtain ⟨rfl, h2⟩ := h2
      obtain ⟨_, e, he1, he2, _⟩ := findE_spec hf
      rw [Nat.sub_zero] at he1
      have hlt : n < rs.toList.length := by rw [← hr.1]; exact (List.getElem?_eq_some_iff.1 he1).1
      have hrn : rs.toList[n]? = some rs.toList[n] := List.getElem?_eq_getElem hlt
      have hke := (hr.2 n e _ he1 hrn).1
      obtain ⟨hs1, hs2⟩ := keyEq_same he2 hv hke
      have hra : rs[n]? = some rs.toList[n] := by rw [← Array.getElem?_toList]; exact hrn
      have hst : (Instr.keyThatStays (((rs[n]?).map (·.key)).getD v) v).run X.P w = .ok v w := by
        rw [hra]
        simp only [Option.map_some, Option.getD_some, Instr.keyThatStays]
        rw [hs1]
        rw [hs1] at hs2
        simp [hs2]
      have hre : EsRel w G H (es.set n (k, x)) (rs.modify n fun e => { e with key := v, val := u }).toList := by
        rw [Array.toList_modify]
        refine ⟨by simp [hr.1], fun j a b ha hb => ?_⟩
        rw [List.getElem?_modify] at hb
        by_cases hj : n = j
        · subst hj
          have hlt' : n < es.length := by rw [hr.1]; exact hlt
          rw [List.getElem?_set_self hlt'] at ha
          rw [hrn] at hb
          simp at ha hb
          subst ha; subst hb
          exact ⟨hv, hx⟩
        · rw [List.getElem?_set_ne hj] at ha
          exact hr.2 j a b ha (by simpa [hj] using hb)
      obtain ⟨R', L'⟩ := mp_put (rs' := rs.modify n fun e => { e with key := v, val := u }) (clock' := clock) R hid hb hre
      refine ⟨_, G, ?_, R', L'⟩
      simp [Instr.mapUpdate, X.ok.run_at ht hd rfl, hg, hc, h1, hst, run_setMap hb]
end
end Go.Abs
