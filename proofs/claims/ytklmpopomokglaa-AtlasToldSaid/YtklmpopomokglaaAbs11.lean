/- Numbers and equality. -/
import Derived.Test.YtklmpopomokglaaAbs10
import Derived.Laws.StructEq
set_option linter.unusedSimpArgs false
set_option linter.unusedVariables false
namespace Go.Abs
open Go

def eqC : C → C → Option Bool
  | .d (.int k a), .d (.int k' b) => if k = k' then some (decide (a = b)) else none
  | _, _ => none
def eqCs : List C → List C → Option Bool
  | [], [] => some true
  | x :: xs, y :: ys => match eqC x y, eqCs xs ys with
    | some a, some b => some (a && b)
    | _, _ => none
  | _, _ => none

/-- Types whose values are numbers, one behind the other. -/
def flatB (P : Program) (tt : Nat → Option TI) : Nat → Nat → Bool
  | 0, _ => false
  | n + 1, t => match tt t with
    | some i => match i.desc with
      | .int _ => i.size == 1
      | .struct _ => match P.underlying t with
        | some (.struct fs) => !P.stoodInHeld t && (fs.toList.foldl (fun (a : Bool × Nat) f => (a.1 && f.name != "_" && f.offset == a.2 && flatB P tt n f.type && (tt f.type).isSome, a.2 + ((tt f.type).map (·.size)).getD 0)) (true, 0)) == (true, i.size)
        | _ => false
      | .array len e => flatB P tt n e && (tt e).isSome && i.size == len * ((tt e).map (·.size)).getD 0
      | _ => false
    | none => false

theorem eqCs_append : ∀ {a b c d : List C} {p q : Bool}, eqCs a b = some p → eqCs c d = some q → eqCs (a ++ c) (b ++ d) = some (p && q)
  | [], [], c, d, p, q, h, h' => by simp [eqCs] at h; subst h; simpa using h'
  | x :: a, y :: b, c, d, p, q, h, h' => by
    simp only [eqCs] at h
    split at h
    · rename_i u v hu hv
      cases h
      simp only [List.cons_append, eqCs, hu, eqCs_append hv h', Bool.and_assoc]
    · cases h
  | [], _ :: _, _, _, _, _, h, _ => by simp [eqCs] at h
  | _ :: _, [], _, _, _, _, h, _ => by simp [eqCs] at h
theorem eqCs_split : ∀ (n : Nat) {a b : List C} {p : Bool}, eqCs a b = some p → ∃ q r, eqCs (a.take n) (b.take n) = some q ∧ eqCs (a.drop n) (b.drop n) = some r ∧ p = (q && r)
  | 0, a, b, p, h => ⟨true, p, by simp [eqCs], by simpa using h, by simp⟩
  | n + 1, [], [], p, h => by simp [eqCs] at h; subst h; exact ⟨true, true, by simp [eqCs], by simp [eqCs], rfl⟩
  | n + 1, x :: a, y :: b, p, h => by
    simp only [eqCs] at h
    split at h
    · rename_i u v hu hv
      cases h
      obtain ⟨q, r, h1, h2, h3⟩ := eqCs_split n hv
      exact ⟨u && q, r, by simp [eqCs, hu, h1], by simpa using h2, by rw [h3, Bool.and_assoc]⟩
    · cases h
  | n + 1, [], _ :: _, _, h => by simp [eqCs] at h
  | n + 1, _ :: _, [], _, h => by simp [eqCs] at h

section
variable {P : Program} {tt : Nat → Option TI} {w : World} {G : Gh} {H : List AB}

theorem eqC_one {x y : C} {v u : Value} {b : Bool} (h : eqC x y = some b) (hv : CRel w G H x v) (hu : CRel w G H y u) : ∃ k m n, v = .int k m ∧ u = .int k n ∧ b = decide (m = n) := by
  unfold eqC at h
  split at h
  · rename_i k a k' c
    split at h
    · rename_i e
      subst e
      cases h
      cases hv with | d _ _ hv => cases hv; cases hu with | d _ _ hu => cases hu; exact ⟨_, _, _, rfl, rfl, rfl⟩
    · cases h
  · cases h

/-- A part that is compared. -/
def EqAt (P : Program) (w : World) (d t : Nat) (xs ys : Array Value) (off : Nat) (b : Bool) : Prop :=
  ∃ v u, (part t xs off).run P w = .ok v w ∧ (part t ys off).run P w = .ok u w ∧ (Op.equalIn d t v u).run P w = .ok b w

theorem eqAt_flat (T : TTok P tt) : ∀ (n t : Nat) (i : TI), tt t = some i → flatB P tt n t = true → ∀ (d : Nat), n ≤ d → ∀ (cs cs' : List C) (xs ys : Array Value) (off : Nat) (b : Bool), CsRel w G H cs xs.toList → CsRel w G H cs' ys.toList →
    off + i.size ≤ cs.length → off + i.size ≤ cs'.length → eqCs ((cs.drop off).take i.size) ((cs'.drop off).take i.size) = some b → EqAt P w d t xs ys off b
  | 0, t, i, _, hf, _, _, _, _, _, _, _, _, _, _, _, _, _ => by simp [flatB] at hf
  | n + 1, t, i, ht, hf, d, hd, cs, cs', xs, ys, off, b, hx, hy, hl, hl', he => by
    obtain ⟨d, rfl⟩ : ∃ k, d = k + 1 := ⟨d - 1, by omega⟩
    have hlx : cs.length = xs.size := by have := hx.1; simpa using this
    have hly : cs'.length = ys.size := by have := hy.1; simpa using this
    simp only [flatB, ht] at hf
    -- one cell
    have single : isAggD i.desc = false → i.size = 1 → (∀ (k : IntKind) (m n : Int), b = decide (m = n) → (Op.equalIn (d + 1) t (.int k m) (.int k n)).run P w = .ok b w) → EqAt P w (d + 1) t xs ys off b := fun ha h1 hrun => by
      have hox : off < cs.length := by omega
      have hoy : off < cs'.length := by omega
      obtain ⟨v, hv, hvx, _⟩ := hx.get (i := off) (x := cs[off]) (by simp [hox])
      obtain ⟨u, hu, huy, _⟩ := hy.get (i := off) (x := cs'[off]) (by simp [hoy])
      have e1 : (cs.drop off).take i.size = [cs[off]] := by rw [h1, List.drop_eq_getElem_cons hox]; rfl
      have e2 : (cs'.drop off).take i.size = [cs'[off]] := by rw [h1, List.drop_eq_getElem_cons hoy]; rfl
      rw [e1, e2] at he
      simp only [eqCs] at he
      split at he
      · rename_i p q hp hq
        cases hq
        cases he
        obtain ⟨k, m, n, rfl, rfl, hb⟩ := eqC_one hp hvx huy
        exact ⟨.int k m, .int k n, by simp [part, T.run_isAgg ht, ha, show xs[off]? = some _ by simpa using hv], by simp [part, T.run_isAgg ht, ha, show ys[off]? = some _ by simpa using hu], hrun k m n (by simpa using hb)⟩
      · cases he
    have agg : isAggD i.desc = true → (∀ (xs' ys' : Array Value), CsRel w G H ((cs.drop off).take i.size) xs'.toList → CsRel w G H ((cs'.drop off).take i.size) ys'.toList → (Op.equalIn (d + 1) t (.agg xs') (.agg ys')).run P w = .ok b w) → EqAt P w (d + 1) t xs ys off b := fun ha hrun => by
      refine ⟨.agg (xs.extract off (off + i.size)), .agg (ys.extract off (off + i.size)), by simp [part, T.run_isAgg ht, ha, T.run_sizeOf ht], by simp [part, T.run_isAgg ht, ha, T.run_sizeOf ht], hrun _ _ ?_ ?_⟩
      · have e : (xs.extract off (off + i.size)).toList = (xs.toList.drop off).take i.size := by simp
        rw [e]; exact (hx.drop off).take i.size
      · have e : (ys.extract off (off + i.size)).toList = (ys.toList.drop off).take i.size := by simp
        rw [e]; exact (hy.drop off).take i.size
    have tl : ((cs.drop off).take i.size).length = i.size := by simp; omega
    have tl' : ((cs'.drop off).take i.size).length = i.size := by simp; omega
    cases hdesc : i.desc with
    | int k0 =>
      simp only [hdesc, beq_iff_eq] at hf
      refine single (by rw [hdesc]; rfl) hf (fun k m n hb => ?_)
      rw [run_equalIn_int w d t k k0 m n (T.desc_at ht hdesc rfl), hb]
      rfl
    | struct fs0 =>
      obtain ⟨fs, hu, _⟩ := T.desc_struct ht hdesc
      simp only [hdesc, hu, Bool.and_eq_true, Bool.not_eq_true'] at hf
      obtain ⟨hst, hfold⟩ := hf
      refine agg (by rw [hdesc]; rfl) (fun xs' ys' hx' hy' => ?_)
      have hf0 : P.fieldsOf t = fs := by simp [Program.fieldsOf, hu]
      rw [run_equalIn_struct w d t xs' ys' (by rw [hf0, hu]) hst, hf0]
      generalize hA : (cs.drop off).take i.size = A at *
      generalize hB : (cs'.drop off).take i.size = B at *
      clear hA hB single agg
      have key : ∀ (fl : List Field) (k : Nat) (ok : Bool) (r : Bool), (fl.foldl (fun (a : Bool × Nat) f => (a.1 && f.name != "_" && f.offset == a.2 && flatB P tt n f.type && (tt f.type).isSome, a.2 + ((tt f.type).map (·.size)).getD 0)) (ok, k)) = (true, i.size) →
          eqCs (A.drop k) (B.drop k) = some r → (Op.eqFields d xs' ys' fl).run P w = .ok r w := by
        intro fl
        induction fl with
        | nil =>
          intro k ok r hk hr
          simp at hk
          obtain ⟨_, rfl⟩ := hk
          rw [List.drop_eq_nil_of_le (by omega), List.drop_eq_nil_of_le (by omega)] at hr
          simp [eqCs] at hr
          subst hr
          simp [Op.eqFields]
        | cons f fl ih =>
          intro k ok r hk hr
          simp only [List.foldl_cons] at hk
          have hok : ∀ (fl : List Field) (a : Bool × Nat), (fl.foldl (fun (a : Bool × Nat) f => (a.1 && f.name != "_" && f.offset == a.2 && flatB P tt n f.type && (tt f.type).isSome, a.2 + ((tt f.type).map (·.size)).getD 0)) a).1 = true → a.1 = true := by
            intro fl
            induction fl with
            | nil => intro a h; exact h
            | cons g fl ih => intro a h; have := ih _ h; simp at this; exact this.1.1.1.1
          have hle : ∀ (fl : List Field) (a : Bool × Nat), a.2 ≤ (fl.foldl (fun (a : Bool × Nat) f => (a.1 && f.name != "_" && f.offset == a.2 && flatB P tt n f.type && (tt f.type).isSome, a.2 + ((tt f.type).map (·.size)).getD 0)) a).2 := by
            intro fl
            induction fl with
            | nil => intro a; exact Nat.le_refl _
            | cons g fl ih => intro a; rw [List.foldl_cons]; exact Nat.le_trans (Nat.le_add_right _ _) (ih (a.1 && g.name != "_" && g.offset == a.2 && flatB P tt n g.type && (tt g.type).isSome, a.2 + ((tt g.type).map (·.size)).getD 0))
          have h1 := hok fl _ (by rw [hk])
          have h2 := hle fl (ok && f.name != "_" && f.offset == k && flatB P tt n f.type && (tt f.type).isSome, k + ((tt f.type).map (·.size)).getD 0)
          rw [hk] at h2
          simp only [Bool.and_eq_true, bne_iff_ne, ne_eq, beq_iff_eq] at h1
          obtain ⟨⟨⟨⟨_, hnm⟩, ho⟩, hfl⟩, hs⟩ := h1
          obtain ⟨i', hi'⟩ := Option.isSome_iff_exists.1 hs
          simp only [hi', Option.map_some, Option.getD_some] at h2 hk
          obtain ⟨q, r', e1, e2, e3⟩ := eqCs_split i'.size hr
          obtain ⟨v, u, p1, p2, p3⟩ := eqAt_flat T n f.type i' hi' hfl d (by omega) A B xs' ys' f.offset q hx' hy' (by rw [ho]; omega) (by rw [ho]; omega) (by rw [ho]; exact e1)
          simp only [Op.eqFields, ne_eq, hnm, not_false_eq_true, if_true, Sem.run_bind, p1, p2, p3, Result.andThen_ok]
          have ih' := ih (k + i'.size) _ r' hk (by rw [List.drop_drop, List.drop_drop] at e2; exact e2)
          cases q with
          | true => simp at e3; subst e3; simpa using ih'
          | false => simp at e3; subst e3; simp
      simp only [beq_iff_eq] at hfold
      exact key fs.toList 0 true b hfold (by simpa using he)
    | array len e =>
      simp only [hdesc, Bool.and_eq_true, beq_iff_eq] at hf
      obtain ⟨⟨hfl, hs⟩, hsz⟩ := hf
      obtain ⟨i', hi'⟩ := Option.isSome_iff_exists.1 hs
      simp only [hi', Option.map_some, Option.getD_some] at hsz
      refine agg (by rw [hdesc]; rfl) (fun xs' ys' hx' hy' => ?_)
      generalize hA : (cs.drop off).take i.size = A at *
      generalize hB : (cs'.drop off).take i.size = B at *
      clear hA hB single agg
      simp only [Op.equalIn, Sem.run_bind, T.run_at ht hdesc rfl, Result.andThen_ok, T.run_sizeOf hi']
      rw [Std.Legacy.Range.forIn_eq_forIn_range']
      have key : ∀ (m k : Nat) (r : Bool), k + m = len → eqCs (A.drop (k * i'.size)) (B.drop (k * i'.size)) = some r →
          ∃ s, (forIn (List.range' k m) ((none : Option Bool), ()) (fun j (_ : Option Bool × Unit) => (do
            let __do_lift ← part e xs' (j * i'.size)
            let __do_lift_1 ← part e ys' (j * i'.size)
            let __do_lift ← Op.equalIn d e __do_lift __do_lift_1
            if (!__do_lift) = true then pure (ForInStep.done (some false, ())) else pure (ForInStep.yield (none, ())) : Sem (ForInStep (Option Bool × Unit))))).run P w = .ok (s, ()) w ∧ s.getD true = r := by
        intro m
        induction m with
        | zero =>
          intro k r hk hr
          have : k = len := by omega
          subst this
          rw [List.drop_eq_nil_of_le (by omega), List.drop_eq_nil_of_le (by omega)] at hr
          simp [eqCs] at hr
          exact ⟨none, by simp, by simp [hr]⟩
        | succ m ih =>
          intro k r hk hr
          have hmul : (k + 1) * i'.size ≤ len * i'.size := Nat.mul_le_mul_right _ (by omega)
          rw [Nat.succ_mul] at hmul
          obtain ⟨q, r', e1, e2, e3⟩ := eqCs_split i'.size hr
          obtain ⟨v, u, p1, p2, p3⟩ := eqAt_flat T n e i' hi' hfl d (by omega) A B xs' ys' (k * i'.size) q hx' hy' (by omega) (by omega) e1
          simp only [List.range'_succ, List.forIn_cons, Sem.run_bind, p1, p2, p3, Result.andThen_ok]
          cases q with
          | true =>
            have e3' : r = r' := by simpa using e3
            subst e3'
            obtain ⟨s, h1, h2⟩ := ih (k + 1) r (by omega) (by rw [List.drop_drop, List.drop_drop] at e2; rw [Nat.succ_mul]; exact e2)
            refine ⟨s, ?_, h2⟩
            simpa using h1
          | false => simp at e3; subst e3; exact ⟨some false, by simp, rfl⟩
      obtain ⟨s, h1, h2⟩ := key len 0 b (by omega) (by simpa using he)
      have e0 : (List.range' ([:len] : Std.Legacy.Range).start ([:len] : Std.Legacy.Range).size ([:len] : Std.Legacy.Range).step) = List.range' 0 len := by simp [Std.Legacy.Range.size]
      rw [e0, h1]
      cases s with
      | none => simp at h2; subst h2; simp
      | some x => simp at h2; subst h2; simp
    | _ => simp [hdesc] at hf
end
end Go.Abs
