/- The operations, one by one: what each does to an abstract state. -/
import Derived.Test.YtklmpopomokglaaAbs2
set_option linter.unusedSimpArgs false
set_option linter.unusedVariables false
namespace Go.Abs
open Go

/-! ### The types' table -/
structure TI where
  desc : TypeDesc
  size : Nat
  bytes : Nat
  zero : V

def V.cs : V → List C
  | .c x => [x]
  | .agg cs => cs
  | .tup _ => []

def V.solid : V → Bool
  | .c .any => false
  | .c _ => true
  | .agg _ => true
  | .tup _ => false

/-- A value that says the same in every world. -/
def zeroC : C → Value → Bool
  | .d (.int k n), .int k' n' => k == k' && n == n'
  | .d (.bool b), .bool b' => b == b'
  | .full [], .slice none 0 0 => true
  | .nilp, .pointer none => true
  | .any, v => v.oneCell'
  | _, _ => false
def zeroCs : List C → List Value → Bool
  | [], [] => true
  | c :: cs, v :: vs => zeroC c v && zeroCs cs vs
  | _, _ => false
def zeroV : V → Value → Bool
  | .c x, v => x matches .any || zeroC x v
  | .agg cs, .agg arr => zeroCs cs arr.toList
  | _, _ => false

def isAggD : TypeDesc → Bool
  | .struct _ | .array _ _ => true
  | _ => false

/-- A field without its names. -/
def fld (t o : Nat) : Field := { name := "", type := t, offset := o, embedded := false, tag := "", pkgPath := "", byteOffset := 0 }
def strip : TypeDesc → TypeDesc
  | .struct fs => .struct (fs.map fun f => fld f.type f.offset)
  | .func _ _ _ => .func #[] #[] false
  | d => d
def simpleD : TypeDesc → Bool
  | .struct _ => false
  | .func _ _ _ => false
  | _ => true

/-- The table tells the program's types. -/
structure TTok (P : Program) (tt : Nat → Option TI) : Prop where
  desc : ∀ t i, tt t = some i → ∃ d, P.underlying t = some d ∧ strip d = i.desc
  info : ∀ t i, tt t = some i → ∃ inf, P.info? t = some inf ∧ inf.size = i.size ∧ inf.bytes = i.bytes ∧ ∃ z, inf.zero = some z ∧ zeroV i.zero z = true ∧ i.zero.cs.length = i.size ∧ zeroCs i.zero.cs z.cells.toList = true
  one : ∀ t i, tt t = some i → isAggD i.desc = false → i.size = 1
  aggr : ∀ t i, tt t = some i → isAggD i.desc = true → ∃ cs, i.zero = .agg cs

theorem zeroC_rel {w : World} {G : Gh} {H : List AB} {x : C} {v : Value} (h : zeroC x v = true) : CRel w G H x v ∧ v.oneCell' = true := by
  unfold zeroC at h
  split at h
  · simp at h; obtain ⟨rfl, rfl⟩ := h; exact ⟨.d _ _ (.int _ _), rfl⟩
  · simp at h; subst h; exact ⟨.d _ _ (.bool _), rfl⟩
  · exact ⟨.full [] none 0 rfl (.emp none 0), rfl⟩
  · exact ⟨.nilp, rfl⟩
  · exact ⟨.any _, h⟩
  · cases h

theorem zeroCs_rel {w : World} {G : Gh} {H : List AB} : ∀ {cs : List C} {vs : List Value}, zeroCs cs vs = true → CsRel w G H cs vs
  | [], [], _ => ⟨rfl, fun i x v h => by simp at h⟩
  | c :: cs, v :: vs, h => by
    simp only [zeroCs, Bool.and_eq_true] at h
    have ih := zeroCs_rel (w := w) (G := G) (H := H) h.2
    refine ⟨by simp [ih.1], fun i x u hx hu => ?_⟩
    cases i with
    | zero => simp at hx hu; subst hx; subst hu; exact zeroC_rel h.1
    | succ i => simp at hx hu; exact ih.2 i x u hx hu
  | [], _ :: _, h => by simp [zeroCs] at h
  | _ :: _, [], h => by simp [zeroCs] at h

theorem zeroV_rel {w : World} {G : Gh} {H : List AB} {x : V} {v : Value} (h : zeroV x v = true) : VRel w G H x v := by
  cases x with
  | c x =>
    simp only [zeroV, Bool.or_eq_true] at h
    rcases h with h | h
    · cases x <;> simp at h
      exact .c _ _ (.any _)
    · exact .c _ _ (zeroC_rel h).1
  | agg cs =>
    cases v <;> simp [zeroV] at h
    exact .agg _ _ (zeroCs_rel h)
  | tup vs => simp [zeroV] at h

theorem TTok.desc_at {P : Program} {tt : Nat → Option TI} (T : TTok P tt) {t : Nat} {i : TI} (h : tt t = some i) {d : TypeDesc} (hd : i.desc = d) (hs : simpleD d = true) : P.underlying t = some d := by
  obtain ⟨d', h1, h2⟩ := T.desc t i h
  rw [h1, ← hd, ← h2]
  subst hd
  rw [← h2] at hs
  cases d' <;> first | rfl | (simp [strip, simpleD] at hs)
theorem TTok.run_at {P : Program} {tt : Nat → Option TI} (T : TTok P tt) {t : Nat} {i : TI} (h : tt t = some i) {d : TypeDesc} (hd : i.desc = d) (hs : simpleD d = true) (w : World) : (underlying t).run P w = .ok d w := by
  simp [underlying, T.desc_at h hd hs]
theorem TTok.desc_struct {P : Program} {tt : Nat → Option TI} (T : TTok P tt) {t : Nat} {i : TI} (h : tt t = some i) {fs : Array Field} (hd : i.desc = .struct fs) :
    ∃ fs' : Array Field, P.underlying t = some (.struct fs') ∧ fs'.map (fun f => fld f.type f.offset) = fs := by
  obtain ⟨d', h1, h2⟩ := T.desc t i h
  rw [hd] at h2
  cases d' <;> simp [strip] at h2
  exact ⟨_, h1, h2⟩
theorem TTok.run_struct {P : Program} {tt : Nat → Option TI} (T : TTok P tt) {t : Nat} {i : TI} (h : tt t = some i) {fs : Array Field} (hd : i.desc = .struct fs) (w : World) :
    ∃ fs' : Array Field, (underlying t).run P w = .ok (.struct fs') w ∧ fs'.map (fun f => fld f.type f.offset) = fs := by
  obtain ⟨fs', h1, h2⟩ := T.desc_struct h hd
  exact ⟨fs', by simp [underlying, h1], h2⟩
theorem field_of {fs fs' : Array Field} {f : Nat} {fd : Field} (h : fs'.map (fun f => fld f.type f.offset) = fs) (hf : fs[f]? = some fd) : ∃ fd', fs'[f]? = some fd' ∧ fd'.type = fd.type ∧ fd'.offset = fd.offset := by
  subst h
  rw [Array.getElem?_map] at hf
  cases hq : fs'[f]? with
  | none => rw [hq] at hf; cases hf
  | some q => rw [hq] at hf; cases hf; exact ⟨q, rfl, rfl, rfl⟩
theorem TTok.run_sizeOf {P : Program} {tt : Nat → Option TI} (T : TTok P tt) {t : Nat} {i : TI} (h : tt t = some i) (w : World) : (sizeOf t).run P w = .ok i.size w := by
  obtain ⟨inf, h1, h2, _⟩ := T.info t i h
  simp [sizeOf, typeInfo, h1, h2]
theorem TTok.run_bytes {P : Program} {tt : Nat → Option TI} (T : TTok P tt) {t : Nat} {i : TI} (h : tt t = some i) (w : World) : ∃ inf, (typeInfo t).run P w = .ok inf w ∧ inf.bytes = i.bytes := by
  obtain ⟨inf, h1, h2, h3, _⟩ := T.info t i h
  exact ⟨inf, by simp [typeInfo, h1], h3⟩
theorem TTok.run_zero {P : Program} {tt : Nat → Option TI} (T : TTok P tt) {t : Nat} {i : TI} (h : tt t = some i) :
    ∃ z, (∀ w, (zeroValue t).run P w = .ok z w) ∧ zeroV i.zero z = true ∧ zeroCs i.zero.cs z.cells.toList = true ∧ i.zero.cs.length = i.size := by
  obtain ⟨inf, h1, h2, h3, z, h4, h5, h7, h8⟩ := T.info t i h
  exact ⟨z, fun w => by simp [zeroValue, typeInfo, h1, h4], h5, h8, h7⟩
theorem TTok.run_isAgg {P : Program} {tt : Nat → Option TI} (T : TTok P tt) {t : Nat} {i : TI} (h : tt t = some i) (w : World) : (isAgg t).run P w = .ok (isAggD i.desc) w := by
  obtain ⟨d, h1, h2⟩ := T.desc t i h
  have : (underlying t).run P w = .ok d w := by simp [underlying, h1]
  simp only [isAgg, Sem.run_bind, this, Result.andThen_ok, ← h2]
  cases d <;> rfl

/-! ### The table, checked -/
def eqFs : List Field → List Field → Bool
  | [], [] => true
  | f :: fs, g :: gs => f.type == g.type && f.offset == g.offset && eqFs fs gs
  | _, _ => false
def eqD : TypeDesc → TypeDesc → Bool
  | .bool, .bool => true
  | .int k, .int k' => k == k'
  | .slice e, .slice e' => e == e'
  | .array n e, .array n' e' => n == n' && e == e'
  | .pointer e, .pointer e' => e == e'
  | .map k e, .map k' e' => k == k' && e == e'
  | .struct fs, .struct gs => eqFs fs.toList gs.toList
  | .func _ _ _, .func ps rs v => ps.isEmpty && rs.isEmpty && !v
  | _, _ => false
def namesB : TypeDesc → Bool
  | .struct fs => fs.toList.all (fun f => f.name == "" && !f.embedded && f.tag == "" && f.pkgPath == "" && f.byteOffset == 0)
  | _ => true
def checkT (P : Program) (t : Nat) (i : TI) : Bool :=
  (match P.underlying t with | some d => eqD d i.desc | none => false) &&
  (match P.info? t with
    | some inf => inf.size == i.size && inf.bytes == i.bytes && (match inf.zero with
      | some z => zeroV i.zero z && i.zero.cs.length == i.size && zeroCs i.zero.cs z.cells.toList
      | none => false)
    | none => false) &&
  (if isAggD i.desc then (match i.zero with | .agg _ => true | _ => false) else i.size == 1) &&
  namesB i.desc
def lookT : List (Nat × TI) → Nat → Option TI
  | [], _ => none
  | (t, i) :: r, u => if t = u then some i else lookT r u

theorem eqFs_map : ∀ (fs gs : List Field), eqFs fs gs = true → gs.all (fun f => f.name == "" && !f.embedded && f.tag == "" && f.pkgPath == "" && f.byteOffset == 0) = true → fs.map (fun f => fld f.type f.offset) = gs
  | [], [], _, _ => rfl
  | f :: fs, g :: gs, h, h' => by
    simp only [eqFs, Bool.and_eq_true, beq_iff_eq] at h
    simp only [List.all_cons, Bool.and_eq_true, beq_iff_eq, Bool.not_eq_true'] at h'
    obtain ⟨⟨h1, h2⟩, h3⟩ := h
    obtain ⟨⟨⟨⟨⟨a1, a2⟩, a3⟩, a4⟩, a5⟩, h4⟩ := h'
    rw [List.map_cons, eqFs_map fs gs h3 h4]
    congr 1
    cases g
    simp_all [fld]
  | [], _ :: _, h, _ => by simp [eqFs] at h
  | _ :: _, [], h, _ => by simp [eqFs] at h

theorem eqD_strip {d e : TypeDesc} (h : eqD d e = true) (h' : namesB e = true) : strip d = e := by
  unfold eqD at h
  split at h
  · rfl
  · simp at h; subst h; rfl
  · simp at h; subst h; rfl
  · simp at h; obtain ⟨rfl, rfl⟩ := h; rfl
  · simp at h; subst h; rfl
  · simp at h; obtain ⟨rfl, rfl⟩ := h; rfl
  · rename_i fs gs
    simp only [strip]
    congr 1
    apply Array.toList_inj.1
    rw [Array.toList_map]
    exact eqFs_map _ _ h h'
  · rename_i ps rs v
    simp at h
    obtain ⟨⟨h1, h2⟩, h3⟩ := h
    subst h1; subst h2; subst h3
    rfl
  · cases h

theorem lookT_mem : ∀ {l : List (Nat × TI)} {t : Nat} {i : TI}, lookT l t = some i → (t, i) ∈ l
  | [], t, i, h => by simp [lookT] at h
  | (u, j) :: r, t, i, h => by
    simp only [lookT] at h
    split at h
    · rename_i e; subst e; cases h; simp
    · exact List.mem_cons_of_mem _ (lookT_mem h)

theorem ttok_of {P : Program} {l : List (Nat × TI)} (h : l.all (fun p => checkT P p.1 p.2) = true) : TTok P (lookT l) := by
  have key : ∀ t i, lookT l t = some i → checkT P t i = true := fun t i hi => List.all_eq_true.1 h (t, i) (lookT_mem hi)
  refine ⟨fun t i hi => ?_, fun t i hi => ?_, fun t i hi ha => ?_, fun t i hi ha => ?_⟩
  all_goals
    have hc := key t i hi
    simp only [checkT, Bool.and_eq_true] at hc
    obtain ⟨⟨⟨h1, h2⟩, h3⟩, h4⟩ := hc
  · split at h1
    · rename_i d hd; exact ⟨d, hd, eqD_strip h1 h4⟩
    · cases h1
  · split at h2
    · rename_i inf hinf
      simp only [Bool.and_eq_true, beq_iff_eq] at h2
      obtain ⟨⟨e1, e2⟩, e3⟩ := h2
      split at e3
      · rename_i z hz
        simp only [Bool.and_eq_true, beq_iff_eq] at e3
        obtain ⟨⟨f1, f3⟩, f4⟩ := e3
        exact ⟨inf, hinf, e1, e2, z, hz, f1, f3, f4⟩
      · cases e3
    · cases h2
  · rw [ha] at h3; simpa using h3
  · rw [ha] at h3
    simp only [if_true] at h3
    split at h3
    · rename_i cs hz; exact ⟨cs, hz⟩
    · cases h3

/-! ### What an operation yields -/
def Yields (P : Program) (s : Sem Value) (w : World) (G : Gh) (H : List AB) (x : V) (H' : List AB) : Prop :=
  ∃ v w' G', s.run P w = .ok v w' ∧ VRel w' G' H' x v ∧ Rel w' G' H' ∧ Later w G H w' G' H'

theorem Yields.still {P : Program} {s : Sem Value} {w : World} {G : Gh} {H : List AB} {x : V} {v : Value} (R : Rel w G H) (h : s.run P w = .ok v w) (hx : VRel w G H x v) : Yields P s w G H x H :=
  ⟨v, w, G, h, hx, R, Later.refl _ _ _⟩

/-- One operation, from a state to a value and the owned blocks behind it. -/
def OpAt (P : Program) (ro : Option Nat) (o : Oper) (H : List AB) (E : Operand → V) (post : V → List AB → Prop) : Prop :=
  ∀ (w : World) (G : Gh) (a : Act) (next : Act → World → Prop) (Q : Exit → Act → World → Prop), Rel w G H → (∀ x ∈ o.op.operands, VRel w G H (E x) (a.eval x)) →
    (∀ v x H' G' w', post x H' → VRel w' G' H' x v → Rel w' G' H' → Later w G H w' G' H' → next (a.put o.dst v) w') →
    o.wpIn { Fence.wide with round := ro } 0 P a w next Q

theorem OpAt.mono {P : Program} {ro : Option Nat} {o : Oper} {H : List AB} {E : Operand → V} {post post' : V → List AB → Prop} (h : OpAt P ro o H E post) (hp : ∀ x H', post x H' → post' x H') : OpAt P ro o H E post' :=
  fun w G a next Q R hE hn => h w G a next Q R hE fun v x H' G' w' hpo => hn v x H' G' w' (hp _ _ hpo)

abbrev one (x : V) (H : List AB) : V → List AB → Prop := fun y H' => y = x ∧ H' = H

/-- An operation whose run is a value's. -/
theorem OpAt.of_value {P : Program} {ro : Option Nat} {o : Oper} {H H' : List AB} {E : Operand → V} {x : V} {s : (Operand → Value) → Sem Value} (hd : ∀ c, o.op ≠ .defer c)
    (hs : ∀ ρ, execOp ρ o = (do pure (.value (← s ρ)))) 
    (h : ∀ w G (a : Act), Rel w G H → (∀ x ∈ o.op.operands, VRel w G H (E x) (a.eval x)) → Yields P (s a.eval) w G H x H') : OpAt P ro o H E (one x H') := by
  intro w G a next Q R hE hn
  obtain ⟨v, w', G', h1, h2, h3, h4⟩ := h w G a R hE
  refine ⟨fun _ _ => trivial, ?_⟩
  rw [Oper.semAt_eq _ _ _ hd, hs]
  simp only [Sem.run_bind, h1, Result.andThen_ok, Sem.run_pure, Oper.uponIn_value]
  exact hn v x H' G' w' ⟨rfl, rfl⟩ h2 h3 h4

theorem OpAt.of_unit {P : Program} {ro : Option Nat} {o : Oper} {H H' : List AB} {E : Operand → V} {s : (Operand → Value) → Sem Unit} (hd : ∀ c, o.op ≠ .defer c)
    (hs : ∀ ρ, execOp ρ o = (do s ρ; pure .skip)) 
    (h : ∀ w G (a : Act), Rel w G H → (∀ x ∈ o.op.operands, VRel w G H (E x) (a.eval x)) → ∃ w' G', (s a.eval).run P w = .ok () w' ∧ Rel w' G' H' ∧ Later w G H w' G' H') : OpAt P ro o H E (one (.c .any) H') := by
  intro w G a next Q R hE hn
  obtain ⟨w', G', h1, h3, h4⟩ := h w G a R hE
  refine ⟨fun _ _ => trivial, ?_⟩
  rw [Oper.semAt_eq _ _ _ hd, hs]
  simp only [Sem.run_bind, h1, Result.andThen_ok, Sem.run_pure, Oper.uponIn_skip]
  exact hn _ (.c .any) H' G' w' ⟨rfl, rfl⟩ (.c _ _ (.any _)) h3 h4
end Go.Abs
