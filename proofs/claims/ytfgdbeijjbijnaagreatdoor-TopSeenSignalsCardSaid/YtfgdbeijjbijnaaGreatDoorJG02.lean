/- Operators and builtins. -/
import Derived.Test.YtfgdbeijjbijnaaGreatDoorJG01
set_option linter.unusedSimpArgs false
set_option linter.unusedVariables false
namespace Go.Abs
open Go
structure Tx where
 P : Program
 tt : Nat → Option TI
 vm : Bool := false
 eqs : Nat → Bool
 ok : By P tt
 eok : ∀ t, eqs t = true → CR P tt 20 t = true ∧ P.eqGuardType P.depth t = false
abbrev I (n : Int) : V := .c (.d (.int .i64 n))
abbrev B (b : Bool) : V := .c (.d (.bool b))
def SU (op : BinOp) (k : IntKind) (a b : Int) : Option (Bool × V) :=
 match op with
 | .add => some (true, .c (.d (.int k (wr k (a + b)))))
 | .sub => some (true, .c (.d (.int k (wr k (a - b)))))
 | .mul => some (true, .c (.d (.int k (wr k (a * b)))))
 | .quo => some (!decide (b = 0), .c (.d (.int k (wr k (a.tdiv b)))))
 | .rem => some (!decide (b = 0), .c (.d (.int k (a.tmod b))))
 | .and => some (true, .c (.d (.int k (bits .and k a b))))
 | .or => some (true, .c (.d (.int k (bits .or k a b))))
 | .xor => some (true, .c (.d (.int k (bits .xor k a b))))
 | .andNot => some (true, .c (.d (.int k (bits .andNot k a b))))
 | .eql => some (true, B (decide (a = b)))
 | .neq => some (true, B (!decide (a = b)))
 | .lss => some (true, B (decide (a < b)))
 | .leq => some (true, B (decide (a ≤ b)))
 | .gtr => some (true, B (decide (b < a)))
 | .geq => some (true, B (decide (b ≤ a)))
 | _ => none
def aD3 (X : Tx) (op : BinOp) (t : Nat) (x y : V) : Option (Bool × V) :=
 match x, y with
 | .c (.d (.int k a)), .c (.d (.int k' b)) =>
  match op with
  | .shl => some (decide (0 ≤ b), .c (.d (.int k (wr k (a * 2 ^ min b.toNat k.bits)))))
  | .shr => some (decide (0 ≤ b), .c (.d (.int k (a.fdiv (2 ^ min b.toNat k.bits)))))
  | _ => if k = k' then SU op k a b else none
 | .c (.d (.bool a)), .c (.d (.bool b)) =>
  match X.tt t with
  | some i => match i.desc with
   | .bool => match op with
    | .eql => some (true, B (a == b))
    | .neq => some (true, B (a != b))
    | _ => none
   | _ => none
  | none => none
 | .agg xs, .agg ys =>
  match X.tt t with
  | some i =>
   if X.eqs t && BS i.desc then
    match C3 xs ys, op with
    | some b, .eql => some (decide (xs.length = i.size) && decide (ys.length = i.size), B b)
    | some b, .neq => some (decide (xs.length = i.size) && decide (ys.length = i.size), B (!b))
    | _, _ => none
   else none
  | none => none
 | .c p, .c .nilp =>
  match X.tt t with
  | some i => match i.desc with
   | .pointer _ =>
    match p, op with
    | .nilp, .eql => some (true, B true)
    | .nilp, .neq => some (true, B false)
    | .ptr _ _, .eql => some (true, B false)
    | .ptr _ _, .neq => some (true, B true)
    | .dp _, .eql => some (true, B false)
    | .dp _, .neq => some (true, B true)
    | _, _ => none
   | _ => none
  | none => none
 | _, _ => none
section
variable {X : Tx} {w : World} {G : Gh} {H : List AB}
theorem TL {op : BinOp} {k : IntKind} {a b : Int} {z : V} (h : SU op k a b = some (true, z)) (hsh : op ≠ .shl) (hsr : op ≠ .shr) (t : Nat) (P : Program) : ∃ v, (binOp op t (.int k a) (.int k b)).run P w = .ok v w ∧ Ag w G H z v := by
 have mk : ∀ n : Int, Ag w G H (.c (.d (.int k n))) (.int k n) := fun n => .c _ _ (.d _ _ (.int _ _))
 have mb : ∀ b : Bool, Ag w G H (B b) (.bool b) := fun n => .c _ _ (.d _ _ (.bool _))
 cases op <;> simp [SU] at h
 case add => subst h; exact ⟨.int k (k.wrap (a + b)), by simp [binOp, Op.intArith], by rw [J7]; exact mk _⟩
 case sub => subst h; exact ⟨.int k (k.wrap (a - b)), by simp [binOp, Op.intArith], by rw [J7]; exact mk _⟩
 case mul => subst h; exact ⟨.int k (k.wrap (a * b)), by simp [binOp, Op.intArith], by rw [J7]; exact mk _⟩
 case quo => obtain ⟨h0, rfl⟩ := h; exact ⟨.int k (k.wrap (a.tdiv b)), by simp [binOp, Op.intDiv, h0], by rw [J7]; exact mk _⟩
 case rem => obtain ⟨h0, rfl⟩ := h; exact ⟨.int k (a.tmod b), by simp [binOp, Op.intDiv, h0], mk _⟩
 case and => subst h; exact ⟨_, by rw [binOp_and]; rfl, mk _⟩
 case or => subst h; exact ⟨_, by rw [binOp_or]; rfl, mk _⟩
 case xor => subst h; exact ⟨_, by rw [binOp_xor]; rfl, mk _⟩
 case andNot => subst h; exact ⟨_, by rw [binOp_andNot]; rfl, mk _⟩
 case eql => subst h; exact ⟨.bool (decide (a = b)), by simp [binOp, Op.intCmp]; rfl, mb _⟩
 case neq => subst h; exact ⟨.bool (!decide (a = b)), by simp [binOp, Op.intCmp]; rfl, mb _⟩
 case lss => subst h; exact ⟨.bool (decide (a < b)), by simp [binOp, Op.intCmp], mb _⟩
 case leq => subst h; exact ⟨.bool (decide (a ≤ b)), by simp [binOp, Op.intCmp], mb _⟩
 case gtr => subst h; exact ⟨.bool (decide (b < a)), by simp [binOp, Op.intCmp], mb _⟩
 case geq => subst h; exact ⟨.bool (decide (b ≤ a)), by simp [binOp, Op.intCmp], mb _⟩
theorem FG {op : BinOp} {t : Nat} {x y : Operand} {v u : Value} (P : Program) (hv : v.oneCell' = true) (hn : v ≠ .nilIface) : (eqGuard op t x y v u).run P w = .ok () w := by
 cases op <;> cases v <;> simp [eqGuard, Value.oneCell'] at hv hn ⊢
theorem NC {P : Program} {t e : Nat} (hu : P.underlying t = some (.pointer e)) (d : Nat) (a : Addr) : (Op.equalIn (d + 1) t (.pointer (some a)) (.pointer none)).run P w = .ok false w := by
 simp only [Op.equalIn, Sem.run_bind, Go.run_underlying hu, Result.andThen_ok, Sem.run_pure]
theorem ND {P : Program} {t e : Nat} (hu : P.underlying t = some (.pointer e)) (d : Nat) : (Op.equalIn (d + 1) t (.pointer none) (.pointer none)).run P w = .ok true w := by
 simp only [Op.equalIn, Sem.run_bind, Go.run_underlying hu, Result.andThen_ok, Sem.run_pure, Option.isNone_none]
theorem NE {op : BinOp} {t : Nat} {x y : Operand} {p q z : V} {v u : Value} (R : Rel w G H) (hp : Ag w G H p v) (hq : Ag w G H q u) (h : aD3 X op t p q = some (true, z)) :
  Aj X.P (do eqGuard op t x y v u; binOp op t v u) w G H z H := by
 have still : ∀ r, (binOp op t v u).run X.P w = .ok r w → Ag w G H z r → (eqGuard op t x y v u).run X.P w = .ok () w → Aj X.P (do eqGuard op t x y v u; binOp op t v u) w G H z H := fun r h1 h2 h3 =>
  Aj.still R (v := r) (by simp only [Sem.run_bind, h3, Result.andThen_ok, h1]) h2
 have mk : ∀ (k : IntKind) (n : Int), Ag w G H (.c (.d (.int k n))) (.int k n) := fun _ n => .c _ _ (.d _ _ (.int _ _))
 have mb : ∀ b : Bool, Ag w G H (B b) (.bool b) := fun n => .c _ _ (.d _ _ (.bool _))
 unfold aD3 at h
 split at h
 ·
  rename_i k a k' b
  obtain rfl := Bz hp
  obtain rfl := Bz hq
  have hg := FG (w := w) (op := op) (t := t) (x := x) (y := y) (u := .int k' b) X.P (v := .int k a) rfl (by simp)
  split at h
  ·simp at h
   obtain ⟨h0, rfl⟩ := h
   refine still _ ?_ (by rw [J7]; exact mk _ _) hg
   simp [binOp, Op.shift, Int.not_lt.2 h0]
  ·simp at h
   obtain ⟨h0, rfl⟩ := h
   refine still _ ?_ (mk _ _) hg
   simp [binOp, Op.shift, Int.not_lt.2 h0]
  ·rename_i h1 h2
   split at h
   ·rename_i e
    subst e
    obtain ⟨r, h3, h4⟩ := TL (w := w) (G := G) (H := H) h (fun e => h1 e) (fun e => h2 e) t X.P
    exact still r h3 h4 hg
   ·cases h
 ·
  rename_i a b
  obtain rfl := EL hp
  obtain rfl := EL hq
  have hg := FG (w := w) (op := op) (t := t) (x := x) (y := y) (u := .bool b) X.P (v := .bool a) rfl (by simp)
  split at h
  ·rename_i i hi
   split at h
   ·rename_i hd
    have hu := X.ok.desc_at hi hd rfl
    have he := run_equalIn_bool' (P := X.P) w 9999 t a b hu
    split at h
    ·simp at h; subst h
     refine still (.bool (a == b)) ?_ (mb _) hg
     simp [binOp, Op.equal, Op.maxDepth, he]
    ·simp at h; subst h
     refine still (.bool (a != b)) ?_ (mb _) hg
     simp only [binOp]
     simp [Op.equal, Op.maxDepth, he, bne]
    ·cases h
   ·cases h
  ·cases h
 ·
  rename_i xs ys
  obtain ⟨arr, rfl, hx⟩ := DZ hp
  obtain ⟨arr', rfl, hy⟩ := DZ hq
  split at h
  ·rename_i i hi
   split at h
   ·rename_i hc
    simp only [Bool.and_eq_true] at hc
    obtain ⟨hc, ha⟩ := hc
    obtain ⟨hf, hgt⟩ := X.eok t hc
    have hg : (eqGuard op t x y (.agg arr) (.agg arr')).run X.P w = .ok () w := by
     cases op <;> simp [eqGuard, hgt]
    have core : ∀ b, C3 xs ys = some b → xs.length = i.size → ys.length = i.size → (Op.equalIn 10000 t (.agg arr) (.agg arr')).run X.P w = .ok b w := fun b hb h1 h2 => by
     obtain ⟨v, u, e1, e2, e3⟩ := F8 (w := w) (G := G) (H := H) X.ok 20 t i hi hf 10000 (by omega) xs ys arr arr' 0 b hx hy (by omega) (by omega) (by
      rw [List.drop_zero, List.drop_zero, List.take_of_length_le (by omega), List.take_of_length_le (by omega)]; exact hb)
     have l1 : arr.size = i.size := by have := hx.1; simp at this; omega
     have l2 : arr'.size = i.size := by have := hy.1; simp at this; omega
     have f1 : (part t arr 0).run X.P w = .ok (.agg arr) w := by
      simp [part, X.ok.run_isAgg hi, ha, X.ok.run_sizeOf hi, ← l1]
     have f2 : (part t arr' 0).run X.P w = .ok (.agg arr') w := by
      simp [part, X.ok.run_isAgg hi, ha, X.ok.run_sizeOf hi, ← l2]
     rw [f1] at e1; rw [f2] at e2
     cases e1; cases e2
     exact e3
    split at h
    ·rename_i b hb
     simp at h
     obtain ⟨⟨h1, h2⟩, rfl⟩ := h
     refine still (.bool b) ?_ (mb _) hg
     simp [binOp, Op.equal, Op.maxDepth, core b hb h1 h2]
    ·rename_i b hb
     simp at h
     obtain ⟨⟨h1, h2⟩, rfl⟩ := h
     refine still (.bool (!b)) ?_ (mb _) hg
     simp [binOp, Op.equal, Op.maxDepth, core b hb h1 h2]
    ·cases h
   ·cases h
  ·cases h
 ·
  rename_i p'
  split at h
  ·rename_i i hi
   split at h
   ·rename_i e hd
    have hu := X.ok.desc_at hi hd rfl
    have hq' : u = .pointer none := by cases hq with | c _ _ h => cases h; rfl
    subst hq'
    have hg : v.oneCell' = true → v ≠ .nilIface → (eqGuard op t x y v (.pointer none)).run X.P w = .ok () w := fun a b => FG X.P a b
    have run1 : ∀ a, (Op.equalIn 10000 t (.pointer (some a)) (.pointer none)).run X.P w = .ok false w := fun a => NC hu 9999 a
    have run2 : (Op.equalIn 10000 t (.pointer none) (.pointer none)).run X.P w = .ok true w := ND hu 9999
    have fin : ∀ b : Bool, z = B b → (binOp op t v (.pointer none)).run X.P w = .ok (.bool b) w → v.oneCell' = true → v ≠ .nilIface → Aj X.P (do eqGuard op t x y v (.pointer none); binOp op t v (.pointer none)) w G H z H := fun b e1 e2 e3 e4 => by
     subst e1
     exact still (.bool b) e2 (mb _) (hg e3 e4)
    cases p' with
    | nilp =>
     cases hp with
     | c _ _ hp =>
      cases hp
      cases op <;> simp at h
      ·exact fin true h.symm (by simp [binOp, Op.equal, Op.maxDepth, run2]) rfl (by simp)
      ·exact fin false h.symm (by simp [binOp, Op.equal, Op.maxDepth, run2]) rfl (by simp)
    | ptr a b =>
     cases hp with
     | c _ _ hp =>
      cases hp
      cases op <;> simp at h
      ·exact fin false h.symm (by simp [binOp, Op.equal, Op.maxDepth, run1]) rfl (by simp)
      ·exact fin true h.symm (by simp [binOp, Op.equal, Op.maxDepth, run1]) rfl (by simp)
    | dp ds =>
     cases hp with
     | c _ _ hp =>
      cases hp
      cases op <;> simp at h
      ·exact fin false h.symm (by simp [binOp, Op.equal, Op.maxDepth, run1]) rfl (by simp)
      ·exact fin true h.symm (by simp [binOp, Op.equal, Op.maxDepth, run1]) rfl (by simp)
    | _ => cases op <;> cases h
   ·cases h
  ·cases h
 ·cases h
end
end Go.Abs
namespace Go.Abs
open Go
def E5 : List V → Option (IntKind × List Int)
 | [.c (.d (.int k n))] => some (k, [n])
 | .c (.d (.int k n)) :: r => match E5 r with
  | some (k', l) => if k = k' then some (k, n :: l) else none
  | none => none
 | _ => none
def L4 : Int → List Int → Int
 | m, [] => m
 | m, x :: r => L4 (min m x) r
def Jz : Int → List Int → Int
 | m, [] => m
 | m, x :: r => Jz (max m x) r
def DI (H : List AB) (sz n : Nat) : C → Option (List C)
 | .ms id off len _ => match H[id]? with
  | some (.cells cs) => if n ≤ len ∧ off + n * sz ≤ cs.length then some ((cs.drop off).take (n * sz)) else none
  | _ => none
 | c => match CW c with
  | some rows => if n ≤ rows.length ∧ rows.all (fun r => r.length == sz) then some ((rows.take n).flatten.map .d) else none
  | none => none
def Q9 : C → Option Nat
 | .ms _ _ len _ => some len
 | c => (CW c).map (·.length)
section
variable {X : Tx} {w : World} {G : Gh} {H : List AB}
theorem OL {c : C} {n : Nat} {v : Value} (h : Q9 c = some n) (hv : Ap w G H c v) : ∃ a cap, v = .slice a n cap := by
 cases c with
 | ms id off len cap => simp [Q9] at h; subst h; cases hv; exact ⟨_, _, rfl⟩
 | _ =>
  simp only [Q9] at h
  cases hr : CW _ with
  | none => rw [hr] at h; cases h
  | some rows =>
   rw [hr] at h
   simp at h
   subst h
   obtain ⟨a, cap, e, _⟩ := Dp hr hv
   exact ⟨a, cap, e⟩
theorem Kb {t e n : Nat} {i : TI} (ht : X.tt t = some i) (hd : i.desc = .array n e) {x : Value} {ty : TypeId} (R : Rel w G H) :
  Aj X.P (Builtin.len_ #[t] ty #[x]) w G H (I n) H := by
 refine Aj.still R (v := .int .i64 n) ?_ (.c _ _ (.d _ _ (.int _ _)))
 simp [Builtin.len_, X.ok.run_at ht hd rfl, goInt]
theorem Kd {t k e id : Nat} {i : TI} {es : List (V × V)} (ht : X.tt t = some i) (hd : i.desc = .map k e) {x : Value} {ty : TypeId} (R : Rel w G H) (hid : H[id]? = some (.mp es)) (hx : Ap w G H (.mp id) x) :
  Aj X.P (Builtin.len_ #[t] ty #[x]) w G H (I es.length) H := by
 cases hx
 cases R.ab id _ hid with
 | mp _ rs clock hb hr hrole =>
  refine Aj.still R (v := .int .i64 es.length) ?_ (.c _ _ (.d _ _ (.int _ _)))
  have : (getObj (G.rho id)).run X.P w = .ok (.map rs clock) w := by simp [getObj, Sem.run, hb]
  simp [Builtin.len_, X.ok.run_at ht hd rfl, goInt, this, hr.1]
theorem Ke : ∀ {vs : List V} {k : IntKind} {l : List Int} {us : List Value}, E5 vs = some (k, l) → vs.length = us.length → (∀ (i : Nat) (x : V) (v : Value), vs[i]? = some x → us[i]? = some v → Ag w G H x v) → us = l.map (Value.int k)
 | [], k, l, us, h, _, _ => by simp [E5] at h
 | v :: r, k, l, us, h, hl, hr => by
  cases us with
  | nil => simp at hl
  | cons u us =>
   have h0 := hr 0 v u rfl rfl
   unfold E5 at h
   split at h
   ·rename_i k' n heq
    cases heq
    cases h
    obtain rfl := Bz h0
    have : us = [] := by simpa using hl.symm
    subst this; rfl
   ·rename_i k' n r' hne heq
    cases heq
    split at h
    ·rename_i k2 l2 h2
     split at h
     ·rename_i e
      subst e
      cases h
      obtain rfl := Bz h0
      have ih := Ke (us := us) h2 (by simpa using hl) (fun i x v hx hv => hr (i + 1) x v (by simpa using hx) (by simpa using hv))
      rw [ih]
      rfl
     ·cases h
    ·cases h
   ·cases h
theorem OM (k : IntKind) (P : Program) : ∀ (l : List Int) (m : Int), ((l.map (Value.int k)).foldlM Builtin.min2 (.int k m)).run P w = .ok (.int k (L4 m l)) w
 | [], m => by simp [L4]
 | x :: l, m => by
  simp only [List.map_cons, List.foldlM_cons, Sem.run_bind, Builtin.min2, Sem.run_pure, Result.andThen_ok, L4]
  rw [OM k P l]
  congr 3
  simp only [Int.min_def]; split <;> split <;> omega
theorem ON (k : IntKind) (P : Program) : ∀ (l : List Int) (m : Int), ((l.map (Value.int k)).foldlM Builtin.max2 (.int k m)).run P w = .ok (.int k (Jz m l)) w
 | [], m => by simp [Jz]
 | x :: l, m => by
  simp only [List.map_cons, List.foldlM_cons, Sem.run_bind, Builtin.max2, Sem.run_pure, Result.andThen_ok, Jz]
  rw [ON k P l]
  congr 3
  simp only [Int.max_def]; split <;> split <;> omega
theorem Ra {vs : List V} {k : IntKind} {m : Int} {l : List Int} {us : Array Value} {ts : Array TypeId} {ty : TypeId} (R : Rel w G H) (h : E5 vs = some (k, m :: l)) (hl : vs.length = us.toList.length)
  (hr : ∀ (i : Nat) (x : V) (v : Value), vs[i]? = some x → us.toList[i]? = some v → Ag w G H x v) : Aj X.P (Builtin.min_ ts ty us) w G H (.c (.d (.int k (L4 m l)))) H := by
 have e := Ke h hl hr
 refine Aj.still R (v := .int k (L4 m l)) ?_ (.c _ _ (.d _ _ (.int _ _)))
 simp only [Builtin.min_, e, List.map_cons]
 exact OM k X.P l m
theorem Rb {vs : List V} {k : IntKind} {m : Int} {l : List Int} {us : Array Value} {ts : Array TypeId} {ty : TypeId} (R : Rel w G H) (h : E5 vs = some (k, m :: l)) (hl : vs.length = us.toList.length)
  (hr : ∀ (i : Nat) (x : V) (v : Value), vs[i]? = some x → us.toList[i]? = some v → Ag w G H x v) : Aj X.P (Builtin.max_ ts ty us) w G H (.c (.d (.int k (Jz m l)))) H := by
 have e := Ke h hl hr
 refine Aj.still R (v := .int k (Jz m l)) ?_ (.c _ _ (.d _ _ (.int _ _)))
 simp only [Builtin.max_, e, List.map_cons]
 exact ON k X.P l m
theorem NF {sz n : Nat} : ∀ {rows : List (List D)}, (∀ r ∈ rows, r.length = sz) → (rows.take n).flatten = rows.flatten.take (n * sz) := by
 induction n with
 | zero => intro rows _; simp
 | succ n ih =>
  intro rows h
  cases rows with
  | nil => simp
  | cons r rows =>
   have hr := h r (by simp)
   have ih' := ih (rows := rows) (fun x hx => h x (List.mem_cons_of_mem _ hx))
   have e1 : (n + 1) * sz - sz = n * sz := by rw [Nat.succ_mul]; omega
   have e2 : r.take ((n + 1) * sz) = r := List.take_of_length_le (by rw [Nat.succ_mul]; omega)
   rw [List.take_succ_cons, List.flatten_cons, List.flatten_cons, ih', List.take_append, hr, e1, e2]
theorem aD4 {c : C} {sz n : Nat} {cs : List C} {v : Value} (R : Rel w G H) (h : DI H sz n c = some cs) (hz : 0 < sz) (hv : Ap w G H c v) :
  ∃ vs : List Value, (Builtin.firstCells sz n v).run X.P w = .ok vs.toArray w ∧ An w G H cs vs := by
 cases c with
 | ms id off len cap =>
  simp only [DI] at h
  split at h
  ·rename_i cs0 hid
   split at h
   ·rename_i hc
    cases h
    cases hv
    obtain ⟨arr, t, hb, hr⟩ := CQ R hid
    have hl := hr.1
    have hr' := (hr.drop off).take (n * sz)
    refine ⟨(arr.toList.drop off).take (n * sz), ?_, hr'⟩
    have := run_loadCells_list (P := X.P) w ⟨G.rho id, off, none⟩ ((arr.toList.drop off).take (n * sz)) (fun j v hj => by
     rw [Addr.add_lit, Cr hb]
     rw [List.getElem?_take] at hj
     split at hj
     ·rwa [List.getElem?_drop] at hj
     ·cases hj)
    have hlen : ((arr.toList.drop off).take (n * sz)).length = n * sz := by rw [List.length_take, List.length_drop, ← hl]; omega
    rw [hlen] at this
    simpa [Builtin.firstCells] using this
   ·cases h
  ·cases h
 | _ =>
  simp only [DI] at h
  split at h
  ·rename_i rows hr
   split at h
   ·rename_i hc
    cases h
    obtain ⟨a, cap, rfl, hD⟩ := Dp hr hv
    have hu : ∀ r ∈ rows, r.length = sz := fun r hm => by simpa using List.all_eq_true.1 hc.2 r hm
    have hfl := AS hu
    by_cases he : rows = []
    ·subst he
     have : n = 0 := by have := hc.1; simp at this; exact this
     subst this
     refine ⟨[], ?_, An.nil⟩
     cases a with
     | none => simp [Builtin.firstCells]
     | some x => simp [Builtin.firstCells, loadCells, loadCellsFrom]
    ·obtain ⟨_, hr2⟩ := F7 hD hu hz
     obtain ⟨_, _, b, o, rfl, f, h1, h2⟩ := hr2 he
     have hmul : n * sz ≤ rows.length * sz := Nat.mul_le_mul_right _ hc.1
     refine ⟨(List.range (n * sz)).map f, ?_, ?_⟩
     ·simp only [Builtin.firstCells]
      exact run_loadCells w ⟨b, o, none⟩ _ f (fun j hj => by rw [Addr.add_lit]; exact (h1 j (by omega)).2)
     ·rw [NF hu]
      have hk := Q4 (w := w) (G := G) (H := H) (ds := rows.flatten.take (n * sz)) (f := f) (fun j x hx => by
       rw [List.getElem?_take] at hx
       split at hx
       ·exact h2 j x hx
       ·cases hx)
      have e : (rows.flatten.take (n * sz)).length = n * sz := by rw [List.length_take, hfl]; omega
      rwa [e] at hk
   ·cases h
  ·cases h
theorem OO {t t2 e : Nat} {i i' : TI} (ht : X.tt t = some i) (hd : i.desc = .slice e) (he : X.tt e = some i') (hz : 0 < i'.size) {id off len cap n m : Nat} {c : C} {cs cs' : List C} {dst src : Value} {ty : TypeId} (R : Rel w G H)
  (hid : H[id]? = some (.cells cs)) (hdst : Ap w G H (.ms id off len cap) dst) (hl : Q9 c = some m) (hn : n = Nat.min m len) (hs : DI H i'.size n c = some cs') (hsrc : Ap w G H c src) (hb : off + n * i'.size ≤ cs.length) (hcl : cs'.length = n * i'.size) :
  Aj X.P (Builtin.copy_ #[t, t2] ty #[dst, src]) w G H (I n) (H.set id (.cells (setMany cs off cs'))) := by
 cases hdst with
 | ms _ _ _ _ hidl =>
  obtain ⟨vs, h1, h2⟩ := aD4 (X := X) R hs hz hsrc
  obtain ⟨a, capx, rfl⟩ := OL hl hsrc
  obtain ⟨arr, t', hbk, hr⟩ := CQ R hid
  have hvl : vs.length = n * i'.size := by rw [← h2.1, hcl]
  have hrl : cs.length = arr.size := by have := hr.1; simpa using this
  obtain ⟨R', L'⟩ := R.put_cells (cs' := setMany cs off cs') (arr' := (setMany arr.toList off vs).toArray) hid hbk (by simpa using hr.setMany off h2)
  refine ⟨.int .i64 n, _, G, ?_, .c _ _ (.d _ _ (.int _ _)), R', L'⟩
  have hst := BK X.P (b := G.rho id) (off := off) (t := t') vs 0 w arr hbk (by omega) h2.ones
  simp only [Nat.add_zero] at hst
  subst hn
  simp [Builtin.copy_, X.ok.run_at ht hd rfl, Builtin.lenOf, X.ok.run_sizeOf he, h1, hst, goInt]
theorem NG {t e : Nat} {i i' : TI} (ht : X.tt t = some i) (hd : i.desc = .slice e) (he : X.tt e = some i') {id off len cap : Nat} {cs : List C} {x : Value} {ty : TypeId} (R : Rel w G H) (hlen : len ≠ 0)
  (hid : H[id]? = some (.cells cs)) (hx : Ap w G H (.ms id off len cap) x) (hb : off + len * i'.size ≤ cs.length) :
  Aj X.P (Builtin.clear_ #[t] ty #[x]) w G H (.tup []) (H.set id (.cells (setMany cs off (zc i'.zero.cs len)))) := by
 cases hx with
 | ms _ _ _ _ hidl =>
  obtain ⟨z, hz, hz1, hz2, hz3⟩ := X.ok.run_zero he
  have hzr := BD (w := w) (G := G) (H := H) hz2
  obtain ⟨arr, t', hbk, hr⟩ := CQ R hid
  have hrl : cs.length = arr.size := by have := hr.1; simpa using this
  have hzc := J8 hzr len
  have hzl : (Builtin.zeroCells z.cells len).toList = zc z.cells.toList len := BE _ _
  have hvl : (zc z.cells.toList len).length = len * i'.size := by rw [← hzc.1, CI, hz3]
  obtain ⟨R', L'⟩ := R.put_cells (cs' := setMany cs off (zc i'.zero.cs len)) (arr' := (setMany arr.toList off (zc z.cells.toList len)).toArray) hid hbk (by simpa using hr.setMany off hzc)
  refine ⟨.tuple #[], _, G, ?_, .tup [] #[] rfl (fun i x v h => by simp at h), R', L'⟩
  have hst := BK X.P (b := G.rho id) (off := off) (t := t') (zc z.cells.toList len) 0 w arr hbk (by omega) hzc.ones
  simp only [Nat.add_zero] at hst
  cases len with
  | zero => exact absurd rfl hlen
  | succ len => simp only [Builtin.clear_]; simp [X.ok.run_at ht hd rfl, hz, hzl, hst]
end
end Go.Abs
namespace Go.Abs
open Go
section
variable {P : Program} {tt : Nat → Option TI} {w : World} {G : Gh} {H : List AB}
theorem EE (T : By P tt) (empty : Bool) : ∀ (n t : Nat) (i : TI), tt t = some i → CR P tt n t = true → ∀ (d : Nat), n ≤ d → ∀ (xs : Array Value) (off : Nat), off + i.size ≤ xs.size →
  ∃ v, (part t xs off).run P w = .ok v w ∧ (Instr.checkKey empty d t v).run P w = .ok () w
 | 0, t, i, _, hf, _, _, _, _, _ => by simp [CR] at hf
 | n + 1, t, i, ht, hf, d, hd, xs, off, hl => by
  obtain ⟨d, rfl⟩ : ∃ k, d = k + 1 := ⟨d - 1, by omega⟩
  simp only [CR, ht] at hf
  have agg : BS i.desc = true → (∀ (xs' : Array Value), xs'.size = i.size → (Instr.checkKey empty (d + 1) t (.agg xs')).run P w = .ok () w) → ∃ v, (part t xs off).run P w = .ok v w ∧ (Instr.checkKey empty (d + 1) t v).run P w = .ok () w := fun ha hrun => by
   refine ⟨.agg (xs.extract off (off + i.size)), by simp [part, T.run_isAgg ht, ha, T.run_sizeOf ht], hrun _ (by simp; omega)⟩
  cases hdesc : i.desc with
  | int k0 =>
   simp only [hdesc, beq_iff_eq] at hf
   have ho : off < xs.size := by omega
   refine ⟨xs[off], by simp [part, T.run_isAgg ht, hdesc, BS, ho], ?_⟩
   simp only [Instr.checkKey, Sem.run_bind, T.run_at ht hdesc rfl, Result.andThen_ok]
   generalize xs[off] = v
   cases v <;> rfl
  | struct fs0 =>
   obtain ⟨fs, hu, _⟩ := T.desc_struct ht hdesc
   simp only [hdesc, hu, Bool.and_eq_true, Bool.not_eq_true'] at hf
   obtain ⟨hst, hfold⟩ := hf
   refine agg (by rw [hdesc]; rfl) (fun xs' hx' => ?_)
   have hur : (underlying t).run P w = .ok (.struct fs) w := by simp [underlying, hu]
   simp only [Instr.checkKey, Sem.run_bind, hur, Result.andThen_ok]
   simp only [beq_iff_eq] at hfold
   have key : ∀ (fl : List Field) (k : Nat) (ok : Bool), (fl.foldl (fun (a : Bool × Nat) f => (a.1 && f.name != "_" && f.offset == a.2 && CR P tt n f.type && (tt f.type).isSome, a.2 + ((tt f.type).map (·.size)).getD 0)) (ok, k)) = (true, i.size) →
     (forIn fl PUnit.unit (fun f (_ : PUnit) => (do
      if f.name ≠ "_" then Instr.checkKey empty d f.type (← part f.type xs' f.offset)
      pure (ForInStep.yield PUnit.unit) : Sem (ForInStep PUnit)))).run P w = .ok PUnit.unit w := by
    intro fl
    induction fl with
    | nil => intro k ok hk; simp
    | cons f fl ih =>
     intro k ok hk
     simp only [List.foldl_cons] at hk
     have hok : ∀ (fl : List Field) (a : Bool × Nat), (fl.foldl (fun (a : Bool × Nat) f => (a.1 && f.name != "_" && f.offset == a.2 && CR P tt n f.type && (tt f.type).isSome, a.2 + ((tt f.type).map (·.size)).getD 0)) a).1 = true → a.1 = true := by
      intro fl
      induction fl with
      | nil => intro a h; exact h
      | cons g fl ih => intro a h; have := ih _ h; simp at this; exact this.1.1.1.1
     have hle : ∀ (fl : List Field) (a : Bool × Nat), a.2 ≤ (fl.foldl (fun (a : Bool × Nat) f => (a.1 && f.name != "_" && f.offset == a.2 && CR P tt n f.type && (tt f.type).isSome, a.2 + ((tt f.type).map (·.size)).getD 0)) a).2 := by
      intro fl
      induction fl with
      | nil => intro a; exact Nat.le_refl _
      | cons g fl ih => intro a; rw [List.foldl_cons]; exact Nat.le_trans (Nat.le_add_right _ _) (ih (a.1 && g.name != "_" && g.offset == a.2 && CR P tt n g.type && (tt g.type).isSome, a.2 + ((tt g.type).map (·.size)).getD 0))
     have h1 := hok fl _ (by rw [hk])
     have h2 := hle fl (ok && f.name != "_" && f.offset == k && CR P tt n f.type && (tt f.type).isSome, k + ((tt f.type).map (·.size)).getD 0)
     rw [hk] at h2
     simp only [Bool.and_eq_true, bne_iff_ne, ne_eq, beq_iff_eq] at h1
     obtain ⟨⟨⟨⟨_, hnm⟩, ho⟩, hfl⟩, hs⟩ := h1
     obtain ⟨i', hi'⟩ := Option.isSome_iff_exists.1 hs
     simp only [hi', Option.map_some, Option.getD_some] at h2 hk
     obtain ⟨v, p1, p2⟩ := EE T empty n f.type i' hi' hfl d (by omega) xs' f.offset (by rw [ho, hx']; exact h2)
     simp only [List.forIn_cons, ne_eq, hnm, not_false_eq_true, if_true, Sem.run_bind, p1, p2, Result.andThen_ok, Sem.run_pure]
     exact ih _ _ hk
   have := key fs.toList 0 true hfold
   rw [← Array.forIn_toList]
   simp at this ⊢
   rw [this]
   rfl
  | array len e =>
   simp only [hdesc, Bool.and_eq_true, beq_iff_eq] at hf
   obtain ⟨⟨hfl, hs⟩, hsz⟩ := hf
   obtain ⟨i', hi'⟩ := Option.isSome_iff_exists.1 hs
   simp only [hi', Option.map_some, Option.getD_some] at hsz
   refine agg (by rw [hdesc]; rfl) (fun xs' hx' => ?_)
   simp only [Instr.checkKey, Sem.run_bind, T.run_at ht hdesc rfl, Result.andThen_ok, T.run_sizeOf hi']
   rw [Std.Legacy.Range.forIn_eq_forIn_range']
   have key : ∀ (m k : Nat), k + m = len →
     (forIn (List.range' k m) PUnit.unit (fun j (_ : PUnit) => (do
      let __do_lift ← sizeOf e
      let __do_lift ← part e xs' (j * __do_lift)
      Instr.checkKey empty d e __do_lift
      pure (ForInStep.yield PUnit.unit) : Sem (ForInStep PUnit)))).run P w = .ok PUnit.unit w := by
    intro m
    induction m with
    | zero => intro k hk; simp
    | succ m ih =>
     intro k hk
     have hmul : (k + 1) * i'.size ≤ len * i'.size := Nat.mul_le_mul_right _ (by omega)
     rw [Nat.succ_mul] at hmul
     obtain ⟨v, p1, p2⟩ := EE T empty n e i' hi' hfl d (by omega) xs' (k * i'.size) (by omega)
     simp only [List.range'_succ, List.forIn_cons, Sem.run_bind, T.run_sizeOf hi', p1, p2, Result.andThen_ok, Sem.run_pure]
     exact ih (k + 1) (by omega)
   have h1 := key len 0 (by omega)
   have e0 : (List.range' ([:len] : Std.Legacy.Range).start ([:len] : Std.Legacy.Range).size ([:len] : Std.Legacy.Range).step) = List.range' 0 len := by simp [Std.Legacy.Range.size]
   rw [e0]
   simp at h1 ⊢
   rw [h1]
   rfl
  | _ => simp [hdesc] at hf
theorem OP : ∀ {a b : List C} {p : Bool}, C3 a b = some p → a.length = b.length
 | [], [], _, _ => rfl
 | x :: a, y :: b, p, h => by
  simp only [C3] at h
  split at h
  ·rename_i u v hu hv
   simp [OP hv]
  ·cases h
 | [], _ :: _, _, h => by simp [C3] at h
 | _ :: _, [], _, h => by simp [C3] at h
def Hl : V → V → Option Bool
 | .c (.d (.int k a)), .c (.d (.int k' b)) => if k = k' then some (decide (a = b)) else none
 | .agg xs, .agg ys => C3 xs ys
 | _, _ => none
def Cj (k : V) : List (V × V) → Nat → Option (Option (Nat × V))
 | [], _ => some none
 | e :: es, i => match Hl k e.1 with
  | some true => some (some (i, e.2))
  | some false => Cj k es (i + 1)
  | none => none
def Dl (X : Tx) (t : Nat) : V → Bool
 | .c (.d (.int _ _)) => match X.tt t with
  | some i => match i.desc with
   | .int _ => true
   | _ => false
  | none => false
 | .agg cs => match X.tt t with
  | some i => X.eqs t && BS i.desc && cs.length == i.size
  | none => false
 | _ => false
end
section
variable {X : Tx} {w : World} {G : Gh} {H : List AB}
theorem Cm {t : Nat} {k : V} {v : Value} (empty : Bool) (hk : Dl X t k = true) (hv : Ag w G H k v) : (Instr.checkKey empty 10000 t v).run X.P w = .ok () w := by
 unfold Dl at hk
 split at hk
 ·split at hk
  ·rename_i i hi
   split at hk
   ·rename_i k0 hd
    obtain rfl := Bz hv
    have key : ∀ (d : Nat) (kk : IntKind) (m : Int), (Instr.checkKey empty (d + 1) t (.int kk m)).run X.P w = .ok () w := fun d kk m => by
     simp only [Instr.checkKey, Sem.run_bind, X.ok.run_at hi hd rfl, Result.andThen_ok]
     rfl
    exact key 9999 _ _
   ·cases hk
  ·cases hk
 ·rename_i cs
  split at hk
  ·rename_i i hi
   simp only [Bool.and_eq_true, beq_iff_eq] at hk
   obtain ⟨⟨h1, h2⟩, h3⟩ := hk
   obtain ⟨arr, rfl, hx⟩ := DZ hv
   have hsz : arr.size = i.size := by have := hx.1; simp at this; omega
   obtain ⟨v, p1, p2⟩ := EE (w := w) X.ok empty 20 t i hi (X.eok t h1).1 10000 (by omega) arr 0 (by omega)
   have f1 : (part t arr 0).run X.P w = .ok (.agg arr) w := by
    simp [part, X.ok.run_isAgg hi, h2, X.ok.run_sizeOf hi, ← hsz]
   rw [f1] at p1
   cases p1
   exact p2
  ·cases hk
 ·cases hk
theorem FH {t : Nat} {i : TI} (hi : X.tt t = some i) (he : X.eqs t = true) (ha : BS i.desc = true) {xs : List C} {arr : Array Value} (hx : An w G H xs arr.toList) (hl : xs.length = i.size) :
  ∀ (es : List (V × V)) (rs : List MapEntry) (n : Nat) (o : Option (Nat × V)), Cq w G H es rs → Cj (.agg xs) es n = some o →
   ∃ o', (Instr.findAsking t (.agg arr) rs n).run X.P w = .ok o' w ∧ (match o, o' with | none, none => True | some (j, y), some (j', v) => j = j' ∧ Ag w G H y v | _, _ => False)
 | [], rs, n, o, hr, h => by
  have : rs = [] := by have := hr.1; simpa using this.symm
  subst this
  simp [Cj] at h
  subst h
  exact ⟨none, by simp [Instr.findAsking], trivial⟩
 | e :: es, [], n, o, hr, h => by have := hr.1; simp at this
 | e :: es, r :: rs, n, o, hr, h => by
  have h0 := hr.2 0 e r rfl rfl
  have hr' : Cq w G H es rs := ⟨by have := hr.1; simpa using this, fun j a b ha hb => hr.2 (j + 1) a b (by simpa using ha) (by simpa using hb)⟩
  have core : ∀ b, Hl (.agg xs) e.1 = some b → (Op.equal t (.agg arr) r.key).run X.P w = .ok b w := fun b hb => by
   cases hk : e.1 with
   | agg ys =>
    rw [hk] at hb
    simp only [Hl] at hb
    have hy := h0.1
    rw [hk] at hy
    obtain ⟨arr', hr2, hy⟩ := DZ hy
    rw [hr2]
    have hly : ys.length = xs.length := (OP hb).symm
    obtain ⟨v, u, e1, e2, e3⟩ := F8 (w := w) (G := G) (H := H) X.ok 20 t i hi (X.eok t he).1 10000 (by omega) xs ys arr arr' 0 b hx hy (by omega) (by omega) (by
     rw [List.drop_zero, List.drop_zero, List.take_of_length_le (by omega), List.take_of_length_le (by omega)]; exact hb)
    have l1 : arr.size = i.size := by have := hx.1; simp at this; omega
    have l2 : arr'.size = i.size := by have := hy.1; simp at this; omega
    have f1 : (part t arr 0).run X.P w = .ok (.agg arr) w := by simp [part, X.ok.run_isAgg hi, ha, X.ok.run_sizeOf hi, ← l1]
    have f2 : (part t arr' 0).run X.P w = .ok (.agg arr') w := by simp [part, X.ok.run_isAgg hi, ha, X.ok.run_sizeOf hi, ← l2]
    rw [f1] at e1; rw [f2] at e2
    cases e1; cases e2
    simpa [Op.equal, Op.maxDepth] using e3
   | _ => rw [hk] at hb; simp [Hl] at hb
  simp only [Cj] at h
  split at h
  ·rename_i hb
   cases h
   exact ⟨some (n, r.val), by simp [Instr.findAsking, core _ hb], rfl, h0.2⟩
  ·rename_i hb
   obtain ⟨o', h1, h2⟩ := FH hi he ha hx hl es rs (n + 1) o hr' h
   exact ⟨o', by simp [Instr.findAsking, core _ hb, h1], h2⟩
  ·cases h
def OQ (w : World) (G : Gh) (H : List AB) : Option (Nat × V) → Option (Nat × Value) → Prop
 | none, none => True
 | some (j, y), some (j', v) => j = j' ∧ Ag w G H y v
 | _, _ => False
theorem IQ {k0 : IntKind} {k : IntKind} {m : Int} : ∀ (es : List (V × V)) (rs : List MapEntry) (n : Nat) (o : Option (Nat × V)), Cq w G H es rs → Cj (.c (.d (.int k m))) es n = some o →
      ∃ o', Instr.findNow (.int k0) (.int k m) rs n = some o' ∧ OQ w G H o o'
 | [], rs, n, o, hr, h => by
  have : rs = [] := by have := hr.1; simpa using this.symm
  subst this
  simp [Cj] at h
  subst h
  exact ⟨none, rfl, trivial⟩
 | e :: es, [], n, o, hr, h => by have := hr.1; simp at this
 | e :: es, r :: rs, n, o, hr, h => by
  have h0 := hr.2 0 e r rfl rfl
  have hr' : Cq w G H es rs := ⟨by have := hr.1; simpa using this, fun j a b ha hb => hr.2 (j + 1) a b (by simpa using ha) (by simpa using hb)⟩
  have core : ∀ b, Hl (.c (.d (.int k m))) e.1 = some b → Instr.sameNow (.int k0) (.int k m) r.key = some b := fun b hb => by
   unfold Hl at hb
   split at hb
   ·rename_i k1 a1 k2 b1 h1 h2
    cases h1
    have hk := h0.1
    rw [h2] at hk
    rw [Bz hk]
    split at hb
    ·rename_i he
     subst he
     cases hb
     simp [Instr.sameNow, BEq.beq]
    ·cases hb
   ·rename_i h1 h2; cases h1
   ·cases hb
  simp only [Cj] at h
  split at h
  ·rename_i hb
   cases h
   exact ⟨some (n, r.val), by simp [Instr.findNow, core _ hb], rfl, h0.2⟩
  ·rename_i hb
   obtain ⟨o', h1, h2⟩ := IQ (k0 := k0) es rs (n + 1) o hr' h
   exact ⟨o', by simp [Instr.findNow, core _ hb, h1], h2⟩
  ·cases h
theorem CD {t : Nat} {k : V} {v : Value} {es : List (V × V)} {rs : List MapEntry} {o : Option (Nat × V)} (hk : Dl X t k = true) (hv : Ag w G H k v) (hr : Cq w G H es rs) (h : Cj k es 0 = some o) :
  ∃ o', (Instr.findKey t v rs).run X.P w = .ok o' w ∧ OQ w G H o o' := by
 unfold Dl at hk
 split at hk
 ·split at hk
  ·rename_i i hi
   split at hk
   ·rename_i k0 hd
    obtain rfl := Bz hv
    obtain ⟨o', h1, h2⟩ := IQ (k0 := k0) es rs 0 o hr h
    exact ⟨o', by simp [Instr.findKey, X.ok.run_at hi hd rfl, h1], h2⟩
   ·cases hk
  ·cases hk
 ·rename_i cs
  split at hk
  ·rename_i i hi
   simp only [Bool.and_eq_true, beq_iff_eq] at hk
   obtain ⟨⟨h1, h2⟩, h3⟩ := hk
   obtain ⟨arr, rfl, hx⟩ := DZ hv
   obtain ⟨d, hd1, hd2⟩ := X.ok.desc t i hi
   have hu : (underlying t).run X.P w = .ok d w := by simp [underlying, hd1]
   cases rs with
   | nil =>
    have : es = [] := by have := hr.1; simpa using this
    subst this
    simp [Cj] at h
    subst h
    exact ⟨none, by simp [Instr.findKey, hu, Instr.findNow], trivial⟩
   | cons r rs =>
    obtain ⟨o', h4, h5⟩ := FH hi h1 h2 hx h3 es (r :: rs) 0 o hr h
    have hn : Instr.findNow d (.agg arr) (r :: rs) 0 = none := by
     have : Instr.sameNow d (.agg arr) r.key = none := by cases d <;> rfl
     simp [Instr.findNow, this]
    refine ⟨o', by simp [Instr.findKey, hu, hn, h4], ?_⟩
    cases o <;> cases o' <;> exact h5
  ·cases hk
 ·cases hk
theorem SV {id : Nat} {es : List (V × V)} (R : Rel w G H) (hid : H[id]? = some (.mp es)) : ∃ rs clock, w.heap[G.rho id]? = some (.map rs clock) ∧ Cq w G H es rs.toList ∧ G.role (G.rho id) = some id := by
 cases R.ab id _ hid with
 | mp _ rs clock hb hr hrole => exact ⟨rs, clock, hb, hr, hrole⟩
def SW (ok : Bool) (j : TI) (o : Option (Nat × V)) : V :=
 if ok then .tup [match o with | some (_, y) => y | none => j.zero, B o.isSome] else match o with | some (_, y) => y | none => j.zero
theorem L5 {t kt et id : Nat} {i j : TI} {es : List (V × V)} {k : V} {o : Option (Nat × V)} {m v : Value} {ok : Bool} (ht : X.tt t = some i) (hd : i.desc = .map kt et) (he : X.tt et = some j) (R : Rel w G H) (hid : H[id]? = some (.mp es))
  (hk : Dl X kt k = true) (hf : Cj k es 0 = some o) (hm : Ag w G H (.c (.mp id)) m) (hv : Ag w G H k v) :
  Aj X.P (Instr.lookup t m v ok) w G H (SW ok j o) H := by
 obtain ⟨rs, clock, hb, hr, _⟩ := SV R hid
 have em : m = .map (some (G.rho id)) := by cases hm with | c _ _ h => cases h; rfl
 subst em
 have hg : (getObj (G.rho id)).run X.P w = .ok (.map rs clock) w := by simp [getObj, Sem.run, hb]
 obtain ⟨o', h1, h2⟩ := CD hk hv hr hf
 have hc := Cm (w := w) rs.isEmpty hk hv
 obtain ⟨z, hz, hz1, _⟩ := X.ok.run_zero he
 have fin : ∀ (y : V) (u : Value) (f : Bool), Ag w G H y u → Ag w G H (if ok then .tup [y, B f] else y) (if ok then .tuple #[u, .bool f] else u) := fun y u f h => by
  cases ok with
  | false => simpa using h
  | true =>
   simp only [if_true]
   refine .tup _ _ rfl (fun i x q hx hq => ?_)
   match i with
   | 0 => simp at hx hq; subst hx; subst hq; exact h
   | 1 => simp at hx hq; subst hx; subst hq; exact .c _ _ (.d _ _ (.bool _))
   | i + 2 => simp at hx
 cases o with
 | none =>
  cases o' with
  | none =>
   refine Aj.still R (v := if ok then .tuple #[z, .bool false] else z) ?_ (fin j.zero z false (F5 hz1))
   simp [Instr.lookup, X.ok.run_at ht hd rfl, hg, hc, h1, hz]
  | some p => exact h2.elim
 | some p =>
  cases o' with
  | none => exact h2.elim
  | some p' =>
   obtain ⟨n, y⟩ := p
   obtain ⟨n', u⟩ := p'
   refine Aj.still R (v := if ok then .tuple #[u, .bool true] else u) ?_ (fin y u true h2.2)
   simp [Instr.lookup, X.ok.run_at ht hd rfl, hg, hc, h1]
theorem NH {id : Nat} {es es' : List (V × V)} {rs rs' : Array MapEntry} {clock clock' : Nat} (R : Rel w G H) (hid : H[id]? = some (.mp es)) (hb : w.heap[G.rho id]? = some (.map rs clock)) (hr' : Cq w G H es' rs'.toList) :
  Rel (w.putObj (G.rho id) (.map rs' clock')) G (H.set id (.mp es')) ∧ Am w G H (w.putObj (G.rho id) (.map rs' clock')) G (H.set id (.mp es')) := by
 obtain ⟨_, _, _, _, hrole⟩ := SV R hid
 have hnc : ∀ j, w.cell? ⟨G.rho id, j, none⟩ = none := fun j => by simp [World.cell?, hb]
 have L : Am w G H (w.putObj (G.rho id) (.map rs' clock')) G (H.set id (.mp es')) :=
  Am.put_own hrole (fun j hj => by obtain ⟨v, hv⟩ := R.sex _ j hj; rw [hnc] at hv; cases hv) (fun n sz e => by cases e) (fun n sz cs e => by cases e)
 exact ⟨R.put_own hrole L (fun _ => .mp _ rs' clock' (DH hb) (hr'.mono L) hrole), L⟩
theorem BL {P : Program} {r : Nat} {o : Obj} {rs : Array MapEntry} {clock : Nat} (h : w.heap[r]? = some (.map rs clock)) : (setObj r o).run P w = .ok () (w.putObj r o) := by
 simp [setObj, Sem.run, h, World.putObj]
def aFj (k x : V) (es : List (V × V)) : Option (Nat × V) → List (V × V)
 | some (i, _) => es.set i (k, x)
 | none => es ++ [(k, x)]
def delE (es : List (V × V)) : Option (Nat × V) → List (V × V)
 | some (i, _) => es.eraseIdx i
 | none => es
theorem OR {t kt et id : Nat} {i : TI} {es : List (V × V)} {k : V} {o : Option (Nat × V)} {m v : Value} {ty : TypeId} {ts : Array TypeId} (ht : X.tt t = some i) (hd : i.desc = .map kt et) (h0 : ts[0]? = some t) (R : Rel w G H) (hid : H[id]? = some (.mp es))
  (hk : Dl X kt k = true) (hf : Cj k es 0 = some o) (hm : Ag w G H (.c (.mp id)) m) (hv : Ag w G H k v) :
  Aj X.P (Builtin.delete_ ts ty #[m, v]) w G H (.tup []) (H.set id (.mp (delE es o))) := by
 obtain ⟨rs, clock, hb, hr, _⟩ := SV R hid
 have em : m = .map (some (G.rho id)) := by cases hm with | c _ _ h => cases h; rfl
 subst em
 have hg : (getObj (G.rho id)).run X.P w = .ok (.map rs clock) w := by simp [getObj, Sem.run, hb]
 obtain ⟨o', h1, h2⟩ := CD hk hv hr hf
 have hc := Cm (w := w) rs.isEmpty hk hv
 have tupR : ∀ (w' : World) (G' : Gh) (H' : List AB), Ag w' G' H' (.tup []) (.tuple #[]) := fun w' G' H' => .tup [] #[] rfl (fun i x v h => by simp at h)
 cases o with
 | none =>
  cases o' with
  | none =>
   obtain ⟨R', L'⟩ := NH (rs' := rs) (clock' := clock) R hid hb hr
   refine ⟨.tuple #[], _, G, ?_, tupR _ _ _, R', L'⟩
   simp [Builtin.delete_, h0, X.ok.run_at ht hd rfl, hg, hc, h1, BL hb]
  | some p => exact h2.elim
 | some p =>
  cases o' with
  | none => exact h2.elim
  | some p' =>
   obtain ⟨n, y⟩ := p
   obtain ⟨n', u⟩ := p'
   obtain ⟨rfl, h2⟩ := h2
   have hre : Cq w G H (es.eraseIdx n) (rs.eraseIdxIfInBounds n).toList := by
    have e : (rs.eraseIdxIfInBounds n).toList = rs.toList.eraseIdx n := by
     unfold Array.eraseIdxIfInBounds
     split
     ·simp [Array.toList_eraseIdx]
     ·rename_i hh; rw [List.eraseIdx_of_length_le (by simpa using hh)]
    rw [e]
    refine ⟨?_, fun j a b ha hb => ?_⟩
    ·have := hr.1; rw [List.length_eraseIdx, List.length_eraseIdx, this]
    ·rw [List.getElem?_eraseIdx] at ha hb
     split at ha
     ·rename_i hjn; rw [if_pos hjn] at hb; exact hr.2 j a b ha hb
     ·rename_i hjn; rw [if_neg hjn] at hb; exact hr.2 (j + 1) a b ha hb
   obtain ⟨R', L'⟩ := NH (rs' := rs.eraseIdxIfInBounds n) (clock' := clock) R hid hb hre
   refine ⟨.tuple #[], _, G, ?_, tupR _ _ _, R', L'⟩
   simp [Builtin.delete_, h0, X.ok.run_at ht hd rfl, hg, hc, h1, BL hb]
theorem FI : ∀ (n : Nat) (cs : List C) (l : List Value), (∀ x ∈ cs, ∃ k m, x = .d (.int k m)) → An w G H cs l → ((l.zip l).all fun (x, y) => Instr.sameBits n x y) = true
 | n, [], l, _, h => by have : l = [] := by have := h.1; simpa using this.symm
                        subst this; rfl
 | n, c :: cs, [], _, h => by have := h.1; simp at this
 | n, c :: cs, v :: l, hc, h => by
  have h0 := h.2 0 c v rfl rfl
  have h' : An w G H cs l := ⟨by have := h.1; simpa using this, fun i x u hx hu => h.2 (i + 1) x u (by simpa using hx) (by simpa using hu)⟩
  obtain ⟨k, m, rfl⟩ := hc c (by simp)
  have hv : v = .int k m := by cases h0.1 with | d _ _ h => cases h; rfl
  subst hv
  have ih := FI n cs l (fun x hx => hc x (List.mem_cons_of_mem _ hx)) h'
  simp only [List.zip_cons_cons, List.all_cons, ih, Bool.and_true]
  cases n <;> simp [Instr.sameBits]
theorem GH {k k' : V} {v u : Value} (h : Hl k k' = some true) (hv : Ag w G H k v) (hu : Ag w G H k' u) : u = v ∧ Instr.sameBits 10000 u v = true := by
 unfold Hl at h
 split at h
 ·rename_i kk a kk' b
  split at h
  ·rename_i he
   subst he
   have hab : a = b := by simpa using h
   subst hab
   rw [Bz hv, Bz hu]
   exact ⟨rfl, by simp [Instr.sameBits]⟩
  ·cases h
 ·rename_i xs ys
  obtain ⟨arr, rfl, hx⟩ := DZ hv
  obtain ⟨arr', rfl, hy⟩ := DZ hu
  have key : ∀ (xs ys : List C) (l l' : List Value), C3 xs ys = some true → An w G H xs l → An w G H ys l' → l' = l ∧ ∀ x ∈ ys, ∃ k m, x = .d (.int k m) := by
   intro xs
   induction xs with
   | nil =>
    intro ys l l' he hx hy
    cases ys with
    | nil =>
     have e1 : l = [] := by have := hx.1; simpa using this.symm
     have e2 : l' = [] := by have := hy.1; simpa using this.symm
     rw [e1, e2]; exact ⟨rfl, fun x h => by cases h⟩
    | cons y ys => simp [C3] at he
   | cons x xs ih =>
    intro ys l l' he hx hy
    cases ys with
    | nil => simp [C3] at he
    | cons y ys =>
     simp only [C3] at he
     split at he
     ·rename_i p q hp hq
      have hpq : p = true ∧ q = true := by simpa using he
      obtain ⟨rfl, rfl⟩ := hpq
      cases l with
      | nil => have := hx.1; simp at this
      | cons v l =>
       cases l' with
       | nil => have := hy.1; simp at this
       | cons u l' =>
        have hx' : An w G H xs l := ⟨by have := hx.1; simpa using this, fun i x u hx0 hu => hx.2 (i + 1) x u (by simpa using hx0) (by simpa using hu)⟩
        have hy' : An w G H ys l' := ⟨by have := hy.1; simpa using this, fun i x u hx0 hu => hy.2 (i + 1) x u (by simpa using hx0) (by simpa using hu)⟩
        obtain ⟨e1, e2⟩ := ih ys l l' hq hx' hy'
        obtain ⟨k, m, n, hv1, hu1, hb⟩ := ST hp (hx.2 0 x v rfl rfl).1 (hy.2 0 y u rfl rfl).1
        have hmn : m = n := by simpa using hb.symm
        subst hmn
        refine ⟨by rw [e1, hv1, hu1], fun z hz => ?_⟩
        rcases List.mem_cons.1 hz with rfl | hz
        ·have hy0 := (hy.2 0 z u rfl rfl).1
         unfold eqC at hp
         split at hp
         ·exact ⟨_, _, rfl⟩
         ·cases hp
        ·exact e2 z hz
     ·cases he
  obtain ⟨e1, e2⟩ := key xs ys arr.toList arr'.toList h hx hy
  have e3 : arr' = arr := Array.toList_inj.1 e1
  subst e3
  refine ⟨rfl, ?_⟩
  have hs := FI 9999 ys arr'.toList e2 hy
  show Instr.sameBits (9999 + 1) (.agg arr') (.agg arr') = true
  simp only [Instr.sameBits, beq_self_eq_true, Bool.true_and]
  exact hs
 ·cases h
theorem E6 {k : V} : ∀ {es : List (V × V)} {n i : Nat} {y : V}, Cj k es n = some (some (i, y)) → n ≤ i ∧ ∃ e, es[i - n]? = some e ∧ Hl k e.1 = some true ∧ e.2 = y
 | [], n, i, y, h => by simp [Cj] at h
 | e :: es, n, i, y, h => by
  simp only [Cj] at h
  split at h
  ·rename_i hb
   simp only [Option.some.injEq, Prod.mk.injEq] at h
   obtain ⟨rfl, rfl⟩ := h
   exact ⟨Nat.le_refl _, e, by simp, hb, rfl⟩
  ·obtain ⟨h1, e', h2, h3⟩ := E6 h
   refine ⟨by omega, e', ?_, h3⟩
   have : i - n = (i - (n + 1)) + 1 := by omega
   rw [this]; simpa using h2
  ·cases h
theorem Kf {t kt et id : Nat} {i : TI} {es : List (V × V)} {k x : V} {o : Option (Nat × V)} {m v u : Value} (ht : X.tt t = some i) (hd : i.desc = .map kt et) (R : Rel w G H) (hid : H[id]? = some (.mp es))
  (hk : Dl X kt k = true) (hf : Cj k es 0 = some o) (hm : Ag w G H (.c (.mp id)) m) (hv : Ag w G H k v) (hx : Ag w G H x u) :
  ∃ w' G', (Instr.mapUpdate t m v u).run X.P w = .ok () w' ∧ Rel w' G' (H.set id (.mp (aFj k x es o))) ∧ Am w G H w' G' (H.set id (.mp (aFj k x es o))) := by
 obtain ⟨rs, clock, hb, hr, _⟩ := SV R hid
 have em : m = .map (some (G.rho id)) := by cases hm with | c _ _ h => cases h; rfl
 subst em
 have hg : (getObj (G.rho id)).run X.P w = .ok (.map rs clock) w := by simp [getObj, Sem.run, hb]
 obtain ⟨o', h1, h2⟩ := CD hk hv hr hf
 have hc := Cm (w := w) false hk hv
 cases o with
 | none =>
  cases o' with
  | none =>
   have hre : Cq w G H (es ++ [(k, x)]) (rs.push { key := v, val := u, born := clock }).toList := by
    rw [Array.toList_push]
    refine ⟨by simp [hr.1], fun j a b ha hb => ?_⟩
    by_cases hj : j < es.length
    ·rw [List.getElem?_append_left hj] at ha
     rw [List.getElem?_append_left (by rw [← hr.1]; exact hj)] at hb
     exact hr.2 j a b ha hb
    ·rw [List.getElem?_append_right (by omega)] at ha
     rw [List.getElem?_append_right (by rw [← hr.1]; omega), ← hr.1] at hb
     cases hjj : j - es.length with
     | zero => rw [hjj] at ha hb; simp at ha hb; subst ha; subst hb; exact ⟨hv, hx⟩
     | succ q => rw [hjj] at ha; simp at ha
   obtain ⟨R', L'⟩ := NH (rs' := rs.push { key := v, val := u, born := clock }) (clock' := clock + 1) R hid hb hre
   refine ⟨_, G, ?_, R', L'⟩
   simp [Instr.mapUpdate, X.ok.run_at ht hd rfl, hg, hc, h1, BL hb]
  | some p => exact h2.elim
 | some p =>
  cases o' with
  | none => exact h2.elim
  | some p' =>
   obtain ⟨n, y⟩ := p
   obtain ⟨n', u'⟩ := p'
   obtain ⟨rfl, h2⟩ := h2
   obtain ⟨_, e, he1, he2, _⟩ := E6 hf
   rw [Nat.sub_zero] at he1
   have hlt : n < rs.toList.length := by rw [← hr.1]; exact (List.getElem?_eq_some_iff.1 he1).1
   have hrn : rs.toList[n]? = some rs.toList[n] := List.getElem?_eq_getElem hlt
   have hke := (hr.2 n e _ he1 hrn).1
   obtain ⟨hs1, hs2⟩ := GH he2 hv hke
   have hra : rs[n]? = some rs.toList[n] := by rw [← Array.getElem?_toList]; exact hrn
   have hst : (Instr.keyThatStays (((rs[n]?).map (·.key)).getD v) v).run X.P w = .ok v w := by
    rw [hra]
    simp only [Option.map_some, Option.getD_some, Instr.keyThatStays]
    rw [hs1]
    rw [hs1] at hs2
    simp [hs2]
   have hre : Cq w G H (es.set n (k, x)) (rs.modify n fun e => { e with key := v, val := u }).toList := by
    rw [Array.toList_modify]
    refine ⟨by simp [hr.1], fun j a b ha hb => ?_⟩
    rw [List.getElem?_modify] at hb
    by_cases hj : n = j
    ·subst hj
     have hlt' : n < es.length := by rw [hr.1]; exact hlt
     rw [List.getElem?_set_self hlt'] at ha
     rw [hrn] at hb
     simp at ha hb
     subst ha; subst hb
     exact ⟨hv, hx⟩
    ·rw [List.getElem?_set_ne hj] at ha
     exact hr.2 j a b ha (by simpa [hj] using hb)
   obtain ⟨R', L'⟩ := NH (rs' := rs.modify n fun e => { e with key := v, val := u }) (clock' := clock) R hid hb hre
   refine ⟨_, G, ?_, R', L'⟩
   simp [Instr.mapUpdate, X.ok.run_at ht hd rfl, hg, hc, h1, hst, BL hb]
end
end Go.Abs
