/- Operators and builtins. -/
import Derived.Test.YtklmpopomokglaaAbs11
set_option linter.unusedSimpArgs false
set_option linter.unusedVariables false
namespace Go.Abs
open Go

structure Tx where
  P : Program
  tt : Nat → Option TI
  eqs : Nat → Bool
  ok : TTok P tt
  eok : ∀ t, eqs t = true → flatB P tt 20 t = true ∧ P.eqGuardType P.depth t = false

abbrev I (n : Int) : V := .c (.d (.int .i64 n))
abbrev B (b : Bool) : V := .c (.d (.bool b))

def intOp (op : BinOp) (k : IntKind) (a b : Int) : Option (Bool × V) :=
  match op with
  | .add => some (true, .c (.d (.int k (wr k (a + b)))))
  | .sub => some (true, .c (.d (.int k (wr k (a - b)))))
  | .mul => some (true, .c (.d (.int k (wr k (a * b)))))
  | .quo => some (!decide (b = 0), .c (.d (.int k (wr k (a.tdiv b)))))
  | .rem => some (!decide (b = 0), .c (.d (.int k (a.tmod b))))
  | .and => some (true, .c (.d (.int k (bits .and k a b))))
  | .or => some (true, .c (.d (.int k (bits .or k a b))))
  | .xor => some (true, .c (.d (.int k (bits .xor k a b))))
  | .andNot => some (true, .c (.d (.int k (bits .andNot k a b))))
  | .eql => some (true, B (decide (a = b)))
  | .neq => some (true, B (!decide (a = b)))
  | .lss => some (true, B (decide (a < b)))
  | .leq => some (true, B (decide (a ≤ b)))
  | .gtr => some (true, B (decide (b < a)))
  | .geq => some (true, B (decide (b ≤ a)))
  | _ => none

def binV (X : Tx) (op : BinOp) (t : Nat) (x y : V) : Option (Bool × V) :=
  match x, y with
  | .c (.d (.int k a)), .c (.d (.int k' b)) =>
    match op with
    | .shl => some (decide (0 ≤ b), .c (.d (.int k (wr k (a * 2 ^ min b.toNat k.bits)))))
    | .shr => some (decide (0 ≤ b), .c (.d (.int k (a.fdiv (2 ^ min b.toNat k.bits)))))
    | _ => if k = k' then intOp op k a b else none
  | .c (.d (.bool a)), .c (.d (.bool b)) =>
    match X.tt t with
    | some i => match i.desc with
      | .bool => match op with
        | .eql => some (true, B (a == b))
        | .neq => some (true, B (a != b))
        | _ => none
      | _ => none
    | none => none
  | .agg xs, .agg ys =>
    match X.tt t with
    | some i =>
      if X.eqs t && isAggD i.desc then
        match eqCs xs ys, op with
        | some b, .eql => some (decide (xs.length = i.size) && decide (ys.length = i.size), B b)
        | some b, .neq => some (decide (xs.length = i.size) && decide (ys.length = i.size), B (!b))
        | _, _ => none
      else none
    | none => none
  | .c p, .c .nilp =>
    match X.tt t with
    | some i => match i.desc with
      | .pointer _ =>
        match p, op with
        | .nilp, .eql => some (true, B true)
        | .nilp, .neq => some (true, B false)
        | .ptr _ _, .eql => some (true, B false)
        | .ptr _ _, .neq => some (true, B true)
        | .dp _, .eql => some (true, B false)
        | .dp _, .neq => some (true, B true)
        | _, _ => none
      | _ => none
    | none => none
  | _, _ => none

section
variable {X : Tx} {w : World} {G : Gh} {H : List AB}

theorem intOp_run {op : BinOp} {k : IntKind} {a b : Int} {z : V} (h : intOp op k a b = some (true, z)) (hsh : op ≠ .shl) (hsr : op ≠ .shr) (t : Nat) (P : Program) : ∃ v, (binOp op t (.int k a) (.int k b)).run P w = .ok v w ∧ VRel w G H z v := by
  have mk : ∀ n : Int, VRel w G H (.c (.d (.int k n))) (.int k n) := fun n => .c _ _ (.d _ _ (.int _ _))
  have mb : ∀ b : Bool, VRel w G H (B b) (.bool b) := fun n => .c _ _ (.d _ _ (.bool _))
  cases op <;> simp [intOp] at h
  case add => subst h; exact ⟨.int k (k.wrap (a + b)), by simp [binOp, Op.intArith], by rw [wr_eq]; exact mk _⟩
  case sub => subst h; exact ⟨.int k (k.wrap (a - b)), by simp [binOp, Op.intArith], by rw [wr_eq]; exact mk _⟩
  case mul => subst h; exact ⟨.int k (k.wrap (a * b)), by simp [binOp, Op.intArith], by rw [wr_eq]; exact mk _⟩
  case quo => obtain ⟨h0, rfl⟩ := h; exact ⟨.int k (k.wrap (a.tdiv b)), by simp [binOp, Op.intDiv, h0], by rw [wr_eq]; exact mk _⟩
  case rem => obtain ⟨h0, rfl⟩ := h; exact ⟨.int k (a.tmod b), by simp [binOp, Op.intDiv, h0], mk _⟩
  case and => subst h; exact ⟨_, by rw [binOp_and]; rfl, mk _⟩
  case or => subst h; exact ⟨_, by rw [binOp_or]; rfl, mk _⟩
  case xor => subst h; exact ⟨_, by rw [binOp_xor]; rfl, mk _⟩
  case andNot => subst h; exact ⟨_, by rw [binOp_andNot]; rfl, mk _⟩
  case eql => subst h; exact ⟨.bool (decide (a = b)), by simp [binOp, Op.intCmp]; rfl, mb _⟩
  case neq => subst h; exact ⟨.bool (!decide (a = b)), by simp [binOp, Op.intCmp]; rfl, mb _⟩
  case lss => subst h; exact ⟨.bool (decide (a < b)), by simp [binOp, Op.intCmp], mb _⟩
  case leq => subst h; exact ⟨.bool (decide (a ≤ b)), by simp [binOp, Op.intCmp], mb _⟩
  case gtr => subst h; exact ⟨.bool (decide (b < a)), by simp [binOp, Op.intCmp], mb _⟩
  case geq => subst h; exact ⟨.bool (decide (b ≤ a)), by simp [binOp, Op.intCmp], mb _⟩

theorem eqGuard_one {op : BinOp} {t : Nat} {x y : Operand} {v u : Value} (P : Program) (hv : v.oneCell' = true) (hn : v ≠ .nilIface) : (eqGuard op t x y v u).run P w = .ok () w := by
  cases op <;> cases v <;> simp [eqGuard, Value.oneCell'] at hv hn ⊢

theorem equalIn_nil1 {P : Program} {t e : Nat} (hu : P.underlying t = some (.pointer e)) (d : Nat) (a : Addr) : (Op.equalIn (d + 1) t (.pointer (some a)) (.pointer none)).run P w = .ok false w := by
  simp only [Op.equalIn, Sem.run_bind, Go.run_underlying hu, Result.andThen_ok, Sem.run_pure]
theorem equalIn_nil2 {P : Program} {t e : Nat} (hu : P.underlying t = some (.pointer e)) (d : Nat) : (Op.equalIn (d + 1) t (.pointer none) (.pointer none)).run P w = .ok true w := by
  simp only [Op.equalIn, Sem.run_bind, Go.run_underlying hu, Result.andThen_ok, Sem.run_pure, Option.isNone_none]

theorem yields_binOp {op : BinOp} {t : Nat} {x y : Operand} {p q z : V} {v u : Value} (R : Rel w G H) (hp : VRel w G H p v) (hq : VRel w G H q u) (h : binV X op t p q = some (true, z)) :
    Yields X.P (do eqGuard op t x y v u; binOp op t v u) w G H z H := by
  have still : ∀ r, (binOp op t v u).run X.P w = .ok r w → VRel w G H z r → (eqGuard op t x y v u).run X.P w = .ok () w → Yields X.P (do eqGuard op t x y v u; binOp op t v u) w G H z H := fun r h1 h2 h3 =>
    Yields.still R (v := r) (by simp only [Sem.run_bind, h3, Result.andThen_ok, h1]) h2
  have mk : ∀ (k : IntKind) (n : Int), VRel w G H (.c (.d (.int k n))) (.int k n) := fun _ n => .c _ _ (.d _ _ (.int _ _))
  have mb : ∀ b : Bool, VRel w G H (B b) (.bool b) := fun n => .c _ _ (.d _ _ (.bool _))
  unfold binV at h
  split at h
  · -- numbers
    rename_i k a k' b
    obtain rfl := int_rel hp
    obtain rfl := int_rel hq
    have hg := eqGuard_one (w := w) (op := op) (t := t) (x := x) (y := y) (u := .int k' b) X.P (v := .int k a) rfl (by simp)
    split at h
    · simp at h
      obtain ⟨h0, rfl⟩ := h
      refine still _ ?_ (by rw [wr_eq]; exact mk _ _) hg
      simp [binOp, Op.shift, Int.not_lt.2 h0]
    · simp at h
      obtain ⟨h0, rfl⟩ := h
      refine still _ ?_ (mk _ _) hg
      simp [binOp, Op.shift, Int.not_lt.2 h0]
    · rename_i h1 h2
      split at h
      · rename_i e
        subst e
        obtain ⟨r, h3, h4⟩ := intOp_run (w := w) (G := G) (H := H) h (fun e => h1 e) (fun e => h2 e) t X.P
        exact still r h3 h4 hg
      · cases h
  · -- truth values
    rename_i a b
    obtain rfl := bool_rel hp
    obtain rfl := bool_rel hq
    have hg := eqGuard_one (w := w) (op := op) (t := t) (x := x) (y := y) (u := .bool b) X.P (v := .bool a) rfl (by simp)
    split at h
    · rename_i i hi
      split at h
      · rename_i hd
        have hu := X.ok.desc_at hi hd rfl
        have he := run_equalIn_bool' (P := X.P) w 9999 t a b hu
        split at h
        · simp at h; subst h
          refine still (.bool (a == b)) ?_ (mb _) hg
          simp [binOp, Op.equal, Op.maxDepth, he]
        · simp at h; subst h
          refine still (.bool (a != b)) ?_ (mb _) hg
          simp only [binOp]
          simp [Op.equal, Op.maxDepth, he, bne]
        · cases h
      · cases h
    · cases h
  · -- aggregates
    rename_i xs ys
    obtain ⟨arr, rfl, hx⟩ := agg_rel hp
    obtain ⟨arr', rfl, hy⟩ := agg_rel hq
    split at h
    · rename_i i hi
      split at h
      · rename_i hc
        simp only [Bool.and_eq_true] at hc
        obtain ⟨hc, ha⟩ := hc
        obtain ⟨hf, hgt⟩ := X.eok t hc
        have hg : (eqGuard op t x y (.agg arr) (.agg arr')).run X.P w = .ok () w := by
          cases op <;> simp [eqGuard, hgt]
        have core : ∀ b, eqCs xs ys = some b → xs.length = i.size → ys.length = i.size → (Op.equalIn 10000 t (.agg arr) (.agg arr')).run X.P w = .ok b w := fun b hb h1 h2 => by
          obtain ⟨v, u, e1, e2, e3⟩ := eqAt_flat (w := w) (G := G) (H := H) X.ok 20 t i hi hf 10000 (by omega) xs ys arr arr' 0 b hx hy (by omega) (by omega) (by
            rw [List.drop_zero, List.drop_zero, List.take_of_length_le (by omega), List.take_of_length_le (by omega)]; exact hb)
          have l1 : arr.size = i.size := by have := hx.1; simp at this; omega
          have l2 : arr'.size = i.size := by have := hy.1; simp at this; omega
          have f1 : (part t arr 0).run X.P w = .ok (.agg arr) w := by
            simp [part, X.ok.run_isAgg hi, ha, X.ok.run_sizeOf hi, ← l1]
          have f2 : (part t arr' 0).run X.P w = .ok (.agg arr') w := by
            simp [part, X.ok.run_isAgg hi, ha, X.ok.run_sizeOf hi, ← l2]
          rw [f1] at e1; rw [f2] at e2
          cases e1; cases e2
          exact e3
        split at h
        · rename_i b hb
          simp at h
          obtain ⟨⟨h1, h2⟩, rfl⟩ := h
          refine still (.bool b) ?_ (mb _) hg
          simp [binOp, Op.equal, Op.maxDepth, core b hb h1 h2]
        · rename_i b hb
          simp at h
          obtain ⟨⟨h1, h2⟩, rfl⟩ := h
          refine still (.bool (!b)) ?_ (mb _) hg
          simp [binOp, Op.equal, Op.maxDepth, core b hb h1 h2]
        · cases h
      · cases h
    · cases h
  · -- pointers
    rename_i p'
    split at h
    · rename_i i hi
      split at h
      · rename_i e hd
        have hu := X.ok.desc_at hi hd rfl
        have hq' : u = .pointer none := by cases hq with | c _ _ h => cases h; rfl
        subst hq'
        have hg : v.oneCell' = true → v ≠ .nilIface → (eqGuard op t x y v (.pointer none)).run X.P w = .ok () w := fun a b => eqGuard_one X.P a b
        have run1 : ∀ a, (Op.equalIn 10000 t (.pointer (some a)) (.pointer none)).run X.P w = .ok false w := fun a => equalIn_nil1 hu 9999 a
        have run2 : (Op.equalIn 10000 t (.pointer none) (.pointer none)).run X.P w = .ok true w := equalIn_nil2 hu 9999
        have fin : ∀ b : Bool, z = B b → (binOp op t v (.pointer none)).run X.P w = .ok (.bool b) w → v.oneCell' = true → v ≠ .nilIface → Yields X.P (do eqGuard op t x y v (.pointer none); binOp op t v (.pointer none)) w G H z H := fun b e1 e2 e3 e4 => by
          subst e1
          exact still (.bool b) e2 (mb _) (hg e3 e4)
        cases p' with
        | nilp =>
          cases hp with
          | c _ _ hp =>
            cases hp
            cases op <;> simp at h
            · exact fin true h.symm (by simp [binOp, Op.equal, Op.maxDepth, run2]) rfl (by simp)
            · exact fin false h.symm (by simp [binOp, Op.equal, Op.maxDepth, run2]) rfl (by simp)
        | ptr a b =>
          cases hp with
          | c _ _ hp =>
            cases hp
            cases op <;> simp at h
            · exact fin false h.symm (by simp [binOp, Op.equal, Op.maxDepth, run1]) rfl (by simp)
            · exact fin true h.symm (by simp [binOp, Op.equal, Op.maxDepth, run1]) rfl (by simp)
        | dp ds =>
          cases hp with
          | c _ _ hp =>
            cases hp
            cases op <;> simp at h
            · exact fin false h.symm (by simp [binOp, Op.equal, Op.maxDepth, run1]) rfl (by simp)
            · exact fin true h.symm (by simp [binOp, Op.equal, Op.maxDepth, run1]) rfl (by simp)
        | _ => cases op <;> cases h
      · cases h
    · cases h
  · cases h
end
end Go.Abs
