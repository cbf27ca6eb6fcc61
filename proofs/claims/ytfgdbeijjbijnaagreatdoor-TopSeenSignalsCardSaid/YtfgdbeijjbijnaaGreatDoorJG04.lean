/- The step function is right. -/
import Derived.Test.YtfgdbeijjbijnaaGreatDoorJG03
set_option linter.unusedSimpArgs false
set_option linter.unusedVariables false
namespace Go.Abs
open Go
section
variable {X : Tx} {ro : Option Nat} {H H' : List AB} {E : Operand → V} {z : V} {w : World} {G : Gh}
theorem Ve {t : Bool} {a b : V} {v u : Value} (ha : Ag w G H a v) (hb : Ag w G H b u) : Ag w G H (aD5 t a b) (if t then v else u) := by
 unfold aD5
 split
 ·obtain rfl := EL ha
  obtain rfl := EL hb
  cases t <;> exact .c _ _ (.d _ _ (.bool _))
 ·cases t
  ·exact hb
  ·exact ha
theorem NP {ps : Array (Nat × Operand)} {a : Act} (h : ∀ x ∈ (ps.toList.map (·.2)).toArray, Ag w G H (E x) (a.eval x)) :
  IN w G H (ps.toList.map fun p => (p.1, E p.2)) (ps.map fun (i, x) => (i, a.eval x)).toList := by
 refine ⟨by simp, fun i p r hp hr => ?_⟩
 rw [Array.toList_map] at hr
 rw [List.getElem?_map] at hp hr
 cases hq : ps.toList[i]? with
 | none => simp [hq] at hp
 | some q =>
  simp [hq] at hp hr
  subst hp; subst hr
  refine ⟨rfl, h _ ?_⟩
  simp only [List.mem_toArray, List.mem_map]
  exact ⟨q, List.mem_of_getElem? hq, rfl⟩
theorem OZ : ∀ {vs : List V} {cs : List C} {us : List Value}, E7 vs = some cs → vs.length = us.length → (∀ (i : Nat) (x : V) (v : Value), vs[i]? = some x → us[i]? = some v → Ag w G H x v) →
  cs.length = us.length ∧ ∀ (i : Nat) (x : C) (v : Value), cs[i]? = some x → us[i]? = some v → Ap w G H x v
 | [], cs, us, h, hl, _ => by simp [E7] at h; subst h; exact ⟨hl, fun i x v h => by simp at h⟩
 | .c c :: r, cs, us, h, hl, hr => by
  simp only [E7] at h
  cases hc : E7 r with
  | none => simp [hc] at h
  | some l =>
   simp [hc] at h; subst h
   cases us with
   | nil => simp at hl
   | cons u us =>
    obtain ⟨h1, h2⟩ := OZ (us := us) hc (by simpa using hl) (fun i x v hx hv => hr (i + 1) x v (by simpa using hx) (by simpa using hv))
    refine ⟨by simp [h1], fun i x v hx hv => ?_⟩
    cases i with
    | zero => simp at hx hv; subst hx; subst hv; have := hr 0 (.c c) u rfl rfl; cases this; assumption
    | succ i => exact h2 i x v (by simpa using hx) (by simpa using hv)
 | .agg _ :: r, cs, us, h, _, _ => by simp [E7] at h
 | .tup _ :: r, cs, us, h, _, _ => by simp [E7] at h
theorem D0 {xs : Array Operand} {a : Act} (h : ∀ x ∈ xs, Ag w G H (E x) (a.eval x)) : (xs.toList.map E).length = (xs.map a.eval).toList.length ∧
  ∀ (i : Nat) (x : V) (v : Value), (xs.toList.map E)[i]? = some x → (xs.map a.eval).toList[i]? = some v → Ag w G H x v := by
 refine ⟨by simp, fun i x v hx hv => ?_⟩
 rw [Array.toList_map] at hv
 rw [List.getElem?_map] at hx hv
 cases hq : xs.toList[i]? with
 | none => simp [hq] at hx
 | some q =>
  simp [hq] at hx hv
  subst hx; subst hv
  exact h q (Array.mem_toList_iff.1 (List.mem_of_getElem? hq))
abbrev Cu (X : Tx) (ro : Option Nat) (op : Op) : Prop :=
 ∀ (H H' : List AB) (E : Operand → V) (z : V), op1 X H E op = some (true, z, H') → ∀ o : Oper, o.op = op → AL X.P ro o H E (one z H')
theorem Rf (t : TypeId) (x : Operand) : Cu X ro (.load t x) := by
 intro H H' E z h o ho
 simp only [op1] at h
 refine AL.of_value (s := fun ρ => Instr.loadAt t (ρ x)) (by simp [ho]) (fun ρ => by simp [execOp, ho]) (fun w G a R hE => ?_)
 have hx := hE x (by simp [ho, Op.operands])
 split at h
 ·rename_i i id off hi hp
  split at h
  ·rename_i cs hid
   simp at h
   obtain ⟨h0, rfl, rfl⟩ := h
   rw [hp] at hx
   exact Jx X.ok hi R hid h0 hx
  ·cases h
 ·rename_i i id n off hi hp
  split at h
  ·rename_i m sz cs hid
   simp at h
   obtain ⟨⟨⟨h0, h1⟩, h2⟩, rfl, rfl⟩ := h
   subst h0
   rw [hp] at hx
   exact Kh X.ok hi R hid h1 h2 hx
  ·cases h
 ·rename_i i ds hi hp
  simp at h
  obtain ⟨h0, rfl, rfl⟩ := h
  rw [hp] at hx
  exact FF X.ok hi R h0 hx
 ·rename_i i g hi hp
  split at h
  ·rename_i ds hg
   simp at h
   obtain ⟨h0, rfl, rfl⟩ := h
   rw [hp] at hx
   have he : ∀ v, Ag w G H (.c (.gp g)) v → Ag w G H (.c (.dp ds)) v := fun v hv => by
    cases hv with
    | c _ _ hv => cases hv with
     | gp => exact .c _ _ (Vd R hg)
   exact FF X.ok hi R h0 (he _ hx)
  ·cases h
 ·cases h
theorem O0 (t : TypeId) (y x : Operand) : Cu X ro (.store t y x) := by
 intro H H' E z h o ho
 simp only [op1] at h
 split at h
 ·rename_i i id off hi hp
  split at h
  ·rename_i cs hid
   simp at h
   obtain ⟨⟨⟨h0, h1⟩, h2⟩, rfl, rfl⟩ := h
   refine AL.of_unit (s := fun ρ => Instr.storeAt t (ρ y) (ρ x)) (by simp [ho]) (fun ρ => by simp [execOp, ho]) (fun w G a R hE => ?_)
   have hx := hE x (by simp [ho, Op.operands])
   have hy := hE y (by simp [ho, Op.operands])
   rw [hp] at hy
   obtain ⟨w', G', e1, e2, e3⟩ := Q5 X.ok hi R hid hy hx h0 h1 h2
   exact ⟨w', G', e1, e2, e3⟩
  ·cases h
 ·rename_i i id n off hi hp
  split at h
  ·rename_i m sz cs hid
   simp at h
   obtain ⟨⟨⟨⟨⟨h3, h4⟩, h0⟩, h1⟩, h2⟩, rfl, rfl⟩ := h
   subst h3
   refine AL.of_unit (s := fun ρ => Instr.storeAt t (ρ y) (ρ x)) (by simp [ho]) (fun ρ => by simp [execOp, ho]) (fun w G a R hE => ?_)
   have hx := hE x (by simp [ho, Op.operands])
   have hy := hE y (by simp [ho, Op.operands])
   rw [hp] at hy
   obtain ⟨w', G', e1, e2, e3⟩ := L6 X.ok hi R hid hy hx h0 h1 h4 h2
   exact ⟨w', G', e1, e2, e3⟩
  ·cases h
 ·cases h
theorem O1 (op : BinOp) (t t' : TypeId) (x y : Operand) : Cu X ro (.binOp op t x y t') := by
 intro H H' E z h o ho
 simp only [op1] at h
 split at h
 ·rename_i c z' hb
  simp at h
  obtain ⟨rfl, rfl, rfl⟩ := h
  refine AL.of_value (s := fun ρ => do eqGuard op t x y (ρ x) (ρ y); binOp op t (ρ x) (ρ y)) (by simp [ho]) (fun ρ => by simp [execOp, ho]) (fun w G a R hE => ?_)
  exact NE R (hE x (by simp [ho, Op.operands])) (hE y (by simp [ho, Op.operands])) hb
 ·split at h
  ·rename_i z' hb
   simp at h
   obtain ⟨rfl, rfl⟩ := h
   refine AL.of_value (s := fun ρ => do eqGuard op t x y (ρ x) (ρ y); binOp op t (ρ x) (ρ y)) (by simp [ho]) (fun ρ => by simp [execOp, ho]) (fun w G a R hE => ?_)
   have hy : y = .const (.slice none 0 0) := by
    unfold TO SY at hb
    split at hb
    ·rename_i hn; split at hn
     ·rfl
     ·cases hn
    ·cases hb
   subst hy
   exact Re R (hE x (by simp [ho, Op.operands])) hb
  ·cases h
theorem JB (t : TypeId) (x : Operand) (f : Nat) : Cu X ro (.fieldAddr t x f) := by
 intro H H' E z h o ho
 simp only [op1] at h
 split at h
 ·rename_i i hi
  split at h
  ·rename_i fs hd
   split at h
   ·rename_i fd hf
    refine AL.of_value (s := fun ρ => Instr.fieldAt t (ρ x) f) (by simp [ho]) (fun ρ => by simp [execOp, ho]) (fun w G a R hE => ?_)
    have hx := hE x (by simp [ho, Op.operands])
    split at h
    ·rename_i j id off hj hp
     simp at h
     obtain ⟨h0, rfl, rfl⟩ := h
     rw [hp] at hx
     exact J1 X.ok hi hd hf hj h0 R hx
    ·rename_i j ds hj hp
     simp at h
     obtain ⟨h0, rfl, rfl⟩ := h
     rw [hp] at hx
     exact He X.ok hi hd hf hj h0 R hx
    ·rename_i j id n off hj hp
     simp at h
     obtain ⟨h0, rfl, rfl⟩ := h
     rw [hp] at hx
     exact Hn X.ok hi hd hf hj h0 R hx
    ·cases h
   ·cases h
  ·cases h
 ·cases h
theorem O2 (t : TypeId) (x : Operand) (f : Nat) : Cu X ro (.field t x f) := by
 intro H H' E z h o ho
 simp only [op1] at h
 split at h
 ·rename_i i hi
  split at h
  ·rename_i fs hd
   split at h
   ·rename_i fd hf
    refine AL.of_value (s := fun ρ => Instr.field t (ρ x) f) (by simp [ho]) (fun ρ => by simp [execOp, ho]) (fun w G a R hE => ?_)
    have hx := hE x (by simp [ho, Op.operands])
    split at h
    ·rename_i j cs hj hp
     simp at h
     obtain ⟨h0, rfl, rfl⟩ := h
     rw [hp] at hx
     exact NA X.ok hi hd hf hj R hx h0
    ·cases h
   ·cases h
  ·cases h
 ·cases h
theorem JC (t : TypeId) (x y : Operand) : Cu X ro (.indexAddr t x y) := by
 intro H H' E z h o ho
 simp only [op1] at h
 split at h
 ·rename_i i k n hi hn
  refine AL.of_value (s := fun ρ => Instr.indexAt t (ρ x) (ρ y)) (by simp [ho]) (fun ρ => by simp [execOp, ho]) (fun w G a R hE => ?_)
  have hx := hE x (by simp [ho, Op.operands])
  have hy := hE y (by simp [ho, Op.operands])
  rw [hn] at hy
  split at h
  ·rename_i len e hd
   split at h
   ·rename_i j id off hj hp
    simp at h
    obtain ⟨⟨h0, h1⟩, rfl, rfl⟩ := h
    rw [hp] at hx
    exact GE X.ok hi hd hj h0 h1 R hx hy
   ·rename_i j ds hj hp
    simp at h
    obtain ⟨⟨h0, h1⟩, rfl, rfl⟩ := h
    rw [hp] at hx
    exact Hf X.ok hi hd hj h0 h1 R hx hy
   ·cases h
  ·rename_i e hd
   split at h
   ·rename_i j id off len cap hj hp
    simp at h
    obtain ⟨⟨h0, h1⟩, rfl, rfl⟩ := h
    rw [hp] at hx
    exact Hh X.ok hi hd hj h0 h1 R hx hy
   ·rename_i j id m hj hp
    simp at h
    obtain ⟨⟨h0, h1⟩, rfl, rfl⟩ := h
    rw [hp] at hx
    exact Ho X.ok hi hd hj h0 h1 R hx hy
   ·rename_i j c _ _ hj hp
    split at h
    ·rename_i rows hr
     simp at h
     obtain ⟨⟨⟨h0, h1⟩, h2⟩, rfl, rfl⟩ := h
     rw [hp] at hx
     have hlt : n.toNat < rows.length := by omega
     rw [List.getElem?_eq_getElem hlt, Option.getD_some] at h2 ⊢
     exact Hg X.ok hi hd hj h0 hr (by simp [hlt]) h2 R hx hy
    ·cases h
   ·cases h
  ·cases h
 ·cases h
theorem O3 (t : TypeId) (x y : Operand) : Cu X ro (.index t x y) := by
 intro H H' E z h o ho
 simp only [op1] at h
 split at h
 ·rename_i i k n hi hn
  refine AL.of_value (s := fun ρ => Instr.index t (ρ x) (ρ y)) (by simp [ho]) (fun ρ => by simp [execOp, ho]) (fun w G a R hE => ?_)
  have hx := hE x (by simp [ho, Op.operands])
  have hy := hE y (by simp [ho, Op.operands])
  rw [hn] at hy
  split at h
  ·rename_i len e hd
   split at h
   ·rename_i j cs hj hp
    simp at h
    obtain ⟨⟨⟨h0, h1⟩, h2⟩, rfl, rfl⟩ := h
    rw [hp] at hx
    exact NB X.ok hi hd hj h0 h1 R hx hy h2
   ·cases h
  ·cases h
 ·cases h
theorem JD (t : TypeId) (x y : Operand) : Cu X ro (.makeSlice t x y) := by
 intro H H' E z h o ho
 simp only [op1] at h
 split at h
 ·rename_i i k n k' m hi hn hm
  split at h
  ·rename_i e hd
   split at h
   ·rename_i j hj
    simp at h
    obtain ⟨⟨⟨⟨h0, h1⟩, h2⟩, h3⟩, rfl, rfl⟩ := h
    refine AL.of_value (s := fun ρ => Instr.makeSlice t (ρ x) (ρ y)) (by simp [ho]) (fun ρ => by simp [execOp, ho]) (fun w G a R hE => ?_)
    have hx := hE x (by simp [ho, Op.operands])
    have hy := hE y (by simp [ho, Op.operands])
    rw [hn] at hx
    rw [hm] at hy
    exact Ia X.ok hi hd hj h0 h1 h2 h3 R hx hy
   ·cases h
  ·cases h
 ·cases h
theorem O4 (t : TypeId) (ps : Array (Nat × Operand)) : Cu X ro (.build t ps) := by
 intro H H' E z h o ho
 simp only [op1] at h
 split at h
 ·rename_i i hi
  refine AL.of_value (s := fun ρ => Instr.build t (ps.map fun (i, x) => (i, ρ x))) (by simp [ho]) (fun ρ => by simp [execOp, ho]) (fun w G a R hE => ?_)
  have hp := NP (E := E) (a := a) (ps := ps) (fun x hx => hE x (by simpa [ho, Op.operands] using hx))
  split at h
  ·rename_i fs hd
   split at h
   ·rename_i cs hc
    simp at h
    obtain ⟨h0, rfl, rfl⟩ := h
    exact Gm X.ok hi hd (by simpa using h0) R hp hc
   ·cases h
  ·rename_i n e hd
   split at h
   ·rename_i j hj
    split at h
    ·rename_i cs hc
     simp at h
     obtain ⟨rfl, rfl⟩ := h
     exact GF X.ok hi hd hj R hp hc
    ·cases h
   ·cases h
  ·cases h
 ·cases h
theorem Ih (t : TypeId) (n : Nat) (ps : Array (Nat × Operand)) : Cu X ro (.buildSlice t n ps) := by
 intro H H' E z h o ho
 simp only [op1] at h
 split at h
 ·rename_i i hi
  split at h
  ·rename_i e hd
   split at h
   ·rename_i j hj
    split at h
    ·rename_i cs hc
     split at h
     ·rename_i ds hds
      simp at h
      obtain ⟨⟨h0, hn⟩, rfl, rfl⟩ := h
      refine AL.of_value (s := fun ρ => Instr.buildSlice t n (ps.map fun (i, x) => (i, ρ x))) (by simp [ho]) (fun ρ => by simp [execOp, ho]) (fun w G a R hE => ?_)
      have hp := NP (E := E) (a := a) (ps := ps) (fun x hx => hE x (by simpa [ho, Op.operands] using hx))
      exact Hi X.ok hi hd hj R hp hc hds h0 hn
     ·simp at h
      obtain ⟨⟨h0, hn⟩, rfl, rfl⟩ := h
      refine AL.of_value (s := fun ρ => Instr.buildSlice t n (ps.map fun (i, x) => (i, ρ x))) (by simp [ho]) (fun ρ => by simp [execOp, ho]) (fun w G a R hE => ?_)
      have hp := NP (E := E) (a := a) (ps := ps) (fun x hx => hE x (by simpa [ho, Op.operands] using hx))
      exact FJ X.ok hi hd hj R hp hc h0 hn
    ·cases h
   ·cases h
  ·cases h
 ·cases h
theorem Rh (x : Operand) : Cu X ro (.move x) := by
 intro H H' E z h o ho
 simp [op1] at h
 obtain ⟨rfl, rfl⟩ := h
 refine AL.of_value (s := fun ρ => pure (ρ x)) (by simp [ho]) (fun ρ => by simp [execOp, ho]) (fun w G a R hE => ?_)
 exact Aj.still R rfl (hE x (by simp [ho, Op.operands]))
theorem NQ (x : Operand) : Cu X ro (.assign x) := by
 intro H H' E z h o ho
 simp [op1] at h
 obtain ⟨rfl, rfl⟩ := h
 refine AL.of_value (s := fun ρ => pure (ρ x)) (by simp [ho]) (fun ρ => by simp [execOp, ho]) (fun w G a R hE => ?_)
 exact Aj.still R rfl (hE x (by simp [ho, Op.operands]))
theorem Ri (c x y : Operand) : Cu X ro (.pick c x y) := by
 intro H H' E z h o ho
 simp only [op1] at h
 split at h
 ·rename_i t hc
  simp at h
  obtain ⟨rfl, rfl⟩ := h
  refine AL.of_value (s := fun ρ => do pure (if ← asBool (ρ c) then ρ x else ρ y)) (by simp [ho]) (fun ρ => by simp [execOp, ho]) (fun w G a R hE => ?_)
  have h1 := hE c (by simp [ho, Op.operands])
  rw [hc] at h1
  refine Aj.still R (v := if t then a.eval x else a.eval y) ?_ (Ve (hE x (by simp [ho, Op.operands])) (hE y (by simp [ho, Op.operands])))
  rw [EL h1]; rfl
 ·cases h
theorem O5 (t : TypeId) : Cu X ro (.alloc t) := by
 intro H H' E z h o ho
 simp only [op1] at h
 split at h
 ·rename_i i hi
  simp at h
  obtain ⟨rfl, rfl⟩ := h
  exact AL.of_value (s := fun _ => Instr.alloc t true (.tuple #[])) (by simp [ho]) (fun ρ => by simp [execOp, ho]) (fun w G a R hE => Ny X.ok hi R)
 ·cases h
theorem TQ (t : TypeId) (x : Operand) : Cu X ro (.box t x) := by
 intro H H' E z h o ho
 simp [op1] at h
 obtain ⟨h0, rfl, rfl⟩ := h
 exact AL.of_value (s := fun ρ => Instr.box t (ρ x)) (by simp [ho]) (fun ρ => by simp [execOp, ho]) (fun w G a R hE => Q7 R (hE x (by simp [ho, Op.operands])) h0)
theorem Kk (x : Operand) : Cu X ro (.nilCheck x) := by
 intro H H' E z h o ho
 have key : ∀ (ok : Value → Prop), (∀ ρ : Operand → Value, ok (ρ x) → ∀ w : World, (execOp ρ o).run X.P w = .ok (.value (ρ x)) w) → (∀ w G v, Ag w G H (E x) v → ok v) → H' = H → z = E x → AL X.P ro o H E (one z H') := by
  rintro ok h1 h2 rfl rfl
  intro w G a next Q R hE hn
  have hx := hE x (by simp [ho, Op.operands])
  refine ⟨fun _ _ => trivial, ?_⟩
  rw [Oper.semAt_eq _ _ _ (by simp [ho]), h1 _ (h2 w G _ hx) w]
  exact hn _ _ _ G w ⟨rfl, rfl⟩ hx R (Am.refl _ _ _)
 simp only [op1] at h
 split at h
 ·rename_i id off hp
  simp at h
  refine key (fun v => ∃ a, v = .pointer (some a)) (fun ρ hv w => by obtain ⟨a, e⟩ := hv; simp [execOp, ho, e]) (fun w G v hv => ?_) h.2.symm (by rw [hp]; exact h.1.symm)
  rw [hp] at hv
  exact ⟨_, (F6 hv).1⟩
 ·rename_i ds hp
  simp at h
  refine key (fun v => ∃ a, v = .pointer (some a)) (fun ρ hv w => by obtain ⟨a, e⟩ := hv; simp [execOp, ho, e]) (fun w G v hv => ?_) h.2.symm (by rw [hp]; exact h.1.symm)
  rw [hp] at hv
  obtain ⟨b, o', f, e, _⟩ := Nz hv
  exact ⟨_, e⟩
 ·rename_i f cs hp
  simp at h
  refine key (fun v => ∃ f a c, v = .func (.func f) a c) (fun ρ hv w => by obtain ⟨f, a, c, e⟩ := hv; simp [execOp, ho, e]) (fun w G v hv => ?_) h.2.symm (by rw [hp]; exact h.1.symm)
  rw [hp] at hv
  cases hv with | c _ _ hv => cases hv; exact ⟨_, _, _, rfl⟩
 ·cases h
theorem Rj (u : UnOp) (t : TypeId) (x : Operand) : Cu X ro (.unOp u t x) := by
 intro H H' E z h o ho
 simp only [op1] at h
 refine AL.of_value (s := fun ρ => Op.unary u (ρ x)) (by simp [ho]) (fun ρ => by simp [execOp, ho]) (fun w G a R hE => ?_)
 have hx := hE x (by simp [ho, Op.operands])
 split at h
 ·rename_i b hp
  simp at h
  obtain ⟨rfl, rfl⟩ := h
  rw [hp] at hx
  rw [EL hx]
  exact Aj.still R (v := .bool (!b)) rfl (.c _ _ (.d _ _ (.bool _)))
 ·rename_i k n hp
  simp at h
  obtain ⟨rfl, rfl⟩ := h
  rw [hp] at hx
  rw [Bz hx]
  exact Aj.still R (v := .int k (wr k (-n))) (by rw [J7, ← Int.zero_sub]; rfl) (.c _ _ (.d _ _ (.int _ _)))
 ·cases h
theorem L9 (s t : TypeId) (x : Operand) : Cu X ro (.convert s t x) := by
 intro H H' E z h o ho
 simp only [op1] at h
 split at h
 ·rename_i i j k0 n hi hj hp
  split at h
  ·rename_i k hd
   simp at h
   obtain ⟨rfl, rfl⟩ := h
   refine AL.of_value (s := fun ρ => convert s t (ρ x)) (by simp [ho]) (fun ρ => by simp [execOp, ho]) (fun w G a R hE => ?_)
   have hx := hE x (by simp [ho, Op.operands])
   rw [hp] at hx
   rw [Bz hx]
   refine Aj.still R (v := .int k (wr k n)) ?_ (.c _ _ (.d _ _ (.int _ _)))
   rw [J7]
   obtain ⟨d0, q1, _⟩ := X.ok.desc s i hi
   have q2 : (underlying s).run X.P w = .ok d0 w := by simp [underlying, q1]
   simp [convert, q2, X.ok.run_at hj hd rfl, Conv.intToInt]
  ·cases h
 ·cases h
theorem Kl (f : Fn) (first caps : Array Operand) : Cu X ro (.makeFunc f first caps) := by
 intro H H' E z h o ho
 simp only [op1] at h
 split at h
 ·rename_i hf
  split at h
  ·rename_i cs hc
   simp at h
   obtain ⟨rfl, rfl⟩ := h
   have hf' : first = #[] := by simpa using hf
   subst hf'
   refine AL.of_value (s := fun ρ => Instr.makeFunc f ((#[] : Array Operand).map ρ) (caps.map ρ)) (by simp [ho]) (fun ρ => by simp [execOp, ho]) (fun w G a R hE => ?_)
   obtain ⟨e1, e2⟩ := D0 (E := E) (a := a) (xs := caps) (fun x hx => hE x (by simp [ho, Op.operands]; exact hx))
   obtain ⟨e3, e4⟩ := OZ hc e1 e2
   refine Aj.still R (v := .func f #[] (caps.map a.eval)) (by simp [Instr.makeFunc]) (.c _ _ (.fn _ _ _ (by simpa using e3.symm) (fun i x v hx hv => e4 i x v hx (by simpa using hv))))
  ·cases h
 ·split at h
  ·rename_i x hx hc
   simp at h
   obtain ⟨rfl, rfl⟩ := h
   have hc' : caps = #[] := by simpa using hc
   subst hc'
   refine AL.of_value (s := fun ρ => Instr.makeFunc f (first.map ρ) ((#[] : Array Operand).map ρ)) (by simp [ho]) (fun ρ => by simp [execOp, ho]) (fun w G a R hE => ?_)
   obtain ⟨e1, e2⟩ := D0 (E := E) (a := a) (xs := first) (fun x hx => hE x (by simp [ho, Op.operands]; exact hx))
   rw [hx] at e1 e2
   obtain ⟨u, hu⟩ : ∃ u, first.map a.eval = #[u] := by
    have : (first.map a.eval).size = 1 := by rw [← Array.length_toList, ← e1]; rfl
    exact Array.size_eq_one_iff.1 this
   have hr := e2 0 (.c x) u rfl (by rw [hu]; rfl)
   cases hr with
   | c _ _ hr => exact Aj.still R (v := .func f #[u] #[]) (by simp [Instr.makeFunc, hu]) (.c _ _ (.mv _ _ _ hr))
  ·rename_i cs hx hc
   simp at h
   obtain ⟨rfl, rfl⟩ := h
   have hc' : caps = #[] := by simpa using hc
   subst hc'
   refine AL.of_value (s := fun ρ => Instr.makeFunc f (first.map ρ) ((#[] : Array Operand).map ρ)) (by simp [ho]) (fun ρ => by simp [execOp, ho]) (fun w G a R hE => ?_)
   obtain ⟨e1, e2⟩ := D0 (E := E) (a := a) (xs := first) (fun x hx => hE x (by simp [ho, Op.operands]; exact hx))
   rw [hx] at e1 e2
   obtain ⟨u, hu⟩ : ∃ u, first.map a.eval = #[u] := by
    have : (first.map a.eval).size = 1 := by rw [← Array.length_toList, ← e1]; rfl
    exact Array.size_eq_one_iff.1 this
   have hr := e2 0 (.agg cs) u rfl (by rw [hu]; rfl)
   cases hr with
   | agg _ arr hr =>
    refine Aj.still R (v := .func f #[.agg arr] #[]) (by simp [Instr.makeFunc, hu]) (.c _ _ (.ma _ _ _ (by have := hr.1; simpa using this.symm) (fun i v hv => ?_) (fun i x v hx hv => (hr.2 i x v hx (by simpa using hv)).1)))
    have hlt : i < cs.length := by rw [hr.1]; have := (Array.getElem?_eq_some_iff.1 hv).1; simpa using this
    exact (hr.2 i _ v (List.getElem?_eq_getElem hlt) (by simpa using hv)).2
  ·cases h
theorem Ma (t : TypeId) (r : Option Operand) : Cu X ro (.makeMap t r) := by
 intro H H' E z h o ho
 cases r with
 | some r => simp [op1] at h
 | none =>
  simp [op1] at h
  obtain ⟨rfl, rfl⟩ := h
  refine AL.of_value (s := fun _ => Instr.makeMap t none) (by simp [ho]) (fun ρ => by simp [execOp, ho]) (fun w G a R hE => ?_)
  refine ⟨.map (some w.heap.size), w.alloc (.map #[] 0), G.own H.length w.heap.size, by simp [Instr.makeMap], ?_, R.alloc_map 0, Am.alloc_own R _ _⟩
  have := Ap.mp (w := w.alloc (.map #[] 0)) (G := G.own H.length w.heap.size) (H := H ++ [.mp []]) H.length (by simp)
  simp only [Gh.own, Ao] at this
  exact .c _ _ this
theorem Mb (x : Operand) (n : Nat) : Cu X ro (.extract x n) := by
 intro H H' E z h o ho
 simp only [op1] at h
 split at h
 ·rename_i vs hp
  split at h
  ·rename_i v hv
   simp at h
   obtain ⟨rfl, rfl⟩ := h
   refine AL.of_value (s := fun ρ => Instr.extract (ρ x) n) (by simp [ho]) (fun ρ => by simp [execOp, ho]) (fun w G a R hE => ?_)
   have hx := hE x (by simp [ho, Op.operands])
   rw [hp] at hx
   exact J2 R hx hv
  ·cases h
 ·cases h
theorem BM {lo : Option Operand} {n m : Int} {a : Act} (h : Ed E lo n = some m) (hE : ∀ x, lo = some x → Ag w G H (E x) (a.eval x)) :
  match lo.map a.eval with | some v => ∃ k, v = .int k m | none => m = n := by
 cases lo with
 | none => simp [Ed] at h; simp [h]
 | some x =>
  have hx := hE x rfl
  simp only [Ed] at h
  split at h
  ·rename_i k m' hp
   cases h
   rw [hp] at hx
   exact ⟨k, Bz hx⟩
  ·cases h
theorem O6 (t : TypeId) (x : Operand) (lo hi mx : Option Operand) : Cu X ro (.slice t x lo hi mx) := by
 intro H H' E z h o ho
 simp only [op1] at h
 split at h
 ·rename_i i hti
  refine AL.of_value (s := fun ρ => Instr.sliceAt t (ρ x) (lo.map ρ) (hi.map ρ) (mx.map ρ)) (by simp [ho]) (fun ρ => by simp [execOp, ho]) (fun w G a R hE => ?_)
  have hx := hE x (by simp [ho, Op.operands])
  have hlo : ∀ y, lo = some y → Ag w G H (E y) (a.eval y) := fun y hy => hE y (by simp [ho, Op.operands, hy])
  have hhi : ∀ y, hi = some y → Ag w G H (E y) (a.eval y) := fun y hy => hE y (by simp [ho, Op.operands, hy])
  have hmx : ∀ y, mx = some y → Ag w G H (E y) (a.eval y) := fun y hy => hE y (by simp [ho, Op.operands, hy])
  split at h
  ·rename_i n e hd
   split at h
   ·rename_i j id off hj hp
    simp at h
    obtain ⟨rfl, rfl⟩ := h
    rw [hp] at hx
    exact Ib X.ok hti hd hj R hx
   ·rename_i lo hi mx _ _ _ _ _ j id off hj _ hp
    split at h
    ·rename_i l hh m hl hb hmm
     have bl := BM hl hlo
     have bh := BM hb hhi
     have bm := BM hmm hmx
     simp at h
     obtain ⟨⟨⟨⟨⟨h0, h1⟩, h2⟩, h3⟩, h4⟩, rfl, rfl⟩ := h
     rw [hp] at hx
     exact Hk X.ok hti hd hj R hx (l := l.toNat) (h := hh.toNat) (m := m.toNat)
      (by cases mx <;> simp at bm ⊢ <;> first | (obtain ⟨k, e⟩ := bm; exact ⟨⟨k, by rw [e]; congr 1; omega⟩, by omega⟩) | omega)
      (by cases hi <;> cases mx <;> simp at bh bm h4 ⊢ <;> first | (obtain ⟨k, e⟩ := bh; exact ⟨⟨k, by rw [e]; congr 1; omega⟩, by omega⟩) | omega)
      (by cases lo <;> simp at bl ⊢ <;> first | (obtain ⟨k, e⟩ := bl; exact ⟨⟨k, by rw [e]; congr 1; omega⟩, by omega⟩) | omega)
    ·cases h
   ·cases h
  ·rename_i e hd
   split at h
   ·rename_i j id off len cap hj hp
    split at h
    ·rename_i l hh m hl hb hmm
     have bl := BM hl hlo
     have bh := BM hb hhi
     have bm := BM hmm hmx
     simp at h
     obtain ⟨⟨⟨⟨⟨h0, h1⟩, h2⟩, h3⟩, h4⟩, rfl, rfl⟩ := h
     rw [hp] at hx
     cases hx with
     | c _ _ hx =>
     exact Jy X.ok hti hd hj R hx (l := l.toNat) (h := hh.toNat) (m := m.toNat)
      (by cases mx <;> simp at bm ⊢ <;> first | (obtain ⟨k, e⟩ := bm; exact ⟨⟨k, by rw [e]; congr 1; omega⟩, by omega⟩) | omega)
      (by cases hi <;> cases mx <;> simp at bh bm h4 ⊢ <;> first | (obtain ⟨k, e⟩ := bh; exact ⟨⟨k, by rw [e]; congr 1; omega⟩, by omega⟩) | omega)
      (by cases lo <;> simp at bl ⊢ <;> first | (obtain ⟨k, e⟩ := bl; exact ⟨⟨k, by rw [e]; congr 1; omega⟩, by omega⟩) | omega)
    ·cases h
   ·rename_i j id n hj hp
    split at h
    ·rename_i l hh m hl hb hmm
     have bl := BM hl hlo
     have bh := BM hb hhi
     have bm := BM hmm hmx
     simp at h
     obtain ⟨⟨⟨⟨⟨rfl, rfl⟩, rfl⟩, h3⟩, h4⟩, rfl, rfl⟩ := h
     rw [hp] at hx
     cases hx with
     | c _ _ hx =>
     exact JA X.ok hti hd hj R hx
      (by cases lo <;> simp at bl ⊢ <;> first | exact bl | trivial)
      (by cases hi <;> simp at bh h3 ⊢ <;> exact bh)
      (by cases mx <;> simp at bm h4 ⊢ <;> exact bm)
    ·cases h
   ·rename_i j c _ _ hj hp
    rw [hp] at hx
    split at h
    ·rename_i rows hr
     split at h
     ·rename_i l hh hl hb
      have bl := BM hl hlo
      have bh := BM hb hhi
      split at h
      ·simp at h
       obtain ⟨⟨⟨⟨h0, h1⟩, h2⟩, h3⟩, rfl, rfl⟩ := h
       have := Hj (P := X.P) X.ok hti hd hj hr (fun r hm => by simpa using h3 r hm) (l := l.toNat) (h := hh.toNat) (by omega) (by omega) (lo := lo.map a.eval) (hi := hi.map a.eval) (mx := none) R hx
        (by cases lo <;> simp at bl ⊢ <;> first | (obtain ⟨k, e⟩ := bl; exact ⟨k, by rw [e]; congr 1; omega⟩) | omega)
        (by cases hi <;> simp at bh ⊢ <;> first | (obtain ⟨k, e⟩ := bh; exact ⟨k, by rw [e]; congr 1; omega⟩) | omega) trivial
       simpa using this
      ·rename_i b
       split at h
       ·rename_i k m hm
        simp at h
        obtain ⟨⟨⟨⟨⟨⟨h0, h1⟩, h2⟩, h4⟩, h5⟩, h3⟩, rfl, rfl⟩ := h
        have hb' := hmx b rfl
        rw [hm] at hb'
        have hb' := Bz hb'
        have := Hj (P := X.P) X.ok hti hd hj hr (fun r hm => by simpa using h3 r hm) (l := l.toNat) (h := hh.toNat) (by omega) (by omega) (lo := lo.map a.eval) (hi := hi.map a.eval) (mx := some (a.eval b)) R hx
         (by cases lo <;> simp at bl ⊢ <;> first | (obtain ⟨k, e⟩ := bl; exact ⟨k, by rw [e]; congr 1; omega⟩) | omega)
         (by cases hi <;> simp at bh ⊢ <;> first | (obtain ⟨k, e⟩ := bh; exact ⟨k, by rw [e]; congr 1; omega⟩) | omega) ⟨⟨k, by rw [hb']; congr 1; omega⟩, by simpa using h5⟩
        simpa using this
       ·cases h
     ·cases h
    ·cases h
   ·cases h
  ·cases h
 ·cases h
theorem BX {b : Builtin} {as : Array Operand} {ts : Array TypeId} {o : Oper} {f : Array TypeId → TypeId → Array Value → Sem Value} (ho : o.op = .call { callee := .builtin b, args := as, argTypes := ts })
  (hb : ∀ (ty : TypeId) (c : Array Bool) (vs : Array Value), builtin b ts ty c vs = (do pure (.value (← f ts ty vs))))
  (h : ∀ w G (a : Act), Rel w G H → (∀ x ∈ as, Ag w G H (E x) (a.eval x)) → Aj X.P (f ts o.type (as.map a.eval)) w G H z H') : AL X.P ro o H E (one z H') := by
 refine AL.of_value (s := fun ρ => f ts o.type (as.map ρ)) (by simp [ho]) (fun ρ => ?_) (fun w G a R hE => h w G a R (fun x hx => hE x (by simp [ho, Op.operands, Call.operands]; exact hx)))
 simp only [execOp, ho, resolve, invoke]
 exact hb _ _ _
theorem JN {as : Array Operand} {p q : V} {a : Act} (h : as.toList.map E = [p, q]) (hE : ∀ x ∈ as, Ag w G H (E x) (a.eval x)) : ∃ v u, as.map a.eval = #[v, u] ∧ Ag w G H p v ∧ Ag w G H q u := by
 obtain ⟨l⟩ := as
 match l, h, hE with
 | [x, y], h, hE =>
  simp at h
  obtain ⟨rfl, rfl⟩ := h
  exact ⟨a.eval x, a.eval y, by simp, hE x (by simp), hE y (by simp)⟩
theorem SZ {as : Array Operand} {p : V} {a : Act} (h : as.toList.map E = [p]) (hE : ∀ x ∈ as, Ag w G H (E x) (a.eval x)) : ∃ v, as.map a.eval = #[v] ∧ Ag w G H p v := by
 obtain ⟨l⟩ := as
 match l, h, hE with
 | [x], h, hE =>
  simp at h
  obtain rfl := h
  exact ⟨a.eval x, by simp, hE x (by simp)⟩
theorem Mc (b : Builtin) (as : Array Operand) (ts : Array TypeId) : Cu X ro (.call { callee := .builtin b, args := as, argTypes := ts }) := by
 intro H H' E z h o ho
 simp only [op1] at h
 split at h
 ·
  rename_i t x ht hx
  have ht' : ts = #[t] := by obtain ⟨l⟩ := ts; simp at ht; rw [ht]
  refine BX (f := Builtin.len_) ho (fun _ _ _ => rfl) (fun w G a R hE => ?_)
  obtain ⟨v, e1, e2⟩ := SZ (a := a) hx hE
  rw [e1, ht']
  split at h
  ·rename_i i hi
   split at h
   ·rename_i e c hd
    split at h
    ·rename_i n hn
     simp at h
     obtain ⟨rfl, rfl⟩ := h
     cases e2 with | c _ _ e2 => exact OU hi hd R hn e2
    ·cases h
   ·rename_i n e hd
    simp at h
    obtain ⟨rfl, rfl⟩ := h
    exact Kb hi hd R
   ·rename_i k e id hd
    split at h
    ·rename_i es hid
     simp at h
     obtain ⟨rfl, rfl⟩ := h
     cases e2 with | c _ _ e2 => exact Kd hi hd R hid e2
    ·cases h
   ·cases h
  ·cases h
 ·
  rename_i vs _
  split at h
  ·rename_i k m l hl
   simp at h
   obtain ⟨rfl, rfl⟩ := h
   refine BX (f := Builtin.min_) ho (fun _ _ _ => rfl) (fun w G a R hE => ?_)
   obtain ⟨e1, e2⟩ := D0 (a := a) hE
   exact Ra R hl e1 e2
  ·cases h
 ·
  rename_i vs _
  split at h
  ·rename_i k m l hl
   simp at h
   obtain ⟨rfl, rfl⟩ := h
   refine BX (f := Builtin.max_) ho (fun _ _ _ => rfl) (fun w G a R hE => ?_)
   obtain ⟨e1, e2⟩ := D0 (a := a) hE
   exact Rb R hl e1 e2
  ·cases h
 ·
  rename_i t t2 s y ht hx
  have ht' : ts = #[t, t2] := by obtain ⟨l⟩ := ts; simp at ht; rw [ht]
  refine BX (f := Builtin.append_) ho (fun _ _ _ => rfl) (fun w G a R hE => ?_)
  obtain ⟨v, u, e1, e2, e3⟩ := JN (a := a) hx hE
  rw [e1, ht']
  split at h
  ·rename_i i i2 hi hi2
   split at h
   ·rename_i e e' hd hd2
    split at h
    ·rename_i j hj
     split at h
     ·rename_i id n hs
      obtain rfl := OW hs
      split at h
      ·rename_i m sz cs k new hid hsrc
       simp at h
       obtain ⟨⟨⟨⟨⟨h0, h1⟩, h2⟩, h3⟩, h4⟩, rfl, rfl⟩ := h
       subst h0; subst h1
       cases e2 with
       | c _ _ e2 =>
       cases e3 with
       | c _ _ e3 =>
       cases e2 with
       | vs _ _ ad cap _ hne hg =>
       obtain ⟨ax, capx, us, rfl, q1, q2, q3⟩ := NJ (P := X.P) h2 R hsrc e3
       have hg' := (hg _ _ _ hid).2 rfl
       exact C5 X.ok hi hd hi2 ⟨e', hd2⟩ hj R hid (by rw [hg']) hne.2 hne.1 (fun _ => hg') q1 q2 q3 h3 h4
      ·cases h
     ·rename_i id n hs
      obtain rfl := OX hs
      split at h
      ·rename_i m sz cs k new hid hsrc
       simp at h
       obtain ⟨⟨⟨⟨⟨⟨h0, h1⟩, h2⟩, h5⟩, h3⟩, h4⟩, rfl, rfl⟩ := h
       subst h0; subst h1
       cases e2 with
       | c _ _ e2 =>
       cases e3 with
       | c _ _ e3 =>
       cases e2 with
       | vc _ _ ad _ hne hg =>
       obtain ⟨ax, capx, us, rfl, q1, q2, q3⟩ := NJ (P := X.P) h2 R hsrc e3
       have hg' := (hg _ _ _ hid).2 rfl
       exact C5 X.ok hi hd hi2 ⟨e', hd2⟩ hj R hid hg' hne (Nat.le_refl _) (fun hh => by omega) q1 q2 q3 h3 h4
      ·cases h
     ·rename_i hs
      obtain rfl := OY hs
      split at h
      ·rename_i k new hsrc
       simp at h
       obtain ⟨⟨⟨h2, h3⟩, h4⟩, rfl, rfl⟩ := h
       cases e2 with
       | c _ _ e2 =>
       cases e3 with
       | c _ _ e3 =>
       obtain ⟨G1, ad, R1, L1, rfl, hg1⟩ := Ic R e2 j.size
       obtain ⟨ax, capx, us, rfl, q1, q2, q3⟩ := NJ (P := X.P) h2 R hsrc e3
       obtain ⟨v', w', G', p1, p2, p3, p4⟩ := C5 (ty := o.type) (P := X.P) X.ok hi hd hi2 ⟨e', hd2⟩ hj (id := H.length) (n := 0) (k := k) (cap := 0) (cs := []) R1 (by simp) (by rw [hg1]) (fun e => absurd rfl e) (Nat.le_refl _) (fun _ => hg1) q1 (q2.mono L1) q3 (by simpa using h3) (by simpa using h4)
       rw [List.set_append_right _ _ (Nat.le_refl _)] at p2 p3 p4
       simp only [Nat.sub_self, List.set_cons_zero, Nat.zero_add, List.nil_append] at p2 p3 p4
       exact ⟨v', w', G', p1, p2, p3, L1.trans p4⟩
      ·cases h
     split at h
     ·rename_i new hnew
      cases e2 with
      | c _ _ e2 =>
      cases e3 with
      | c _ _ e3 =>
       split at h
       ·rename_i id rows
        split at h
        ·rename_i n sz hid
         simp at h
         obtain ⟨⟨⟨⟨⟨⟨⟨h0, h1⟩, h2⟩, h3⟩, h4⟩, h5⟩, h6⟩, rfl, rfl⟩ := h
         subst h0; subst h1
         obtain ⟨ax, capx, us, rfl, q1, q2⟩ := Vb (P := X.P) h2 R hnew h4 e3
         exact Eb X.ok hi hd hi2 ⟨e', hd2⟩ hj h2 R hid e2 q1 q2 h3 h4 h5 h6
        ·cases h
       ·rename_i rows
        simp at h
        obtain ⟨⟨⟨⟨⟨h2, h3⟩, h4⟩, h5⟩, h6⟩, rfl, rfl⟩ := h
        obtain ⟨G1, R1, L1, c1⟩ := adopt R e2 j.size
        obtain ⟨ax, capx, us, rfl, q1, q2⟩ := Vb (P := X.P) h2 R hnew h4 e3
        obtain ⟨v', w', G', p1, p2, p3, p4⟩ := Eb (ty := o.type) X.ok hi hd hi2 ⟨e', hd2⟩ hj h2 R1 (by simp) c1 q1 (q2.mono L1) h3 h4 h5 h6
        rw [List.set_append_right _ _ (Nat.le_refl _)] at p2 p3 p4
        simp only [Nat.sub_self, List.set_cons_zero] at p2 p3 p4
        exact ⟨v', w', G', p1, p2, p3, L1.trans p4⟩
       ·cases h
     ·cases h
    ·cases h
   ·cases h
  ·cases h
 ·
  rename_i t t2 id off len cap y ht hx
  have ht' : ts = #[t, t2] := by obtain ⟨l⟩ := ts; simp at ht; rw [ht]
  refine BX (f := Builtin.copy_) ho (fun _ _ _ => rfl) (fun w G a R hE => ?_)
  obtain ⟨v, u, e1, e2, e3⟩ := JN (a := a) hx hE
  rw [e1, ht']
  split at h
  ·rename_i i cs m hi hid hm
   split at h
   ·rename_i e hd
    split at h
    ·rename_i j hj
     split at h
     ·rename_i cs' hcs
      simp at h
      obtain ⟨⟨⟨h0, h1⟩, h2⟩, rfl, rfl⟩ := h
      cases e2 with
      | c _ _ e2 =>
       cases e3 with
       | c _ _ e3 => exact OO (n := Nat.min m len) hi hd hj h0 R hid e2 hm rfl hcs e3 h1 h2
     ·cases h
    ·cases h
   ·cases h
  ·cases h
 ·
  rename_i t t2 id k ht hx
  have ht' : ts = #[t, t2] := by obtain ⟨l⟩ := ts; simp at ht; rw [ht]
  refine BX (f := Builtin.delete_) ho (fun _ _ _ => rfl) (fun w G a R hE => ?_)
  obtain ⟨v, u, e1, e2, e3⟩ := JN (a := a) hx hE
  rw [e1, ht']
  split at h
  ·rename_i i es hi hid
   split at h
   ·rename_i kt et hd
    split at h
    ·rename_i o' hf
     simp at h
     obtain ⟨h0, rfl, rfl⟩ := h
     exact OR hi hd rfl R hid h0 hf e2 e3
    ·cases h
   ·cases h
  ·cases h
 ·
  rename_i t id off len cap ht hx
  have ht' : ts = #[t] := by obtain ⟨l⟩ := ts; simp at ht; rw [ht]
  refine BX (f := Builtin.clear_) ho (fun _ _ _ => rfl) (fun w G a R hE => ?_)
  obtain ⟨v, e1, e2⟩ := SZ (a := a) hx hE
  rw [e1, ht']
  split at h
  ·rename_i i cs hi hid
   split at h
   ·rename_i e hd
    split at h
    ·rename_i j hj
     simp at h
     obtain ⟨⟨h0, h1⟩, rfl, rfl⟩ := h
     cases e2 with | c _ _ e2 => exact NG hi hd hj R h0 hid e2 h1
    ·cases h
   ·cases h
  ·cases h
 ·cases h
theorem NR (t : TypeId) (m k : Operand) (ok : Bool) : Cu X ro (.lookup t m k ok) := by
 intro H H' E z h o ho
 simp only [op1] at h
 refine AL.of_value (s := fun ρ => Instr.lookup t (ρ m) (ρ k) ok) (by simp [ho]) (fun ρ => by simp [execOp, ho]) (fun w G a R hE => ?_)
 have hm := hE m (by simp [ho, Op.operands])
 have hk := hE k (by simp [ho, Op.operands])
 split at h
 ·rename_i i id hi hp
  split at h
  ·rename_i kt et es hd hid
   split at h
   ·rename_i j p hj hf
    simp at h
    obtain ⟨h0, rfl, rfl⟩ := h
    rw [hp] at hm
    exact L5 (ok := ok) hi hd hj R hid h0 hf hm hk
   ·cases h
  ·cases h
 ·cases h
theorem JE (t : TypeId) (m k x : Operand) : Cu X ro (.mapUpdate t m k x) := by
 intro H H' E z h o ho
 simp only [op1] at h
 split at h
 ·rename_i i id hi hp
  split at h
  ·rename_i kt et es hd hid
   split at h
   ·rename_i p hf
    simp at h
    obtain ⟨h0, rfl, rfl⟩ := h
    refine AL.of_unit (s := fun ρ => Instr.mapUpdate t (ρ m) (ρ k) (ρ x)) (by simp [ho]) (fun ρ => by simp [execOp, ho]) (fun w G a R hE => ?_)
    have hm := hE m (by simp [ho, Op.operands])
    have hk := hE k (by simp [ho, Op.operands])
    have hx := hE x (by simp [ho, Op.operands])
    rw [hp] at hm
    exact Kf hi hd R hid h0 hf hm hk hx
   ·cases h
  ·cases h
 ·cases h
theorem CK (o : Oper) {z : V} (h : op1 X H E o.op = some (true, z, H')) : AL X.P ro o H E (one z H') := by
 obtain ⟨dst, op, type, pos, after, guard⟩ := o
 cases op
 case move x => exact Rh x H H' E z h _ rfl
 case assign x => exact NQ x H H' E z h _ rfl
 case pick c x y => exact Ri c x y H H' E z h _ rfl
 case alloc t => exact O5 t H H' E z h _ rfl
 case box t x => exact TQ t x H H' E z h _ rfl
 case build t ps => exact O4 t ps H H' E z h _ rfl
 case buildSlice t n ps => exact Ih t n ps H H' E z h _ rfl
 case load t x => exact Rf t x H H' E z h _ rfl
 case store t y x => exact O0 t y x H H' E z h _ rfl
 case nilCheck x => exact Kk x H H' E z h _ rfl
 case binOp op t x y t' => exact O1 op t t' x y H H' E z h _ rfl
 case unOp u t x => exact Rj u t x H H' E z h _ rfl
 case convert s t x => exact L9 s t x H H' E z h _ rfl
 case makeFunc f a b => exact Kl f a b H H' E z h _ rfl
 case makeMap t r => exact Ma t r H H' E z h _ rfl
 case makeSlice t x y => exact JD t x y H H' E z h _ rfl
 case slice t x a b c => exact O6 t x a b c H H' E z h _ rfl
 case fieldAddr t x f => exact JB t x f H H' E z h _ rfl
 case field t x f => exact O2 t x f H H' E z h _ rfl
 case indexAddr t x y => exact JC t x y H H' E z h _ rfl
 case index t x y => exact O3 t x y H H' E z h _ rfl
 case extract x n => exact Mb x n H H' E z h _ rfl
 case lookup t m k ok => exact NR t m k ok H H' E z h _ rfl
 case mapUpdate t m k x => exact JE t m k x H H' E z h _ rfl
 case call c =>
  obtain ⟨callee, args, ts⟩ := c
  cases callee with
  | builtin b => exact Mc b args ts H H' E z h _ rfl
  | _ => simp [op1] at h
 all_goals simp [op1] at h
end
end Go.Abs
namespace Go.Abs
open Go
def Ad (P : Program) (f : FuncId) (args : List V) (H : List AB) (post : V → List AB → Prop) : Prop :=
 (∀ (as : Array Value) (w : World), (callFunc f as).run P w = .ok (.enter f as) w) ∧
 ∀ (w : World) (G : Gh) (vs : Array Value), Rel w G H → args.length = vs.toList.length → (∀ (i : Nat) (x : V) (v : Value), args[i]? = some x → vs.toList[i]? = some v → Ag w G H x v) →
  CallsIn (Wd none) 0 P f vs w fun e w' => ∃ v x H' G', e = .returned v ∧ post x H' ∧ Rel w' G' H' ∧ Ag w' G' H' x v ∧ Am w G H w' G' H'
theorem Ad.mono {P : Program} {f : FuncId} {args : List V} {H : List AB} {post post' : V → List AB → Prop} (h : Ad P f args H post) (hp : ∀ x H', post x H' → post' x H') : Ad P f args H post' :=
 ⟨h.1, fun w G vs R hl hr => (h.2 w G vs R hl hr).mono fun _ _ ⟨v, x, H', G', a, b, c⟩ => ⟨v, x, H', G', a, hp _ _ b, c⟩⟩
theorem Rk {w : World} {G : Gh} {H : List AB} {f : Fn} {caps : List C} {v : Value} (h : Ag w G H (.c (.fn f caps)) v) : ∃ arr, v = .func f #[] arr ∧ caps.length = arr.toList.length ∧ ∀ (i : Nat) (x : C) (u : Value), caps[i]? = some x → arr.toList[i]? = some u → Ap w G H x u := by
 cases h with
 | c _ _ h => cases h with
  | fn _ _ arr hs h => exact ⟨arr, rfl, by simpa using hs.symm, fun i x u hx hu => h i x u hx (by simpa using hu)⟩
theorem CallsIn.at_round {n : Nat} {P : Program} {f : FuncId} {args : Array Value} {w : World} {R : Ending → World → Prop} (r : Option Nat) (h : CallsIn (Wd none) n P f args w R) : CallsIn (Wd r) n P f args w R := h
theorem TR {P : Program} {ro : Option Nat} {o : Oper} {H : List AB} {E : Operand → V} {x : Operand} {as : Array Operand} {ts : Array TypeId} {g : FuncId} {caps : List C} {post : V → List AB → Prop}
  (ho : o.op = .call { callee := .value x, args := as, argTypes := ts }) (hx : E x = .c (.fn (.func g) caps)) (h : Ad P g (as.toList.map E ++ caps.map .c) H post) : AL P ro o H E post := by
 intro w G a next Q R hE hn
 have hfx := hE x (by simp [ho, Op.operands, Call.operands])
 rw [hx] at hfx
 obtain ⟨arr, e1, e2, e3⟩ := Rk hfx
 obtain ⟨m1, m2⟩ := D0 (a := a) (fun y hy => hE y (by simp [ho, Op.operands, Call.operands]; exact .inr hy))
 refine ⟨fun _ _ => trivial, ?_⟩
 rw [Oper.semAt_eq _ _ _ (by simp [ho])]
 have hrun : (execOp a.eval o).run P w = .ok (.enter g (as.map a.eval ++ arr)) w := by
  simp [execOp, ho, resolve, e1, Deferred.ofValue, invoke, h.1]
 rw [hrun, Oper.uponIn_enter]
 refine ⟨fun e => by simp [Fence.wide] at e, ?_⟩
 have hc := h.2 w G (as.map a.eval ++ arr) R (by simp at m1 e2 ⊢; omega) (fun i y v hy hv => by
  rw [Array.toList_append] at hv
  by_cases hi : i < (as.toList.map E).length
  ·rw [List.getElem?_append_left hi] at hy
   rw [List.getElem?_append_left (by rw [← m1]; exact hi)] at hv
   exact m2 i y v hy hv
  ·rw [List.getElem?_append_right (Nat.le_of_not_lt hi)] at hy
   rw [List.getElem?_append_right (by rw [← m1]; exact Nat.le_of_not_lt hi), ← m1] at hv
   rw [List.getElem?_map] at hy
   cases hq : caps[i - (as.toList.map E).length]? with
   | none => rw [hq] at hy; cases hy
   | some q =>
    rw [hq] at hy
    cases hy
    exact .c _ _ (e3 _ q v hq hv))
 have hc' := CallsIn.at_round ro hc
 refine hc'.mono ?_
 rintro e w' ⟨v, y, H', G', rfl, hp, R', hv, L⟩
 exact hn v y H' G' w' hp hv R' L
theorem aFk {w : World} {G : Gh} {H : List AB} {f : Fn} {x : C} {v : Value} (h : Ag w G H (.c (.mv f x)) v) : ∃ u, v = .func f #[u] #[] ∧ Ap w G H x u := by
 cases h with
 | c _ _ h => cases h with
  | mv _ _ u h => exact ⟨u, rfl, h⟩
theorem Rl {P : Program} {ro : Option Nat} {o : Oper} {H : List AB} {E : Operand → V} {x : Operand} {as : Array Operand} {ts : Array TypeId} {g : FuncId} {c : C} {post : V → List AB → Prop}
  (ho : o.op = .call { callee := .value x, args := as, argTypes := ts }) (hx : E x = .c (.mv (.func g) c)) (h : Ad P g (.c c :: as.toList.map E) H post) : AL P ro o H E post := by
 intro w G a next Q R hE hn
 have hfx := hE x (by simp [ho, Op.operands, Call.operands])
 rw [hx] at hfx
 obtain ⟨u, e1, e3⟩ := aFk hfx
 obtain ⟨m1, m2⟩ := D0 (a := a) (fun y hy => hE y (by simp [ho, Op.operands, Call.operands]; exact .inr hy))
 refine ⟨fun _ _ => trivial, ?_⟩
 rw [Oper.semAt_eq _ _ _ (by simp [ho])]
 have hrun : (execOp a.eval o).run P w = .ok (.enter g (#[u] ++ as.map a.eval)) w := by
  simp [execOp, ho, resolve, e1, Deferred.ofValue, invoke, h.1]
 rw [hrun, Oper.uponIn_enter]
 refine ⟨fun e => by simp [Fence.wide] at e, ?_⟩
 have hc := h.2 w G (#[u] ++ as.map a.eval) R (by simp) (fun i y v hy hv => by
  rw [Array.toList_append] at hv
  cases i with
  | zero => simp at hy hv; subst hy; subst hv; exact .c _ _ e3
  | succ i => exact m2 i y v (by simpa using hy) (by simpa using hv))
 have hc' := CallsIn.at_round ro hc
 refine hc'.mono ?_
 rintro e w' ⟨v, y, H', G', rfl, hp, R', hv, L⟩
 exact hn v y H' G' w' hp hv R' L
theorem aFl {w : World} {G : Gh} {H : List AB} {f : Fn} {cs : List C} {v : Value} (h : Ag w G H (.c (.ma f cs)) v) : ∃ arr, v = .func f #[.agg arr] #[] ∧ An w G H cs arr.toList := by
 cases h with
 | c _ _ h => cases h with
  | ma _ _ arr hs ho h => exact ⟨arr, rfl, by simpa using hs.symm, fun i x v hx hv => ⟨h i x v hx (by simpa using hv), ho i v (by simpa using hv)⟩⟩
theorem Rm {P : Program} {ro : Option Nat} {o : Oper} {H : List AB} {E : Operand → V} {x : Operand} {as : Array Operand} {ts : Array TypeId} {g : FuncId} {c : List C} {post : V → List AB → Prop}
  (ho : o.op = .call { callee := .value x, args := as, argTypes := ts }) (hx : E x = .c (.ma (.func g) c)) (h : Ad P g (.agg c :: as.toList.map E) H post) : AL P ro o H E post := by
 intro w G a next Q R hE hn
 have hfx := hE x (by simp [ho, Op.operands, Call.operands])
 rw [hx] at hfx
 obtain ⟨u, e1, e3⟩ := aFl hfx
 obtain ⟨m1, m2⟩ := D0 (a := a) (fun y hy => hE y (by simp [ho, Op.operands, Call.operands]; exact .inr hy))
 refine ⟨fun _ _ => trivial, ?_⟩
 rw [Oper.semAt_eq _ _ _ (by simp [ho])]
 have hrun : (execOp a.eval o).run P w = .ok (.enter g (#[.agg u] ++ as.map a.eval)) w := by
  simp [execOp, ho, resolve, e1, Deferred.ofValue, invoke, h.1]
 rw [hrun, Oper.uponIn_enter]
 refine ⟨fun e => by simp [Fence.wide] at e, ?_⟩
 have hc := h.2 w G (#[.agg u] ++ as.map a.eval) R (by simp) (fun i y v hy hv => by
  rw [Array.toList_append] at hv
  cases i with
  | zero => simp at hy hv; subst hy; subst hv; exact .agg _ _ e3
  | succ i => exact m2 i y v (by simpa using hy) (by simpa using hv))
 have hc' := CallsIn.at_round ro hc
 refine hc'.mono ?_
 rintro e w' ⟨v, y, H', G', rfl, hp, R', hv, L⟩
 exact hn v y H' G' w' hp hv R' L
def Km (X : Tx) (s : St) : ResultVar → Option V
 | .tmp t => some (s.get t)
 | .cell a t => match X.tt t, s.get a with
  | some i, .c (.ptr id off) => match s.heap[id]? with
   | some (.cells cs) => if off + i.size ≤ cs.length then some (mkV i cs off) else none
   | _ => none
  | _, _ => none
def DF (X : Tx) (s : St) : List ResultVar → Option (List V)
 | [] => some []
 | r :: rs => match Km X s r, DF X s rs with
  | some x, some xs => some (x :: xs)
  | _, _ => none
def NS : List V → V
 | [x] => x
 | xs => .tup xs
def NT : List Nat → List AB → Option (List AB)
 | [], H => some H
 | id :: r, H => match H[id]? with
  | some .df => NT r (H.set id .gone)
  | _ => none
def aFm (X : Tx) (fn : Func) (post : V → List AB → Prop) : Exit → St → Prop
 | .normal, s | .ret, s => ∃ H xs, NT s.marks s.heap = some H ∧ DF X { s with heap := H } fn.results.toList = some xs ∧ post (NS xs) H
 | _, _ => False
def FK : Nat → List V → List (Nat × V)
 | _, [] => []
 | n, x :: r => (n, x) :: FK (n + 1) r
theorem My : ∀ (l : List V) (n j : Nat), Aw (FK n l) j = if n ≤ j then (l[j - n]?).getD (.c .any) else .c .any
 | [], n, j => by simp [FK, Aw]
 | x :: r, n, j => by
  simp only [FK, Aw, My r]
  by_cases h : n = j
  ·subst h; simp
  ·rw [if_neg h]
   by_cases h2 : n + 1 ≤ j
   ·rw [if_pos h2, if_pos (by omega)]
    have : j - n = (j - (n + 1)) + 1 := by omega
    rw [this]; simp
   ·rw [if_neg h2, if_neg (by omega)]
section
variable {X : Tx} {w : World} {G : Gh}
theorem aD6 {P : Program} {tt : Nat → Option TI} (T : By P tt) {H : List AB} {t : Nat} {i : TI} (ht : tt t = some i) {off : Nat} {cs : List C} {vs : List Value} (hr : An w G H cs vs) (hoff : off + i.size ≤ cs.length) :
  Ag w G H (mkV i cs off) (if BS i.desc then .agg ((vs.drop off).take i.size).toArray else vs[off]?.getD undef) := by
 unfold mkV
 cases ha : BS i.desc with
 | true => simp only [if_true]; exact .agg _ _ (by simpa using (hr.drop off).take i.size)
 | false =>
  have h1 := T.one t i ht ha
  have hlt : off < cs.length := by omega
  obtain ⟨v, hv, hx, _⟩ := hr.get (i := off) (x := cs[off]) (by simp [hlt])
  simp only [Bool.false_eq_true, if_false, hv, List.getElem?_eq_getElem hlt, Option.getD_some]
  exact .c _ _ hx
def Kn (tm : Array Value) : ResultVar → Sem Value
 | .tmp t => pure (tm.getD t undef)
 | .cell a t => do loadVar t (← asAddr (tm.getD a undef))
theorem Rn {s : St} {tm : Array Value} {r : ResultVar} {x : V} (R : Rel w G s.heap) (hs : ∀ i, Ag w G s.heap (s.get i) (tm.getD i undef)) (h : Km X s r = some x) :
  ∃ v, (Kn tm r).run X.P w = .ok v w ∧ Ag w G s.heap x v := by
 cases r with
 | tmp t => simp [Km] at h; subst h; exact ⟨_, rfl, hs t⟩
 | cell a t =>
  simp only [Km] at h
  split at h
  ·rename_i i id off hi hp
   split at h
   ·rename_i cs hid
    split at h
    ·rename_i hle
     cases h
     have ha := hs a
     rw [hp] at ha
     obtain ⟨e1, _⟩ := F6 ha
     obtain ⟨arr, t', hb, hr⟩ := CQ R hid
     have hrun := IK (P := X.P) X.ok hi (b := G.rho id) (off := off) (vs := arr.toList) (w := w) (by rw [← hr.1]; exact hle) (fun j _ => Cr hb _)
     refine ⟨if BS i.desc then .agg ((arr.toList.drop off).take i.size).toArray else arr.toList[off]?.getD undef, ?_, aD6 X.ok hi hr hle⟩
     simp only [Kn, e1, asAddr, Sem.run_bind, Sem.run_pure, Result.andThen_ok]
     exact hrun
    ·cases h
   ·cases h
  ·cases h
theorem IR {s : St} {tm : Array Value} (R : Rel w G s.heap) (hs : ∀ i, Ag w G s.heap (s.get i) (tm.getD i undef)) : ∀ {rs : List ResultVar} {xs : List V}, DF X s rs = some xs →
  ∃ vs : List Value, (rs.mapM (Kn tm)).run X.P w = .ok vs w ∧ xs.length = vs.length ∧ ∀ (i : Nat) (x : V) (v : Value), xs[i]? = some x → vs[i]? = some v → Ag w G s.heap x v
 | [], xs, h => by simp [DF] at h; subst h; exact ⟨[], by simp, rfl, fun i x v h => by simp at h⟩
 | r :: rs, xs, h => by
  simp only [DF] at h
  split at h
  ·rename_i x xs' hx hxs
   cases h
   obtain ⟨v, h1, h2⟩ := Rn R hs hx
   obtain ⟨vs, h3, h4, h5⟩ := IR R hs hxs
   refine ⟨v :: vs, ?_, by simp [h4], fun i y u hy hu => ?_⟩
   ·simp only [List.mapM_cons, Sem.run_bind]
    rw [h1]
    simp only [Result.andThen_ok, h3, Sem.run_pure]
   ·cases i with
    | zero => simp at hy hu; subst hy; subst hu; exact h2
    | succ i => exact h5 i y u (by simpa using hy) (by simpa using hu)
  ·cases h
theorem O7 {s : St} {tm : Array Value} {fn : Func} {xs : List V} (R : Rel w G s.heap) (hs : ∀ i, Ag w G s.heap (s.get i) (tm.getD i undef)) (h : DF X s fn.results.toList = some xs) :
  ∃ v, (results fn tm).run X.P w = .ok v w ∧ Ag w G s.heap (NS xs) v := by
 obtain ⟨vs, h1, h2, h3⟩ := IR R hs h
 have hm : (fn.results.mapM (Kn tm)).run X.P w = .ok vs.toArray w := by
  rw [Array.mapM_eq_mapM_toList, Sem.run_map, h1, Result.andThen_ok]
 refine ⟨if h : vs.toArray.size = 1 then vs.toArray[0] else .tuple vs.toArray, ?_, ?_⟩
 ·have he : results fn tm = (do
    let vs ← fn.results.mapM (Kn tm)
    pure (if h : vs.size = 1 then vs[0] else .tuple vs)) := by
   unfold results
   congr 1
  rw [he, Sem.run_bind, hm]
  simp
 ·cases vs with
  | nil =>
   have : xs = [] := by simpa using h2
   subst this
   simpa [NS] using Ag.tup (w := w) (G := G) (H := s.heap) [] #[] rfl (fun i x v h => by simp at h)
  | cons v vs =>
   cases xs with
   | nil => simp at h2
   | cons x xs =>
    cases vs with
    | nil =>
     have : xs = [] := by simpa using h2
     subst this
     simpa [NS] using h3 0 x v rfl rfl
    | cons v' vs =>
     cases xs with
     | nil => simp at h2
     | cons x' xs => simpa [NS] using Ag.tup (w := w) (G := G) (H := s.heap) (x :: x' :: xs) (v :: v' :: vs).toArray (by simpa using h2.symm) (fun i x v hx hv => h3 i x v hx (by simpa using hv))
theorem EN {fn : Func} {tm : Array Value} {R : Ending → World → Prop} {G : Gh} {ds : List Deferred} : ∀ (ms : List Nat) (H H' : List AB) (w : World), Rel w G H → NT ms H = some H' →
  (∀ w', Rel w' G H' → Am w G H w' G H' → LeavesInM (Wd none) 0 X.P fn tm R ds .returning w') → LeavesInM (Wd none) 0 X.P fn tm R (ms.map (CX G) ++ ds) .returning w
 | [], H, H', w, hR, h, k => by simp [NT] at h; subst h; exact k w hR (Am.refl _ _ _)
 | id :: ms, H, H', w, hR, h, k => by
  simp only [NT] at h
  split at h
  ·rename_i hid
   cases hR.ab id _ hid with
   | df hb hrole =>
    have hnc : ∀ j, w.cell? ⟨G.rho id, j, none⟩ = none := fun j => by simp [World.cell?, hb]
    have L : Am w G H (w.putObj (G.rho id) (.deferred none)) G (H.set id .gone) :=
     Am.put_own hrole (fun j hj => by obtain ⟨v, hv⟩ := hR.sex _ j hj; rw [hnc] at hv; cases hv) (fun n sz e => by cases e) (fun n sz cs e => by cases e)
    have R' := hR.put_own hrole L (fun _ => .gone)
    refine ⟨by simp, .inl ⟨G.rho id, _, rfl, run_takeDeferred hb, ?_⟩⟩
    exact EN ms _ H' _ R' h (fun w' r l => k w' r (L.trans l))
  ·cases h
theorem Ko {fn : Func} {tm : Array Value} {R : Ending → World → Prop} {G : Gh} {H : List AB} : ∀ (hs : List Nat) (w : World), hs.Nodup → Rel w G H → (∀ b, b ∈ hs → G.role b = some H.length ∧ w.heap[b]? = some (.deferred (some []))) →
  (∀ w', Rel w' G H → Am w G H w' G H → LeavesInM (Wd none) 0 X.P fn tm R [] .returning w') → LeavesInM (Wd none) 0 X.P fn tm R (hs.map aEZ) .returning w
 | [], w, _, hR, _, k => k w hR (Am.refl _ _ _)
 | b :: hs, w, hn, hR, h, k => by
  obtain ⟨hrole, hb⟩ := h b (by simp)
  have hnc : ∀ j, w.cell? ⟨b, j, none⟩ = none := fun j => by simp [World.cell?, hb]
  have hset : H.set H.length AB.gone = H := List.set_eq_of_length_le (Nat.le_refl _)
  have L : Am w G H (w.putObj b (.deferred none)) G (H.set H.length .gone) :=
   Am.put_own hrole (fun j hj => by obtain ⟨v, hv⟩ := hR.sex _ j hj; rw [hnc] at hv; cases hv) (fun n sz e => by cases e) (fun n sz cs e => by cases e)
  have R' := hR.put_own hrole L (fun _ => .gone)
  rw [hset] at L R'
  rw [List.nodup_cons] at hn
  refine ⟨by simp, .inl ⟨b, _, rfl, run_takeDeferred hb, ?_⟩⟩
  refine Ko hs _ hn.2 R' (fun c hc => ?_) (fun w' r l => k w' r (L.trans l))
  obtain ⟨h1, h2⟩ := h c (by simp [hc])
  refine ⟨h1, ?_⟩
  have hne : c ≠ b := fun e => hn.1 (by rw [← e]; exact hc)
  rw [Do hne]; exact h2
theorem Rel.adopt_free {w : World} {G : Gh} {H : List AB} {hs : List Nat} (R : Rel w G H) (h : ∀ b, b ∈ hs → b < w.heap.size ∧ G.role b = none) : Rel w { G with role := fun b => if b ∈ hs then some H.length else G.role b } H where
 sex := R.sex
 roleLt := fun b id hb => by
  by_cases e : b ∈ hs
  ·exact (h b e).1
  ·simp only [e, if_false] at hb; exact R.roleLt b id hb
 ab := fun id x hx => by
  have hrole : ∀ b, G.role b = some id → (if b ∈ hs then some H.length else G.role b) = some id := fun b hb => by
   by_cases e : b ∈ hs
   ·rw [(h b e).2] at hb; cases hb
   ·simp only [e, if_false]; exact hb
  have cr : ∀ (x : C) (v : Value), Ap w G H x v → Ap w { G with role := fun b => if b ∈ hs then some H.length else G.role b } H x v := fun x v h => by
   induction h with
   | any v => exact .any v
   | d x v h => exact .d x v h
   | ptr id off h => exact .ptr id off h
   | nilp => exact .nilp
   | dp ds b o f hcell hrel => exact .dp ds b o f hcell hrel
   | full rows a n hn h => exact .full rows a n hn h
   | own id rows a n cap hid hn h hg => exact .own id rows a n cap hid hn h hg
   | ms id off n cap h => exact .ms id off n cap h
   | fn f caps arr hs _ ih => exact .fn f caps arr hs ih
   | ma f cs arr hs ho _ ih => exact .ma f cs arr hs ho ih
   | mv f x v _ ih => exact .mv f x v ih
   | mp id h => exact .mp id h
   | yd id h => exact .yd id h
   | gp g => exact .gp g
   | vs id n a cap hid ha hg => exact .vs id n a cap hid ha hg
   | vc id n a hid ha hg => exact .vc id n a hid ha hg
   | fs n sz cs b o vs hl hn hcell _ ih => exact .fs n sz cs b o vs hl hn hcell ih
   | vp id n off a hid hg => exact .vp id n off a hid hg
  have vr : ∀ (x : V) (v : Value), Ag w G H x v → Ag w { G with role := fun b => if b ∈ hs then some H.length else G.role b } H x v := fun x v h => by
   induction h with
   | c x v h => exact .c x v (cr x v h)
   | agg cs arr h => exact .agg cs arr ⟨h.1, fun i x v hx hv => ⟨cr x v (h.2 i x v hx hv).1, (h.2 i x v hx hv).2⟩⟩
   | tup vs arr hs _ ih => exact .tup vs arr hs ih
  cases R.ab id x hx with
  | gone => exact .gone
  | cells cs arr t hb hr hro hS => exact .cells cs arr t hb ⟨hr.1, fun i x v hx hv => ⟨cr x v (hr.2 i x v hx hv).1, (hr.2 i x v hx hv).2⟩⟩ (hrole _ hro) hS
  | grow n sz a cap hg hcap h hnil => exact .grow n sz a cap hg hcap (fun x hx hn => by obtain ⟨b, o, h1, h2, h3⟩ := h x hx hn; exact ⟨b, o, h1, hrole b h2, h3⟩) hnil
  | vec n sz cs a cap hg hcap hl h => exact .vec n sz cs a cap hg hcap hl (fun hz => by obtain ⟨b, arr, t, h1, h2, h3, h4, h5, h6⟩ := h hz; exact ⟨b, arr, t, h1, hrole b h2, h3, h4, ⟨h5.1, fun i x v hx hv => ⟨cr x v (h5.2 i x v hx hv).1, (h5.2 i x v hx hv).2⟩⟩, h6⟩)
  | mp es rs clock hb hr hro => exact .mp es rs clock hb ⟨hr.1, fun i e r he hr' => ⟨vr _ _ (hr.2 i e r he hr').1, vr _ _ (hr.2 i e r he hr').2⟩⟩ (hrole _ hro)
  | mpg es rs clock hb hok hro => exact .mpg es rs clock hb (hok.mono (fun _ _ h => h) (fun b h => ⟨hrole b h, rfl, fun _ h => h⟩)) (hrole _ hro)
  | mpb es clock rs hb hr hbn hro => exact .mpb es clock rs hb ⟨hr.1, fun i e r he hr' => ⟨vr _ _ (hr.2 i e r he hr').1, vr _ _ (hr.2 i e r he hr').2⟩⟩ hbn (hrole _ hro)
  | lp r fn tmps hb hsz hD hs hro => exact .lp r fn tmps hb hsz hD (fun i => vr _ _ (hs i)) (hrole _ hro)
  | df hb hro => exact .df hb (hrole _ hro)
  | gl g ds f hc hr => exact .gl g ds f hc hr
theorem Ag.role_free {w : World} {G : Gh} {H : List AB} {f : Nat → Option Nat} {x : V} {v : Value} (h : Ag w G H x v) : Ag w { G with role := f } H x v := by
 have cr : ∀ (x : C) (v : Value), Ap w G H x v → Ap w { G with role := f } H x v := fun x v h => by
  induction h with
  | any v => exact .any v
  | d x v h => exact .d x v h
  | ptr id off h => exact .ptr id off h
  | nilp => exact .nilp
  | dp ds b o f hcell hrel => exact .dp ds b o f hcell hrel
  | full rows a n hn h => exact .full rows a n hn h
  | own id rows a n cap hid hn h hg => exact .own id rows a n cap hid hn h hg
  | ms id off n cap h => exact .ms id off n cap h
  | fn f caps arr hs _ ih => exact .fn f caps arr hs ih
  | ma f cs arr hs ho _ ih => exact .ma f cs arr hs ho ih
  | mv f x v _ ih => exact .mv f x v ih
  | mp id h => exact .mp id h
  | yd id h => exact .yd id h
  | gp g => exact .gp g
  | vs id n a cap hid ha hg => exact .vs id n a cap hid ha hg
  | vc id n a hid ha hg => exact .vc id n a hid ha hg
  | fs n sz cs b o vs hl hn hcell _ ih => exact .fs n sz cs b o vs hl hn hcell ih
  | vp id n off a hid hg => exact .vp id n off a hid hg
 induction h with
 | c x v h => exact .c x v (cr x v h)
 | agg cs arr h => exact .agg cs arr ⟨h.1, fun i x v hx hv => ⟨cr x v (h.2 i x v hx hv).1, (h.2 i x v hx hv).2⟩⟩
 | tup vs arr hs _ ih => exact .tup vs arr hs ih
def C7 (fn : Func) : Bool := !(fn.name == "runtime.NumGoroutine")
theorem E8 {f : FuncId} {fn : Func} {c : Code} {args : List V} {H : List AB} {post : V → List AB → Prop} (hf : X.P.funcs[f]? = some fn) (hb : fn.body = some c) (hn0 : C7 fn = true)
  {nt : Nat} (hnt : args.length + (fn.ntmps - args.length) = nt)
  (h : AWP { P := X.P, tt := X.tt, r := none, nb := H.length, nt := nt } c (aFm X fn post) { slots := FK 0 args, heap := H, marks := [] }) : Ad X.P f args H post := by
 have hn : (fn.name == "runtime.NumGoroutine") = false := by simpa [C7] using hn0
 refine ⟨fun as w => ?_, fun w G vs R hl hr => ?_⟩
 ·simp only [callFunc, Sem.run_bind, run_program, Result.andThen_ok, hf, hn, Bool.false_eq_true, if_false, hb, Option.isNone_some]
  rfl
 ·have hl' : args.length = vs.size := by simpa using hl
  refine callsIn_of_wp_marks hf hb trivial ?_
  have hst : AP ⟨w, G, H⟩ H.length nt w G { slots := FK 0 args, heap := H, marks := [] } { tmps := vs ++ Array.replicate (fn.ntmps - vs.size) undef, defers := [] } :=
   {rel := R
    later := Am.refl _ _ _
    base := rfl
    size := by simp; omega
    slots := fun i => by
     simp only [St.get, My, Nat.zero_le, if_true, Nat.sub_zero]
     cases hx : args[i]? with
     | none => exact .c _ _ (.any _)
     | some x =>
      have hi : i < vs.size := by rw [← hl']; exact (List.getElem?_eq_some_iff.1 hx).1
      have e : (vs ++ Array.replicate (fn.ntmps - vs.size) undef).getD i undef = vs[i] := by
       rw [Array.getD_eq_getD_getElem?, Array.getElem?_append_left hi]; simp [hi]
      rw [e]
      exact hr i x _ hx (by simp [hi])
    defers := ⟨[], Hid.nil _ _ _, rfl⟩
    marks := fun id h => by simp at h }
  refine wpIn_mono (h _ w G _ hst) ?_
  rintro e a' w' ⟨s', G', hq, hR⟩
  have fin : (∃ H1 xs, NT s'.marks s'.heap = some H1 ∧ DF X { s' with heap := H1 } fn.results.toList = some xs ∧ post (NS xs) H1) → LeavesInM (Wd none) 0 X.P fn a'.tmps (fun e w' => ∃ v x H' G', e = .returned v ∧ post x H' ∧ Rel w' G' H' ∧ Ag w' G' H' x v ∧ Am w G H w' G' H') a'.defers .returning w' := by
   rintro ⟨H1, xs, h1, h2, h3⟩
   obtain ⟨hs, hh, hde⟩ := hR.defers
   rw [hde]
   refine EN s'.marks s'.heap H1 w' hR.rel h1 (fun w2 R2 L2 => ?_)
   have hh2 := hh.mono L2
   have R2' := R2.adopt_free (hs := hs) (fun b hb => ⟨(hh2.at' b hb).2.1, (hh2.at' b hb).2.2.1⟩)
   refine Ko hs w2 hh2.nd R2' (fun b hb => ⟨by simp [hb], (hh2.at' b hb).2.2.2⟩) (fun w3 R3 L3 => ?_)
   have L03 : Am w G H w2 { G' with role := fun b => if b ∈ hs then some H1.length else G'.role b } H1 := by
    have L := hR.later.trans L2
    exact { size := L.size, S := L.S, Snew := L.Snew, len := L.len, rho := L.rho, grow := L.grow, vec := L.vec, frame := L.frame, os := L.os, out := L.out
            role := fun b hb => by
              by_cases e : b ∈ hs
              · exact absurd hb (Nat.not_lt.2 (hh2.at' b e).1)
              · simp only [e, if_false]; exact L.role b hb }
   obtain ⟨v, hv1, hv2⟩ := O7 (X := X) (s := { s' with heap := H1 }) (tm := a'.tmps) (fn := fn) R3 (fun i => (((hR.slots i).mono L2).role_free).mono L3) h2
   exact ⟨v, hv1, v, _, H1, _, rfl, h3, R3, hv2, L03.trans L3⟩
  cases e with
  | normal => exact fin hq
  | ret => exact fin hq
  | _ => exact hq.elim
end
end Go.Abs
