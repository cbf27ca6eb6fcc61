/- The step function is right. -/
import Derived.Test.YtklmpopomokglaaAbs14
set_option linter.unusedSimpArgs false
set_option linter.unusedVariables false
namespace Go.Abs
open Go

section
variable {X : Tx} {ro : Option Nat} {H H' : List AB} {E : Operand → V} {z : V} {w : World} {G : Gh}

theorem rel_vIte {t : Bool} {a b : V} {v u : Value} (ha : VRel w G H a v) (hb : VRel w G H b u) : VRel w G H (vIte t a b) (if t then v else u) := by
  unfold vIte
  split
  · obtain rfl := bool_rel ha
    obtain rfl := bool_rel hb
    cases t <;> exact .c _ _ (.d _ _ (.bool _))
  · cases t
    · exact hb
    · exact ha

theorem ps_rel {ps : Array (Nat × Operand)} {a : Act} (h : ∀ x ∈ (ps.toList.map (·.2)).toArray, VRel w G H (E x) (a.eval x)) :
    PsRel w G H (ps.toList.map fun p => (p.1, E p.2)) (ps.map fun (i, x) => (i, a.eval x)).toList := by
  refine ⟨by simp, fun i p r hp hr => ?_⟩
  rw [Array.toList_map] at hr
  rw [List.getElem?_map] at hp hr
  cases hq : ps.toList[i]? with
  | none => simp [hq] at hp
  | some q =>
    simp [hq] at hp hr
    subst hp; subst hr
    refine ⟨rfl, h _ ?_⟩
    simp only [List.mem_toArray, List.mem_map]
    exact ⟨q, List.mem_of_getElem? hq, rfl⟩

theorem cons_rel : ∀ {vs : List V} {cs : List C} {us : List Value}, consOf vs = some cs → vs.length = us.length → (∀ (i : Nat) (x : V) (v : Value), vs[i]? = some x → us[i]? = some v → VRel w G H x v) →
    cs.length = us.length ∧ ∀ (i : Nat) (x : C) (v : Value), cs[i]? = some x → us[i]? = some v → CRel w G H x v
  | [], cs, us, h, hl, _ => by simp [consOf] at h; subst h; exact ⟨hl, fun i x v h => by simp at h⟩
  | .c c :: r, cs, us, h, hl, hr => by
    simp only [consOf] at h
    cases hc : consOf r with
    | none => simp [hc] at h
    | some l =>
      simp [hc] at h; subst h
      cases us with
      | nil => simp at hl
      | cons u us =>
        obtain ⟨h1, h2⟩ := cons_rel (us := us) hc (by simpa using hl) (fun i x v hx hv => hr (i + 1) x v (by simpa using hx) (by simpa using hv))
        refine ⟨by simp [h1], fun i x v hx hv => ?_⟩
        cases i with
        | zero => simp at hx hv; subst hx; subst hv; have := hr 0 (.c c) u rfl rfl; cases this; assumption
        | succ i => exact h2 i x v (by simpa using hx) (by simpa using hv)
  | .agg _ :: r, cs, us, h, _, _ => by simp [consOf] at h
  | .tup _ :: r, cs, us, h, _, _ => by simp [consOf] at h

theorem map_rel {xs : Array Operand} {a : Act} (h : ∀ x ∈ xs, VRel w G H (E x) (a.eval x)) : (xs.toList.map E).length = (xs.map a.eval).toList.length ∧
    ∀ (i : Nat) (x : V) (v : Value), (xs.toList.map E)[i]? = some x → (xs.map a.eval).toList[i]? = some v → VRel w G H x v := by
  refine ⟨by simp, fun i x v hx hv => ?_⟩
  rw [Array.toList_map] at hv
  rw [List.getElem?_map] at hx hv
  cases hq : xs.toList[i]? with
  | none => simp [hq] at hx
  | some q =>
    simp [hq] at hx hv
    subst hx; subst hv
    exact h q (Array.mem_toList_iff.1 (List.mem_of_getElem? hq))

abbrev Sound (X : Tx) (ro : Option Nat) (op : Op) : Prop :=
  ∀ (H H' : List AB) (E : Operand → V) (z : V), op1 X H E op = some (true, z, H') → ∀ o : Oper, o.op = op → OpAt X.P ro o H E (one z H')

theorem sound_load (t : TypeId) (x : Operand) : Sound X ro (.load t x) := by
  intro H H' E z h o ho
  simp only [op1] at h
  refine OpAt.of_value (s := fun ρ => Instr.loadAt t (ρ x)) (by simp [ho]) (fun ρ => by simp [execOp, ho]) (fun w G a R hE => ?_)
  have hx := hE x (by simp [ho, Op.operands])
  split at h
  · rename_i i id off hi hp
    split at h
    · rename_i cs hid
      simp at h
      obtain ⟨h0, rfl, rfl⟩ := h
      rw [hp] at hx
      exact yields_load_ptr X.ok hi R hid h0 hx
    · cases h
  · rename_i i ds hi hp
    simp at h
    obtain ⟨h0, rfl, rfl⟩ := h
    rw [hp] at hx
    exact yields_load_dp X.ok hi R h0 hx
  · cases h

theorem sound_store (t : TypeId) (y x : Operand) : Sound X ro (.store t y x) := by
  intro H H' E z h o ho
  simp only [op1] at h
  split at h
  · rename_i i id off hi hp
    split at h
    · rename_i cs hid
      simp at h
      obtain ⟨⟨⟨h0, h1⟩, h2⟩, rfl, rfl⟩ := h
      refine OpAt.of_unit (s := fun ρ => Instr.storeAt t (ρ y) (ρ x)) (by simp [ho]) (fun ρ => by simp [execOp, ho]) (fun w G a R hE => ?_)
      have hx := hE x (by simp [ho, Op.operands])
      have hy := hE y (by simp [ho, Op.operands])
      rw [hp] at hy
      obtain ⟨w', G', e1, e2, e3⟩ := does_store X.ok hi R hid hy hx h0 h1 h2
      exact ⟨w', G', e1, e2, e3⟩
    · cases h
  · cases h

theorem sound_binOp (op : BinOp) (t t' : TypeId) (x y : Operand) : Sound X ro (.binOp op t x y t') := by
  intro H H' E z h o ho
  simp only [op1] at h
  split at h
  · rename_i c z' hb
    simp at h
    obtain ⟨rfl, rfl, rfl⟩ := h
    refine OpAt.of_value (s := fun ρ => do eqGuard op t x y (ρ x) (ρ y); binOp op t (ρ x) (ρ y)) (by simp [ho]) (fun ρ => by simp [execOp, ho]) (fun w G a R hE => ?_)
    exact yields_binOp R (hE x (by simp [ho, Op.operands])) (hE y (by simp [ho, Op.operands])) hb
  · cases h

theorem sound_fieldAddr (t : TypeId) (x : Operand) (f : Nat) : Sound X ro (.fieldAddr t x f) := by
  intro H H' E z h o ho
  simp only [op1] at h
  split at h
  · rename_i i hi
    split at h
    · rename_i fs hd
      split at h
      · rename_i fd hf
        refine OpAt.of_value (s := fun ρ => Instr.fieldAt t (ρ x) f) (by simp [ho]) (fun ρ => by simp [execOp, ho]) (fun w G a R hE => ?_)
        have hx := hE x (by simp [ho, Op.operands])
        split at h
        · rename_i j id off hj hp
          simp at h
          obtain ⟨h0, rfl, rfl⟩ := h
          rw [hp] at hx
          exact yields_fieldAt X.ok hi hd hf hj h0 R hx
        · rename_i j ds hj hp
          simp at h
          obtain ⟨h0, rfl, rfl⟩ := h
          rw [hp] at hx
          exact yields_fieldAt_dp X.ok hi hd hf hj h0 R hx
        · cases h
      · cases h
    · cases h
  · cases h

theorem sound_field (t : TypeId) (x : Operand) (f : Nat) : Sound X ro (.field t x f) := by
  intro H H' E z h o ho
  simp only [op1] at h
  split at h
  · rename_i i hi
    split at h
    · rename_i fs hd
      split at h
      · rename_i fd hf
        refine OpAt.of_value (s := fun ρ => Instr.field t (ρ x) f) (by simp [ho]) (fun ρ => by simp [execOp, ho]) (fun w G a R hE => ?_)
        have hx := hE x (by simp [ho, Op.operands])
        split at h
        · rename_i j cs hj hp
          simp at h
          obtain ⟨h0, rfl, rfl⟩ := h
          rw [hp] at hx
          exact yields_field X.ok hi hd hf hj R hx h0
        · cases h
      · cases h
    · cases h
  · cases h

theorem sound_indexAddr (t : TypeId) (x y : Operand) : Sound X ro (.indexAddr t x y) := by
  intro H H' E z h o ho
  simp only [op1] at h
  split at h
  · rename_i i k n hi hn
    refine OpAt.of_value (s := fun ρ => Instr.indexAt t (ρ x) (ρ y)) (by simp [ho]) (fun ρ => by simp [execOp, ho]) (fun w G a R hE => ?_)
    have hx := hE x (by simp [ho, Op.operands])
    have hy := hE y (by simp [ho, Op.operands])
    rw [hn] at hy
    split at h
    · rename_i len e hd
      split at h
      · rename_i j id off hj hp
        simp at h
        obtain ⟨⟨h0, h1⟩, rfl, rfl⟩ := h
        rw [hp] at hx
        exact yields_indexAt_arr X.ok hi hd hj h0 h1 R hx hy
      · rename_i j ds hj hp
        simp at h
        obtain ⟨⟨h0, h1⟩, rfl, rfl⟩ := h
        rw [hp] at hx
        exact yields_indexAt_dp X.ok hi hd hj h0 h1 R hx hy
      · cases h
    · rename_i e hd
      split at h
      · rename_i j id off len cap hj hp
        simp at h
        obtain ⟨⟨h0, h1⟩, rfl, rfl⟩ := h
        rw [hp] at hx
        exact yields_indexAt_ms X.ok hi hd hj h0 h1 R hx hy
      · rename_i j c _ hj hp
        split at h
        · rename_i rows hr
          simp at h
          obtain ⟨⟨⟨h0, h1⟩, h2⟩, rfl, rfl⟩ := h
          rw [hp] at hx
          have hlt : n.toNat < rows.length := by omega
          rw [List.getElem?_eq_getElem hlt, Option.getD_some] at h2 ⊢
          exact yields_indexAt_sl X.ok hi hd hj h0 hr (by simp [hlt]) h2 R hx hy
        · cases h
      · cases h
    · cases h
  · cases h

theorem sound_index (t : TypeId) (x y : Operand) : Sound X ro (.index t x y) := by
  intro H H' E z h o ho
  simp only [op1] at h
  split at h
  · rename_i i k n hi hn
    refine OpAt.of_value (s := fun ρ => Instr.index t (ρ x) (ρ y)) (by simp [ho]) (fun ρ => by simp [execOp, ho]) (fun w G a R hE => ?_)
    have hx := hE x (by simp [ho, Op.operands])
    have hy := hE y (by simp [ho, Op.operands])
    rw [hn] at hy
    split at h
    · rename_i len e hd
      split at h
      · rename_i j cs hj hp
        simp at h
        obtain ⟨⟨⟨h0, h1⟩, h2⟩, rfl, rfl⟩ := h
        rw [hp] at hx
        exact yields_index X.ok hi hd hj h0 h1 R hx hy h2
      · cases h
    · cases h
  · cases h

theorem sound_makeSlice (t : TypeId) (x y : Operand) : Sound X ro (.makeSlice t x y) := by
  intro H H' E z h o ho
  simp only [op1] at h
  split at h
  · rename_i i k n k' m hi hn hm
    split at h
    · rename_i e hd
      split at h
      · rename_i j hj
        simp at h
        obtain ⟨⟨⟨⟨h0, h1⟩, h2⟩, h3⟩, rfl, rfl⟩ := h
        refine OpAt.of_value (s := fun ρ => Instr.makeSlice t (ρ x) (ρ y)) (by simp [ho]) (fun ρ => by simp [execOp, ho]) (fun w G a R hE => ?_)
        have hx := hE x (by simp [ho, Op.operands])
        have hy := hE y (by simp [ho, Op.operands])
        rw [hn] at hx
        rw [hm] at hy
        exact yields_makeSlice X.ok hi hd hj h0 h1 h2 h3 R hx hy
      · cases h
    · cases h
  · cases h

theorem sound_build (t : TypeId) (ps : Array (Nat × Operand)) : Sound X ro (.build t ps) := by
  intro H H' E z h o ho
  simp only [op1] at h
  split at h
  · rename_i i hi
    refine OpAt.of_value (s := fun ρ => Instr.build t (ps.map fun (i, x) => (i, ρ x))) (by simp [ho]) (fun ρ => by simp [execOp, ho]) (fun w G a R hE => ?_)
    have hp := ps_rel (E := E) (a := a) (ps := ps) (fun x hx => hE x (by simpa [ho, Op.operands] using hx))
    split at h
    · rename_i fs hd
      split at h
      · rename_i cs hc
        simp at h
        obtain ⟨h0, rfl, rfl⟩ := h
        exact yields_build_struct X.ok hi hd (by simpa using h0) R hp hc
      · cases h
    · rename_i n e hd
      split at h
      · rename_i j hj
        split at h
        · rename_i cs hc
          simp at h
          obtain ⟨rfl, rfl⟩ := h
          exact yields_build_array X.ok hi hd hj R hp hc
        · cases h
      · cases h
    · cases h
  · cases h

theorem sound_buildSlice (t : TypeId) (n : Nat) (ps : Array (Nat × Operand)) : Sound X ro (.buildSlice t n ps) := by
  intro H H' E z h o ho
  simp only [op1] at h
  split at h
  · rename_i i hi
    split at h
    · rename_i e hd
      split at h
      · rename_i j hj
        split at h
        · rename_i cs hc
          split at h
          · rename_i ds hds
            simp at h
            obtain ⟨⟨h0, hn⟩, rfl, rfl⟩ := h
            refine OpAt.of_value (s := fun ρ => Instr.buildSlice t n (ps.map fun (i, x) => (i, ρ x))) (by simp [ho]) (fun ρ => by simp [execOp, ho]) (fun w G a R hE => ?_)
            have hp := ps_rel (E := E) (a := a) (ps := ps) (fun x hx => hE x (by simpa [ho, Op.operands] using hx))
            exact yields_buildSlice X.ok hi hd hj R hp hc hds h0 hn
          · cases h
        · cases h
      · cases h
    · cases h
  · cases h

theorem sound_move (x : Operand) : Sound X ro (.move x) := by
  intro H H' E z h o ho
  simp [op1] at h
  obtain ⟨rfl, rfl⟩ := h
  refine OpAt.of_value (s := fun ρ => pure (ρ x)) (by simp [ho]) (fun ρ => by simp [execOp, ho]) (fun w G a R hE => ?_)
  exact Yields.still R rfl (hE x (by simp [ho, Op.operands]))
theorem sound_assign (x : Operand) : Sound X ro (.assign x) := by
  intro H H' E z h o ho
  simp [op1] at h
  obtain ⟨rfl, rfl⟩ := h
  refine OpAt.of_value (s := fun ρ => pure (ρ x)) (by simp [ho]) (fun ρ => by simp [execOp, ho]) (fun w G a R hE => ?_)
  exact Yields.still R rfl (hE x (by simp [ho, Op.operands]))

theorem sound_pick (c x y : Operand) : Sound X ro (.pick c x y) := by
  intro H H' E z h o ho
  simp only [op1] at h
  split at h
  · rename_i t hc
    simp at h
    obtain ⟨rfl, rfl⟩ := h
    refine OpAt.of_value (s := fun ρ => do pure (if ← asBool (ρ c) then ρ x else ρ y)) (by simp [ho]) (fun ρ => by simp [execOp, ho]) (fun w G a R hE => ?_)
    have h1 := hE c (by simp [ho, Op.operands])
    rw [hc] at h1
    refine Yields.still R (v := if t then a.eval x else a.eval y) ?_ (rel_vIte (hE x (by simp [ho, Op.operands])) (hE y (by simp [ho, Op.operands])))
    rw [bool_rel h1]; rfl
  · cases h

theorem sound_alloc (t : TypeId) : Sound X ro (.alloc t) := by
  intro H H' E z h o ho
  simp only [op1] at h
  split at h
  · rename_i i hi
    simp at h
    obtain ⟨rfl, rfl⟩ := h
    exact OpAt.of_value (s := fun _ => Instr.alloc t true (.tuple #[])) (by simp [ho]) (fun ρ => by simp [execOp, ho]) (fun w G a R hE => yields_alloc X.ok hi R)
  · cases h

theorem sound_box (t : TypeId) (x : Operand) : Sound X ro (.box t x) := by
  intro H H' E z h o ho
  simp [op1] at h
  obtain ⟨h0, rfl, rfl⟩ := h
  exact OpAt.of_value (s := fun ρ => Instr.box t (ρ x)) (by simp [ho]) (fun ρ => by simp [execOp, ho]) (fun w G a R hE => yields_box R (hE x (by simp [ho, Op.operands])) h0)

theorem sound_nilCheck (x : Operand) : Sound X ro (.nilCheck x) := by
  intro H H' E z h o ho
  have key : ∀ (ok : Value → Prop), (∀ ρ : Operand → Value, ok (ρ x) → ∀ w : World, (execOp ρ o).run X.P w = .ok (.value (ρ x)) w) → (∀ w G v, VRel w G H (E x) v → ok v) → H' = H → z = E x → OpAt X.P ro o H E (one z H') := by
    rintro ok h1 h2 rfl rfl
    intro w G a next Q R hE hn
    have hx := hE x (by simp [ho, Op.operands])
    refine ⟨fun _ _ => trivial, ?_⟩
    rw [Oper.semAt_eq _ _ _ (by simp [ho]), h1 _ (h2 w G _ hx) w]
    exact hn _ _ _ G w ⟨rfl, rfl⟩ hx R (Later.refl _ _ _)
  simp only [op1] at h
  split at h
  · rename_i id off hp
    simp at h
    refine key (fun v => ∃ a, v = .pointer (some a)) (fun ρ hv w => by obtain ⟨a, e⟩ := hv; simp [execOp, ho, e]) (fun w G v hv => ?_) h.2.symm (by rw [hp]; exact h.1.symm)
    rw [hp] at hv
    exact ⟨_, (ptr_rel hv).1⟩
  · rename_i ds hp
    simp at h
    refine key (fun v => ∃ a, v = .pointer (some a)) (fun ρ hv w => by obtain ⟨a, e⟩ := hv; simp [execOp, ho, e]) (fun w G v hv => ?_) h.2.symm (by rw [hp]; exact h.1.symm)
    rw [hp] at hv
    obtain ⟨b, o', f, e, _⟩ := dp_rel hv
    exact ⟨_, e⟩
  · rename_i f cs hp
    simp at h
    refine key (fun v => ∃ f a c, v = .func (.func f) a c) (fun ρ hv w => by obtain ⟨f, a, c, e⟩ := hv; simp [execOp, ho, e]) (fun w G v hv => ?_) h.2.symm (by rw [hp]; exact h.1.symm)
    rw [hp] at hv
    cases hv with | c _ _ hv => cases hv; exact ⟨_, _, _, rfl⟩
  · cases h

theorem sound_unOp (u : UnOp) (t : TypeId) (x : Operand) : Sound X ro (.unOp u t x) := by
  intro H H' E z h o ho
  simp only [op1] at h
  refine OpAt.of_value (s := fun ρ => Op.unary u (ρ x)) (by simp [ho]) (fun ρ => by simp [execOp, ho]) (fun w G a R hE => ?_)
  have hx := hE x (by simp [ho, Op.operands])
  split at h
  · rename_i b hp
    simp at h
    obtain ⟨rfl, rfl⟩ := h
    rw [hp] at hx
    rw [bool_rel hx]
    exact Yields.still R (v := .bool (!b)) rfl (.c _ _ (.d _ _ (.bool _)))
  · rename_i k n hp
    simp at h
    obtain ⟨rfl, rfl⟩ := h
    rw [hp] at hx
    rw [int_rel hx]
    exact Yields.still R (v := .int k (wr k (-n))) (by rw [wr_eq, ← Int.zero_sub]; rfl) (.c _ _ (.d _ _ (.int _ _)))
  · cases h

theorem sound_convert (s t : TypeId) (x : Operand) : Sound X ro (.convert s t x) := by
  intro H H' E z h o ho
  simp only [op1] at h
  split at h
  · rename_i i j k0 n hi hj hp
    split at h
    · rename_i k hd
      simp at h
      obtain ⟨rfl, rfl⟩ := h
      refine OpAt.of_value (s := fun ρ => convert s t (ρ x)) (by simp [ho]) (fun ρ => by simp [execOp, ho]) (fun w G a R hE => ?_)
      have hx := hE x (by simp [ho, Op.operands])
      rw [hp] at hx
      rw [int_rel hx]
      refine Yields.still R (v := .int k (wr k n)) ?_ (.c _ _ (.d _ _ (.int _ _)))
      rw [wr_eq]
      obtain ⟨d0, q1, _⟩ := X.ok.desc s i hi
      have q2 : (underlying s).run X.P w = .ok d0 w := by simp [underlying, q1]
      simp [convert, q2, X.ok.run_at hj hd rfl, Conv.intToInt]
    · cases h
  · cases h

theorem sound_makeFunc (f : Fn) (first caps : Array Operand) : Sound X ro (.makeFunc f first caps) := by
  intro H H' E z h o ho
  simp only [op1] at h
  split at h
  · rename_i hf
    split at h
    · rename_i cs hc
      simp at h
      obtain ⟨rfl, rfl⟩ := h
      have hf' : first = #[] := by simpa using hf
      subst hf'
      refine OpAt.of_value (s := fun ρ => Instr.makeFunc f ((#[] : Array Operand).map ρ) (caps.map ρ)) (by simp [ho]) (fun ρ => by simp [execOp, ho]) (fun w G a R hE => ?_)
      obtain ⟨e1, e2⟩ := map_rel (E := E) (a := a) (xs := caps) (fun x hx => hE x (by simp [ho, Op.operands]; exact hx))
      obtain ⟨e3, e4⟩ := cons_rel hc e1 e2
      refine Yields.still R (v := .func f #[] (caps.map a.eval)) (by simp [Instr.makeFunc]) (.c _ _ (.fn _ _ _ (by simpa using e3.symm) (fun i x v hx hv => e4 i x v hx (by simpa using hv))))
    · cases h
  · cases h

theorem sound_makeMap (t : TypeId) (r : Option Operand) : Sound X ro (.makeMap t r) := by
  intro H H' E z h o ho
  cases r with
  | some r => simp [op1] at h
  | none =>
    simp [op1] at h
    obtain ⟨rfl, rfl⟩ := h
    refine OpAt.of_value (s := fun _ => Instr.makeMap t none) (by simp [ho]) (fun ρ => by simp [execOp, ho]) (fun w G a R hE => ?_)
    refine ⟨.map (some w.heap.size), w.alloc (.map #[] 0), G.own H.length w.heap.size, by simp [Instr.makeMap], ?_, R.alloc_map 0, Later.alloc_own R _ _⟩
    have := CRel.mp (w := w.alloc (.map #[] 0)) (G := G.own H.length w.heap.size) (H := H ++ [.mp []]) H.length (by simp)
    simp only [Gh.own, upd_same] at this
    exact .c _ _ this

theorem sound_extract (x : Operand) (n : Nat) : Sound X ro (.extract x n) := by
  intro H H' E z h o ho
  simp only [op1] at h
  split at h
  · rename_i vs hp
    split at h
    · rename_i v hv
      simp at h
      obtain ⟨rfl, rfl⟩ := h
      refine OpAt.of_value (s := fun ρ => Instr.extract (ρ x) n) (by simp [ho]) (fun ρ => by simp [execOp, ho]) (fun w G a R hE => ?_)
      have hx := hE x (by simp [ho, Op.operands])
      rw [hp] at hx
      exact yields_extract R hx hv
    · cases h
  · cases h

theorem bound_some {lo : Option Operand} {n m : Int} {a : Act} (h : bound E lo n = some m) (hE : ∀ x, lo = some x → VRel w G H (E x) (a.eval x)) :
    match lo.map a.eval with | some v => ∃ k, v = .int k m | none => m = n := by
  cases lo with
  | none => simp [bound] at h; simp [h]
  | some x =>
    have hx := hE x rfl
    simp only [bound] at h
    split at h
    · rename_i k m' hp
      cases h
      rw [hp] at hx
      exact ⟨k, int_rel hx⟩
    · cases h

theorem sound_slice (t : TypeId) (x : Operand) (lo hi mx : Option Operand) : Sound X ro (.slice t x lo hi mx) := by
  intro H H' E z h o ho
  simp only [op1] at h
  split at h
  · rename_i i hti
    refine OpAt.of_value (s := fun ρ => Instr.sliceAt t (ρ x) (lo.map ρ) (hi.map ρ) (mx.map ρ)) (by simp [ho]) (fun ρ => by simp [execOp, ho]) (fun w G a R hE => ?_)
    have hx := hE x (by simp [ho, Op.operands])
    have hlo : ∀ y, lo = some y → VRel w G H (E y) (a.eval y) := fun y hy => hE y (by simp [ho, Op.operands, hy])
    have hhi : ∀ y, hi = some y → VRel w G H (E y) (a.eval y) := fun y hy => hE y (by simp [ho, Op.operands, hy])
    have hmx : ∀ y, mx = some y → VRel w G H (E y) (a.eval y) := fun y hy => hE y (by simp [ho, Op.operands, hy])
    split at h
    · rename_i n e hd
      split at h
      · rename_i j id off hj hp
        simp at h
        obtain ⟨rfl, rfl⟩ := h
        rw [hp] at hx
        exact yields_slice_arr X.ok hti hd hj R hx
      · rename_i lo hi mx _ _ _ _ _ j id off hj _ hp
        split at h
        · rename_i l hh m hl hb hmm
          have bl := bound_some hl hlo
          have bh := bound_some hb hhi
          have bm := bound_some hmm hmx
          simp at h
          obtain ⟨⟨⟨⟨⟨h0, h1⟩, h2⟩, h3⟩, h4⟩, rfl, rfl⟩ := h
          rw [hp] at hx
          exact yields_slice_arr2 X.ok hti hd hj R hx (l := l.toNat) (h := hh.toNat) (m := m.toNat)
            (by cases mx <;> simp at bm ⊢ <;> first | (obtain ⟨k, e⟩ := bm; exact ⟨⟨k, by rw [e]; congr 1; omega⟩, by omega⟩) | omega)
            (by cases hi <;> cases mx <;> simp at bh bm h4 ⊢ <;> first | (obtain ⟨k, e⟩ := bh; exact ⟨⟨k, by rw [e]; congr 1; omega⟩, by omega⟩) | omega)
            (by cases lo <;> simp at bl ⊢ <;> first | (obtain ⟨k, e⟩ := bl; exact ⟨⟨k, by rw [e]; congr 1; omega⟩, by omega⟩) | omega)
        · cases h
      · cases h
    · rename_i e hd
      split at h
      · rename_i j id off len cap hj hp
        split at h
        · rename_i l hh m hl hb hmm
          have bl := bound_some hl hlo
          have bh := bound_some hb hhi
          have bm := bound_some hmm hmx
          simp at h
          obtain ⟨⟨⟨⟨⟨h0, h1⟩, h2⟩, h3⟩, h4⟩, rfl, rfl⟩ := h
          rw [hp] at hx
          cases hx with
          | c _ _ hx =>
          exact yields_slice_ms X.ok hti hd hj R hx (l := l.toNat) (h := hh.toNat) (m := m.toNat)
            (by cases mx <;> simp at bm ⊢ <;> first | (obtain ⟨k, e⟩ := bm; exact ⟨⟨k, by rw [e]; congr 1; omega⟩, by omega⟩) | omega)
            (by cases hi <;> cases mx <;> simp at bh bm h4 ⊢ <;> first | (obtain ⟨k, e⟩ := bh; exact ⟨⟨k, by rw [e]; congr 1; omega⟩, by omega⟩) | omega)
            (by cases lo <;> simp at bl ⊢ <;> first | (obtain ⟨k, e⟩ := bl; exact ⟨⟨k, by rw [e]; congr 1; omega⟩, by omega⟩) | omega)
        · cases h
      · rename_i j c _ hj hp
        rw [hp] at hx
        split at h
        · rename_i rows hr
          split at h
          · rename_i l hh hl hb
            have bl := bound_some hl hlo
            have bh := bound_some hb hhi
            split at h
            · simp at h
              obtain ⟨⟨⟨⟨h0, h1⟩, h2⟩, h3⟩, rfl, rfl⟩ := h
              have := yields_slice (P := X.P) X.ok hti hd hj hr (fun r hm => by simpa using h3 r hm) (l := l.toNat) (h := hh.toNat) (by omega) (by omega) (lo := lo.map a.eval) (hi := hi.map a.eval) (mx := none) R hx
                (by cases lo <;> simp at bl ⊢ <;> first | (obtain ⟨k, e⟩ := bl; exact ⟨k, by rw [e]; congr 1; omega⟩) | omega)
                (by cases hi <;> simp at bh ⊢ <;> first | (obtain ⟨k, e⟩ := bh; exact ⟨k, by rw [e]; congr 1; omega⟩) | omega) trivial
              simpa using this
            · rename_i b
              split at h
              · rename_i k m hm
                simp at h
                obtain ⟨⟨⟨⟨⟨⟨h0, h1⟩, h2⟩, h4⟩, h5⟩, h3⟩, rfl, rfl⟩ := h
                have hb' := hmx b rfl
                rw [hm] at hb'
                have hb' := int_rel hb'
                have := yields_slice (P := X.P) X.ok hti hd hj hr (fun r hm => by simpa using h3 r hm) (l := l.toNat) (h := hh.toNat) (by omega) (by omega) (lo := lo.map a.eval) (hi := hi.map a.eval) (mx := some (a.eval b)) R hx
                  (by cases lo <;> simp at bl ⊢ <;> first | (obtain ⟨k, e⟩ := bl; exact ⟨k, by rw [e]; congr 1; omega⟩) | omega)
                  (by cases hi <;> simp at bh ⊢ <;> first | (obtain ⟨k, e⟩ := bh; exact ⟨k, by rw [e]; congr 1; omega⟩) | omega) ⟨⟨k, by rw [hb']; congr 1; omega⟩, by simpa using h5⟩
                simpa using this
              · cases h
          · cases h
        · cases h
      · cases h
    · cases h
  · cases h

theorem opAt_builtin {b : Builtin} {as : Array Operand} {ts : Array TypeId} {o : Oper} {f : Array TypeId → TypeId → Array Value → Sem Value} (ho : o.op = .call { callee := .builtin b, args := as, argTypes := ts })
    (hb : ∀ (ty : TypeId) (c : Array Bool) (vs : Array Value), builtin b ts ty c vs = (do pure (.value (← f ts ty vs))))
    (h : ∀ w G (a : Act), Rel w G H → (∀ x ∈ as, VRel w G H (E x) (a.eval x)) → Yields X.P (f ts o.type (as.map a.eval)) w G H z H') : OpAt X.P ro o H E (one z H') := by
  refine OpAt.of_value (s := fun ρ => f ts o.type (as.map ρ)) (by simp [ho]) (fun ρ => ?_) (fun w G a R hE => h w G a R (fun x hx => hE x (by simp [ho, Op.operands, Call.operands]; exact hx)))
  simp only [execOp, ho, resolve, invoke]
  exact hb _ _ _

theorem two_rel {as : Array Operand} {p q : V} {a : Act} (h : as.toList.map E = [p, q]) (hE : ∀ x ∈ as, VRel w G H (E x) (a.eval x)) : ∃ v u, as.map a.eval = #[v, u] ∧ VRel w G H p v ∧ VRel w G H q u := by
  obtain ⟨l⟩ := as
  match l, h, hE with
  | [x, y], h, hE =>
    simp at h
    obtain ⟨rfl, rfl⟩ := h
    exact ⟨a.eval x, a.eval y, by simp, hE x (by simp), hE y (by simp)⟩
theorem one_rel {as : Array Operand} {p : V} {a : Act} (h : as.toList.map E = [p]) (hE : ∀ x ∈ as, VRel w G H (E x) (a.eval x)) : ∃ v, as.map a.eval = #[v] ∧ VRel w G H p v := by
  obtain ⟨l⟩ := as
  match l, h, hE with
  | [x], h, hE =>
    simp at h
    obtain rfl := h
    exact ⟨a.eval x, by simp, hE x (by simp)⟩

theorem sound_builtin (b : Builtin) (as : Array Operand) (ts : Array TypeId) : Sound X ro (.call { callee := .builtin b, args := as, argTypes := ts }) := by
  intro H H' E z h o ho
  simp only [op1] at h
  split at h
  · -- len
    rename_i t x ht hx
    have ht' : ts = #[t] := by obtain ⟨l⟩ := ts; simp at ht; rw [ht]
    refine opAt_builtin (f := Builtin.len_) ho (fun _ _ _ => rfl) (fun w G a R hE => ?_)
    obtain ⟨v, e1, e2⟩ := one_rel (a := a) hx hE
    rw [e1, ht']
    split at h
    · rename_i i hi
      split at h
      · rename_i e c hd
        split at h
        · rename_i n hn
          simp at h
          obtain ⟨rfl, rfl⟩ := h
          cases e2 with | c _ _ e2 => exact yields_len hi hd R hn e2
        · cases h
      · rename_i n e hd
        simp at h
        obtain ⟨rfl, rfl⟩ := h
        exact yields_len_arr hi hd R
      · rename_i k e id hd
        split at h
        · rename_i es hid
          simp at h
          obtain ⟨rfl, rfl⟩ := h
          cases e2 with | c _ _ e2 => exact yields_len_map hi hd R hid e2
        · cases h
      · cases h
    · cases h
  · -- min
    rename_i vs _
    split at h
    · rename_i k m l hl
      simp at h
      obtain ⟨rfl, rfl⟩ := h
      refine opAt_builtin (f := Builtin.min_) ho (fun _ _ _ => rfl) (fun w G a R hE => ?_)
      obtain ⟨e1, e2⟩ := map_rel (a := a) hE
      exact yields_min R hl e1 e2
    · cases h
  · -- max
    rename_i vs _
    split at h
    · rename_i k m l hl
      simp at h
      obtain ⟨rfl, rfl⟩ := h
      refine opAt_builtin (f := Builtin.max_) ho (fun _ _ _ => rfl) (fun w G a R hE => ?_)
      obtain ⟨e1, e2⟩ := map_rel (a := a) hE
      exact yields_max R hl e1 e2
    · cases h
  · -- append
    rename_i t t2 s y ht hx
    have ht' : ts = #[t, t2] := by obtain ⟨l⟩ := ts; simp at ht; rw [ht]
    refine opAt_builtin (f := Builtin.append_) ho (fun _ _ _ => rfl) (fun w G a R hE => ?_)
    obtain ⟨v, u, e1, e2, e3⟩ := two_rel (a := a) hx hE
    rw [e1, ht']
    split at h
    · rename_i i i2 hi hi2
      split at h
      · rename_i e e' hd hd2
        split at h
        · rename_i j hj
          split at h
          · rename_i new hnew
            cases e2 with
            | c _ _ e2 =>
            cases e3 with
            | c _ _ e3 =>
              split at h
              · rename_i id rows
                split at h
                · rename_i n sz hid
                  simp at h
                  obtain ⟨⟨⟨⟨⟨⟨⟨h0, h1⟩, h2⟩, h3⟩, h4⟩, h5⟩, h6⟩, rfl, rfl⟩ := h
                  subst h0; subst h1
                  obtain ⟨ax, capx, us, rfl, q1, q2⟩ := src_of (P := X.P) h2 R hnew h4 e3
                  exact yields_append_own' X.ok hi hd hi2 ⟨e', hd2⟩ hj h2 R hid e2 q1 q2 h3 h4 h5 h6
                · cases h
              · rename_i rows
                simp at h
                obtain ⟨⟨⟨⟨⟨h2, h3⟩, h4⟩, h5⟩, h6⟩, rfl, rfl⟩ := h
                obtain ⟨G1, R1, L1, c1⟩ := adopt R e2 j.size
                obtain ⟨ax, capx, us, rfl, q1, q2⟩ := src_of (P := X.P) h2 R hnew h4 e3
                obtain ⟨v', w', G', p1, p2, p3, p4⟩ := yields_append_own' (ty := o.type) X.ok hi hd hi2 ⟨e', hd2⟩ hj h2 R1 (by simp) c1 q1 (q2.mono L1) h3 h4 h5 h6
                rw [List.set_append_right _ _ (Nat.le_refl _)] at p2 p3 p4
                simp only [Nat.sub_self, List.set_cons_zero] at p2 p3 p4
                exact ⟨v', w', G', p1, p2, p3, L1.trans p4⟩
              · cases h
          · cases h
        · cases h
      · cases h
    · cases h
  · -- copy
    rename_i t t2 id off len cap y ht hx
    have ht' : ts = #[t, t2] := by obtain ⟨l⟩ := ts; simp at ht; rw [ht]
    refine opAt_builtin (f := Builtin.copy_) ho (fun _ _ _ => rfl) (fun w G a R hE => ?_)
    obtain ⟨v, u, e1, e2, e3⟩ := two_rel (a := a) hx hE
    rw [e1, ht']
    split at h
    · rename_i i cs m hi hid hm
      split at h
      · rename_i e hd
        split at h
        · rename_i j hj
          split at h
          · rename_i cs' hcs
            simp at h
            obtain ⟨⟨⟨h0, h1⟩, h2⟩, rfl, rfl⟩ := h
            cases e2 with
            | c _ _ e2 =>
              cases e3 with
              | c _ _ e3 => exact yields_copy (n := Nat.min m len) hi hd hj h0 R hid e2 hm rfl hcs e3 h1 h2
          · cases h
        · cases h
      · cases h
    · cases h
  · -- delete
    rename_i t t2 id k ht hx
    have ht' : ts = #[t, t2] := by obtain ⟨l⟩ := ts; simp at ht; rw [ht]
    refine opAt_builtin (f := Builtin.delete_) ho (fun _ _ _ => rfl) (fun w G a R hE => ?_)
    obtain ⟨v, u, e1, e2, e3⟩ := two_rel (a := a) hx hE
    rw [e1, ht']
    split at h
    · rename_i i es hi hid
      split at h
      · rename_i kt et hd
        split at h
        · rename_i o' hf
          simp at h
          obtain ⟨h0, rfl, rfl⟩ := h
          exact does_delete hi hd rfl R hid h0 hf e2 e3
        · cases h
      · cases h
    · cases h
  · -- clear
    rename_i t id off len cap ht hx
    have ht' : ts = #[t] := by obtain ⟨l⟩ := ts; simp at ht; rw [ht]
    refine opAt_builtin (f := Builtin.clear_) ho (fun _ _ _ => rfl) (fun w G a R hE => ?_)
    obtain ⟨v, e1, e2⟩ := one_rel (a := a) hx hE
    rw [e1, ht']
    split at h
    · rename_i i cs hi hid
      split at h
      · rename_i e hd
        split at h
        · rename_i j hj
          simp at h
          obtain ⟨⟨h0, h1⟩, rfl, rfl⟩ := h
          cases e2 with | c _ _ e2 => exact yields_clear hi hd hj R h0 hid e2 h1
        · cases h
      · cases h
    · cases h
  · cases h

theorem sound_lookup (t : TypeId) (m k : Operand) (ok : Bool) : Sound X ro (.lookup t m k ok) := by
  intro H H' E z h o ho
  simp only [op1] at h
  refine OpAt.of_value (s := fun ρ => Instr.lookup t (ρ m) (ρ k) ok) (by simp [ho]) (fun ρ => by simp [execOp, ho]) (fun w G a R hE => ?_)
  have hm := hE m (by simp [ho, Op.operands])
  have hk := hE k (by simp [ho, Op.operands])
  split at h
  · rename_i i id hi hp
    split at h
    · rename_i kt et es hd hid
      split at h
      · rename_i j p hj hf
        simp at h
        obtain ⟨h0, rfl, rfl⟩ := h
        rw [hp] at hm
        exact yields_lookup (ok := ok) hi hd hj R hid h0 hf hm hk
      · cases h
    · cases h
  · cases h

theorem sound_mapUpdate (t : TypeId) (m k x : Operand) : Sound X ro (.mapUpdate t m k x) := by
  intro H H' E z h o ho
  simp only [op1] at h
  split at h
  · rename_i i id hi hp
    split at h
    · rename_i kt et es hd hid
      split at h
      · rename_i p hf
        simp at h
        obtain ⟨h0, rfl, rfl⟩ := h
        refine OpAt.of_unit (s := fun ρ => Instr.mapUpdate t (ρ m) (ρ k) (ρ x)) (by simp [ho]) (fun ρ => by simp [execOp, ho]) (fun w G a R hE => ?_)
        have hm := hE m (by simp [ho, Op.operands])
        have hk := hE k (by simp [ho, Op.operands])
        have hx := hE x (by simp [ho, Op.operands])
        rw [hp] at hm
        exact does_mapUpdate hi hd R hid h0 hf hm hk hx
      · cases h
    · cases h
  · cases h

/-- The step function is right. -/
theorem op1_sound (o : Oper) {z : V} (h : op1 X H E o.op = some (true, z, H')) : OpAt X.P ro o H E (one z H') := by
  obtain ⟨dst, op, type, pos, after, guard⟩ := o
  cases op
  case move x => exact sound_move x H H' E z h _ rfl
  case assign x => exact sound_assign x H H' E z h _ rfl
  case pick c x y => exact sound_pick c x y H H' E z h _ rfl
  case alloc t => exact sound_alloc t H H' E z h _ rfl
  case box t x => exact sound_box t x H H' E z h _ rfl
  case build t ps => exact sound_build t ps H H' E z h _ rfl
  case buildSlice t n ps => exact sound_buildSlice t n ps H H' E z h _ rfl
  case load t x => exact sound_load t x H H' E z h _ rfl
  case store t y x => exact sound_store t y x H H' E z h _ rfl
  case nilCheck x => exact sound_nilCheck x H H' E z h _ rfl
  case binOp op t x y t' => exact sound_binOp op t t' x y H H' E z h _ rfl
  case unOp u t x => exact sound_unOp u t x H H' E z h _ rfl
  case convert s t x => exact sound_convert s t x H H' E z h _ rfl
  case makeFunc f a b => exact sound_makeFunc f a b H H' E z h _ rfl
  case makeMap t r => exact sound_makeMap t r H H' E z h _ rfl
  case makeSlice t x y => exact sound_makeSlice t x y H H' E z h _ rfl
  case slice t x a b c => exact sound_slice t x a b c H H' E z h _ rfl
  case fieldAddr t x f => exact sound_fieldAddr t x f H H' E z h _ rfl
  case field t x f => exact sound_field t x f H H' E z h _ rfl
  case indexAddr t x y => exact sound_indexAddr t x y H H' E z h _ rfl
  case index t x y => exact sound_index t x y H H' E z h _ rfl
  case extract x n => exact sound_extract x n H H' E z h _ rfl
  case lookup t m k ok => exact sound_lookup t m k ok H H' E z h _ rfl
  case mapUpdate t m k x => exact sound_mapUpdate t m k x H H' E z h _ rfl
  case call c =>
    obtain ⟨callee, args, ts⟩ := c
    cases callee with
    | builtin b => exact sound_builtin b args ts H H' E z h _ rfl
    | _ => simp [op1] at h
  all_goals simp [op1] at h
end
end Go.Abs
