/- Regions whose order is drawn, with stores that no edge orders. -/
import Derived.Test.YtklmpopomokglaaAbs21
set_option linter.unusedSimpArgs false
set_option linter.unusedVariables false
namespace Go.Abs
open Go

theorem setMany_get' {α : Type} : ∀ (vs l : List α) (off i : Nat), (setMany l off vs)[i]? = if off ≤ i ∧ i < off + vs.length ∧ i < l.length then vs[i - off]? else l[i]?
  | [], l, off, i => by simp [setMany]; omega
  | v :: vs, l, off, i => by
    rw [setMany, setMany_get' vs (l.set off v) (off + 1) i]
    simp only [List.length_set, List.length_cons]
    by_cases h1 : off + 1 ≤ i ∧ i < off + 1 + vs.length ∧ i < l.length
    · rw [if_pos h1, if_pos (by omega)]
      have : i - off = (i - (off + 1)) + 1 := by omega
      rw [this]; simp
    · rw [if_neg h1]
      by_cases h2 : off = i
      · subst h2
        by_cases h3 : off < l.length
        · rw [if_pos (by omega)]; simp [h3]
        · rw [if_neg (by omega)]; simp [h3]
      · rw [List.getElem?_set_ne h2, if_neg (by omega)]

inductive Foot where
  | none
  | win (id off n : Nat)
  | all

inductive Eff where
  | no
  | patch (id off : Nat) (cs : List C)
  | to (H : List AB)

def patchH (id off : Nat) (cs : List C) (H : List AB) : List AB := match H[id]? with
  | some (.cells ds) => H.set id (.cells (setMany ds off cs))
  | _ => H
def Eff.app : Eff → List AB → List AB
  | .no, H => H
  | .patch id off cs, H => patchH id off cs H
  | .to H', _ => H'

def sim : Foot → List AB → List AB → Prop
  | .none, _, _ => True
  | .win id off n, H, H' => H[id]? = H'[id]? ∨ ∃ cs cs', H[id]? = some (.cells cs) ∧ H'[id]? = some (.cells cs') ∧ cs.length = cs'.length ∧ ∀ j, off ≤ j → j < off + n → cs[j]? = cs'[j]?
  | .all, H, H' => H = H'

theorem sim_refl (w : Foot) (H : List AB) : sim w H H := by
  cases w with
  | none => trivial
  | win => exact .inl rfl
  | all => rfl
theorem sim_symm {w : Foot} {H H' : List AB} (h : sim w H H') : sim w H' H := by
  cases w with
  | none => trivial
  | win id off n =>
    rcases h with h | ⟨cs, cs', h1, h2, h3, h4⟩
    · exact .inl h.symm
    · exact .inr ⟨cs', cs, h2, h1, h3.symm, fun j a b => (h4 j a b).symm⟩
  | all => exact Eq.symm h

theorem patch_at (id off : Nat) (cs : List C) (H : List AB) (k : Nat) : (patchH id off cs H)[k]? = if k = id then (match H[id]? with | some (.cells ds) => some (.cells (setMany ds off cs)) | x => x) else H[k]? := by
  unfold patchH
  by_cases e : k = id
  · subst e
    simp only [if_true]
    cases hx : H[k]? with
    | none => simp [hx]
    | some x =>
      have hlt := (List.getElem?_eq_some_iff.1 hx).1
      cases x <;> first | (simp [hx, hlt]; done) | (simp only [hx])
  · simp only [if_neg e]
    split
    · rw [List.getElem?_set_ne (Ne.symm e)]
    · rfl

theorem sim_both {w : Foot} {e : Eff} {H H' : List AB} (h : sim w H H') : sim w (e.app H) (e.app H') := by
  cases e with
  | no => exact h
  | to => exact sim_refl _ _
  | patch id2 off2 cs2 =>
    cases w with
    | none => trivial
    | all => have h : H = H' := h; subst h; rfl
    | win id off n =>
      simp only [Eff.app, sim, patch_at]
      by_cases e : id = id2
      · subst e
        simp only [if_true]
        rcases h with h | ⟨cs, cs', h1, h2, h3, h4⟩
        · exact .inl (by rw [h])
        · refine .inr ⟨_, _, by rw [h1], by rw [h2], by simp [setMany_length, h3], fun j a b => ?_⟩
          rw [setMany_get', setMany_get', h3, h4 j a b]
      · simp only [if_neg e]; exact h

/-- Foot w is apart from the patch. -/
def apart : Foot → Foot → Prop
  | .none, _ => True
  | _, .none => True
  | .win id off n, .win id' off' n' => id ≠ id' ∨ off + n ≤ off' ∨ off' + n' ≤ off
  | _, _ => False

theorem sim_left {w : Foot} {id2 off2 : Nat} {cs2 : List C} {H H' : List AB} (ha : apart w (.win id2 off2 cs2.length)) (h : sim w H H') : sim w (patchH id2 off2 cs2 H) H' := by
  cases w with
  | none => trivial
  | all => simp [apart] at ha
  | win id off n =>
    simp only [sim, patch_at]
    by_cases e : id = id2
    · subst e
      have ha : off + n ≤ off2 ∨ off2 + cs2.length ≤ off := by simpa [apart] using ha
      simp only [if_true]
      rcases h with h | ⟨cs, cs', h1, h2, h3, h4⟩
      · rw [h]
        cases hx : H'[id]? with
        | none => exact .inl rfl
        | some x =>
          cases x with
          | cells ds =>
            refine .inr ⟨_, ds, rfl, rfl, by simp [setMany_length], fun j a b => ?_⟩
            rw [setMany_get', if_neg (by omega)]
          | _ => exact .inl rfl
      · rw [h1]
        refine .inr ⟨_, cs', rfl, h2, by simp [setMany_length, h3], fun j a b => ?_⟩
        rw [setMany_get', if_neg (by omega), h4 j a b]
    · simp only [if_neg e]; exact h

theorem patch_comm {id off id2 off2 : Nat} {cs cs2 : List C} (H : List AB) (ha : apart (.win id off cs.length) (.win id2 off2 cs2.length)) : patchH id off cs (patchH id2 off2 cs2 H) = patchH id2 off2 cs2 (patchH id off cs H) := by
  refine List.ext_getElem? fun k => ?_
  by_cases e : id = id2
  · subst e
    have ha : off + cs.length ≤ off2 ∨ off2 + cs2.length ≤ off := by simpa [apart] using ha
    by_cases ek : k = id
    · subst ek
      simp only [patch_at, if_true]
      cases hx : H[k]? with
      | none => rfl
      | some x =>
        cases x with
        | cells ds =>
          have he : setMany (setMany ds off2 cs2) off cs = setMany (setMany ds off cs) off2 cs2 := by
            refine List.ext_getElem? fun j => ?_
            simp only [setMany_get', setMany_length]
            by_cases h1 : off ≤ j ∧ j < off + cs.length ∧ j < ds.length
            · rw [if_pos h1, if_neg (by omega), if_pos h1]
            · rw [if_neg h1, if_neg h1]
          exact congrArg (fun q => some (AB.cells q)) he
        | _ => rfl
    · simp only [patch_at, if_neg ek]
  · by_cases ek : k = id
    · subst ek
      simp only [patch_at, if_true, if_neg e]
    · by_cases ek2 : k = id2
      · subst ek2
        simp only [patch_at, if_true, if_neg ek, if_neg (Ne.symm e)]
      · simp only [patch_at, if_neg ek, if_neg ek2]

/-! ### Kinds of operations -/
def winOp : Op → Bool
  | .load _ _ | .store _ _ _ => true
  | _ => false
def storeOp : Op → Bool
  | .store _ _ _ => true
  | _ => false
def quietOp : Op → Bool
  | .load _ _ | .lookup _ _ _ _ => false
  | .call { callee := .builtin .len, args := _, argTypes := _ } => false
  | op => !loudOp op

def maskL (p : Op → Bool) : List Oper → Nat
  | [] => 0
  | o :: os => 2 * maskL p os + (if p o.op then 1 else 0)
theorem maskL_bit {p : Op → Bool} : ∀ (os : List Oper) (k : Nat) (o : Oper), os[k]? = some o → (maskL p os).testBit k = p o.op
  | [], k, o, h => by simp at h
  | o' :: os, 0, o, h => by
    simp at h; subst h
    simp only [maskL, Nat.testBit_zero]
    cases p o'.op <;> simp <;> omega
  | o' :: os, k + 1, o, h => by
    have ih := maskL_bit (p := p) os k o (by simpa using h)
    rw [maskL, Nat.testBit_succ, ← ih]
    congr 1
    split <;> omega

def ordB (tab : List Nat) (i j : Nat) : Bool := (tab.getD i 0).testBit j || (tab.getD j 0).testBit i

/-- Who changes the heap, who looks at it: ordered, but for stores beside loads and stores. -/
def heapT (tab : List Nat) (loud quiet win store n : Nat) : Bool :=
  (List.range n).all fun j => !loud.testBit j || (List.range n).all fun i => j == i || quiet.testBit i || (store.testBit j && win.testBit i) || ordB tab i j
def conflB2 (ops : Array Oper) : Bool :=
  let tab := ancGo ops.toList 0 []
  conflT tab 0 ops && heapT tab (maskL loudOp ops.toList) (maskL quietOp ops.toList) (maskL winOp ops.toList) (maskL storeOp ops.toList) ops.size

def Wn := Nat × Nat × Nat × Nat
def apartB (a b : Wn) : Bool := a.2.1 != b.2.1 || decide (a.2.2.1 + a.2.2.2 ≤ b.2.2.1) || decide (b.2.2.1 + b.2.2.2 ≤ a.2.2.1)
def sparse (ops : Array Oper) (j : Nat) : Bool := match ops[j]? with | some o => !storeOp o.op | none => true
def pairs1 (ops : Array Oper) (acc : List Wn) : Bool := acc.all fun b => sparse ops b.1 || acc.all fun a => a.1 == b.1 || apartB a b
def pairs2 (tab : List Nat) (ops : Array Oper) (acc : List Wn) : Bool := acc.all fun b => sparse ops b.1 || acc.all fun a => a.1 == b.1 || apartB a b || ordB tab a.1 b.1
def pairsOk (ops : Array Oper) (acc : List Wn) : Bool := pairs1 ops acc || pairs2 (ancGo ops.toList 0 []) ops acc

theorem pairsOk_spec {ops : Array Oper} {acc : List Wn} (h : pairsOk ops acc = true) {a b : Wn} (ha : a ∈ acc) (hb : b ∈ acc) (hs : sparse ops b.1 = false) (hne : a.1 ≠ b.1) (ho : ordB (ancGo ops.toList 0 []) a.1 b.1 = false) : apartB a b = true := by
  have hne' : (a.1 == b.1) = false := by simpa using hne
  simp only [pairsOk, Bool.or_eq_true] at h
  rcases h with h | h
  · have h1 := List.all_eq_true.1 h b hb
    simp only [hs, Bool.false_or] at h1
    have h2 := List.all_eq_true.1 h1 a ha
    simpa [hne'] using h2
  · have h1 := List.all_eq_true.1 h b hb
    simp only [hs, Bool.false_or] at h1
    have h2 := List.all_eq_true.1 h1 a ha
    simpa [hne', ho] using h2

section
variable {ops : Array Oper} {base : St} {xs : Nat → V} {ef : Nat → Eff} {W : Nat → Foot}

def heapF (ef : Nat → Eff) (H0 : List AB) (L : Nat → Bool) : Nat → List AB
  | 0 => H0
  | n + 1 => if L n then (ef n).app (heapF ef H0 L n) else heapF ef H0 L n
theorem heapF_congr {H0 : List AB} {L L' : Nat → Bool} : ∀ (n : Nat), (∀ j, j < n → L j = L' j) → heapF ef H0 L n = heapF ef H0 L' n
  | 0, _ => rfl
  | n + 1, h => by simp only [heapF]; rw [heapF_congr n (fun j hj => h j (by omega)), h n (by omega)]
theorem heapF_post {H0 : List AB} {i : Nat} : ∀ (k : Nat), heapF ef H0 (fun j => decide (j < i)) (i + k) = heapF ef H0 (fun j => decide (j < i)) i
  | 0 => rfl
  | k + 1 => by
    show heapF ef H0 _ ((i + k) + 1) = _
    simp only [heapF]
    simp [heapF_post k, show ¬ i + k < i by omega]

structure Run2 (X : Cx) (tab : List Nat) (ops : Array Oper) (base : St) (xs : Nat → V) (ef : Nat → Eff) (W : Nat → Foot) : Prop where
  step : ∀ i o, ops[i]? = some o → ∃ t, guardOf ops (getS (slotsL ops base xs (fun _ => true) i)) o = some t ∧
    (if t then ∀ H, sim (W i) H (heapF ef base.heap (fun j => decide (j < i)) i) → OpAt X.P X.r o H (evS (getS (slotsL ops base xs (fun _ => true) i))) (one (xs i) ((ef i).app H)) else xs i = .tup [] ∧ ef i = .no)
  kq : ∀ i o, ops[i]? = some o → quietOp o.op = true → ef i = .no ∧ W i = .none
  kl : ∀ i o, ops[i]? = some o → loudOp o.op = false → ef i = .no
  ks : ∀ i o, ops[i]? = some o → storeOp o.op = true → ef i = .no ∨ ∃ id off cs, ef i = .patch id off cs ∧ W i = .win id off cs.length
  pairs : ∀ i o j oj, ops[i]? = some o → ops[j]? = some oj → j ≠ i → storeOp oj.op = true → winOp o.op = true → ordB tab i j = false → apart (W i) (W j)

structure Confl2 (tab : List Nat) (ops : Array Oper) : Prop where
  c : Confl tab 0 ops
  heap : ∀ (i : Nat) (o : Oper) (j : Nat) (oj : Oper), ops[i]? = some o → ops[j]? = some oj → j ≠ i → loudOp oj.op = true → quietOp o.op = true ∨ (storeOp oj.op = true ∧ winOp o.op = true) ∨ ordB tab i j = true

theorem conflB2_spec (h : conflB2 ops = true) : Confl2 (ancGo ops.toList 0 []) ops := by
  simp only [conflB2, Bool.and_eq_true] at h
  refine ⟨conflT_spec h.1, fun i o j oj ho hj hne hl => ?_⟩
  have hi := (Array.getElem?_eq_some_iff.1 ho).1
  have hjl := (Array.getElem?_eq_some_iff.1 hj).1
  have h1 := List.all_eq_true.1 h.2 j (List.mem_range.2 hjl)
  have ho' : ops.toList[i]? = some o := by simpa using ho
  have hj' : ops.toList[j]? = some oj := by simpa using hj
  rw [maskL_bit _ _ _ hj', hl] at h1
  simp only [Bool.not_true, Bool.false_or] at h1
  have h2 := List.all_eq_true.1 h1 i (List.mem_range.2 hi)
  rw [maskL_bit _ _ _ ho', maskL_bit _ _ _ hj', maskL_bit _ _ _ ho'] at h2
  have hne' : (j == i) = false := by simpa using hne
  simp only [hne', Bool.false_or, Bool.or_eq_true, Bool.and_eq_true] at h2
  rcases h2 with (h2 | h2) | h2
  · exact .inl h2
  · exact .inr (.inl h2)
  · exact .inr (.inr h2)

theorem ord_lt {tab : List Nat} {i j : Nat} : ordB tab i j = true ↔ (tab.getD i 0).testBit j = true ∨ (tab.getD j 0).testBit i = true := by simp [ordB]

/-- A listed one behind an unlisted, ready one: unordered. -/
theorem unord {tab : List Nat} {listed : Array Bool} (C : Confl tab 0 ops) (cl : Closed ops listed) {i : Nat} {o : Oper} (ho : ops[i]? = some o) (hun : listed.getD i false = false)
    (hall : ∀ e ∈ o.after, Region.binds .any e = true → listed.getD e.on false = true) {j : Nat} {oj : Oper} (hj : ops[j]? = some oj) (hd : gl listed j ≠ decide (j < i)) : ordB tab i j = false := by
  cases h : ordB tab i j with
  | false => rfl
  | true =>
    exfalso
    rcases ord_lt.1 h with h1 | h1
    · have h2 := anc_listed C cl i o ho hall j h1
      have h3 := C.lt i o j _ ho hj h1
      apply hd; simp [gl, h2, h3]
    · have h3 := C.lt j _ i o hj ho h1
      have h4 : gl listed j = false := by
        cases h : gl listed j with
        | false => rfl
        | true =>
          have := anc_listed C cl j _ hj (cl j _ hj h) i h1
          rw [hun] at this; cases this
      apply hd; rw [h4]; simp; omega

theorem heap_sim {X : Cx} {tab : List Nat} {listed : Array Bool} (C : Confl2 tab ops) (cl : Closed ops listed) (rn : Run2 X tab ops base xs ef W) {i : Nat} {o : Oper} (ho : ops[i]? = some o) (hun : listed.getD i false = false)
    (hall : ∀ e ∈ o.after, Region.binds .any e = true → listed.getD e.on false = true) : sim (W i) (heapF ef base.heap (gl listed) ops.size) (heapF ef base.heap (fun j => decide (j < i)) i) := by
  have hi : i < ops.size := (Array.getElem?_eq_some_iff.1 ho).1
  have key : ∀ n, n ≤ ops.size → sim (W i) (heapF ef base.heap (gl listed) n) (heapF ef base.heap (fun j => decide (j < i)) n) := by
    intro n
    induction n with
    | zero => intro _; exact sim_refl _ _
    | succ n ih =>
      intro hn
      have ih := ih (by omega)
      have hon : ops[n]? = some ops[n] := by simp [show n < ops.size by omega]
      simp only [heapF]
      by_cases hb : gl listed n = decide (n < i)
      · rw [hb]
        split
        · exact sim_both ih
        · exact ih
      · have hu := unord C.c cl ho hun hall hon hb
        have hne : n ≠ i := fun e => by subst e; apply hb; simp only [gl, hun]; simp
        cases hl : loudOp ops[n].op with
        | false =>
          rw [rn.kl n _ hon hl]
          simpa [Eff.app] using ih
        | true =>
          rcases C.heap i o n _ ho hon hne hl with h1 | ⟨h1, h2⟩ | h1
          · rw [(rn.kq i o ho h1).2]; trivial
          · rcases rn.ks n _ hon h1 with h3 | ⟨id, off, cs, h3, h4⟩
            · rw [h3]; simpa [Eff.app] using ih
            · have hap := rn.pairs i o n _ ho hon hne h1 h2 hu
              rw [h4] at hap
              rw [h3]
              simp only [Eff.app]
              cases hg : gl listed n with
              | true =>
                have : ¬ n < i := fun h => hb (by simp [hg, h])
                simp only [this, decide_false, if_true, Bool.false_eq_true, if_false]
                exact sim_left hap ih
              | false =>
                have : n < i := by
                  cases Nat.lt_or_ge n i with
                  | inl h => exact h
                  | inr h => exact absurd (by rw [hg]; simp; omega) hb
                simp only [this, decide_true, if_true, Bool.false_eq_true, if_false]
                exact sim_symm (sim_left hap (sim_symm ih))
          · rw [hu] at h1; cases h1
  have h1 := key ops.size (Nat.le_refl _)
  have h2 := heapF_post (ef := ef) (H0 := base.heap) (i := i) (ops.size - i)
  rw [Nat.add_sub_cancel' (by omega)] at h2
  rw [h2] at h1
  exact h1

theorem heap_next {X : Cx} {tab : List Nat} {listed : Array Bool} (C : Confl2 tab ops) (cl : Closed ops listed) (rn : Run2 X tab ops base xs ef W) (hsz : listed.size = ops.size) {i : Nat} {o : Oper} (ho : ops[i]? = some o) (hun : listed.getD i false = false)
    (hall : ∀ e ∈ o.after, Region.binds .any e = true → listed.getD e.on false = true) : heapF ef base.heap (gl (listed.setIfInBounds i true)) ops.size = (ef i).app (heapF ef base.heap (gl listed) ops.size) := by
  have hi : i < ops.size := (Array.getElem?_eq_some_iff.1 ho).1
  have hset := fun j => gl_set (listed := listed) (i := i) (j := j) (by omega)
  have key : ∀ n, n ≤ ops.size → heapF ef base.heap (gl (listed.setIfInBounds i true)) n = if i < n then (ef i).app (heapF ef base.heap (gl listed) n) else heapF ef base.heap (gl listed) n := by
    intro n
    induction n with
    | zero => intro _; rfl
    | succ n ih =>
      intro hn
      have ih := ih (by omega)
      simp only [heapF, hset]
      rw [ih]
      by_cases h1 : i = n
      · subst h1
        have hg : gl listed i = false := hun
        simp [hg]
      · simp only [h1, if_false]
        by_cases h2 : i < n
        · have h3 : i < n + 1 := by omega
          simp only [h2, h3, if_true]
          cases hg : gl listed n with
          | false => simp
          | true =>
            simp only [if_true]
            have hon : ops[n]? = some ops[n] := by simp [show n < ops.size by omega]
            have hu := unord C.c cl ho hun hall hon (by rw [hg]; simp; omega)
            cases hl : loudOp ops[n].op with
            | false => rw [rn.kl n _ hon hl]; rfl
            | true =>
              rcases C.heap i o n _ ho hon (by omega) hl with h4 | ⟨h4, h5⟩ | h4
              · rw [(rn.kq i o ho h4).1]; rfl
              · rcases rn.ks n _ hon h4 with h6 | ⟨id, off, cs, h6, h7⟩
                · rw [h6]; rfl
                · cases hli : loudOp o.op with
                  | false => rw [rn.kl i o ho hli]; rfl
                  | true =>
                    have hst : storeOp o.op = true := by
                      cases hop : o.op <;> rw [hop] at h5 hli <;> simp [winOp, loudOp] at h5 hli
                      rfl
                    rcases rn.ks i o ho hst with h8 | ⟨id2, off2, cs2, h8, h9⟩
                    · rw [h8]; rfl
                    · have hap := rn.pairs i o n _ ho hon (by omega) h4 h5 hu
                      rw [h7, h9] at hap
                      rw [h6, h8]
                      exact (patch_comm _ hap).symm
              · rw [hu] at h4; cases h4
        · have h3 : ¬ i < n + 1 := by omega
          simp only [h2, h3, if_false]
  have := key ops.size (Nat.le_refl _)
  rwa [if_pos hi] at this

def stF (ops : Array Oper) (base : St) (xs : Nat → V) (ef : Nat → Eff) (L : Nat → Bool) : St :=
  { slots := slotsL ops base xs L ops.size, heap := heapF ef base.heap L ops.size, marks := base.marks }

theorem any_sound2 {X : Cx} {tab : List Nat} (C : Confl2 tab ops) (rn : Run2 X tab ops base xs ef W) (hd : dstsB X.nt ops.toList = true) {Q : Exit → St → Prop}
    (hQ : Q .normal (stF ops base xs ef (fun _ => true))) : ∀ (fuel : Nat) (listed : Array Bool) (bs : Base) (w : World) (G : Gh) (a : Act), listed.size = ops.size → Closed ops listed →
      ((List.range ops.size).countP fun i => !gl listed i) ≤ fuel → RelSt bs X.nb X.nt w G (stF ops base xs ef (gl listed)) a →
      wpAnyIn (Wd X.r) 0 X.P .any ops (fun e a' w' => ∃ s' G', Q e s' ∧ RelSt bs X.nb X.nt w' G' s' a') fuel listed a w := by
  have ends : ∀ (listed : Array Bool) (bs : Base) (w : World) (G : Gh) (a : Act), listed.size = ops.size → Closed ops listed → Region.ready .any ops listed = [] → RelSt bs X.nb X.nt w G (stF ops base xs ef (gl listed)) a →
      ∃ s' G', Q .normal s' ∧ RelSt bs X.nb X.nt w G' s' a := by
    intro listed bs w G a hsz cl hr hR
    have all : ∀ i, i < ops.size → gl listed i = true := by
      intro i
      induction i using Nat.strongRecOn with
      | _ i ih =>
        intro hi
        cases hl : gl listed i with
        | true => rfl
        | false =>
          exfalso
          have hoi : ops[i]? = some ops[i] := by simp [hi]
          have hm : i ∈ Region.ready .any ops listed := mem_ready.2 ⟨getD_in (by omega) hl, _, hoi, fun e he hb => by
            exact ih e.on (C.c.back i _ hoi e he hb) (Nat.lt_trans (C.c.back i _ hoi e he hb) hi)⟩
          rw [hr] at hm; cases hm
    refine ⟨_, G, hQ, hR.same (fun i => ?_) ?_ rfl⟩
    · show getS (slotsL _ _ _ _ _) i = getS (slotsL _ _ _ _ _) i
      rw [slotsL_congr ops.size (fun j hj => (all j hj).symm)]
    · exact (heapF_congr ops.size (fun j hj => (all j hj).symm))
  intro fuel
  induction fuel with
  | zero =>
    intro listed bs w G a hsz cl hc hR
    have hz := List.countP_eq_zero.1 (Nat.le_zero.1 hc)
    have hr : Region.ready .any ops listed = [] := by
      cases hrr : Region.ready .any ops listed with
      | nil => rfl
      | cons i r =>
        exfalso
        have hm : i ∈ Region.ready .any ops listed := by rw [hrr]; simp
        obtain ⟨h1, o, ho, _⟩ := mem_ready.1 hm
        have := hz i (List.mem_range.2 (Array.getElem?_eq_some_iff.1 ho).1)
        simp [gl, getD_both h1] at this
    exact ⟨hr, ends listed bs w G a hsz cl hr hR⟩
  | succ fuel ih =>
    intro listed bs w G a hsz cl hc hR
    refine ⟨fun hr => ends listed bs w G a hsz cl hr hR, fun i hi => ?_⟩
    obtain ⟨hun, o, ho, hall⟩ := mem_ready.1 hi
    have hun' := getD_both hun
    have hlt : i < ops.size := (Array.getElem?_eq_some_iff.1 ho).1
    obtain ⟨t, hg, hst⟩ := rn.step i o ho
    have hlook : ∀ d ∈ o.looksAt ops, (stF ops base xs ef (gl listed)).get d = getS (slotsL ops base xs (fun _ => true) i) d := fun d hd => look_same C.c cl ho hun' hall hd
    have hheap := heap_sim C cl rn ho hun' hall
    have hgd : guardOf ops (stF ops base xs ef (gl listed)).get o = some t := by rw [guardOf_congr hlook]; exact hg
    have cl' : Closed ops (listed.setIfInBounds i true) := fun j oj hj hl e he hb => by
      by_cases hij : i = j
      · subst hij
        have : oj = o := Option.some.inj (hj.symm.trans ho)
        subst this
        exact getD_set_true (hall e he hb)
      · rw [getD_set_ne false hij] at hl
        exact getD_set_true (cl j oj hj hl e he hb)
    have hsz' : (listed.setIfInBounds i true).size = ops.size := by simp [hsz]
    have hset := fun j => gl_set (listed := listed) (i := i) (j := j) (by omega)
    have hc' : ((List.range ops.size).countP fun k => !gl (listed.setIfInBounds i true) k) ≤ fuel := by
      have hlt' : ((List.range ops.size).countP fun k => !gl (listed.setIfInBounds i true) k) < ((List.range ops.size).countP fun k => !gl listed k) := by
        obtain ⟨l1, l2, he⟩ := List.append_of_mem (List.mem_range.2 hlt)
        have hle : ∀ l : List Nat, (l.countP fun k => !gl (listed.setIfInBounds i true) k) ≤ (l.countP fun k => !gl listed k) := fun l =>
          List.countP_mono_left (fun k _ h => by rw [hset] at h; by_cases hik : i = k <;> simp [hik] at h ⊢; exact h)
        rw [he, List.countP_append, List.countP_append, List.countP_cons, List.countP_cons]
        have h1 := hle l1
        have h2 := hle l2
        have h3 : gl (listed.setIfInBounds i true) i = true := by rw [hset]; simp
        have h4 : gl listed i = false := hun'
        simp [h3, h4]
        omega
      omega
    have hnext := heap_next C cl rn hsz ho hun' hall
    have next : ∀ (v : Value) (w' : World) (G' : Gh), VRel w' G' (heapF ef base.heap (gl (listed.setIfInBounds i true)) ops.size) (xs i) v → Rel w' G' (heapF ef base.heap (gl (listed.setIfInBounds i true)) ops.size) →
        Later w G (heapF ef base.heap (gl listed) ops.size) w' G' (heapF ef base.heap (gl (listed.setIfInBounds i true)) ops.size) →
        wpAnyIn (Wd X.r) 0 X.P .any ops (fun e a' w' => ∃ s' G', Q e s' ∧ RelSt bs X.nb X.nt w' G' s' a') fuel (listed.setIfInBounds i true) (a.put o.dst v) w' := by
      intro v w' G' hv R L
      have hp := hR.put (dst := o.dst) hv R L (fun d hod => by
        simp only [dstsB, List.all_eq_true] at hd
        have hm : o ∈ ops.toList := Array.mem_toList_iff.2 (Array.mem_of_getElem? ho)
        have := hd o hm
        simpa [hod] using this)
      refine ih _ bs w' G' _ hsz' cl' hc' (hp.same (fun d => ?_) rfl rfl)
      show getS (slotsL ops base xs (gl (listed.setIfInBounds i true)) ops.size) d = getS (match o.dst with | some j => setS (slotsL ops base xs (gl listed) ops.size) j (xs i) | none => slotsL ops base xs (gl listed) ops.size) d
      by_cases hdd : o.dst = some d
      · rw [slotsL_at ops.size hlt (by rw [hset]; simp) (by simpa [ho] using hdd) (fun j hj hji h => by
          have hoj : ops[j]? = some ops[j] := by simp [hj]
          exact C.c.dst i o j _ d ho hoj hji hdd ((dst_bind hoj).1 h))]
        simp [hdd, getS_setS]
      · have e1 : getS (match o.dst with | some j => setS (slotsL ops base xs (gl listed) ops.size) j (xs i) | none => slotsL ops base xs (gl listed) ops.size) d = getS (slotsL ops base xs (gl listed) ops.size) d := by
          cases hod : o.dst with
          | none => rfl
          | some j => simp only [getS_setS]; rw [if_neg (fun e => hdd (by rw [hod, e]))]
        rw [e1]
        by_cases hex : ∃ j, j < ops.size ∧ gl listed j = true ∧ (ops[j]?).bind (·.dst) = some d
        · obtain ⟨j, hj, hl, hjd⟩ := hex
          have hoj : ops[j]? = some ops[j] := by simp [hj]
          have uniq : ∀ k, k < ops.size → k ≠ j → (ops[k]?).bind (·.dst) ≠ some d := fun k hk hkj h => by
            have hok : ops[k]? = some ops[k] := by simp [hk]
            exact C.c.dst j _ k _ d hoj hok hkj ((dst_bind hoj).1 hjd) ((dst_bind hok).1 h)
          rw [slotsL_at ops.size hj (by rw [hset]; simp [hl]) hjd uniq, slotsL_at ops.size hj hl hjd uniq]
        · rw [slotsL_other ops.size (fun k hk hL h => ?_), slotsL_other ops.size (fun k hk hL h => hex ⟨k, hk, hL, h⟩)]
          rw [hset] at hL
          by_cases hik : i = k
          · subst hik; exact hdd (by simpa [ho] using h)
          · rw [if_neg hik] at hL; exact hex ⟨k, hk, hL, h⟩
    unfold wpOpIn
    simp only [ho]
    rw [wanted_of_guard hR hgd]
    cases t with
    | true =>
      simp only [if_true] at hst ⊢
      have hop := OpAt.congr (E' := (stF ops base xs ef (gl listed)).ev) (fun x hx => (evS_congr hlook x hx).symm) (hst _ hheap)
      refine hop w G a _ _ hR.rel (fun x _ => hR.ev x) ?_
      rintro v x H' G' w' ⟨rfl, rfl⟩ hv R L
      rw [← hnext] at hv R L
      exact next v w' G' hv R L
    | false =>
      simp only [Bool.false_eq_true, if_false] at hst ⊢
      refine ⟨fun _ _ => trivial, ?_⟩
      have e0 : heapF ef base.heap (gl (listed.setIfInBounds i true)) ops.size = heapF ef base.heap (gl listed) ops.size := by rw [hnext, hst.2]; rfl
      exact next undef w G (by rw [hst.1]; exact .tup [] #[] rfl (fun i x v h => by simp at h)) (by rw [e0]; exact hR.rel) (by rw [e0]; exact Later.refl _ _ _)

def addW (k : Nat) : Foot → List Wn → List Wn
  | .win id off n, acc => (k, id, off, n) :: acc
  | _, acc => acc
theorem addW_mono {k : Nat} {w : Foot} {acc : List Wn} {a : Wn} (h : a ∈ acc) : a ∈ addW k w acc := by cases w <;> first | exact h | exact List.mem_cons_of_mem _ h

/-- What the kinds want. -/
def kindP (op : Op) (e : Eff) (w : Foot) : Prop :=
  (quietOp op = true → e = .no ∧ w = .none) ∧ (loudOp op = false → e = .no) ∧ (storeOp op = true → e = .no ∨ ∃ id off cs, e = .patch id off cs ∧ w = .win id off cs.length) ∧ (winOp op = true → w = .none ∨ ∃ id off n, w = .win id off n)

/-- The text's order, with what each operation looks at and changes. -/
def DOps2 (X : Cx) (all : Array Oper) : Nat → List Oper → List Wn → (List Wn → St → Prop) → St → Prop
  | _, [], acc, Q, s => Q acc s
  | k, o :: os, acc, Q, s => ∃ t x e w, guardOf all s.get o = some t ∧ (if t then ∀ H, sim w H s.heap → OpAt X.P X.r o H s.ev (one x (e.app H)) else x = .tup [] ∧ e = .no) ∧ kindP o.op e w ∧
      DOps2 X all (k + 1) os (addW k w acc) Q (s.put o.dst x (e.app s.heap))

theorem DOps2.mono {X : Cx} {all : Array Oper} {Q Q' : List Wn → St → Prop} (hq : ∀ a s, Q a s → Q' a s) : ∀ {os : List Oper} {k : Nat} {acc : List Wn} {s : St}, DOps2 X all k os acc Q s → DOps2 X all k os acc Q' s
  | [], _, _, s, h => hq _ s h
  | o :: os, k, acc, s, ⟨t, x, e, w, h1, h2, h3, h4⟩ => ⟨t, x, e, w, h1, h2, h3, DOps2.mono hq h4⟩

theorem dops_run2 {X : Cx} {Q : List Wn → St → Prop} : ∀ (os : List Oper) (k : Nat) (acc : List Wn) (s : St), (∀ j, os[j]? = ops[k + j]?) → DOps2 X ops k os acc Q s →
    ∃ (xs : Nat → V) (ef : Nat → Eff) (W : Nat → Foot) (acc' : List Wn), (∀ i o, k ≤ i → ops[i]? = some o → kindP o.op (ef i) (W i)) ∧ (∀ a ∈ acc, a ∈ acc') ∧ (∀ i id off n, k ≤ i → i < k + os.length → W i = .win id off n → (i, id, off, n) ∈ acc') ∧
      ∀ (b : Nat → List (Nat × V)) (h : Nat → List AB), b k = s.slots → h k = s.heap → (∀ i o, k ≤ i → ops[i]? = some o → b (i + 1) = (match o.dst with | some d => setS (b i) d (xs i) | none => b i)) → (∀ i, k ≤ i → h (i + 1) = (ef i).app (h i)) →
        (∀ i o, k ≤ i → ops[i]? = some o → ∃ t, guardOf ops (getS (b i)) o = some t ∧ (if t then ∀ H, sim (W i) H (h i) → OpAt X.P X.r o H (evS (getS (b i))) (one (xs i) ((ef i).app H)) else xs i = .tup [] ∧ ef i = .no)) ∧
        Q acc' { slots := b (k + os.length), heap := h (k + os.length), marks := s.marks }
  | [], k, acc, s, hl, h => ⟨fun _ => .c .any, fun _ => .no, fun _ => .none, acc, fun i o hi ho => by
      have := hl (i - k)
      rw [Nat.add_sub_cancel' hi, ho] at this
      simp at this, fun a ha => ha, fun i id off n h1 h2 => by simp at h2; omega, fun b hp hb hh _ _ => by
      refine ⟨fun i o hi ho => ?_, ?_⟩
      · have := hl (i - k)
        rw [Nat.add_sub_cancel' hi, ho] at this
        simp at this
      · simp only [List.length_nil, Nat.add_zero, hb, hh]; exact h⟩
  | o :: os, k, acc, s, hl, h => by
    obtain ⟨t, x, e, w, h1, h2, h3, h4⟩ := h
    have ho : ops[k]? = some o := by simpa using (hl 0).symm
    have hl' : ∀ j, os[j]? = ops[k + 1 + j]? := fun j => by have := hl (j + 1); simpa [Nat.add_assoc, Nat.add_comm 1 j] using this
    obtain ⟨xs, ef, W, acc', e1, e2, e3, e4⟩ := dops_run2 os (k + 1) _ _ hl' h4
    refine ⟨fun i => if i = k then x else xs i, fun i => if i = k then e else ef i, fun i => if i = k then w else W i, acc', fun i o' hi ho' => ?_, fun a ha => e2 a (addW_mono ha), fun i id off n hi hi2 hw => ?_, fun b hp hb hh hn hn2 => ?_⟩
    · by_cases hik : i = k
      · subst hik
        obtain rfl : o' = o := Option.some.inj (ho'.symm.trans ho)
        simpa using h3
      · simp only [hik, if_false]; exact e1 i o' (by omega) ho'
    · by_cases hik : i = k
      · subst hik
        simp only [if_true] at hw
        subst hw
        exact e2 _ (List.mem_cons_self ..)
      · simp only [hik, if_false] at hw
        exact e3 i id off n (by omega) (by simp at hi2; omega) hw
    · have hb1 : b (k + 1) = (s.put o.dst x (e.app s.heap)).slots := by
        rw [hn k o (Nat.le_refl _) ho]
        simp only [St.put, if_true, hb]
        rfl
      have hh1 : hp (k + 1) = (s.put o.dst x (e.app s.heap)).heap := by
        rw [hn2 k (Nat.le_refl _)]
        simp only [if_true, hh]
        rfl
      obtain ⟨f1, f2⟩ := e4 b hp hb1 hh1 (fun i o' hi ho' => by
        have := hn i o' (by omega) ho'
        simp only [show i ≠ k by omega, if_false] at this
        exact this) (fun i hi => by
        have := hn2 i (by omega)
        simp only [show i ≠ k by omega, if_false] at this
        exact this)
      refine ⟨fun i o' hi ho' => ?_, ?_⟩
      · by_cases hik : i = k
        · subst hik
          obtain rfl : o' = o := Option.some.inj (ho'.symm.trans ho)
          refine ⟨t, by rw [hb]; exact h1, ?_⟩
          simp only [if_true, hb, hh]
          exact h2
        · obtain ⟨t', g1, g2⟩ := f1 i o' (by omega) ho'
          refine ⟨t', g1, ?_⟩
          simp only [hik, if_false]
          exact g2
      · have e : k + (o :: os).length = k + 1 + os.length := by simp; omega
        rw [e]
        exact f2

theorem awp_region_drawn2 {X : Cx} {id : Nat} {Q : Exit → St → Prop} {s : St} (hm : X.P.follows .mixedOrders = true) (hd : dstsB X.nt ops.toList = true) (hc : conflB2 ops = true)
    (h : DOps2 X ops 0 ops.toList [] (fun acc s => pairsOk ops acc = true ∧ Q .normal s) s) : AWP X (.region id ops true) Q s := fun bs w G a hR => by
  refine wpIn_region_any hm ?_
  obtain ⟨xs, ef, W, acc, k1, k2, k3, k4⟩ := dops_run2 (ops := ops) ops.toList 0 [] s (fun j => by simp) h
  have hlen : ops.toList.length = ops.size := by simp
  have hpre : ∀ i, heapF ef s.heap (fun j => decide (j < i + 1)) (i + 1) = (ef i).app (heapF ef s.heap (fun j => decide (j < i)) i) := fun i => by
    simp only [heapF]
    simp only [Nat.lt_succ_self, decide_true, if_true]
    rw [heapF_congr (L' := fun j => decide (j < i)) i (fun j hj => by simp [hj]; omega)]
  obtain ⟨f1, hpk, f2⟩ := k4 (fun i => slotsL ops s xs (fun _ => true) i) (fun i => heapF ef s.heap (fun j => decide (j < i)) i) rfl rfl (fun i o _ ho => by
    simp only [slotsL, if_true, ho, Option.bind_some]
    rfl) (fun i _ => hpre i)
  have C := conflB2_spec hc
  have rn : Run2 X (ancGo ops.toList 0 []) ops s xs ef W :=
    { step := fun i o ho => f1 i o (Nat.zero_le _) ho
      kq := fun i o ho hq => (k1 i o (Nat.zero_le _) ho).1 hq
      kl := fun i o ho hq => (k1 i o (Nat.zero_le _) ho).2.1 hq
      ks := fun i o ho hq => (k1 i o (Nat.zero_le _) ho).2.2.1 hq
      pairs := fun i o j oj ho hj hne hs hw hu => by
        have hi := (Array.getElem?_eq_some_iff.1 ho).1
        have hjl := (Array.getElem?_eq_some_iff.1 hj).1
        rcases (k1 i o (Nat.zero_le _) ho).2.2.2 hw with h1 | ⟨id1, off1, n1, h1⟩
        · rw [h1]; trivial
        · rcases (k1 j oj (Nat.zero_le _) hj).2.2.2 (by cases hop : oj.op <;> rw [hop] at hs <;> simp [storeOp] at hs; rfl) with h2 | ⟨id2, off2, n2, h2⟩
          · rw [h1, h2]; trivial
          · have m1 := k3 i id1 off1 n1 (Nat.zero_le _) (by omega) h1
            have m2 := k3 j id2 off2 n2 (Nat.zero_le _) (by omega) h2
            have := pairsOk_spec hpk m1 m2 (by simp only [sparse, hj, hs]; rfl) (by simpa using hne.symm) hu
            rw [h1, h2]
            simp only [apartB, Bool.or_eq_true, bne_iff_ne, ne_eq, decide_eq_true_eq] at this
            simp only [apart]
            rcases this with (h | h) | h
            · exact .inl h
            · exact .inr (.inl h)
            · exact .inr (.inr h) }
  have hbs : RelSt bs X.nb X.nt { w with drawn := w.drawn + 1 } G s a := hR.drawn
  refine any_sound2 C rn hd ?_ ops.size _ bs _ G a (by simp) ?_ ?_ (hbs.same (fun d => ?_) ?_ rfl)
  · simp only [Nat.zero_add, hlen] at f2
    unfold stF
    rw [heapF_congr (L' := fun j => decide (j < ops.size)) ops.size (fun j hj => by simp [hj])]
    exact f2
  · intro j oj hj hl
    rw [getD_replicate_false] at hl; cases hl
  · exact Nat.le_trans List.countP_le_length (by simp)
  · have : ∀ n, slotsL ops s xs (gl (Array.replicate ops.size false)) n = s.slots := by
      intro n
      induction n with
      | zero => rfl
      | succ n ih => simp only [slotsL, gl, getD_replicate_false, Bool.false_eq_true, if_false]; exact ih
    show getS (slotsL ops s xs (gl (Array.replicate ops.size false)) ops.size) d = getS s.slots d
    rw [this]
  · have : ∀ n, heapF ef s.heap (gl (Array.replicate ops.size false)) n = s.heap := by
      intro n
      induction n with
      | zero => rfl
      | succ n ih => simp only [heapF, gl, getD_replicate_false, Bool.false_eq_true, if_false]; exact ih
    exact this _
end
end Go.Abs
