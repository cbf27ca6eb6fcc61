/- Regions whose order is drawn: whatever the order is, all comes out as in the text's order. -/
import Derived.Test.YtfgdbeijjbijnaaGreatDoorJG04
import Derived.StillTail
set_option linter.unusedSimpArgs false
set_option linter.unusedVariables false
namespace Go.Abs
open Go
def Kp (tab : List Nat) (i : Nat) (o : Oper) : Nat :=
 o.after.toList.foldl (fun m e => if Region.binds .any e then m ||| (2 ^ e.on ||| (if e.on < i then tab.getD e.on 0 else 0)) else m) 0
def DJ : List Oper → Nat → List Nat → List Nat
 | [], _, tab => tab
 | o :: os, i, tab => DJ os (i + 1) (tab ++ [Kp tab i o])
def S0 (tab : List Nat) (loud : Nat) (ops : Array Oper) (i : Nat) (o : Oper) (j : Nat) : Bool :=
 j == i || match ops[j]? with
  | none => true
  | some oj =>
   (match o.dst, oj.dst with | some a, some b => a != b | _, _ => true) &&
   (match oj.dst with | some d => !(o.looksAt ops).contains d || (tab.getD i 0).testBit j || (tab.getD j 0).testBit i | none => true) &&
   (!loud.testBit j || (tab.getD i 0).testBit j || (tab.getD j 0).testBit i) &&
   (!(tab.getD i 0).testBit j || decide (j < i))
def Ro (tab : List Nat) (loud : Nat) (ops : Array Oper) : Bool :=
 (List.range ops.size).all fun i => match ops[i]? with
  | none => true
  | some o => o.after.all (fun e => !Region.binds .any e || decide (e.on < i)) && tab.getD i 0 == Kp tab i o && !(tab.getD i 0).testBit i && (match o.dst with | some d => !(o.looksAt ops).contains d | none => true) && (List.range ops.size).all (S0 tab loud ops i o)
def NU (loud : Nat) (ops : Array Oper) : Bool := Ro (DJ ops.toList 0 []) loud ops
theorem Rp {tab : List Nat} {i k : Nat} {o : Oper} (h : (Kp tab i o).testBit k = true) : ∃ e ∈ o.after, Region.binds .any e = true ∧ (e.on = k ∨ (e.on < i ∧ (tab.getD e.on 0).testBit k = true)) := by
 have key : ∀ (l : List Edge) (m : Nat), (l.foldl (fun m e => if Region.binds .any e then m ||| (2 ^ e.on ||| (if e.on < i then tab.getD e.on 0 else 0)) else m) m).testBit k = true →
   m.testBit k = true ∨ ∃ e ∈ l, Region.binds .any e = true ∧ (e.on = k ∨ (e.on < i ∧ (tab.getD e.on 0).testBit k = true)) := by
  intro l
  induction l with
  | nil => intro m hm; exact .inl hm
  | cons e l ih =>
   intro m hm
   rw [List.foldl_cons] at hm
   rcases ih _ hm with h1 | ⟨e', he', h1⟩
   ·by_cases hb : Region.binds .any e = true
    ·simp only [hb, if_true, Nat.testBit_or, Bool.or_eq_true, Nat.testBit_two_pow, decide_eq_true_eq] at h1
     rcases h1 with h1 | h1 | h1
     ·exact .inl h1
     ·exact .inr ⟨e, by simp, hb, .inl h1⟩
     ·by_cases hlt : e.on < i
      ·simp only [hlt, if_true] at h1; exact .inr ⟨e, by simp, hb, .inr ⟨hlt, h1⟩⟩
      ·simp [hlt] at h1
    ·simp only [hb] at h1; exact .inl h1
   ·exact .inr ⟨e', List.mem_cons_of_mem _ he', h1⟩
 rcases key _ _ h with h1 | ⟨e, he, h1⟩
 ·simp at h1
 ·exact ⟨e, by simpa using he, h1⟩
section
variable {ops : Array Oper} {base : St} {xs : Nat → V} {hs : Nat → List AB} {loud : Nat}
def AA (ops : Array Oper) (base : St) (xs : Nat → V) (L : Nat → Bool) : Nat → List (Nat × V)
 | 0 => base.slots
 | n + 1 => if L n then (match (ops[n]?).bind (·.dst) with | some d => EM (AA ops base xs L n) d (xs n) | none => AA ops base xs L n) else AA ops base xs L n
def C8 (hs : Nat → List AB) (loud : Nat) (L : Nat → Bool) : Nat → List AB
 | 0 => hs 0
 | n + 1 => if L n && loud.testBit n then hs (n + 1) else C8 hs loud L n
theorem BH {L : Nat → Bool} {d : Nat} : ∀ (n : Nat), (∀ j, j < n → L j = true → (ops[j]?).bind (·.dst) ≠ some d) → Aw (AA ops base xs L n) d = Aw base.slots d
 | 0, _ => rfl
 | n + 1, h => by
  have ih := BH n (fun j hj => h j (by omega))
  simp only [AA]
  split
  ·rename_i hL
   split
   ·rename_i e he
    have : e ≠ d := fun hh => h n (by omega) hL (by rw [he, hh])
    rw [Bv, if_neg this, ih]
   ·exact ih
  ·exact ih
theorem CL {L : Nat → Bool} {d k : Nat} : ∀ (n : Nat), k < n → L k = true → (ops[k]?).bind (·.dst) = some d → (∀ j, j < n → j ≠ k → (ops[j]?).bind (·.dst) ≠ some d) → Aw (AA ops base xs L n) d = xs k
 | 0, hk, _, _, _ => absurd hk (by omega)
 | n + 1, hk, hL, hd, hu => by
  simp only [AA]
  by_cases hkn : k = n
  ·subst hkn
   simp only [hL, if_true, hd, Bv]
  ·have ih := CL n (by omega) hL hd (fun j hj => hu j (by omega))
   split
   ·split
    ·rename_i e he
     have : e ≠ d := fun hh => hu n (by omega) (fun h => hkn h.symm) (by rw [he, hh])
     rw [Bv, if_neg this, ih]
    ·exact ih
   ·exact ih
theorem C1 {L L' : Nat → Bool} : ∀ (n : Nat), (∀ j, j < n → loud.testBit j = true → L j = L' j) → C8 hs loud L n = C8 hs loud L' n
 | 0, _ => rfl
 | n + 1, h => by
  simp only [C8]
  rw [C1 n (fun j hj => h j (by omega))]
  by_cases hl : loud.testBit n = true
  ·rw [h n (by omega) hl]
  ·simp [hl]
theorem F9 {i N : Nat} (hq : ∀ j, j < N → loud.testBit j = false → hs (j + 1) = hs j) : ∀ (n : Nat), n ≤ i → n ≤ N → C8 hs loud (fun j => decide (j < i)) n = hs n
 | 0, _, _ => rfl
 | n + 1, h, hN => by
  simp only [C8]
  rw [F9 hq n (by omega) (by omega)]
  have : n < i := by omega
  cases hl : loud.testBit n with
  | true => simp [this]
  | false => simp [hq n (by omega) hl]
theorem GL {i : Nat} {h : List AB} (h0 : C8 hs loud (fun j => decide (j < i)) i = h) : ∀ (k : Nat), C8 hs loud (fun j => decide (j < i)) (i + k) = h
 | 0 => h0
 | k + 1 => by
  have e : C8 hs loud (fun j => decide (j < i)) (i + (k + 1)) = C8 hs loud (fun j => decide (j < i)) (i + k) := by
   show C8 hs loud _ ((i + k) + 1) = _
   simp only [C8]
   simp [show ¬ i + k < i by omega]
  rw [e]; exact GL h0 k
structure Run (X : Cx) (ops : Array Oper) (loud : Nat) (base : St) (xs : Nat → V) (hs : Nat → List AB) : Prop where
 h0 : hs 0 = base.heap
 quiet : ∀ i, i < ops.size → loud.testBit i = false → hs (i + 1) = hs i
 step : ∀ i o, ops[i]? = some o → ∃ t, Ay ops (Aw (AA ops base xs (fun _ => true) i)) o = some t ∧
  (if t then AL X.P X.r o (hs i) (evS (Aw (AA ops base xs (fun _ => true) i))) (one (xs i) (hs (i + 1))) else xs i = .tup [] ∧ hs (i + 1) = hs i)
def stL (ops : Array Oper) (loud : Nat) (base : St) (xs : Nat → V) (hs : Nat → List AB) (L : Nat → Bool) : St :=
 {slots := AA ops base xs L ops.size, heap := C8 hs loud L ops.size, marks := base.marks }
structure Kq (tab : List Nat) (loud : Nat) (ops : Array Oper) : Prop where
 row : ∀ (i : Nat) (o : Oper), ops[i]? = some o → tab.getD i 0 = Kp tab i o
 irr : ∀ (i : Nat) (o : Oper), ops[i]? = some o → (tab.getD i 0).testBit i = false
 back : ∀ (i : Nat) (o : Oper), ops[i]? = some o → ∀ e ∈ o.after, Region.binds .any e = true → e.on < i
 self : ∀ (i : Nat) (o : Oper) (d : Nat), ops[i]? = some o → o.dst = some d → d ∉ o.looksAt ops
 dst : ∀ (i : Nat) (o : Oper) (j : Nat) (oj : Oper) (d : Nat), ops[i]? = some o → ops[j]? = some oj → j ≠ i → o.dst = some d → oj.dst ≠ some d
 look : ∀ (i : Nat) (o : Oper) (j : Nat) (oj : Oper) (d : Nat), ops[i]? = some o → ops[j]? = some oj → j ≠ i → oj.dst = some d → d ∈ o.looksAt ops → (tab.getD i 0).testBit j = true ∨ (tab.getD j 0).testBit i = true
 loud : ∀ (i : Nat) (o : Oper) (j : Nat) (oj : Oper), ops[i]? = some o → ops[j]? = some oj → j ≠ i → loud.testBit j = true → (tab.getD i 0).testBit j = true ∨ (tab.getD j 0).testBit i = true
 lt : ∀ (i : Nat) (o : Oper) (j : Nat) (oj : Oper), ops[i]? = some o → ops[j]? = some oj → (tab.getD i 0).testBit j = true → j < i
theorem IS {tab : List Nat} (h : Ro tab loud ops = true) : Kq tab loud ops := by
 have key : ∀ i o, ops[i]? = some o → tab.getD i 0 = Kp tab i o ∧ (tab.getD i 0).testBit i = false ∧ (match o.dst with | some d => !(o.looksAt ops).contains d | none => true) = true ∧
   (∀ j, j < ops.size → S0 tab loud ops i o j = true) ∧ o.after.all (fun e => !Region.binds .any e || decide (e.on < i)) = true := fun i o ho => by
  have h1 := List.all_eq_true.1 h i (List.mem_range.2 (Array.getElem?_eq_some_iff.1 ho).1)
  simp only [ho, Bool.and_eq_true, beq_iff_eq, Bool.not_eq_true'] at h1
  exact ⟨h1.1.1.1.2, h1.1.1.2, h1.1.2, fun j hj => List.all_eq_true.1 h1.2 j (List.mem_range.2 hj), h1.1.1.1.1⟩
 have pair : ∀ i o j oj, ops[i]? = some o → ops[j]? = some oj → j ≠ i →
   (match o.dst, oj.dst with | some a, some b => a != b | _, _ => true) = true ∧ (match oj.dst with | some d => !(o.looksAt ops).contains d || (tab.getD i 0).testBit j || (tab.getD j 0).testBit i | none => true) = true ∧
   (!loud.testBit j || (tab.getD i 0).testBit j || (tab.getD j 0).testBit i) = true ∧ (!(tab.getD i 0).testBit j || decide (j < i)) = true := fun i o j oj ho hj hne => by
  have h1 : S0 tab loud ops i o j = true := (key i o ho).2.2.2.1 j (Array.getElem?_eq_some_iff.1 hj).1
  have hne' : (j == i) = false := by simpa using hne
  simp only [S0, hne', Bool.false_or, hj, Bool.and_eq_true] at h1
  exact ⟨h1.1.1.1, h1.1.1.2, h1.1.2, h1.2⟩
 refine ⟨fun i o ho => (key i o ho).1, fun i o ho => (key i o ho).2.1, fun i o ho e he hb => ?_, fun i o d ho hd => ?_, fun i o j oj d ho hj hne hd hd' => ?_, fun i o j oj d ho hj hne hd hl => ?_, fun i o j oj ho hj hne hl => ?_, fun i o j oj ho hj hb => ?_⟩
 ·have := Array.all_eq_true_iff_forall_mem.1 (key i o ho).2.2.2.2 e he
  simpa [hb] using this
 ·have := (key i o ho).2.2.1
  simpa [hd] using this
 ·have := (pair i o j oj ho hj hne).1
  simp [hd, hd'] at this
 ·have := (pair i o j oj ho hj hne).2.1
  simp only [hd, Bool.or_eq_true, Bool.not_eq_true', List.contains_eq_mem, decide_eq_false_iff_not] at this
  rcases this with (h1 | h1) | h1
  ·exact absurd hl h1
  ·exact .inl h1
  ·exact .inr h1
 ·have := (pair i o j oj ho hj hne).2.2.1
  simp only [hl, Bool.not_true, Bool.false_or, Bool.or_eq_true] at this
  exact this
 ·by_cases hne : j = i
  ·subst hne; rw [(key j o ho).2.1] at hb; cases hb
  ·have := (pair i o j oj ho hj hne).2.2.2
   simp only [hb, Bool.not_true, Bool.false_or, decide_eq_true_eq] at this
   exact this
def DQ (ops : Array Oper) (listed : Array Bool) : Prop := ∀ j oj, ops[j]? = some oj → listed.getD j false = true → ∀ e ∈ oj.after, Region.binds .any e = true → listed.getD e.on false = true
theorem Cn {tab : List Nat} {listed : Array Bool} (C : Kq tab loud ops) (cl : DQ ops listed) : ∀ (i : Nat) (o : Oper), ops[i]? = some o → (∀ e ∈ o.after, Region.binds .any e = true → listed.getD e.on false = true) →
  ∀ k, (tab.getD i 0).testBit k = true → listed.getD k false = true := by
 intro i
 induction i using Nat.strongRecOn with
 | _ i ih =>
  intro o ho hall k hk
  rw [C.row i o ho] at hk
  obtain ⟨e, he, hb, h1 | ⟨hlt, h1⟩⟩ := Rp hk
  ·subst h1; exact hall e he hb
  ·have hl := hall e he hb
   have hsz : e.on < ops.size := by have := (Array.getElem?_eq_some_iff.1 ho).1; omega
   have hoe : ops[e.on]? = some ops[e.on] := by simp [hsz]
   exact ih e.on hlt _ hoe (cl e.on _ hoe hl) k h1
def gl (listed : Array Bool) (j : Nat) : Bool := listed.getD j false
theorem Gr {all : Array Oper} {g g' : Nat → V} {o : Oper} (h : ∀ d ∈ o.looksAt all, g d = g' d) : Ay all g o = Ay all g' o := by
 unfold Ay
 cases hg : o.guard with
 | none => rfl
 | some p =>
  obtain ⟨j, t⟩ := p
  cases hd : (all[j]?).bind (·.dst) with
  | none => simp only [hd]
  | some d =>
   have := h d (by simp [Oper.looksAt, hg, hd])
   simp only [hd, this]
theorem Ga {all : Array Oper} {g g' : Nat → V} {o : Oper} (h : ∀ d ∈ o.looksAt all, g d = g' d) : ∀ x ∈ o.op.operands, evS g x = evS g' x := fun x hx => by
 cases x with
 | tmp t => exact h t (List.mem_append_left _ (List.mem_filterMap.2 ⟨.tmp t, by simpa using hx, rfl⟩))
 | _ => rfl
theorem AL.congr {P : Program} {ro : Option Nat} {o : Oper} {H : List AB} {E E' : Operand → V} {post : V → List AB → Prop} (he : ∀ x ∈ o.op.operands, E x = E' x) (h : AL P ro o H E post) : AL P ro o H E' post :=
 fun w G a next Q R hE hn => h w G a next Q R (fun x hx => by rw [he x hx]; exact hE x hx) hn
theorem DK {j : Nat} {oj : Oper} {d : Nat} (hj : ops[j]? = some oj) : (ops[j]?).bind (·.dst) = some d ↔ oj.dst = some d := by simp [hj]
theorem Mz {tab : List Nat} {listed : Array Bool} (C : Kq tab loud ops) (cl : DQ ops listed) {i : Nat} {o : Oper} (ho : ops[i]? = some o) (hun : listed.getD i false = false)
  (hall : ∀ e ∈ o.after, Region.binds .any e = true → listed.getD e.on false = true) {d : Nat} (hd : d ∈ o.looksAt ops) :
  Aw (AA ops base xs (gl listed) ops.size) d = Aw (AA ops base xs (fun _ => true) i) d := by
 have hi : i < ops.size := (Array.getElem?_eq_some_iff.1 ho).1
 by_cases hex : ∃ j, j < ops.size ∧ (ops[j]?).bind (·.dst) = some d
 ·obtain ⟨j, hj, hjd⟩ := hex
  have hoj : ops[j]? = some ops[j] := by simp [hj]
  have hjd' := (DK hoj).1 hjd
  have hne : j ≠ i := fun e => by
   subst e
   rw [ho] at hoj
   cases hoj
   exact C.self _ _ d ho hjd' hd
  have uniq : ∀ k, k < ops.size → k ≠ j → (ops[k]?).bind (·.dst) ≠ some d := fun k hk hkj h => by
   have hok : ops[k]? = some ops[k] := by simp [hk]
   exact C.dst j _ k _ d hoj hok hkj hjd' ((DK hok).1 h)
  rcases C.look i o j _ d ho hoj hne hjd' hd with h1 | h1
  ·have hl := Cn C cl i o ho hall j h1
   have hlt := C.lt i o j _ ho hoj h1
   rw [CL ops.size hj hl hjd uniq, CL i hlt rfl hjd (fun k hk => uniq k (by omega))]
  ·have hlt := C.lt j _ i o hoj ho h1
   have hnl : gl listed j = false := by
    cases hl : gl listed j with
    | false => rfl
    | true =>
     have := Cn C cl j _ hoj (cl j _ hoj hl) i h1
     rw [hun] at this; cases this
   rw [BH ops.size (fun k hk hL h => ?_), BH i (fun k hk _ h => ?_)]
   ·exact uniq k (by omega) (by omega) h
   ·by_cases hkj : k = j
    ·subst hkj; rw [hnl] at hL; cases hL
    ·exact uniq k hk hkj h
 ·rw [BH ops.size (fun k hk _ h => hex ⟨k, hk, h⟩), BH i (fun k hk _ h => hex ⟨k, by omega, h⟩)]
theorem TS {X : Cx} {tab : List Nat} {listed : Array Bool} (C : Kq tab loud ops) (cl : DQ ops listed) (rn : Run X ops loud base xs hs) {i : Nat} {o : Oper} (ho : ops[i]? = some o) (hun : listed.getD i false = false)
  (hall : ∀ e ∈ o.after, Region.binds .any e = true → listed.getD e.on false = true) : C8 hs loud (gl listed) ops.size = hs i := by
 have hi : i < ops.size := (Array.getElem?_eq_some_iff.1 ho).1
 rw [C1 (L' := fun j => decide (j < i)) ops.size (fun j hj hl => ?_)]
 ·have h1 := F9 (i := i) (N := ops.size) rn.quiet i (Nat.le_refl _) (by omega)
  have h2 := GL (hs := hs) (loud := loud) h1 (ops.size - i)
  rwa [Nat.add_sub_cancel' (by omega)] at h2
 ·have hoj : ops[j]? = some ops[j] := by simp [hj]
  by_cases hne : j = i
  ·subst hne; simp only [gl, hun]; simp
  ·rcases C.loud i o j _ ho hoj hne hl with h1 | h1
   ·have h2 := Cn C cl i o ho hall j h1
    have h3 := C.lt i o j _ ho hoj h1
    simp [gl, h2, h3]
   ·have h3 := C.lt j _ i o hoj ho h1
    have h4 : gl listed j = false := by
     cases h : gl listed j with
     | false => rfl
     | true =>
      have := Cn C cl j _ hoj (cl j _ hoj h) i h1
      rw [hun] at this; cases this
    rw [h4]; simp; omega
theorem AP.same {bs : EF} {nb nt : Nat} {w : World} {G : Gh} {s s' : St} {a : Act} (h : AP bs nb nt w G s a) (h1 : ∀ i, s'.get i = s.get i) (h2 : s'.heap = s.heap) (h3 : s'.marks = s.marks) : AP bs nb nt w G s' a :=
 {rel := by rw [h2]; exact h.rel
  later := by rw [h2]; exact h.later
  base := h.base
  size := h.size
  slots := fun i => by rw [h1, h2]; exact h.slots i
  defers := by rw [h3]; exact h.defers
  marks := fun id hid => by rw [h2]; exact h.marks id (by rw [← h3]; exact hid) }
theorem AP.drawn {bs : EF} {nb nt : Nat} {w : World} {G : Gh} {s : St} {a : Act} (h : AP bs nb nt w G s a) : AP bs nb nt { w with drawn := w.drawn + 1 } G s a :=
 have L : Am w G s.heap { w with drawn := w.drawn + 1 } G s.heap :=
  {size := Nat.le_refl _, S := fun _ _ h => ⟨h, rfl⟩, Snew := fun _ _ _ _ h => h, len := Nat.le_refl _, rho := fun _ _ => rfl, grow := fun _ n _ _ h => ⟨n, h, .inr ⟨rfl, rfl⟩⟩, vec := fun _ n sz cs _ h => ⟨n, sz, cs, h, .inr ⟨rfl, rfl⟩⟩, role := fun _ _ => rfl, frame := fun _ _ _ => rfl, os := rfl, out := rfl }
 {rel := (Rel.of_heap (w := w) (w' := { w with drawn := w.drawn + 1 }) rfl h.rel).1
  later := h.later.trans L
  base := h.base
  size := h.size
  slots := fun i => (h.slots i).mono L
  defers := (by obtain ⟨hs, hh, e⟩ := h.defers; exact ⟨hs, ⟨hh.nd, hh.at'⟩, e⟩)
  marks := h.marks }
theorem Rq {listed : Array Bool} {i j : Nat} (hi : i < listed.size) : gl (listed.setIfInBounds i true) j = if i = j then true else gl listed j := by
 unfold gl
 by_cases h : i = j
 ·subst h; simp [hi]
 ·rw [getD_set_ne false h, if_neg h]
theorem E9 {L L' : Nat → Bool} : ∀ (n : Nat), (∀ j, j < n → L j = L' j) → AA ops base xs L n = AA ops base xs L' n
 | 0, _ => rfl
 | n + 1, h => by simp only [AA]; rw [E9 n (fun j hj => h j (by omega)), h n (by omega)]
theorem TT {X : Cx} {tab : List Nat} (C : Kq tab loud ops) (rn : Run X ops loud base xs hs) (hd : C6 X.nt ops.toList = true) {Q : Exit → St → Prop}
  (hQ : Q .normal (stL ops loud base xs hs (fun _ => true))) : ∀ (fuel : Nat) (listed : Array Bool) (bs : EF) (w : World) (G : Gh) (a : Act), listed.size = ops.size → DQ ops listed →
   ((List.range ops.size).countP fun i => !gl listed i) ≤ fuel → AP bs X.nb X.nt w G (stL ops loud base xs hs (gl listed)) a →
   wpAnyIn (Wd X.r) 0 X.P .any ops (fun e a' w' => ∃ s' G', Q e s' ∧ AP bs X.nb X.nt w' G' s' a') fuel listed a w := by
 have ends : ∀ (listed : Array Bool) (bs : EF) (w : World) (G : Gh) (a : Act), listed.size = ops.size → DQ ops listed → Region.ready .any ops listed = [] → AP bs X.nb X.nt w G (stL ops loud base xs hs (gl listed)) a →
   ∃ s' G', Q .normal s' ∧ AP bs X.nb X.nt w G' s' a := by
  intro listed bs w G a hsz cl hr hR
  have all : ∀ i, i < ops.size → gl listed i = true := by
   intro i
   induction i using Nat.strongRecOn with
   | _ i ih =>
    intro hi
    cases hl : gl listed i with
    | true => rfl
    | false =>
     exfalso
     have hoi : ops[i]? = some ops[i] := by simp [hi]
     have hm : i ∈ Region.ready .any ops listed := mem_ready.2 ⟨getD_in (by omega) hl, _, hoi, fun e he hb => by
      exact ih e.on (C.back i _ hoi e he hb) (Nat.lt_trans (C.back i _ hoi e he hb) hi)⟩
     rw [hr] at hm; cases hm
  refine ⟨_, G, hQ, hR.same (fun i => ?_) ?_ rfl⟩
  ·show Aw (AA _ _ _ _ _) i = Aw (AA _ _ _ _ _) i
   rw [E9 ops.size (fun j hj => (all j hj).symm)]
  ·exact (C1 ops.size (fun j hj _ => (all j hj).symm))
 intro fuel
 induction fuel with
 | zero =>
  intro listed bs w G a hsz cl hc hR
  have hz := List.countP_eq_zero.1 (Nat.le_zero.1 hc)
  have hr : Region.ready .any ops listed = [] := by
   cases hrr : Region.ready .any ops listed with
   | nil => rfl
   | cons i r =>
    exfalso
    have hm : i ∈ Region.ready .any ops listed := by rw [hrr]; simp
    obtain ⟨h1, o, ho, _⟩ := mem_ready.1 hm
    have := hz i (List.mem_range.2 (Array.getElem?_eq_some_iff.1 ho).1)
    simp [gl, getD_both h1] at this
  exact ⟨hr, ends listed bs w G a hsz cl hr hR⟩
 | succ fuel ih =>
  intro listed bs w G a hsz cl hc hR
  refine ⟨fun hr => ends listed bs w G a hsz cl hr hR, fun i hi => ?_⟩
  obtain ⟨hun, o, ho, hall⟩ := mem_ready.1 hi
  have hun' := getD_both hun
  have hlt : i < ops.size := (Array.getElem?_eq_some_iff.1 ho).1
  obtain ⟨t, hg, hst⟩ := rn.step i o ho
  have hlook : ∀ d ∈ o.looksAt ops, (stL ops loud base xs hs (gl listed)).get d = Aw (AA ops base xs (fun _ => true) i) d := fun d hd => Mz C cl ho hun' hall hd
  have hheap : (stL ops loud base xs hs (gl listed)).heap = hs i := TS C cl rn ho hun' hall
  have hgd : Ay ops (stL ops loud base xs hs (gl listed)).get o = some t := by rw [Gr hlook]; exact hg
  have cl' : DQ ops (listed.setIfInBounds i true) := fun j oj hj hl e he hb => by
   by_cases hij : i = j
   ·subst hij
    have : oj = o := Option.some.inj (hj.symm.trans ho)
    subst this
    exact getD_set_true (hall e he hb)
   ·rw [getD_set_ne false hij] at hl
    exact getD_set_true (cl j oj hj hl e he hb)
  have hsz' : (listed.setIfInBounds i true).size = ops.size := by simp [hsz]
  have hset := fun j => Rq (listed := listed) (i := i) (j := j) (by omega)
  have hc' : ((List.range ops.size).countP fun k => !gl (listed.setIfInBounds i true) k) ≤ fuel := by
   have hlt' : ((List.range ops.size).countP fun k => !gl (listed.setIfInBounds i true) k) < ((List.range ops.size).countP fun k => !gl listed k) := by
    obtain ⟨l1, l2, he⟩ := List.append_of_mem (List.mem_range.2 hlt)
    have hle : ∀ l : List Nat, (l.countP fun k => !gl (listed.setIfInBounds i true) k) ≤ (l.countP fun k => !gl listed k) := fun l =>
     List.countP_mono_left (fun k _ h => by rw [hset] at h; by_cases hik : i = k <;> simp [hik] at h ⊢; exact h)
    rw [he, List.countP_append, List.countP_append, List.countP_cons, List.countP_cons]
    have h1 := hle l1
    have h2 := hle l2
    have h3 : gl (listed.setIfInBounds i true) i = true := by rw [hset]; simp
    have h4 : gl listed i = false := hun'
    simp [h3, h4]
    omega
   omega
  have next : ∀ (v : Value) (w' : World) (G' : Gh), Ag w' G' (hs (i + 1)) (xs i) v → Rel w' G' (hs (i + 1)) → Am w G (hs i) w' G' (hs (i + 1)) →
    wpAnyIn (Wd X.r) 0 X.P .any ops (fun e a' w' => ∃ s' G', Q e s' ∧ AP bs X.nb X.nt w' G' s' a') fuel (listed.setIfInBounds i true) (a.put o.dst v) w' := by
   intro v w' G' hv R L
   have hp := hR.put (dst := o.dst) hv R (by rw [hheap]; exact L) (fun d hod => by
    simp only [C6, List.all_eq_true] at hd
    have hm : o ∈ ops.toList := Array.mem_toList_iff.2 (Array.mem_of_getElem? ho)
    have := hd o hm
    simpa [hod] using this)
   refine ih _ bs w' G' _ hsz' cl' hc' (hp.same (fun d => ?_) ?_ rfl)
   ·show Aw (AA ops base xs (gl (listed.setIfInBounds i true)) ops.size) d = Aw (match o.dst with | some j => EM (AA ops base xs (gl listed) ops.size) j (xs i) | none => AA ops base xs (gl listed) ops.size) d
    by_cases hdd : o.dst = some d
    ·rw [CL ops.size hlt (by rw [hset]; simp) (by simpa [ho] using hdd) (fun j hj hji h => by
      have hoj : ops[j]? = some ops[j] := by simp [hj]
      exact C.dst i o j _ d ho hoj hji hdd ((DK hoj).1 h))]
     simp [hdd, Bv]
    ·have e1 : Aw (match o.dst with | some j => EM (AA ops base xs (gl listed) ops.size) j (xs i) | none => AA ops base xs (gl listed) ops.size) d = Aw (AA ops base xs (gl listed) ops.size) d := by
      cases hod : o.dst with
      | none => rfl
      | some j => simp only [Bv]; rw [if_neg (fun e => hdd (by rw [hod, e]))]
     rw [e1]
     by_cases hex : ∃ j, j < ops.size ∧ gl listed j = true ∧ (ops[j]?).bind (·.dst) = some d
     ·obtain ⟨j, hj, hl, hjd⟩ := hex
      have hoj : ops[j]? = some ops[j] := by simp [hj]
      have uniq : ∀ k, k < ops.size → k ≠ j → (ops[k]?).bind (·.dst) ≠ some d := fun k hk hkj h => by
       have hok : ops[k]? = some ops[k] := by simp [hk]
       exact C.dst j _ k _ d hoj hok hkj ((DK hoj).1 hjd) ((DK hok).1 h)
      rw [CL ops.size hj (by rw [hset]; simp [hl]) hjd uniq, CL ops.size hj hl hjd uniq]
     ·rw [BH ops.size (fun k hk hL h => ?_), BH ops.size (fun k hk hL h => hex ⟨k, hk, hL, h⟩)]
      rw [hset] at hL
      by_cases hik : i = k
      ·subst hik; exact hdd (by simpa [ho] using h)
      ·rw [if_neg hik] at hL; exact hex ⟨k, hk, hL, h⟩
   ·show C8 hs loud (gl (listed.setIfInBounds i true)) ops.size = hs (i + 1)
    cases hl : loud.testBit i with
    | false =>
     rw [C1 (L' := gl listed) ops.size (fun j hj hlj => by
      rw [hset]; by_cases hij : i = j
      ·subst hij; rw [hl] at hlj; cases hlj
      ·rw [if_neg hij])]
     exact hheap.trans (rn.quiet i hlt hl).symm
    | true =>
     rw [C1 (L' := fun j => decide (j < i + 1)) ops.size (fun j hj hlj => ?_)]
     ·have h1 := F9 (i := i + 1) (N := ops.size) rn.quiet (i + 1) (Nat.le_refl _) (by omega)
      have h2 := GL (hs := hs) (loud := loud) h1 (ops.size - (i + 1))
      rwa [Nat.add_sub_cancel' (by omega)] at h2
     ·have hoj : ops[j]? = some ops[j] := by simp [hj]
      rw [hset]
      by_cases hne : i = j
      ·subst hne; simp
      ·rw [if_neg hne]
       rcases C.loud i o j _ ho hoj (Ne.symm hne) hlj with h1 | h1
       ·have h2 := Cn C cl i o ho hall j h1
        have h3 := C.lt i o j _ ho hoj h1
        simp only [gl, h2]; simp; omega
       ·have h3 := C.lt j _ i o hoj ho h1
        have h4 : gl listed j = false := by
         cases h : gl listed j with
         | false => rfl
         | true =>
          have := Cn C cl j _ hoj (cl j _ hoj h) i h1
          rw [hun'] at this; cases this
        rw [h4]; simp; omega
  unfold wpOpIn
  simp only [ho]
  rw [Ct hR hgd]
  cases t with
  | true =>
   simp only [if_true] at hst ⊢
   have hop := AL.congr (E' := (stL ops loud base xs hs (gl listed)).ev) (fun x hx => (Ga hlook x hx).symm) hst
   refine hop w G a _ _ (hheap ▸ hR.rel) (fun x _ => hheap ▸ hR.ev x) ?_
   rintro v x H' G' w' ⟨rfl, rfl⟩ hv R L
   exact next v w' G' hv R L
  | false =>
   simp only [Bool.false_eq_true, if_false] at hst ⊢
   refine ⟨fun _ _ => trivial, ?_⟩
   have hRr : Rel w G (hs (i + 1)) := by rw [hst.2]; exact hheap ▸ hR.rel
   exact next undef w G (by rw [hst.1]; exact .tup [] #[] rfl (fun i x v h => by simp at h)) hRr (by rw [hst.2]; exact Am.refl _ _ _)
def EG (X : Cx) (all : Array Oper) (loud : Nat) : Nat → List Oper → (St → Prop) → St → Prop
 | _, [], Q, s => Q s
 | k, o :: os, Q, s => ∃ t x H', Ay all s.get o = some t ∧ (if t then AL X.P X.r o s.heap s.ev (one x H') else x = .tup [] ∧ H' = s.heap) ∧ (loud.testBit k = false → H' = s.heap) ∧
   EG X all loud (k + 1) os Q (s.put o.dst x H')
theorem O8 {X : Cx} {Q : St → Prop} : ∀ (os : List Oper) (k : Nat) (s : St), (∀ j, os[j]? = ops[k + j]?) → EG X ops loud k os Q s →
  ∃ (xs : Nat → V) (hs : Nat → List AB), (∀ j, j ≤ k → hs j = s.heap) ∧ (∀ i, k ≤ i → i < k + os.length → loud.testBit i = false → hs (i + 1) = hs i) ∧
   ∀ (b : Nat → List (Nat × V)), b k = s.slots → (∀ i o, k ≤ i → ops[i]? = some o → b (i + 1) = (match o.dst with | some d => EM (b i) d (xs i) | none => b i)) →
    (∀ i o, k ≤ i → ops[i]? = some o → ∃ t, Ay ops (Aw (b i)) o = some t ∧ (if t then AL X.P X.r o (hs i) (evS (Aw (b i))) (one (xs i) (hs (i + 1))) else xs i = .tup [] ∧ hs (i + 1) = hs i)) ∧
    Q { slots := b (k + os.length), heap := hs (k + os.length), marks := s.marks }
 | [], k, s, hl, h => ⟨fun _ => .c .any, fun _ => s.heap, fun _ _ => rfl, fun i h1 h2 => by simp at h2; omega, fun b hb _ => by
   refine ⟨fun i o hi ho => ?_, ?_⟩
   ·have := hl (i - k)
    rw [Nat.add_sub_cancel' hi, ho] at this
    simp at this
   ·simp only [List.length_nil, Nat.add_zero, hb]; exact h⟩
 | o :: os, k, s, hl, h => by
  obtain ⟨t, x, H', h1, h2, h3, h4⟩ := h
  have ho : ops[k]? = some o := by simpa using (hl 0).symm
  have hl' : ∀ j, os[j]? = ops[k + 1 + j]? := fun j => by have := hl (j + 1); simpa [Nat.add_assoc, Nat.add_comm 1 j] using this
  obtain ⟨xs, hs, e1, e2, e3⟩ := O8 os (k + 1) _ hl' h4
  refine ⟨fun i => if i = k then x else xs i, fun i => if i ≤ k then s.heap else hs i, fun j hj => by simp [hj], fun i hi hi2 hq => ?_, fun b hb hn => ?_⟩
  ·by_cases hik : i = k
   ·subst hik
    simp only [Nat.le_refl, if_true, show ¬ i + 1 ≤ i by omega, if_false]
    rw [e1 (i + 1) (Nat.le_refl _)]
    exact h3 hq
   ·simp only [show ¬ i ≤ k by omega, show ¬ i + 1 ≤ k by omega, if_false]
    exact e2 i (by omega) (by simp at hi2; omega) hq
  ·have hb1 : b (k + 1) = (s.put o.dst x H').slots := by
    rw [hn k o (Nat.le_refl _) ho]
    simp only [St.put, if_true, hb]
    rfl
   obtain ⟨f1, f2⟩ := e3 b hb1 (fun i o' hi ho' => by
    have := hn i o' (by omega) ho'
    simp only [show i ≠ k by omega, if_false] at this
    exact this)
   refine ⟨fun i o' hi ho' => ?_, ?_⟩
   ·by_cases hik : i = k
    ·subst hik
     obtain rfl : o' = o := Option.some.inj (ho'.symm.trans ho)
     refine ⟨t, by rw [hb]; exact h1, ?_⟩
     simp only [Nat.le_refl, if_true, show ¬ i + 1 ≤ i by omega, if_false, e1 (i + 1) (Nat.le_refl _), hb]
     exact h2
    ·obtain ⟨t', g1, g2⟩ := f1 i o' (by omega) ho'
     refine ⟨t', g1, ?_⟩
     simp only [hik, show ¬ i ≤ k by omega, show ¬ i + 1 ≤ k by omega, if_false]
     exact g2
   ·have e : k + (o :: os).length = k + 1 + os.length := by simp; omega
    rw [e]
    simp only [show ¬ k + 1 + os.length ≤ k by omega, if_false]
    exact f2
theorem Dr {X : Cx} {id : Nat} {Q : Exit → St → Prop} {s : St} (loud : Nat) (hm : X.P.follows .mixedOrders = true) (hd : C6 X.nt ops.toList = true) (hc : NU loud ops = true)
  (h : EG X ops loud 0 ops.toList (Q .normal) s) : AWP X (.region id ops true) Q s := fun bs w G a hR => by
 refine wpIn_region_any hm ?_
 obtain ⟨xs, hs, e1, e2, e3⟩ := O8 (ops := ops) ops.toList 0 s (fun j => by simp) h
 have hlen : ops.toList.length = ops.size := by simp
 obtain ⟨f1, f2⟩ := e3 (fun i => AA ops s xs (fun _ => true) i) rfl (fun i o _ ho => by
  simp only [AA, if_true, ho, Option.bind_some])
 have rn : Run X ops loud s xs hs :=
  {h0 := e1 0 (Nat.le_refl _)
   quiet := fun i hi hq => e2 i (Nat.zero_le _) (by omega) hq
   step := fun i o ho => f1 i o (Nat.zero_le _) ho }
 have C := IS hc
 have hbs : AP bs X.nb X.nt { w with drawn := w.drawn + 1 } G s a := hR.drawn
 refine TT C rn hd ?_ ops.size _ bs _ G a (by simp) ?_ ?_ (hbs.same (fun d => ?_) ?_ rfl)
 ·simp only [Nat.zero_add, hlen] at f2
  have hh : C8 hs loud (fun _ => true) ops.size = hs ops.size := by
   rw [C1 (L' := fun j => decide (j < ops.size)) ops.size (fun j hj _ => by simp [hj])]
   exact F9 rn.quiet ops.size (Nat.le_refl _) (Nat.le_refl _)
  unfold stL
  rw [hh]; exact f2
 ·intro j oj hj hl
  rw [getD_replicate_false] at hl; cases hl
 ·exact Nat.le_trans List.countP_le_length (by simp)
 ·have : ∀ n, AA ops s xs (gl (Array.replicate ops.size false)) n = s.slots := by
   intro n
   induction n with
   | zero => rfl
   | succ n ih => simp only [AA, gl, getD_replicate_false, Bool.false_eq_true, if_false]; exact ih
  show Aw (AA ops s xs (gl (Array.replicate ops.size false)) ops.size) d = Aw s.slots d
  rw [this]
 ·have : ∀ n, C8 hs loud (gl (Array.replicate ops.size false)) n = hs 0 := by
   intro n
   induction n with
   | zero => rfl
   | succ n ih => simp only [C8, gl, getD_replicate_false, Bool.false_and, Bool.false_eq_true, if_false]; exact ih
  show C8 hs loud (gl (Array.replicate ops.size false)) ops.size = s.heap
  rw [this, e1 0 (Nat.le_refl _)]
end
end Go.Abs
namespace Go.Abs
open Go
mutual
def C.low (n : Nat) : C → Bool
 | .ptr id _ => decide (id < n)
 | .own id _ => decide (id < n)
 | .ms id _ _ _ => decide (id < n)
 | .mp id => decide (id < n)
 | .yd id => decide (id < n)
 | .vs id _ => decide (id < n)
 | .vc id _ => decide (id < n)
 | .fs _ _ cs => C.lowL n cs
 | .vp id _ _ => decide (id < n)
 | .fn _ cs => C.lowL n cs
 | .mv _ x => C.low n x
 | .ma _ cs => C.lowL n cs
 | _ => true
def C.lowL (n : Nat) : List C → Bool
 | [] => true
 | c :: cs => C.low n c && C.lowL n cs
end
theorem C.lowL_get {n : Nat} : ∀ {cs : List C} {i : Nat} {x : C}, C.lowL n cs = true → cs[i]? = some x → C.low n x = true
 | c :: cs, 0, x, h, hx => by simp [C.lowL] at h hx; rw [← hx]; exact h.1
 | c :: cs, i + 1, x, h, hx => by simp [C.lowL] at h; exact C.lowL_get h.2 (by simpa using hx)
 | [], i, x, h, hx => by simp at hx
mutual
def V.low (n : Nat) : V → Bool
 | .c x => x.low n
 | .agg cs => C.lowL n cs
 | .tup vs => V.lowL n vs
def V.lowL (n : Nat) : List V → Bool
 | [] => true
 | v :: vs => V.low n v && V.lowL n vs
end
theorem V.lowL_get {n : Nat} : ∀ {cs : List V} {i : Nat} {x : V}, V.lowL n cs = true → cs[i]? = some x → V.low n x = true
 | v :: vs, 0, x, h, hx => by simp [V.lowL] at h hx; rw [← hx]; exact h.1
 | v :: vs, i + 1, x, h, hx => by simp [V.lowL] at h; exact V.lowL_get h.2 (by simpa using hx)
 | [], i, x, h, hx => by simp at hx
def AB.low (n : Nat) : AB → Bool
 | .cells cs => C.lowL n cs
 | .vec _ _ cs => C.lowL n cs
 | .mp es => es.all fun e => e.1.low n && e.2.low n
 | .mpb es _ => es.all fun e => e.1.low n && e.2.1.low n
 | .lp r => decide (r.D < n) && r.slots.all fun p => (Aw r.slots p.1).low n
 | _ => true
theorem getS_none : ∀ {l : List (Nat × V)} {i : Nat}, (∀ p ∈ l, p.1 ≠ i) → Aw l i = .c .any
 | [], _, _ => rfl
 | (j, v) :: r, i, h => by
  have h1 : j ≠ i := h (j, v) (by simp)
  simp only [Aw, if_neg h1]
  exact getS_none (fun p hp => h p (by simp [hp]))
theorem getS_low {n : Nat} (l : List (Nat × V)) (h : l.all (fun p => (Aw l p.1).low n) = true) (i : Nat) : (Aw l i).low n = true := by
 by_cases hi : ∃ p ∈ l, p.1 = i
 ·obtain ⟨p, hp, rfl⟩ := hi
  exact List.all_eq_true.1 h p hp
 ·rw [getS_none (fun p hp e => hi ⟨p, hp, e⟩)]; rfl
section
variable {w : World} {G : Gh} {H T : List AB}
theorem Ap.trunc {x : C} {v : Value} (h : Ap w G (H ++ T) x v) (hb : x.low H.length = true) : Ap w G H x v := by
 induction h with
 | any v => exact .any v
 | d x v h => exact .d x v h
 | ptr id off h => exact .ptr id off (by simpa [C.low] using hb)
 | nilp => exact .nilp
 | dp ds b o f hcell hrel => exact .dp ds b o f hcell hrel
 | full rows a n hn h => exact .full rows a n hn h
 | own id rows a n cap hid hn h hg =>
  have hlt : id < H.length := by simpa [C.low] using hb
  exact .own id rows a n cap hlt hn h (fun m sz hm => hg m sz (by rw [List.getElem?_append_left hlt]; exact hm))
 | ms id off n cap h => exact .ms id off n cap (by simpa [C.low] using hb)
 | fn f caps arr hs _ ih =>
  simp only [C.low] at hb
  exact .fn f caps arr hs (fun i x v hx hv => ih i x v hx hv (C.lowL_get hb hx))
 | mv f x v _ ih => exact .mv f x v (ih (by simpa [C.low] using hb))
 | ma f cs arr hs ho _ ih =>
  simp only [C.low] at hb
  exact .ma f cs arr hs ho (fun i x v hx hv => ih i x v hx hv (C.lowL_get hb hx))
 | mp id h => exact .mp id (by simpa [C.low] using hb)
 | yd id h => exact .yd id (by simpa [C.low] using hb)
 | gp g => exact .gp g
 | fs n sz cs b o vs hl hn hcell _ ih =>
  simp only [C.low] at hb
  exact .fs n sz cs b o vs hl hn hcell (fun i x v hx hv => ih i x v hx hv (C.lowL_get hb hx))
 | vc id n a hid ha hg =>
  have hlt : id < H.length := by simpa [C.low] using hb
  exact .vc id n a hlt ha (fun m sz cs hm => hg m sz cs (by rw [List.getElem?_append_left hlt]; exact hm))
 | vs id n a cap hid ha hg =>
  have hlt : id < H.length := by simpa [C.low] using hb
  exact .vs id n a cap hlt ha (fun m sz cs hm => hg m sz cs (by rw [List.getElem?_append_left hlt]; exact hm))
 | vp id n off a hid hg =>
  have hlt : id < H.length := by simpa [C.low] using hb
  exact .vp id n off a hlt (fun m sz cs hm => hg m sz cs (by rw [List.getElem?_append_left hlt]; exact hm))
theorem An.trunc {cs : List C} {vs : List Value} (h : An w G (H ++ T) cs vs) (hb : C.lowL H.length cs = true) : An w G H cs vs :=
 ⟨h.1, fun i x v hx hv => ⟨(h.2 i x v hx hv).1.trunc (C.lowL_get hb hx), (h.2 i x v hx hv).2⟩⟩
theorem Ag.trunc {x : V} {v : Value} (h : Ag w G (H ++ T) x v) (hb : x.low H.length = true) : Ag w G H x v := by
 induction h with
 | c x v h => exact .c x v (h.trunc (by simpa [V.low] using hb))
 | agg cs arr h => exact .agg cs arr (h.trunc (by simpa [V.low] using hb))
 | tup vs arr hs _ ih =>
  simp only [V.low] at hb
  exact .tup vs arr hs (fun i x v hx hv => ih i x v hx hv (V.lowL_get hb hx))
theorem Cq.trunc {es : List (V × V)} {rs : List MapEntry} (h : Cq w G (H ++ T) es rs) (hb : es.all (fun e => e.1.low H.length && e.2.low H.length) = true) : Cq w G H es rs :=
 ⟨h.1, fun i e r he hr => by
  have h1 := List.all_eq_true.1 hb e (List.mem_of_getElem? he)
  simp only [Bool.and_eq_true] at h1
  exact ⟨(h.2 i e r he hr).1.trunc h1.1, (h.2 i e r he hr).2.trunc h1.2⟩⟩
theorem AW.trunc {id : Nat} {x : AB} (h : AW w G (H ++ T) id x) (hb : x.low H.length = true) : AW w G H id x := by
 cases h with
 | gone => exact .gone
 | cells cs arr t hb' hr hrole hS => exact .cells cs arr t hb' (hr.trunc (by simpa [AB.low] using hb)) hrole hS
 | grow n sz a cap hg hcap h hnil => exact .grow n sz a cap hg hcap h hnil
 | vec n sz cs a cap hg hcap hl h => exact .vec n sz cs a cap hg hcap hl (fun hz => by obtain ⟨b, arr, t, h1, h2, h3, h4, h5, h6⟩ := h hz; exact ⟨b, arr, t, h1, h2, h3, h4, h5.trunc (by simpa [AB.low] using hb), h6⟩)
 | mp es rs clock hb' hr hrole => exact .mp es rs clock hb' (hr.trunc (by simpa only [AB.low] using hb)) hrole
 | mpg es rs clock hb' hok hrole => exact .mpg es rs clock hb' hok hrole
 | mpb es clock rs hb' hr hbn hrole => exact .mpb es clock rs hb' (hr.trunc (by simp only [AB.low] at hb; simp only [mpE, List.all_map]; exact hb)) hbn hrole
 | lp r fn tmps hb' hsz hD hs hrole =>
  simp only [AB.low, Bool.and_eq_true, decide_eq_true_eq] at hb
  exact .lp r fn tmps hb' hsz hb.1 (fun i => (hs i).trunc (getS_low r.slots hb.2 i)) hrole
 | df hb' hrole => exact .df hb' hrole
 | gl g ds f hc hr => exact .gl g ds f hc hr
theorem Rel.trunc (R : Rel w G (H ++ T)) (hb : H.all (AB.low H.length) = true) : Rel w G H where
 sex := R.sex
 roleLt := R.roleLt
 ab := fun id x hx => (R.ab id x (by rw [List.getElem?_append_left (List.getElem?_eq_some_iff.1 hx).1]; exact hx)).trunc (List.all_eq_true.1 hb x (List.mem_of_getElem? hx))
theorem Am.trunc {w0 : World} {G0 : Gh} {H0 : List AB} (L : Am w0 G0 H0 w G (H ++ T)) (hn : H0.length ≤ H.length) : Am w0 G0 H0 w G H where
 size := L.size
 S := L.S
 Snew := L.Snew
 len := hn
 rho := L.rho
 grow := fun id n sz hid h => L.grow id n sz hid (by rw [List.getElem?_append_left (by omega)]; exact h)
 vec := fun id n sz cs hid h => L.vec id n sz cs hid (by rw [List.getElem?_append_left (by omega)]; exact h)
 role := L.role
 frame := L.frame
 os := L.os
 out := L.out
end
inductive WkC : C → C → Prop
 | refl (x : C) : WkC x x
 | any (x : C) : WkC x .any
 | full (rows : List (List D)) : WkC (.full rows) (.d (.sl rows))
 | own (id : Nat) (rows : List (List D)) : WkC (.own id rows) (.d (.sl rows))
 | ptr (ds : List D) : WkC (.d (.ptr ds)) (.dp ds)
inductive WkCs : List C → List C → Prop
 | nil : WkCs [] []
 | cons {x y : C} {xs ys : List C} : WkC x y → WkCs xs ys → WkCs (x :: xs) (y :: ys)
inductive WkV : V → V → Prop
 | refl (x : V) : WkV x x
 | c {x y : C} : WkC x y → WkV (.c x) (.c y)
 | agg {xs ys : List C} : WkCs xs ys → WkV (.agg xs) (.agg ys)
 | any (x : V) : WkV x (.c .any)
 | tup {xs ys : List V} : xs.length = ys.length → (∀ (i : Nat) (x y : V), xs[i]? = some x → ys[i]? = some y → WkV x y) → WkV (.tup xs) (.tup ys)
inductive WkVs : List V → List V → Prop
 | nil : WkVs [] []
 | cons {x y : V} {xs ys : List V} : WkV x y → WkVs xs ys → WkVs (x :: xs) (y :: ys)
section
variable {w : World} {G : Gh} {H : List AB}
theorem WkC.rel {x y : C} {v : Value} (h : WkC x y) (hr : Ap w G H x v) : Ap w G H y v := by
 cases h with
 | refl => exact hr
 | any => exact .any v
 | full rows => cases hr with | full _ a n hn h => subst hn; exact .d _ _ h
 | own id rows => cases hr with | own _ _ a n cap hid hn h hg => subst hn; exact .d _ _ h
 | ptr ds => cases hr with | d _ _ h => cases h with | ptr _ b o f hcell hrel => exact .dp ds b o f hcell hrel
theorem WkCs.rel {xs ys : List C} (h : WkCs xs ys) : ∀ {vs : List Value}, An w G H xs vs → An w G H ys vs := by
 induction h with
 | nil => exact fun hr => hr
 | cons h0 _ ih =>
  intro vs hr
  cases vs with
  | nil => have := hr.1; simp at this
  | cons v vs =>
   have h1 := hr.2 0 _ v rfl rfl
   have h2 := ih (vs := vs) ⟨by have := hr.1; simpa using this, fun i x u hx hu => hr.2 (i + 1) x u (by simpa using hx) (by simpa using hu)⟩
   refine ⟨by simp [h2.1], fun i x u hx hu => ?_⟩
   cases i with
   | zero => simp at hx hu; subst hx; subst hu; exact ⟨h0.rel h1.1, h1.2⟩
   | succ i => exact h2.2 i x u (by simpa using hx) (by simpa using hu)
theorem WkV.rel {x y : V} {v : Value} (h : WkV x y) (hr : Ag w G H x v) : Ag w G H y v := by
 induction h generalizing v with
 | refl => exact hr
 | c h => cases hr with | c _ _ hr => exact .c _ _ (h.rel hr)
 | agg h => cases hr with | agg _ _ hr => exact .agg _ _ (h.rel hr)
 | any => exact .c _ _ (.any v)
 | tup hl _ ih =>
  cases hr with
  | tup _ arr hs hr =>
   refine .tup _ arr (by omega) (fun i y u hy hu => ?_)
   have hlt := hl ▸ (List.getElem?_eq_some_iff.1 hy).1
   exact ih i _ y (List.getElem?_eq_getElem hlt) hy (hr i _ u (List.getElem?_eq_getElem hlt) hu)
theorem WkVs.len {xs ys : List V} (h : WkVs xs ys) : xs.length = ys.length := by induction h <;> simp_all
theorem WkVs.get {xs ys : List V} (h : WkVs xs ys) : ∀ (i : Nat) (x y : V), xs[i]? = some x → ys[i]? = some y → WkV x y := by
 induction h with
 | nil => intro i x y h; simp at h
 | cons h0 _ ih =>
  intro i x y hx hy
  cases i with
  | zero => simp at hx hy; subst hx; subst hy; exact h0
  | succ i => exact ih i x y (by simpa using hx) (by simpa using hy)
end
def wkSlots (f : Nat → V) (n : Nat) : List (Nat × V) → Prop
 | [] => True
 | (i, v) :: r => WkV (f i) v ∧ v.low n = true ∧ wkSlots f n r
theorem wkSlots_get {f : Nat → V} {n : Nat} : ∀ {l : List (Nat × V)}, wkSlots f n l → ∀ i, WkV (f i) (Aw l i) ∧ (Aw l i).low n = true
 | [], _, i => ⟨.any _, rfl⟩
 | (j, v) :: r, h, i => by
  simp only [Aw]
  by_cases e : j = i
  ·subst e; simp only [if_true]; exact ⟨h.1, h.2.1⟩
  ·simp only [e, if_false]; exact wkSlots_get h.2.2 i
section
variable {X : Cx} {s s' : St}
theorem ent_weaken (T : List AB) (hh : s.heap = s'.heap ++ T) (hm : s'.marks = s.marks) (hn : X.nb ≤ s'.heap.length) (hH : s'.heap.all (AB.low s'.heap.length) = true) (hM : s.marks.all (fun id => decide (id < s'.heap.length)) = true)
  (hsl : wkSlots s.get s'.heap.length s'.slots) : Ent X s s' := fun bs w G a hR => by
 refine ⟨G, ?_⟩
 have R := hR.rel
 rw [hh] at R
 exact
  {rel := R.trunc hH
   later := by have := hR.later; rw [hh] at this; exact this.trunc (by rw [hR.base]; exact hn)
   base := hR.base
   size := hR.size
   slots := fun i => by
    obtain ⟨h1, h2⟩ := wkSlots_get hsl i
    have := h1.rel (hR.slots i)
    rw [hh] at this
    exact this.trunc h2
   defers := by rw [hm]; exact hR.defers
   marks := fun id hid => by
    rw [hm] at hid
    simpa using List.all_eq_true.1 hM id hid }
inductive FzC (id : Nat) (ds : List D) : C → C → Prop
 | ptr (off : Nat) : off ≤ ds.length → FzC id ds (.ptr id off) (.dp (ds.drop off))
 | ms (off sz n cap : Nat) : off + n * sz ≤ ds.length → n ≤ cap → n ≤ lim → FzC id ds (.ms id off n cap) (.d (.sl (BC sz n (ds.drop off))))
 | fn (f : Fn) {xs ys : List C} : xs.length = ys.length → (∀ (i : Nat) (x y : C), xs[i]? = some x → ys[i]? = some y → FzC id ds x y) → FzC id ds (.fn f xs) (.fn f ys)
 | mv (f : Fn) {x y : C} : FzC id ds x y → FzC id ds (.mv f x) (.mv f y)
 | ma (f : Fn) {xs ys : List C} : xs.length = ys.length → (∀ (i : Nat) (x y : C), xs[i]? = some x → ys[i]? = some y → FzC id ds x y) → FzC id ds (.ma f xs) (.ma f ys)
 | fs (n sz : Nat) {xs ys : List C} : xs.length = ys.length → (∀ (i : Nat) (x y : C), xs[i]? = some x → ys[i]? = some y → FzC id ds x y) → FzC id ds (.fs n sz xs) (.fs n sz ys)
 | same (x : C) : FzC id ds x x
inductive FzV (id : Nat) (ds : List D) : V → V → Prop
 | c {x y : C} : FzC id ds x y → FzV id ds (.c x) (.c y)
 | same (x : V) : FzV id ds x x
 | any (x : V) : FzV id ds x (.c .any)
def fzSlots (f : Nat → V) (id : Nat) (ds : List D) : List (Nat × V) → Prop
 | [] => True
 | (i, v) :: r => FzV id ds (f i) v ∧ fzSlots f id ds r
theorem fzSlots_get {f : Nat → V} {id : Nat} {ds : List D} : ∀ {l : List (Nat × V)}, fzSlots f id ds l → ∀ i, FzV id ds (f i) (Aw l i)
 | [], _, i => .any _
 | (j, v) :: r, h, i => by
  simp only [Aw]
  by_cases e : j = i
  ·subst e; simp only [if_true]; exact h.1
  ·simp only [e, if_false]; exact fzSlots_get h.2 i
def Gh.thaw (G : Gh) (b n : Nat) : Gh := { G with S := fun b' o => G.S b' o ∨ (b' = b ∧ o < n) }
section
variable {w : World} {G : Gh} {H : List AB} {id : Nat} {cs : List C}
theorem Am.freeze (hrole : G.role (G.rho id) = some id) (n : Nat) : Am w G H w (G.thaw (G.rho id) n) (H.set id .gone) where
 size := Nat.le_refl _
 S := fun b o h => ⟨.inl h, rfl⟩
 Snew := fun b o _ hr h => by
  rcases h with h | ⟨rfl, _⟩
  ·exact h
  ·rw [hrole] at hr; cases hr
 len := by simp
 rho := fun _ _ => rfl
 grow := fun i n sz hi h => by
  by_cases e : id = i
  ·subst e; simp [hi] at h
  ·rw [List.getElem?_set_ne e] at h; exact ⟨n, h, .inr ⟨rfl, rfl⟩⟩
 vec := fun i n sz cs hi h => by
  by_cases e : id = i
  ·subst e; simp [hi] at h
  ·rw [List.getElem?_set_ne e] at h; exact ⟨n, sz, cs, h, .inr ⟨rfl, rfl⟩⟩
 role := fun _ _ => rfl
 frame := fun _ _ _ => rfl
 os := rfl
 out := rfl
theorem toDs_get : ∀ {cs : List C} {ds : List D}, DY cs = some ds → cs.length = ds.length ∧ ∀ (i : Nat) (x : C) (y : D), cs[i]? = some x → ds[i]? = some y → toD x = some y
 | [], ds, h => by simp [DY] at h; subst h; exact ⟨rfl, fun i x y h => by simp at h⟩
 | c :: cs, ds, h => by
  simp only [DY] at h
  split at h
  ·rename_i x xs h1 h2
   cases h
   obtain ⟨e1, e2⟩ := toDs_get h2
   refine ⟨by simp [e1], fun i x' y' hx hy => ?_⟩
   cases i with
   | zero => simp at hx hy; subst hx; subst hy; exact h1
   | succ i => exact e2 i x' y' (by simpa using hx) (by simpa using hy)
  ·cases h
theorem frozen_cells {arr : Array Value} {t : TypeId} {ds : List D} (hb : w.heap[G.rho id]? = some (.cells arr t (0, 0))) (hr : An w G H cs arr.toList) (hd : DY cs = some ds) :
  arr.size = ds.length ∧ ∀ j, j < ds.length → (∃ v, w.cell? ⟨G.rho id, j, none⟩ = some v) ∧ ∀ v x, w.cell? ⟨G.rho id, j, none⟩ = some v → ds[j]? = some x → Br w G.S x v := by
 obtain ⟨e1, e2⟩ := toDs_get hd
 have hlen : arr.size = ds.length := by have := hr.1; simp at this; omega
 refine ⟨hlen, fun j hj => ?_⟩
 have hcell : ∀ j, w.cell? ⟨G.rho id, j, none⟩ = arr.toList[j]? := fun j => Cr hb j
 refine ⟨⟨arr.toList[j]'(by simpa using by omega), by rw [hcell]; simp⟩, fun v x hv hx => ?_⟩
 rw [hcell] at hv
 have hc : cs[j]? = some (cs[j]'(by omega)) := by simp
 have h1 := e2 j _ x hc hx
 have h2 := (hr.2 j _ v hc hv).1
 exact JM h1 h2
theorem Rel.freeze (R : Rel w G H) (hid : H[id]? = some (.cells cs)) {ds : List D} (hd : DY cs = some ds) :
  Rel w (G.thaw (G.rho id) ds.length) (H.set id .gone) ∧ Am w G H w (G.thaw (G.rho id) ds.length) (H.set id .gone) ∧
   ∀ j, j < ds.length → (G.thaw (G.rho id) ds.length).S (G.rho id) j ∧ (∃ v, w.cell? ⟨G.rho id, j, none⟩ = some v) ∧ ∀ v x, w.cell? ⟨G.rho id, j, none⟩ = some v → ds[j]? = some x → Br w (G.thaw (G.rho id) ds.length).S x v := by
 cases R.ab id _ hid with
 | cells _ arr t hb hr hrole hS =>
  have L := Am.freeze (w := w) (H := H) hrole ds.length
  obtain ⟨f1, f2⟩ := frozen_cells hb hr hd
  refine ⟨⟨fun b o h => ?_, R.roleLt, fun i x hx => ?_⟩, L, fun j hj => ⟨.inr ⟨rfl, hj⟩, (f2 j hj).1, fun v x hv hx => ((f2 j hj).2 v x hv hx).mono L.S⟩⟩
  ·rcases h with h | ⟨rfl, h⟩
   ·exact R.sex b o h
   ·exact (f2 o h).1
  ·by_cases e : id = i
   ·subst e
    rw [List.getElem?_set_self (List.getElem?_eq_some_iff.1 hid).1] at hx
    cases hx; exact .gone
   ·rw [List.getElem?_set_ne e] at hx
    refine AW.mono R L (List.getElem?_eq_some_iff.1 hx).1 (R.ab i x hx) (fun _ _ => rfl) (fun b o hb hs => ?_) rfl
    rcases hs with hs | ⟨rfl, _⟩
    ·exact hs
    ·rw [hrole] at hb; cases hb; exact absurd rfl e
theorem drop_get {α : Type} {ds : List α} {off j : Nat} {x : α} (h : (ds.drop off)[j]? = some x) : ds[off + j]? = some x := by
 rw [List.getElem?_drop] at h; exact h
theorem FzC.rel {G' : Gh} {H' : List AB} {ds : List D} (L : Am w G H w G' H') (f : ∀ j, j < ds.length → G'.S (G.rho id) j ∧ (∃ v, w.cell? ⟨G.rho id, j, none⟩ = some v) ∧ ∀ v x, w.cell? ⟨G.rho id, j, none⟩ = some v → ds[j]? = some x → Br w G'.S x v)
  {x y : C} (h : FzC id ds x y) : ∀ {v : Value}, Ap w G H x v → Ap w G' H' y v := by
 induction h with
 | ptr off hoff =>
  intro v hr
  cases hr
  refine .dp _ (G.rho id) off (fun j => (w.cell? ⟨G.rho id, off + j, none⟩).getD undef) (fun j hj => ?_) (fun j x hx => ?_)
  ·simp at hj
   obtain ⟨h1, ⟨u, h2⟩, _⟩ := f (off + j) (by omega)
   exact ⟨h1, by rw [h2]; rfl⟩
  ·have hlt : off + j < ds.length := (List.getElem?_eq_some_iff.1 (drop_get hx)).1
   obtain ⟨h1, ⟨u, h2⟩, h3⟩ := f (off + j) hlt
   rw [h2]
   exact h3 u x h2 (drop_get hx)
 | ms off sz n cap hle hcap hlim =>
  intro v hr
  cases hr
  have hl : (BC sz n (ds.drop off)).length = n := BW _ _ _
  have := Br.sl (w := w) (S := G'.S) (BC sz n (ds.drop off)) (G.rho id) off cap sz (fun i j => (w.cell? ⟨G.rho id, off + i * sz + j, none⟩).getD undef) (by omega) (by omega) (fun i r hr => ?_) (fun i j hi hj => ?_) (fun i j r x hr hx => ?_)
  ·rw [hl] at this; exact .d _ _ this
  ·have hi : i < n := by have := (List.getElem?_eq_some_iff.1 hr).1; omega
   rw [Dq sz n _ i hi] at hr
   cases hr
   have : (i + 1) * sz ≤ n * sz := Nat.mul_le_mul_right _ (by omega)
   rw [Nat.succ_mul] at this
   simp; omega
  ·have hi' : i < n := by omega
   have : (i + 1) * sz ≤ n * sz := Nat.mul_le_mul_right _ (by omega)
   rw [Nat.succ_mul] at this
   obtain ⟨h1, ⟨u, h2⟩, _⟩ := f (off + i * sz + j) (by omega)
   exact ⟨h1, by rw [h2]; rfl⟩
  ·have hi : i < n := by have := (List.getElem?_eq_some_iff.1 hr).1; omega
   rw [Dq sz n _ i hi] at hr
   cases hr
   rw [List.getElem?_take] at hx
   split at hx
   ·rename_i hj
    have hx' := drop_get (drop_get hx)
    have e : off + (i * sz + j) = off + i * sz + j := by omega
    rw [e] at hx'
    obtain ⟨h1, ⟨u, h2⟩, h3⟩ := f (off + i * sz + j) (List.getElem?_eq_some_iff.1 hx').1
    rw [h2]
    exact h3 u x h2 hx'
   ·cases hx
 | fn g hlen _ ih =>
  intro v hr
  cases hr with
  | fn _ _ arr hs hc =>
   refine .fn g _ arr (by omega) (fun i y u hy hu => ?_)
   have hlt : i < _ := (List.getElem?_eq_some_iff.1 hy).1
   have hx : (_ : List C)[i]? = some _ := List.getElem?_eq_getElem (hlen ▸ hlt)
   exact ih i _ y hx hy (hc i _ u hx hu)
 | mv g _ ih =>
  intro v hr
  cases hr with
  | mv _ _ u hc => exact .mv g _ u (ih hc)
 | ma g hlen _ ih =>
  intro v hr
  cases hr with
  | ma _ _ arr hs ho hc =>
   refine .ma g _ arr (by omega) ho (fun i y u hy hu => ?_)
   have hlt : i < _ := (List.getElem?_eq_some_iff.1 hy).1
   have hx : (_ : List C)[i]? = some _ := List.getElem?_eq_getElem (hlen ▸ hlt)
   exact ih i _ y hx hy (hc i _ u hx hu)
 | fs n sz hlen _ ih =>
  intro v hr
  cases hr with
  | fs _ _ _ b o vs hl hn hcell hc =>
   refine .fs n sz _ b o vs (by omega) (by omega) (fun j u hu => ?_) (fun i y u hy hu => ?_)
   ·obtain ⟨⟨h1, h2⟩, h3⟩ := hcell j u hu
    exact ⟨⟨(L.S _ _ h1).1, h2⟩, h3⟩
   ·have hlt : i < _ := (List.getElem?_eq_some_iff.1 hy).1
    have hx : (_ : List C)[i]? = some _ := List.getElem?_eq_getElem (hlen ▸ hlt)
    exact ih i _ y hx hy (hc i _ u hx hu)
 | same x => intro v hr; exact hr.mono L
end
theorem ent_freeze (id : Nat) {cs : List C} {ds : List D} (hid : s.heap[id]? = some (.cells cs)) (hd : DY cs = some ds) (hm : s'.marks = s.marks) (hh : s'.heap = s.heap.set id .gone) (hsl : fzSlots s.get id ds s'.slots) : Ent X s s' :=
 fun bs w G a hR => by
 obtain ⟨R', L, f⟩ := hR.rel.freeze hid hd
 refine ⟨G.thaw (G.rho id) ds.length, ?_⟩
 rw [← hh] at R' L
 exact
  {rel := R'
   later := hR.later.trans L
   base := hR.base
   size := hR.size
   slots := fun i => by
    have h0 := hR.slots i
    have h1 := fzSlots_get hsl i
    generalize s.get i = x at h0 h1
    show Ag w _ _ (Aw s'.slots i) _
    generalize Aw s'.slots i = y at h1
    cases h1 with
    | c h => cases h0 with | c _ _ h0 => exact .c _ _ (h.rel L f h0)
    | same => exact h0.mono L
    | any => exact .c _ _ (.any _)
   defers := by
    obtain ⟨hs, hh, e⟩ := hR.defers
    exact ⟨hs, hh.mono L, by rw [hm, e]; rfl⟩
   marks := fun i hi => by rw [hm] at hi; exact Nat.lt_of_lt_of_le (hR.marks i hi) L.len }
theorem ent_own (j sz : Nat) {rows : List (List D)} (hj : s.get j = .c (.full rows)) : Ent X s { slots := EM s.slots j (.c (.own s.heap.length rows)), heap := s.heap ++ [.grow rows.length sz], marks := s.marks } := fun bs w G a hR => by
 have h0 := hR.slots j
 rw [hj] at h0
 generalize hv0 : a.tmps.getD j undef = v0 at h0
 cases h0 with
 | c _ _ h0 =>
  cases h0 with
  | full _ ad n hn h =>
   have L : Am w G s.heap w { G with g := upd G.g s.heap.length (ad, n) } (s.heap ++ [.grow rows.length sz]) :=
    {size := Nat.le_refl _
     S := fun b o h => ⟨h, rfl⟩
     Snew := fun b o _ _ h => h
     len := by simp
     rho := fun _ _ => rfl
     grow := fun i m z hi h => by
      rw [List.getElem?_append_left hi] at h
      exact ⟨m, h, .inr ⟨rfl, AJ _ _ (by omega)⟩⟩
     vec := fun i m z cs hi h => by
      rw [List.getElem?_append_left hi] at h
      exact ⟨m, z, cs, h, .inr ⟨rfl, AJ _ _ (by omega)⟩⟩
     role := fun _ _ => rfl
     frame := fun _ _ _ => rfl
     os := rfl
     out := rfl }
   have R' : Rel w { G with g := upd G.g s.heap.length (ad, n) } (s.heap ++ [.grow rows.length sz]) :=
    {sex := hR.rel.sex
     roleLt := hR.rel.roleLt
     ab := fun i x hx => by
      by_cases hi : i < s.heap.length
      ·rw [List.getElem?_append_left hi] at hx
       exact AW.mono hR.rel L hi (hR.rel.ab i x hx) (fun _ _ => rfl) (fun _ _ _ h => h) (AJ _ _ (by omega))
      ·have hlt := (List.getElem?_eq_some_iff.1 hx).1
       simp at hlt
       obtain rfl : i = s.heap.length := by omega
       rw [List.getElem?_append_right (Nat.le_refl _)] at hx
       simp at hx
       subst hx
       refine .grow rows.length sz ad n (Ao _ _ _) (by omega) (fun x _ hlt => absurd hlt (by omega)) (fun e => ?_)
       subst e
       cases h with
       | emp => rfl }
   refine ⟨{ G with g := upd G.g s.heap.length (ad, n) }, ?_⟩
   exact
    {rel := R'
     later := hR.later.trans L
     base := hR.base
     size := hR.size
     slots := fun i => by
      show Ag w _ _ (Aw (EM s.slots j _) i) _
      rw [Bv]
      by_cases e : j = i
      ·subst e
       rw [if_pos rfl, hv0]
       refine .c _ _ (.own _ rows ad n n (by simp) hn h (fun m z hm => ?_))
       rw [List.getElem?_append_right (Nat.le_refl _)] at hm
       simp at hm
       obtain ⟨rfl, rfl⟩ := hm
       exact ⟨Nat.le_refl _, fun _ => Ao _ _ _⟩
      ·rw [if_neg e]; exact (hR.slots i).mono L
     defers := by
      obtain ⟨hs, hh, e⟩ := hR.defers
      exact ⟨hs, hh.mono L, e⟩
     marks := fun i hi => Nat.lt_of_lt_of_le (hR.marks i hi) L.len }
end
end Go.Abs
