/- Code over abstract states: the rules of the walk. -/
import Derived.Test.YtklmpopomokglaaAbs3
set_option linter.unusedSimpArgs false
set_option linter.unusedVariables false
namespace Go.Abs
open Go

structure St where
  slots : List (Nat × V)
  heap : List AB
  marks : List Nat

def setS : List (Nat × V) → Nat → V → List (Nat × V)
  | [], j, x => [(j, x)]
  | (i, v) :: r, j, x => if i = j then (i, x) :: r else (i, v) :: setS r j x

theorem getS_setS : ∀ (l : List (Nat × V)) (j : Nat) (x : V) (k : Nat), getS (setS l j x) k = if j = k then x else getS l k
  | [], j, x, k => by simp [setS, getS]
  | (i, v) :: r, j, x, k => by
    simp only [setS]
    by_cases h : i = j
    · subst h
      simp only [if_true, getS]
      by_cases h2 : i = k <;> simp [h2]
    · simp only [h, if_false, getS, getS_setS r j x k]
      by_cases h2 : i = k
      · subst h2; simp [Ne.symm h]
      · simp [h2]

def St.put (s : St) (dst : Option Nat) (x : V) (H : List AB) : St :=
  { slots := match dst with | some j => setS s.slots j x | none => s.slots, heap := H, marks := s.marks }

def ofVal : Value → V
  | .int k n => .c (.d (.int k n))
  | .bool b => .c (.d (.bool b))
  | .slice none 0 0 => .c (.full [])
  | .pointer none => .c .nilp
  | _ => .c .any

def evS (f : Nat → V) : Operand → V
  | .tmp t => f t
  | .const v => ofVal v
  | .func g => .c (.fn (.func g) [])
  | .global _ => .c .any

def St.get (s : St) : Nat → V := getS s.slots
def St.ev (s : St) : Operand → V := evS s.get

theorem ofVal_rel {w : World} {G : Gh} {H : List AB} (v : Value) : VRel w G H (ofVal v) v := by
  unfold ofVal
  split
  · exact .c _ _ (.d _ _ (.int _ _))
  · exact .c _ _ (.d _ _ (.bool _))
  · exact .c _ _ (.full [] none 0 rfl (.emp none 0))
  · exact .c _ _ .nilp
  · exact .c _ _ (.any _)

structure Base where
  w : World
  G : Gh
  H : List AB

def markOf (G : Gh) (id : Nat) : Deferred := { target := .collected (G.rho id), args := #[] }

/-- An activation in a world stands for an abstract state. -/
structure RelSt (bs : Base) (nb nt : Nat) (w : World) (G : Gh) (s : St) (a : Act) : Prop where
  rel : Rel w G s.heap
  later : Later bs.w bs.G bs.H w G s.heap
  base : bs.H.length = nb
  size : a.tmps.size = nt
  slots : ∀ i, VRel w G s.heap (s.get i) (a.tmps.getD i undef)
  defers : a.defers = s.marks.map (markOf G)
  marks : ∀ id, id ∈ s.marks → id < s.heap.length

theorem RelSt.ev {bs : Base} {nb nt : Nat} {w : World} {G : Gh} {s : St} {a : Act} (h : RelSt bs nb nt w G s a) (x : Operand) : VRel w G s.heap (s.ev x) (a.eval x) := by
  cases x with
  | tmp t => exact h.slots t
  | const v => exact ofVal_rel v
  | global g => exact .c _ _ (.any _)
  | func f => exact .c _ _ (.fn _ [] #[] rfl (fun i x v h => by simp at h))

abbrev Wd (r : Option Nat) : Fence := { Fence.wide with round := r }

structure Cx where
  P : Program
  tt : Nat → Option TI
  r : Option Nat
  nb : Nat
  nt : Nat

def AWP (X : Cx) (c : Code) (Q : Exit → St → Prop) (s : St) : Prop :=
  ∀ (bs : Base) (w : World) (G : Gh) (a : Act), RelSt bs X.nb X.nt w G s a →
    c.wpIn (Wd X.r) 0 X.P (fun e a' w' => ∃ s' G', Q e s' ∧ RelSt bs X.nb X.nt w' G' s' a') a w

section
variable {X : Cx} {Q : Exit → St → Prop} {s : St}

theorem AWP.mono {c : Code} {Q' : Exit → St → Prop} (h : AWP X c Q s) (hq : ∀ e s, Q e s → Q' e s) : AWP X c Q' s :=
  fun bs w G a hR => wpIn_mono (h bs w G a hR) fun _ _ _ ⟨s', G', h1, h2⟩ => ⟨s', G', hq _ _ h1, h2⟩

/-- The same activation, told otherwise. -/
def Ent (X : Cx) (s s' : St) : Prop := ∀ bs w G a, RelSt bs X.nb X.nt w G s a → ∃ G', RelSt bs X.nb X.nt w G' s' a

theorem AWP.ent {c : Code} {s' : St} (h : Ent X s s') (k : AWP X c Q s') : AWP X c Q s := fun bs w G a hR => by
  obtain ⟨G', hR'⟩ := h bs w G a hR
  exact k bs w G' a hR'

def thenQ (K : St → Prop) (Q : Exit → St → Prop) : Exit → St → Prop
  | .normal, s => K s
  | e, s => Q e s

theorem awp_skip (h : Q .normal s) : AWP X .skip Q s := fun _ _ G _ hR => wpIn_skip ⟨s, G, h, hR⟩
theorem awp_label {l : Nat} (h : Q .normal s) : AWP X (.label l) Q s := fun _ _ G _ hR => wpIn_label ⟨s, G, h, hR⟩
theorem awp_exit {id : Nat} (h : Q (.exit id) s) : AWP X (.exit id) Q s := fun _ _ G _ hR => wpIn_exit ⟨s, G, h, hR⟩
theorem awp_ret (h : Q .ret s) : AWP X .ret Q s := fun _ _ G _ hR => wpIn_ret ⟨s, G, h, hR⟩

theorem awp_seq {x y : Code} (h : AWP X x (thenQ (AWP X y Q) Q) s) : AWP X (.seq x y) Q s := fun bs w G a hR => by
  refine wpIn_seq (wpIn_mono (h bs w G a hR) ?_)
  rintro e a' w' ⟨s', G', hq, hR'⟩
  cases e with
  | normal => exact hq bs w' G' a' hR'
  | _ => exact ⟨s', G', hq, hR'⟩

/-- A sequence, met again in the middle. -/
theorem awp_seq_cut {x y : Code} (K : St → Prop) (h : AWP X x (thenQ K Q) s) (k : ∀ s', K s' → AWP X y Q s') : AWP X (.seq x y) Q s :=
  awp_seq (h.mono fun e s' hq => by cases e <;> first | exact k _ hq | exact hq)

theorem awp_cond {c : Operand} {x y : Code} {t : Bool} (hc : s.ev c = .c (.d (.bool t))) (ht : t = true → AWP X x Q s) (hf : t = false → AWP X y Q s) : AWP X (.cond c x y) Q s := fun bs w G a hR => by
  have hv := hR.ev c
  rw [hc] at hv
  obtain ⟨b, hb⟩ : ∃ b, a.eval c = .bool b ∧ b = t := by
    cases hv with
    | c _ _ h =>
      cases h with
      | d _ _ h =>
        generalize hv : a.eval c = v at h
        cases h with
        | bool b => exact ⟨_, rfl, rfl⟩
  obtain ⟨hb, rfl⟩ := hb
  exact wpIn_cond_split hb (fun e => ht e bs w G a hR) (fun e => hf e bs w G a hR)

def blockQ (id : Nat) (Q : Exit → St → Prop) : Exit → St → Prop
  | .exit id', s => if id' = id then Q .normal s else Q (.exit id') s
  | e, s => Q e s

theorem awp_block {id : Nat} {c : Code} (h : AWP X c (blockQ id Q) s) : AWP X (.block id c) Q s := fun bs w G a hR => by
  refine wpIn_block (wpIn_mono (h bs w G a hR) ?_)
  rintro e a' w' ⟨s', G', hq, hR'⟩
  cases e with
  | exit id' =>
    simp only [blockQ] at hq
    simp only [Exit.inBlock]
    split <;> rename_i he
    · simp only [he, if_true] at hq; exact ⟨s', G', hq, hR'⟩
    · simp only [he, if_false] at hq; exact ⟨s', G', hq, hR'⟩
  | _ => exact ⟨s', G', hq, hR'⟩

theorem stepR_scope' {P : Program} {b : Frame} {a : Act} {k : List Item} {cs : List Frame} {w : World} {c : Code} :
    step P (lone (b.atR a (.code (.scope c) :: k)) cs w) = .next (lone (b.atR a (.code c :: .inScope c :: k)) cs w) :=
  step_lone_go (by simp [stepG, stepG.exec, Frame.atR])
theorem stepR_inScope' {P : Program} {b : Frame} {a : Act} {k : List Item} {cs : List Frame} {w : World} {c : Code} : step P (lone (b.atR a (.inScope c :: k)) cs w) = .next (lone (b.atR a k) cs w) :=
  step_lone_go (by simp [stepG, stepG.exec, Frame.atR])

def noGoto (Q : Exit → St → Prop) : Exit → St → Prop
  | .goto _, _ => False
  | e, s => Q e s

/-- A scope that nobody leaves, or goes round in, by a goto. -/
theorem awp_scope {c : Code} (h : AWP X c (noGoto Q) s) : AWP X (.scope c) Q s := fun bs w G a hR => by
  intro b k cs hro hb hr
  have h0 : (lone (b.atR a (.code (.scope c) :: k)) cs w).fenced X.P (Wd X.r) := fenced_calm hb hr rfl
  obtain ⟨e, a₁, w₁, ⟨s', G', hq, hR'⟩, harr⟩ := h bs w G a hR b (.inScope c :: k) cs hro hb hr
  cases e with
  | normal => exact ⟨.normal, a₁, w₁, ⟨s', G', hq, hR'⟩, .head h0 stepR_scope' (StepsIn.trans harr (.one (fenced_calm hb hr rfl) stepR_inScope'))⟩
  | exit id' =>
    have hx : exitTo id' (.inScope c :: k) = exitTo id' k := by simp [exitTo]
    exact ⟨.exit id', a₁, w₁, ⟨s', G', hq, hR'⟩, fun k' hk => .head h0 stepR_scope' (harr.1 k' (by rw [hx]; exact hk)),
      fun hr' hk => let ⟨k₁, h1, h2⟩ := harr.2 hr' (by rw [hx]; exact hk); ⟨k₁, h1, .head h0 stepR_scope' h2⟩⟩
  | goto l => exact hq.elim
  | ret => exact ⟨_, a₁, w₁, ⟨s', G', hq, hR'⟩, .of_steps (.one h0 stepR_scope') harr⟩
  | panic ch => exact ⟨_, a₁, w₁, ⟨s', G', hq, hR'⟩, .of_steps (.one h0 stepR_scope') harr⟩
  | outgrown => exact ⟨_, a₁, w₁, ⟨s', G', hq, hR'⟩, .of_steps (.one h0 stepR_scope') harr⟩

theorem wpIn_loop_rel {F : Fence} {n : Nat} {P : Program} {Q : Exit → Act → World → Prop} {a : Act} {w : World} {c : Code} (J : Nat → Act → World → Prop) (m : Nat) (h₀ : J m a w)
    (round : ∀ m a w, J m a w → c.wpIn F n P (Exit.then (fun a' w' => ∃ k, k < m ∧ J k a' w') Q) a w) : (Code.loop c).wpIn F n P Q a w := by
  intro b k cs hro hb hr
  have key : ∀ j a w, J j a w →
      ∃ e a' w', Q e a' w' ∧ ArrivesIn (Machine.fenced P F) P (lone (b.atR a (.code c :: .inLoop c :: k)) cs w) b k cs e a' w' := by
    intro j
    induction j using Nat.strongRecOn with
    | _ j ih =>
      intro a w hI
      obtain ⟨e, a₁, w₁, hq, harr⟩ := round j a w hI b (.inLoop c :: k) cs hro hb hr
      cases e with
      | normal =>
        obtain ⟨j', hlt, hI₁⟩ := hq
        obtain ⟨e₂, a₂, w₂, hq₂, harr₂⟩ := ih j' hlt a₁ w₁ hI₁
        exact ⟨e₂, a₂, w₂, hq₂, .of_steps (StepsIn.trans harr (.one (fenced_calm hb hr rfl) stepR_inLoop)) harr₂⟩
      | exit id => exact ⟨_, a₁, w₁, hq, .pass (x := .inLoop c) rfl (fun _ _ => .inl (by simp)) harr⟩
      | goto l => exact ⟨_, a₁, w₁, hq, .pass (x := .inLoop c) rfl (fun _ _ => .inl (by simp)) harr⟩
      | ret => exact ⟨_, a₁, w₁, hq, .pass (x := .inLoop c) rfl (fun _ _ => .inl (by simp)) harr⟩
      | panic ch => exact ⟨_, a₁, w₁, hq, .pass (x := .inLoop c) rfl (fun _ _ => .inl (by simp)) harr⟩
      | outgrown => exact ⟨_, a₁, w₁, hq, .pass (x := .inLoop c) rfl (fun _ _ => .inl (by simp)) harr⟩
  obtain ⟨e, a', w', hq, harr⟩ := key m a w h₀
  exact ⟨e, a', w', hq, .of_steps (.one (fenced_calm hb hr rfl) stepR_loop) harr⟩

/-- A loop: what holds at the head, with a number that every round lowers. -/
theorem awp_loop {c : Code} (I : Nat → St → Prop) (m : Nat) (h0 : I m s) (round : ∀ m s, I m s → AWP X c (thenQ (fun s' => ∃ k, k < m ∧ I k s') Q) s) : AWP X (.loop c) Q s := fun bs w G a hR => by
  refine wpIn_loop_rel (fun m a w => ∃ s G, I m s ∧ RelSt bs X.nb X.nt w G s a) m ⟨s, G, h0, hR⟩ ?_
  rintro m a w ⟨s, G, hI, hR⟩
  refine wpIn_mono (round m s hI bs w G a hR) ?_
  rintro e a' w' ⟨s', G', hq, hR'⟩
  cases e with
  | normal => obtain ⟨k, hk, hI'⟩ := hq; exact ⟨k, hk, s', G', hI', hR'⟩
  | _ => exact ⟨s', G', hq, hR'⟩

/-- The same state, in which fewer things are told. -/
theorem Ent.refl : Ent X s s := fun _ _ G _ h => ⟨G, h⟩
theorem Ent.trans {s s1 s2 : St} (a : Ent X s s1) (b : Ent X s1 s2) : Ent X s s2 := fun bs w G x h => by
  obtain ⟨G1, h1⟩ := a bs w G x h
  exact b bs w G1 x h1
end

/-! ### A region whose order is told -/
def guardOf (all : Array Oper) (g : Nat → V) (o : Oper) : Option Bool :=
  match o.guard with
  | none => some true
  | some (j, t) =>
    match (all[j]?).bind (·.dst) with
    | some d => match g d with
      | .c (.d (.bool b)) => some (b == t)
      | .tup [] => some false
      | _ => none
    | none => none

def AOps (X : Cx) (all : Array Oper) : List Oper → (St → Prop) → St → Prop
  | [], Q, s => Q s
  | o :: os, Q, s =>
    match guardOf all s.get o with
    | some true => OpAt X.P X.r o s.heap s.ev fun x H' => AOps X all os Q (s.put o.dst x H')
    | some false => AOps X all os Q (s.put o.dst (.tup []) s.heap)
    | none => False

theorem getD_set {tm : Array Value} {d : Nat} {v : Value} (i : Nat) : (tm.setIfInBounds d v).getD i undef = if d = i ∧ d < tm.size then v else tm.getD i undef := by
  by_cases h : d = i
  · subst h
    by_cases hd : d < tm.size
    · simp [hd]
    · simp [hd]
  · simp [h]

theorem RelSt.put {bs : Base} {nb nt : Nat} {w w' : World} {G G' : Gh} {s : St} {a : Act} {dst : Option Nat} {x : V} {v : Value} {H' : List AB} (h : RelSt bs nb nt w G s a)
    (hx : VRel w' G' H' x v) (R : Rel w' G' H') (L : Later w G s.heap w' G' H') (hd : ∀ d, dst = some d → d < nt) : RelSt bs nb nt w' G' (s.put dst x H') (a.put dst v) where
  rel := R
  later := h.later.trans L
  base := h.base
  size := by cases dst <;> simp [Act.put, h.size]
  slots := fun i => by
    cases dst with
    | none => exact (h.slots i).mono L
    | some d =>
      have hd' := hd d rfl
      simp only [St.get, St.put, getS_setS, Act.put, getD_set, h.size, hd', and_true]
      by_cases e : d = i
      · simp only [e, if_true]; exact hx
      · simp only [e, if_false]; exact (h.slots i).mono L
  defers := by
    have : (a.put dst v).defers = a.defers := by cases dst <;> rfl
    rw [this, h.defers]
    refine List.map_congr_left fun id hid => ?_
    simp only [markOf, L.rho id (h.marks id hid)]
  marks := fun id hid => Nat.lt_of_lt_of_le (h.marks id hid) L.len

theorem wanted_of_guard {bs : Base} {nb nt : Nat} {w : World} {G : Gh} {s : St} {a : Act} {all : Array Oper} {o : Oper} (h : RelSt bs nb nt w G s a) {t : Bool} (hg : guardOf all s.get o = some t) :
    Region.wanted o (yielded all a.tmps) = t := by
  unfold guardOf at hg
  unfold Region.wanted
  cases ho : o.guard with
  | none => simp only [ho] at hg; simpa using hg
  | some g =>
    obtain ⟨j, want⟩ := g
    simp only [ho] at hg
    cases hd : (all[j]?).bind (·.dst) with
    | none => simp [hd] at hg
    | some d =>
      simp only [hd] at hg
      have hv := h.slots d
      unfold yielded
      simp only [hd, Option.bind_some]
      split at hg
      · rename_i b hb
        rw [hb] at hv
        have e : a.tmps[d]? = some (.bool b) := by
          cases hv with
          | c _ _ hv =>
            cases hv with
            | d _ _ hv =>
              generalize hu : a.tmps.getD d undef = u at hv
              cases hv with
              | bool =>
                cases he : a.tmps[d]? with
                | none => simp [Array.getD_eq_getD_getElem?, he, undef] at hu
                | some y => simp [Array.getD_eq_getD_getElem?, he] at hu; rw [hu]
        simp [e] at hg ⊢
        exact hg
      · rename_i hb
        rw [hb] at hv
        simp at hg
        subst hg
        have e : a.tmps[d]?.getD undef = .tuple #[] := by
          generalize hu : a.tmps.getD d undef = u at hv
          cases hv with
          | tup _ arr hs _ =>
            rw [Array.getD_eq_getD_getElem?] at hu
            rw [hu]
            congr 1
            exact Array.eq_empty_of_size_eq_zero (by simpa using hs)
        cases he : a.tmps[d]? with
        | none => simp
        | some y => simp [he] at e; subst e; simp
      · cases hg

section
variable {X : Cx} {s : St} {all : Array Oper}
theorem aops_sound (hall : ∀ (i : Nat) (o : Oper), all[i]? = some o → ∀ d, o.dst = some d → d < X.nt) {Q : Exit → St → Prop} : ∀ (os : List Oper) (k : Nat) (s : St) (bs : Base) (w : World) (G : Gh) (a : Act),
    (∀ j, os[j]? = all[k + j]?) → RelSt bs X.nb X.nt w G s a → AOps X all os (Q .normal) s →
    wpOpsIn (Wd X.r) 0 X.P all (fun e a' w' => ∃ s' G', Q e s' ∧ RelSt bs X.nb X.nt w' G' s' a') (List.range' k os.length) a w
  | [], k, s, bs, w, G, a, _, hR, h => by simpa [wpOpsIn] using ⟨s, h, G, hR⟩
  | o :: os, k, s, bs, w, G, a, hl, hR, h => by
    have ho : all[k]? = some o := by simpa using (hl 0).symm
    have hl' : ∀ j, os[j]? = all[k + 1 + j]? := fun j => by have := hl (j + 1); simpa [Nat.add_assoc, Nat.add_comm 1 j] using this
    simp only [List.length_cons, List.range'_succ, wpOpsIn, ho]
    simp only [AOps] at h
    cases hg : guardOf all s.get o with
    | none => simp [hg] at h
    | some t =>
      rw [wanted_of_guard hR hg]
      cases t with
      | true =>
        simp only [hg] at h
        simp only [if_true]
        refine h w G a _ _ hR.rel (fun x _ => hR.ev x) ?_
        intro v x H' G' w' hpo hv R L
        exact aops_sound hall os (k + 1) _ bs w' G' _ hl' (hR.put hv R L (hall k o ho)) hpo
      | false =>
        simp only [hg] at h
        simp only [Bool.false_eq_true, if_false]
        refine ⟨fun _ _ => trivial, ?_⟩
        exact aops_sound hall os (k + 1) _ bs w G _ hl' (hR.put (x := .tup []) (v := undef) (.tup [] #[] rfl (fun i x v h => by simp at h)) hR.rel (Later.refl _ _ _) (hall k o ho)) h

def dstsB (nt : Nat) (ops : List Oper) : Bool := ops.all fun o => match o.dst with | some d => decide (d < nt) | none => true

theorem awp_region {id : Nat} {ops : Array Oper} {Q : Exit → St → Prop} (hd : dstsB X.nt ops.toList = true) (h : AOps X ops ops.toList (Q .normal) s) : AWP X (.region id ops false) Q s := fun bs w G a hR => by
  refine wpIn_region ?_
  have := aops_sound (X := X) (all := ops) (Q := Q) (fun i o ho d hod => by
    simp only [dstsB, List.all_eq_true] at hd
    have hm : o ∈ ops.toList := Array.mem_toList_iff.2 (Array.mem_of_getElem? ho)
    have := hd o hm
    simpa [hod] using this) ops.toList 0 s bs w G a (fun j => by simp) hR h
  simpa [List.range_eq_range'] using this
end
end Go.Abs
