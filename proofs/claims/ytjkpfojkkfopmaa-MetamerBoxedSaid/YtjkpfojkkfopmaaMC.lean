/- Code over abstract states: the rules of the walk. -/
import Derived.Test.YtjkpfojkkfopmaaMA
import Derived.Test.YtjkpfojkkfopmaaMB
import Derived.StillTail
set_option linter.unusedSimpArgs false
set_option linter.unusedVariables false
namespace Go.Abs
open Go

structure St where
  slots : List (Nat × V)
  heap : List AB
  marks : List Nat

def setS : List (Nat × V) → Nat → V → List (Nat × V)
  | [], j, x => [(j, x)]
  | (i, v) :: r, j, x => if i = j then (i, x) :: r else (i, v) :: setS r j x

theorem getS_setS : ∀ (l : List (Nat × V)) (j : Nat) (x : V) (k : Nat), getS (setS l j x) k = if j = k then x else getS l k
  | [], j, x, k => by simp [setS, getS]
  | (i, v) :: r, j, x, k => by
    simp only [setS]
    by_cases h : i = j
    · subst h
      simp only [if_true, getS]
      by_cases h2 : i = k <;> simp [h2]
    · simp only [h, if_false, getS, getS_setS r j x k]
      by_cases h2 : i = k
      · subst h2; simp [Ne.symm h]
      · simp [h2]

def St.put (s : St) (dst : Option Nat) (x : V) (H : List AB) : St :=
  { slots := match dst with | some j => setS s.slots j x | none => s.slots, heap := H, marks := s.marks }

def ofVal : Value → V
  | .int k n => .c (.d (.int k n))
  | .bool b => .c (.d (.bool b))
  | .slice none 0 0 => .c (.full [])
  | .pointer none => .c .nilp
  | _ => .c .any

def evS (f : Nat → V) : Operand → V
  | .tmp t => f t
  | .const v => ofVal v
  | .func g => .c (.fn (.func g) [])
  | .global g => .c (.gp g)

def St.get (s : St) : Nat → V := getS s.slots
def St.ev (s : St) : Operand → V := evS s.get

theorem ofVal_rel {w : World} {G : Gh} {H : List AB} (v : Value) : VRel w G H (ofVal v) v := by
  unfold ofVal
  split
  · exact .c _ _ (.d _ _ (.int _ _))
  · exact .c _ _ (.d _ _ (.bool _))
  · exact .c _ _ (.full [] none 0 rfl (.emp none 0))
  · exact .c _ _ .nilp
  · exact .c _ _ (.any _)

structure Base where
  w : World
  G : Gh
  H : List AB

def markOf (G : Gh) (id : Nat) : Deferred := { target := .collected (G.rho id), args := #[] }

def hidOf (b : Nat) : Deferred := { target := .collected b, args := #[] }
/-- Marks of ranges that are over: blocks of no one, which hold nothing. -/
structure Hid (bs : Base) (w : World) (G : Gh) (hs : List Nat) : Prop where
  nd : hs.Nodup
  at' : ∀ b, b ∈ hs → bs.w.heap.size ≤ b ∧ b < w.heap.size ∧ G.role b = none ∧ w.heap[b]? = some (.deferred (some []))
theorem Hid.nil (bs : Base) (w : World) (G : Gh) : Hid bs w G [] := ⟨.nil, fun b h => by simp at h⟩
theorem Hid.mono {bs : Base} {w w' : World} {G G' : Gh} {H H' : List AB} {hs : List Nat} (h : Hid bs w G hs) (L : Later w G H w' G' H') : Hid bs w' G' hs :=
  ⟨h.nd, fun b hb => by
    obtain ⟨h1, h2, h3, h4⟩ := h.at' b hb
    exact ⟨h1, Nat.lt_of_lt_of_le h2 L.size, (L.role b h2).trans h3, (L.frame b h2 h3).trans h4⟩⟩
/-- An activation in a world stands for an abstract state. -/
structure RelSt (bs : Base) (nb nt : Nat) (w : World) (G : Gh) (s : St) (a : Act) : Prop where
  rel : Rel w G s.heap
  later : Later bs.w bs.G bs.H w G s.heap
  base : bs.H.length = nb
  size : a.tmps.size = nt
  slots : ∀ i, VRel w G s.heap (s.get i) (a.tmps.getD i undef)
  defers : ∃ hs, Hid bs w G hs ∧ a.defers = s.marks.map (markOf G) ++ hs.map hidOf
  marks : ∀ id, id ∈ s.marks → id < s.heap.length

theorem RelSt.ev {bs : Base} {nb nt : Nat} {w : World} {G : Gh} {s : St} {a : Act} (h : RelSt bs nb nt w G s a) (x : Operand) : VRel w G s.heap (s.ev x) (a.eval x) := by
  cases x with
  | tmp t => exact h.slots t
  | const v => exact ofVal_rel v
  | global g => exact .c _ _ (.gp g)
  | func f => exact .c _ _ (.fn _ [] #[] rfl (fun i x v h => by simp at h))

abbrev Wd (r : Option Nat) : Fence := { Fence.wide with round := r }

structure Cx where
  P : Program
  tt : Nat → Option TI
  r : Option Nat
  nb : Nat
  nt : Nat

def AWP (X : Cx) (c : Code) (Q : Exit → St → Prop) (s : St) : Prop :=
  ∀ (bs : Base) (w : World) (G : Gh) (a : Act), RelSt bs X.nb X.nt w G s a →
    c.wpIn (Wd X.r) 0 X.P (fun e a' w' => ∃ s' G', Q e s' ∧ RelSt bs X.nb X.nt w' G' s' a') a w

section
variable {X : Cx} {Q : Exit → St → Prop} {s : St}

theorem AWP.mono {c : Code} {Q' : Exit → St → Prop} (h : AWP X c Q s) (hq : ∀ e s, Q e s → Q' e s) : AWP X c Q' s :=
  fun bs w G a hR => wpIn_mono (h bs w G a hR) fun _ _ _ ⟨s', G', h1, h2⟩ => ⟨s', G', hq _ _ h1, h2⟩

/-- The same activation, told otherwise. -/
def Ent (X : Cx) (s s' : St) : Prop := ∀ bs w G a, RelSt bs X.nb X.nt w G s a → ∃ G', RelSt bs X.nb X.nt w G' s' a

theorem AWP.ent {c : Code} {s' : St} (h : Ent X s s') (k : AWP X c Q s') : AWP X c Q s := fun bs w G a hR => by
  obtain ⟨G', hR'⟩ := h bs w G a hR
  exact k bs w G' a hR'

def thenQ (K : St → Prop) (Q : Exit → St → Prop) : Exit → St → Prop
  | .normal, s => K s
  | e, s => Q e s

theorem awp_skip (h : Q .normal s) : AWP X .skip Q s := fun _ _ G _ hR => wpIn_skip ⟨s, G, h, hR⟩
theorem awp_label {l : Nat} (h : Q .normal s) : AWP X (.label l) Q s := fun _ _ G _ hR => wpIn_label ⟨s, G, h, hR⟩
theorem awp_exit {id : Nat} (h : Q (.exit id) s) : AWP X (.exit id) Q s := fun _ _ G _ hR => wpIn_exit ⟨s, G, h, hR⟩
theorem awp_ret (h : Q .ret s) : AWP X .ret Q s := fun _ _ G _ hR => wpIn_ret ⟨s, G, h, hR⟩

theorem awp_seq {x y : Code} (h : AWP X x (thenQ (AWP X y Q) Q) s) : AWP X (.seq x y) Q s := fun bs w G a hR => by
  refine wpIn_seq (wpIn_mono (h bs w G a hR) ?_)
  rintro e a' w' ⟨s', G', hq, hR'⟩
  cases e with
  | normal => exact hq bs w' G' a' hR'
  | _ => exact ⟨s', G', hq, hR'⟩

/-- A sequence, met again in the middle. -/
theorem awp_seq_cut {x y : Code} (K : St → Prop) (h : AWP X x (thenQ K Q) s) (k : ∀ s', K s' → AWP X y Q s') : AWP X (.seq x y) Q s :=
  awp_seq (h.mono fun e s' hq => by cases e <;> first | exact k _ hq | exact hq)

theorem awp_cond {c : Operand} {x y : Code} {t : Bool} (hc : s.ev c = .c (.d (.bool t))) (ht : t = true → AWP X x Q s) (hf : t = false → AWP X y Q s) : AWP X (.cond c x y) Q s := fun bs w G a hR => by
  have hv := hR.ev c
  rw [hc] at hv
  obtain ⟨b, hb⟩ : ∃ b, a.eval c = .bool b ∧ b = t := by
    cases hv with
    | c _ _ h =>
      cases h with
      | d _ _ h =>
        generalize hv : a.eval c = v at h
        cases h with
        | bool b => exact ⟨_, rfl, rfl⟩
  obtain ⟨hb, rfl⟩ := hb
  exact wpIn_cond_split hb (fun e => ht e bs w G a hR) (fun e => hf e bs w G a hR)

def blockQ (id : Nat) (Q : Exit → St → Prop) : Exit → St → Prop
  | .exit id', s => if id' = id then Q .normal s else Q (.exit id') s
  | e, s => Q e s

theorem awp_block {id : Nat} {c : Code} (h : AWP X c (blockQ id Q) s) : AWP X (.block id c) Q s := fun bs w G a hR => by
  refine wpIn_block (wpIn_mono (h bs w G a hR) ?_)
  rintro e a' w' ⟨s', G', hq, hR'⟩
  cases e with
  | exit id' =>
    simp only [blockQ] at hq
    simp only [Exit.inBlock]
    split <;> rename_i he
    · simp only [he, if_true] at hq; exact ⟨s', G', hq, hR'⟩
    · simp only [he, if_false] at hq; exact ⟨s', G', hq, hR'⟩
  | _ => exact ⟨s', G', hq, hR'⟩

theorem stepR_scope' {P : Program} {b : Frame} {a : Act} {k : List Item} {cs : List Frame} {w : World} {c : Code} :
    step P (lone (b.atR a (.code (.scope c) :: k)) cs w) = .next (lone (b.atR a (.code c :: .inScope c :: k)) cs w) :=
  step_lone_go (by simp [stepG, stepG.exec, Frame.atR])
theorem stepR_inScope' {P : Program} {b : Frame} {a : Act} {k : List Item} {cs : List Frame} {w : World} {c : Code} : step P (lone (b.atR a (.inScope c :: k)) cs w) = .next (lone (b.atR a k) cs w) :=
  step_lone_go (by simp [stepG, stepG.exec, Frame.atR])

def noGoto (Q : Exit → St → Prop) : Exit → St → Prop
  | .goto _, _ => False
  | e, s => Q e s

/-- A scope that nobody leaves, or goes round in, by a goto. -/
theorem awp_scope {c : Code} (h : AWP X c (noGoto Q) s) : AWP X (.scope c) Q s := fun bs w G a hR => by
  intro b k cs hro hb hr
  have h0 : (lone (b.atR a (.code (.scope c) :: k)) cs w).fenced X.P (Wd X.r) := fenced_calm hb hr rfl
  obtain ⟨e, a₁, w₁, ⟨s', G', hq, hR'⟩, harr⟩ := h bs w G a hR b (.inScope c :: k) cs hro hb hr
  cases e with
  | normal => exact ⟨.normal, a₁, w₁, ⟨s', G', hq, hR'⟩, .head h0 stepR_scope' (StepsIn.trans harr (.one (fenced_calm hb hr rfl) stepR_inScope'))⟩
  | exit id' =>
    have hx : exitTo id' (.inScope c :: k) = exitTo id' k := by simp [exitTo]
    exact ⟨.exit id', a₁, w₁, ⟨s', G', hq, hR'⟩, fun k' hk => .head h0 stepR_scope' (harr.1 k' (by rw [hx]; exact hk)),
      fun hr' hk => let ⟨k₁, h1, h2⟩ := harr.2 hr' (by rw [hx]; exact hk); ⟨k₁, h1, .head h0 stepR_scope' h2⟩⟩
  | goto l => exact hq.elim
  | ret => exact ⟨_, a₁, w₁, ⟨s', G', hq, hR'⟩, .of_steps (.one h0 stepR_scope') harr⟩
  | panic ch => exact ⟨_, a₁, w₁, ⟨s', G', hq, hR'⟩, .of_steps (.one h0 stepR_scope') harr⟩
  | outgrown => exact ⟨_, a₁, w₁, ⟨s', G', hq, hR'⟩, .of_steps (.one h0 stepR_scope') harr⟩

theorem wpIn_loop_rel {F : Fence} {n : Nat} {P : Program} {Q : Exit → Act → World → Prop} {a : Act} {w : World} {c : Code} (J : Nat → Act → World → Prop) (m : Nat) (h₀ : J m a w)
    (round : ∀ m a w, J m a w → c.wpIn F n P (Exit.then (fun a' w' => ∃ k, k < m ∧ J k a' w') Q) a w) : (Code.loop c).wpIn F n P Q a w := by
  intro b k cs hro hb hr
  have key : ∀ j a w, J j a w →
      ∃ e a' w', Q e a' w' ∧ ArrivesIn (Machine.fenced P F) P (lone (b.atR a (.code c :: .inLoop c :: k)) cs w) b k cs e a' w' := by
    intro j
    induction j using Nat.strongRecOn with
    | _ j ih =>
      intro a w hI
      obtain ⟨e, a₁, w₁, hq, harr⟩ := round j a w hI b (.inLoop c :: k) cs hro hb hr
      cases e with
      | normal =>
        obtain ⟨j', hlt, hI₁⟩ := hq
        obtain ⟨e₂, a₂, w₂, hq₂, harr₂⟩ := ih j' hlt a₁ w₁ hI₁
        exact ⟨e₂, a₂, w₂, hq₂, .of_steps (StepsIn.trans harr (.one (fenced_calm hb hr rfl) stepR_inLoop)) harr₂⟩
      | exit id => exact ⟨_, a₁, w₁, hq, .pass (x := .inLoop c) rfl (fun _ _ => .inl (by simp)) harr⟩
      | goto l => exact ⟨_, a₁, w₁, hq, .pass (x := .inLoop c) rfl (fun _ _ => .inl (by simp)) harr⟩
      | ret => exact ⟨_, a₁, w₁, hq, .pass (x := .inLoop c) rfl (fun _ _ => .inl (by simp)) harr⟩
      | panic ch => exact ⟨_, a₁, w₁, hq, .pass (x := .inLoop c) rfl (fun _ _ => .inl (by simp)) harr⟩
      | outgrown => exact ⟨_, a₁, w₁, hq, .pass (x := .inLoop c) rfl (fun _ _ => .inl (by simp)) harr⟩
  obtain ⟨e, a', w', hq, harr⟩ := key m a w h₀
  exact ⟨e, a', w', hq, .of_steps (.one (fenced_calm hb hr rfl) stepR_loop) harr⟩

/-- A loop: what holds at the head, with a number that every round lowers. -/
theorem awp_loop {c : Code} (I : Nat → St → Prop) (m : Nat) (h0 : I m s) (round : ∀ m s, I m s → AWP X c (thenQ (fun s' => ∃ k, k < m ∧ I k s') Q) s) : AWP X (.loop c) Q s := fun bs w G a hR => by
  refine wpIn_loop_rel (fun m a w => ∃ s G, I m s ∧ RelSt bs X.nb X.nt w G s a) m ⟨s, G, h0, hR⟩ ?_
  rintro m a w ⟨s, G, hI, hR⟩
  refine wpIn_mono (round m s hI bs w G a hR) ?_
  rintro e a' w' ⟨s', G', hq, hR'⟩
  cases e with
  | normal => obtain ⟨k, hk, hI'⟩ := hq; exact ⟨k, hk, s', G', hI', hR'⟩
  | _ => exact ⟨s', G', hq, hR'⟩

/-- The same state, in which fewer things are told. -/
theorem Ent.refl : Ent X s s := fun _ _ G _ h => ⟨G, h⟩
theorem Ent.trans {s s1 s2 : St} (a : Ent X s s1) (b : Ent X s1 s2) : Ent X s s2 := fun bs w G x h => by
  obtain ⟨G1, h1⟩ := a bs w G x h
  exact b bs w G1 x h1
end

/-! ### A region whose order is told -/
def guardOf (all : Array Oper) (g : Nat → V) (o : Oper) : Option Bool :=
  match o.guard with
  | none => some true
  | some (j, t) =>
    match (all[j]?).bind (·.dst) with
    | some d => match g d with
      | .c (.d (.bool b)) => some (b == t)
      | .tup [] => some false
      | _ => none
    | none => none

def AOps (X : Cx) (all : Array Oper) : List Oper → (St → Prop) → St → Prop
  | [], Q, s => Q s
  | o :: os, Q, s =>
    match guardOf all s.get o with
    | some true => OpAt X.P X.r o s.heap s.ev fun x H' => AOps X all os Q (s.put o.dst x H')
    | some false => AOps X all os Q (s.put o.dst (.tup []) s.heap)
    | none => False

theorem getD_set {tm : Array Value} {d : Nat} {v : Value} (i : Nat) : (tm.setIfInBounds d v).getD i undef = if d = i ∧ d < tm.size then v else tm.getD i undef := by
  by_cases h : d = i
  · subst h
    by_cases hd : d < tm.size
    · simp [hd]
    · simp [hd]
  · simp [h]

theorem RelSt.put {bs : Base} {nb nt : Nat} {w w' : World} {G G' : Gh} {s : St} {a : Act} {dst : Option Nat} {x : V} {v : Value} {H' : List AB} (h : RelSt bs nb nt w G s a)
    (hx : VRel w' G' H' x v) (R : Rel w' G' H') (L : Later w G s.heap w' G' H') (hd : ∀ d, dst = some d → d < nt) : RelSt bs nb nt w' G' (s.put dst x H') (a.put dst v) where
  rel := R
  later := h.later.trans L
  base := h.base
  size := by cases dst <;> simp [Act.put, h.size]
  slots := fun i => by
    cases dst with
    | none => exact (h.slots i).mono L
    | some d =>
      have hd' := hd d rfl
      simp only [St.get, St.put, getS_setS, Act.put, getD_set, h.size, hd', and_true]
      by_cases e : d = i
      · simp only [e, if_true]; exact hx
      · simp only [e, if_false]; exact (h.slots i).mono L
  defers := by
    have : (a.put dst v).defers = a.defers := by cases dst <;> rfl
    obtain ⟨hs, hh, e⟩ := h.defers
    refine ⟨hs, hh.mono L, ?_⟩
    rw [this, e]
    congr 1
    refine List.map_congr_left fun id hid => ?_
    simp only [markOf, L.rho id (h.marks id hid)]
  marks := fun id hid => Nat.lt_of_lt_of_le (h.marks id hid) L.len

theorem wanted_of_guard {bs : Base} {nb nt : Nat} {w : World} {G : Gh} {s : St} {a : Act} {all : Array Oper} {o : Oper} (h : RelSt bs nb nt w G s a) {t : Bool} (hg : guardOf all s.get o = some t) :
    Region.wanted o (yielded all a.tmps) = t := by
  unfold guardOf at hg
  unfold Region.wanted
  cases ho : o.guard with
  | none => simp only [ho] at hg; simpa using hg
  | some g =>
    obtain ⟨j, want⟩ := g
    simp only [ho] at hg
    cases hd : (all[j]?).bind (·.dst) with
    | none => simp [hd] at hg
    | some d =>
      simp only [hd] at hg
      have hv := h.slots d
      unfold yielded
      simp only [hd, Option.bind_some]
      split at hg
      · rename_i b hb
        rw [hb] at hv
        have e : a.tmps[d]? = some (.bool b) := by
          cases hv with
          | c _ _ hv =>
            cases hv with
            | d _ _ hv =>
              generalize hu : a.tmps.getD d undef = u at hv
              cases hv with
              | bool =>
                cases he : a.tmps[d]? with
                | none => simp [Array.getD_eq_getD_getElem?, he, undef] at hu
                | some y => simp [Array.getD_eq_getD_getElem?, he] at hu; rw [hu]
        simp [e] at hg ⊢
        exact hg
      · rename_i hb
        rw [hb] at hv
        simp at hg
        subst hg
        have e : a.tmps[d]?.getD undef = .tuple #[] := by
          generalize hu : a.tmps.getD d undef = u at hv
          cases hv with
          | tup _ arr hs _ =>
            rw [Array.getD_eq_getD_getElem?] at hu
            rw [hu]
            congr 1
            exact Array.eq_empty_of_size_eq_zero (by simpa using hs)
        cases he : a.tmps[d]? with
        | none => simp
        | some y => simp [he] at e; subst e; simp
      · cases hg

section
variable {X : Cx} {s : St} {all : Array Oper}
theorem aops_sound (hall : ∀ (i : Nat) (o : Oper), all[i]? = some o → ∀ d, o.dst = some d → d < X.nt) {Q : Exit → St → Prop} : ∀ (os : List Oper) (k : Nat) (s : St) (bs : Base) (w : World) (G : Gh) (a : Act),
    (∀ j, os[j]? = all[k + j]?) → RelSt bs X.nb X.nt w G s a → AOps X all os (Q .normal) s →
    wpOpsIn (Wd X.r) 0 X.P all (fun e a' w' => ∃ s' G', Q e s' ∧ RelSt bs X.nb X.nt w' G' s' a') (List.range' k os.length) a w
  | [], k, s, bs, w, G, a, _, hR, h => by simpa [wpOpsIn] using ⟨s, h, G, hR⟩
  | o :: os, k, s, bs, w, G, a, hl, hR, h => by
    have ho : all[k]? = some o := by simpa using (hl 0).symm
    have hl' : ∀ j, os[j]? = all[k + 1 + j]? := fun j => by have := hl (j + 1); simpa [Nat.add_assoc, Nat.add_comm 1 j] using this
    simp only [List.length_cons, List.range'_succ, wpOpsIn, ho]
    simp only [AOps] at h
    cases hg : guardOf all s.get o with
    | none => simp [hg] at h
    | some t =>
      rw [wanted_of_guard hR hg]
      cases t with
      | true =>
        simp only [hg] at h
        simp only [if_true]
        refine h w G a _ _ hR.rel (fun x _ => hR.ev x) ?_
        intro v x H' G' w' hpo hv R L
        exact aops_sound hall os (k + 1) _ bs w' G' _ hl' (hR.put hv R L (hall k o ho)) hpo
      | false =>
        simp only [hg] at h
        simp only [Bool.false_eq_true, if_false]
        refine ⟨fun _ _ => trivial, ?_⟩
        exact aops_sound hall os (k + 1) _ bs w G _ hl' (hR.put (x := .tup []) (v := undef) (.tup [] #[] rfl (fun i x v h => by simp at h)) hR.rel (Later.refl _ _ _) (hall k o ho)) h

def dstsB (nt : Nat) (ops : List Oper) : Bool := ops.all fun o => match o.dst with | some d => decide (d < nt) | none => true

theorem awp_region {id : Nat} {ops : Array Oper} {Q : Exit → St → Prop} (hd : dstsB X.nt ops.toList = true) (h : AOps X ops ops.toList (Q .normal) s) : AWP X (.region id ops false) Q s := fun bs w G a hR => by
  refine wpIn_region ?_
  have := aops_sound (X := X) (all := ops) (Q := Q) (fun i o ho d hod => by
    simp only [dstsB, List.all_eq_true] at hd
    have hm : o ∈ ops.toList := Array.mem_toList_iff.2 (Array.mem_of_getElem? ho)
    have := hd o hm
    simpa [hod] using this) ops.toList 0 s bs w G a (fun j => by simp) hR h
  simpa [List.range_eq_range'] using this
end
end Go.Abs
/- One operation's step, as a function on abstract states; it is right. -/
namespace Go.Abs
open Go

def vIte (t : Bool) (a b : V) : V :=
  match a, b with
  | .c (.d (.bool x)), .c (.d (.bool y)) => B (bif t then x else y)
  | _, _ => if t then a else b

def consOf : List V → Option (List C)
  | [] => some []
  | .c x :: r => (consOf r).map (x :: ·)
  | _ => none

def bound (E : Operand → V) (a : Option Operand) (n : Int) : Option Int :=
  match a with
  | some x => match E x with
    | .c (.d (.int _ m)) => some m
    | _ => none
  | none => some n

/-- What a package-level variable holds that a block of the heap tells. -/
def glOf : List AB → Nat → Option (List D)
  | [], _ => none
  | .gl g' ds :: r, g => if g' = g then some ds else glOf r g
  | _ :: r, g => glOf r g
theorem glOf_at : ∀ {H : List AB} {g : Nat} {ds : List D}, glOf H g = some ds → AB.gl g ds ∈ H
  | [], g, ds, h => by simp [glOf] at h
  | x :: r, g, ds, h => by
    cases x with
    | gl g' ds' =>
      simp only [glOf] at h
      split at h
      · rename_i e; subst e; cases h; simp
      · exact List.mem_cons_of_mem _ (glOf_at h)
    | _ => exact List.mem_cons_of_mem _ (glOf_at (by simpa [glOf] using h))
theorem glOf_rel {w : World} {G : Gh} {H : List AB} {g : Nat} {ds : List D} (R : Rel w G H) (h : glOf H g = some ds) : CRel w G H (.dp ds) (.pointer (some ⟨g, 0, none⟩)) := by
  obtain ⟨id, hid⟩ := List.getElem?_of_mem (glOf_at h)
  cases R.ab id _ hid with
  | gl _ _ f hc hr => exact .dp ds g 0 f (fun j hj => by simpa using hc j hj) hr

/-- How a slice is appended to. -/
inductive VecK where
  | none
  | new
  | old (id n : Nat)
  | cut (id n : Nat)
def vecS (vm : Bool) : C → VecK
  | .vs id n => .old id n
  | .vc id n => .cut id n
  | .full [] => match vm with | true => .new | false => .none
  | _ => .none
theorem vecS_old {vm : Bool} {c : C} {id n : Nat} (h : vecS vm c = .old id n) : c = .vs id n := by
  unfold vecS at h
  split at h
  · cases h; rfl
  · cases h
  · cases vm <;> cases h
  · cases h
theorem vecS_cut {vm : Bool} {c : C} {id n : Nat} (h : vecS vm c = .cut id n) : c = .vc id n := by
  unfold vecS at h
  split at h
  · cases h
  · cases h; rfl
  · cases vm <;> cases h
  · cases h
theorem vecS_new {vm : Bool} {c : C} (h : vecS vm c = .new) : c = .full [] := by
  unfold vecS at h
  split at h
  · cases h
  · cases h
  · rfl
  · cases h

/-- A slice that is not nil, beside the constant nil. -/
def nilOp : Operand → Bool
  | .const (.slice none 0 0) => true
  | _ => false
def sureC : C → Bool
  | .ms _ _ _ _ => true
  | .d (.sl (_ :: _)) => true
  | .full (_ :: _) => true
  | .vs _ (_ + 1) => true
  | _ => false
def nilS (X : Tx) (op : BinOp) (t : Nat) (x : V) (y : Operand) : Option V :=
  match x, nilOp y with
  | .c c, true => match X.tt t with
    | some i => match i.desc with
      | .slice _ => match sureC c, op with
        | true, .eql => some (B false)
        | true, .neq => some (B true)
        | _, _ => none
      | _ => none
    | none => none
  | _, _ => none
theorem sureC_rel {w : World} {G : Gh} {H : List AB} {c : C} {v : Value} (h : sureC c = true) (hr : CRel w G H c v) : ∃ x n cap, v = .slice (some x) n cap := by
  unfold sureC at h
  split at h
  · cases hr; exact ⟨_, _, _, rfl⟩
  · cases hr with
    | d _ _ hr => cases hr; exact ⟨_, _, _, rfl⟩
  · cases hr with
    | full _ a n hn hr => cases hr; exact ⟨_, _, _, rfl⟩
  · cases hr with
    | vs _ _ a cap hid ha hg =>
      obtain ⟨x, rfl⟩ := ha.2 (by omega)
      exact ⟨_, _, _, rfl⟩
  · cases h
theorem yields_nil {X : Tx} {w : World} {G : Gh} {H : List AB} {op : BinOp} {t : Nat} {x y : Operand} {p z : V} {v : Value} (R : Rel w G H) (hp : VRel w G H p v) (h : nilS X op t p y = some z) :
    Yields X.P (do eqGuard op t x y v (.slice none 0 0); binOp op t v (.slice none 0 0)) w G H z H := by
  unfold nilS at h
  split at h
  · rename_i c hn
    split at h
    · rename_i i hi
      split at h
      · rename_i e hd
        have hu := X.ok.desc_at hi hd rfl
        cases hp with
        | c _ _ hp =>
          have key : ∀ b, sureC c = true → z = B b → (op = .eql ∧ b = false ∨ op = .neq ∧ b = true) → Yields X.P (do eqGuard op t x y v (.slice none 0 0); binOp op t v (.slice none 0 0)) w G H z H := fun b hs hz ho => by
            obtain ⟨a, n, cap, rfl⟩ := sureC_rel hs hp
            have he : (Op.equalIn 10000 t (.slice (some a) n cap) (.slice none 0 0)).run X.P w = .ok false w := by
              have key : ∀ d, (Op.equalIn (d + 1) t (.slice (some a) n cap) (.slice none 0 0)).run X.P w = .ok false w := fun d => by
                simp only [Op.equalIn, Sem.run_bind, Go.run_underlying hu, Result.andThen_ok, Sem.run_pure]
              exact key 9999
            have hg : (eqGuard op t x y (.slice (some a) n cap) (.slice none 0 0)).run X.P w = .ok () w := by
              rcases ho with ⟨rfl, _⟩ | ⟨rfl, _⟩ <;> simp [eqGuard]
            subst hz
            refine Yields.still R (v := .bool b) ?_ (.c _ _ (.d _ _ (.bool _)))
            rcases ho with ⟨rfl, rfl⟩ | ⟨rfl, rfl⟩ <;> simp [hg, binOp, Op.equal, Op.maxDepth, he]
          split at h
          · rename_i hs; cases h; exact key false hs rfl (.inl ⟨rfl, rfl⟩)
          · rename_i hs; cases h; exact key true hs rfl (.inr ⟨rfl, rfl⟩)
          · cases h
      · cases h
    · cases h
  · cases h

def op1 (X : Tx) (H : List AB) (E : Operand → V) (op : Op) : Option (Bool × V × List AB) :=
  match op with
  | .move x | .assign x => some (true, E x, H)
  | .pick c a b => match E c with
    | .c (.d (.bool t)) => some (true, vIte t (E a) (E b), H)
    | _ => none
  | .alloc t => match X.tt t with
    | some i => some (true, .c (.ptr H.length 0), H ++ [.cells i.zero.cs])
    | none => none
  | .box _ x => some ((E x).solid, .c (.ptr H.length 0), H ++ [.cells (E x).cs])
  | .load t x => match X.tt t, E x with
    | some i, .c (.ptr id off) => match H[id]? with
      | some (.cells cs) => some (decide (off + i.size ≤ cs.length), mkV i cs off, H)
      | _ => none
    | some i, .c (.vp id n off) => match H[id]? with
      | some (.vec m _ cs) => some (decide (n = m) && decide (0 < i.size) && decide (off + i.size ≤ cs.length), mkV i cs off, H)
      | _ => none
    | some i, .c (.dp ds) => some (decide (i.size ≤ ds.length), mkV i (ds.map .d) 0, H)
    | some i, .c (.gp g) => match glOf H g with
      | some ds => some (decide (i.size ≤ ds.length), mkV i (ds.map .d) 0, H)
      | none => none
    | _, _ => none
  | .store t a x => match X.tt t, E a with
    | some i, .c (.ptr id off) => match H[id]? with
      | some (.cells cs) => some ((E x).solid && decide ((E x).cs.length = i.size) && decide (off + i.size ≤ cs.length), .c .any, H.set id (.cells (setMany cs off (E x).cs)))
      | _ => none
    | some i, .c (.vp id n off) => match H[id]? with
      | some (.vec m sz cs) => some (decide (n = m) && decide (0 < i.size) && (E x).solid && decide ((E x).cs.length = i.size) && decide (off + i.size ≤ cs.length), .c .any, H.set id (.vec m sz (setMany cs off (E x).cs)))
      | _ => none
    | _, _ => none
  | .nilCheck x => match E x with
    | .c (.ptr id off) => some (true, .c (.ptr id off), H)
    | .c (.dp ds) => some (true, .c (.dp ds), H)
    | .c (.fn (.func f) cs) => some (true, .c (.fn (.func f) cs), H)
    | _ => none
  | .binOp op t x y _ => match binV X op t (E x) (E y) with
    | some (c, z) => some (c, z, H)
    | none => match nilS X op t (E x) y with
      | some z => some (true, z, H)
      | none => none
  | .unOp u _ x => match u, E x with
    | .not, .c (.d (.bool b)) => some (true, B (!b), H)
    | .neg, .c (.d (.int k n)) => some (true, .c (.d (.int k (wr k (-n)))), H)
    | _, _ => none
  | .convert s t x => match X.tt s, X.tt t, E x with
    | some _, some j, .c (.d (.int _ n)) => match j.desc with
      | .int k => some (true, .c (.d (.int k (wr k n))), H)
      | _ => none
    | _, _, _ => none
  | .makeFunc f first caps => if first.isEmpty then match consOf (caps.toList.map E) with
    | some cs => some (true, .c (.fn f cs), H)
    | none => none
    else match first.toList.map E, caps.isEmpty with
    | [.c x], true => some (true, .c (.mv f x), H)
    | [.agg cs], true => some (true, .c (.ma f cs), H)
    | _, _ => none
  | .makeMap _ none => some (true, .c (.mp H.length), H ++ [.mp []])
  | .makeSlice t l c => match X.tt t, E l, E c with
    | some i, .c (.d (.int _ n)), .c (.d (.int _ m)) => match i.desc with
      | .slice e => match X.tt e with
        | some j => some (decide (0 ≤ n) && decide (n ≤ m) && decide ((j.bytes : Int) * m ≤ 140737488355328) && decide (m ≤ lim), .c (.ms H.length 0 n.toNat m.toNat), H ++ [.cells (zc j.zero.cs m.toNat)])
        | none => none
      | _ => none
    | _, _, _ => none
  | .fieldAddr t x f => match X.tt t with
    | some i => match i.desc with
      | .struct fs => match fs[f]? with
        | some fd => match X.tt fd.type, E x with
          | some j, .c (.ptr id off) => some (!(j.size == 0), .c (.ptr id (off + fd.offset)), H)
          | some j, .c (.dp ds) => some (!(j.size == 0), .c (.dp (ds.drop fd.offset)), H)
          | some j, .c (.vp id n off) => some (!(j.size == 0), .c (.vp id n (off + fd.offset)), H)
          | _, _ => none
        | none => none
      | _ => none
    | none => none
  | .field t x f => match X.tt t with
    | some i => match i.desc with
      | .struct fs => match fs[f]? with
        | some fd => match X.tt fd.type, E x with
          | some j, .agg cs => some (decide (fd.offset + j.size ≤ cs.length), mkV j cs fd.offset, H)
          | _, _ => none
        | none => none
      | _ => none
    | none => none
  | .indexAddr t x y => match X.tt t, E y with
    | some i, .c (.d (.int _ n)) => match i.desc with
      | .array len e => match X.tt e, E x with
        | some j, .c (.ptr id off) => some (decide (0 ≤ n) && decide (n < len), .c (.ptr id (off + n.toNat * j.size)), H)
        | some j, .c (.dp ds) => some (decide (0 ≤ n) && decide (n < len), .c (.dp (ds.drop (n.toNat * j.size))), H)
        | _, _ => none
      | .slice e => match X.tt e, E x with
        | some j, .c (.ms id off len _) => some (decide (0 ≤ n) && decide (n < len), .c (.ptr id (off + n.toNat * j.size)), H)
        | some j, .c (.vs id m) => some (decide (0 ≤ n) && decide (n < m), .c (.vp id m (n.toNat * j.size)), H)
        | some j, .c x => match rowsOf x with
          | some rows => some (decide (0 ≤ n) && decide (n < rows.length) && decide ((rows[n.toNat]?.getD []).length = j.size), .c (.dp (rows[n.toNat]?.getD [])), H)
          | none => none
        | _, _ => none
      | _ => none
    | _, _ => none
  | .index t x y => match X.tt t, E y with
    | some i, .c (.d (.int _ n)) => match i.desc with
      | .array len e => match X.tt e, E x with
        | some j, .agg cs => some (decide (0 ≤ n) && decide (n < len) && decide (n.toNat * j.size + j.size ≤ cs.length), mkV j cs (n.toNat * j.size), H)
        | _, _ => none
      | _ => none
    | _, _ => none
  | .extract x n => match E x with
    | .tup vs => match vs[n]? with
      | some v => some (true, v, H)
      | none => none
    | _ => none
  | .build t parts => match X.tt t with
    | some i => match i.desc with
      | .struct fs => match fillC (placeS X.tt fs) i.zero.cs (parts.toList.map fun p => (p.1, E p.2)) with
        | some cs => some (fs.toList.all (fun f => (X.tt f.type).isSome), .agg cs, H)
        | none => none
      | .array _ e => match X.tt e with
        | some j => match fillC (fun k => some (k * j.size, j.size)) i.zero.cs (parts.toList.map fun p => (p.1, E p.2)) with
          | some cs => some (true, .agg cs, H)
          | none => none
        | none => none
      | _ => none
    | none => none
  | .buildSlice t n parts => match X.tt t with
    | some i => match i.desc with
      | .slice e => match X.tt e with
        | some j => match fillC (fun k => some (k * j.size, j.size)) (zc j.zero.cs n) (parts.toList.map fun p => (p.1, E p.2)) with
          | some cs => match toDs cs with
            | some ds => some (decide (n * j.size ≤ 16777216) && decide (n ≤ lim), .c (.full (chunk j.size n ds)), H)
            | none => some (decide (0 < n * j.size) && decide (n * j.size ≤ 16777216), .c (.fs n j.size cs), H)
          | none => none
        | none => none
      | _ => none
    | none => none
  | .slice t x lo hi mx => match X.tt t with
    | some i => match i.desc with
      | .array n e => match X.tt e, lo, hi, mx, E x with
        | some _, none, none, none, .c (.ptr id off) => some (true, .c (.ms id off n n), H)
        | some j, lo, hi, mx, .c (.ptr id off) => match bound E lo 0, bound E hi n, bound E mx n with
          | some l, some h, some m => some (decide (0 ≤ l) && decide (l ≤ h) && decide (h ≤ m) && decide (m ≤ n) && (mx.isNone || hi.isSome), .c (cutMs j.size id off l.toNat h.toNat m.toNat), H)
          | _, _, _ => none
        | _, _, _, _, _ => none
      | .slice e => match X.tt e, E x with
        | some j, .c (.ms id off len cap) => match bound E lo 0, bound E hi len, bound E mx cap with
          | some l, some h, some m => some (decide (0 ≤ l) && decide (l ≤ h) && decide (h ≤ m) && decide (m ≤ cap) && (mx.isNone || hi.isSome), .c (cutMs j.size id off l.toNat h.toNat m.toNat), H)
          | _, _, _ => none
        | some _, .c (.vs id n) => match bound E lo 0, bound E hi 0, bound E mx 0 with
          | some l, some h, some m => some (decide (l = 0) && decide (h = n) && decide (m = n) && hi.isSome && mx.isSome, .c (.vc id n), H)
          | _, _, _ => none
        | some j, .c x => match rowsOf x with
          | some rows =>
            match bound E lo 0, bound E hi rows.length with
            | some l, some h =>
              match mx with
              | none => some (decide (0 ≤ l) && decide (l ≤ h) && decide (h ≤ rows.length) && rows.all (fun r => r.length == j.size), .c (.d (.sl ((rows.take h.toNat).drop l.toNat))), H)
              | some b => match E b with
                | .c (.d (.int _ m)) => some (decide (0 ≤ l) && decide (l ≤ h) && decide (h ≤ rows.length) && decide (m = h) && hi.isSome && rows.all (fun r => r.length == j.size), .c (.full ((rows.take h.toNat).drop l.toNat)), H)
                | _ => none
            | _, _ => none
          | none => none
        | _, _ => none
      | _ => none
    | none => none
  | .lookup t m k ok => match X.tt t, E m with
    | some i, .c (.mp id) => match i.desc, H[id]? with
      | .map kt et, some (.mp es) => match X.tt et, findE (E k) es 0 with
        | some j, some o => some (keyOk X kt (E k), lookV ok j o, H)
        | _, _ => none
      | _, _ => none
    | _, _ => none
  | .mapUpdate t m k x => match X.tt t, E m with
    | some i, .c (.mp id) => match i.desc, H[id]? with
      | .map kt _, some (.mp es) => match findE (E k) es 0 with
        | some o => some (keyOk X kt (E k), .c .any, H.set id (.mp (updE (E k) (E x) es o)))
        | none => none
      | _, _ => none
    | _, _ => none
  | .call { callee := .builtin b, args := as, argTypes := ts } =>
    match b, ts.toList, as.toList.map E with
    | .len, [t], [x] => match X.tt t with
      | some i => match i.desc, x with
        | .slice _, .c c => match lenV c with
          | some n => some (true, I n, H)
          | none => none
        | .array n _, _ => some (true, I n, H)
        | .map _ _, .c (.mp id) => match H[id]? with
          | some (.mp es) => some (true, I es.length, H)
          | _ => none
        | _, _ => none
      | none => none
    | .min, _, vs => match intsOf vs with
      | some (k, m :: l) => some (true, .c (.d (.int k (minL m l))), H)
      | _ => none
    | .max, _, vs => match intsOf vs with
      | some (k, m :: l) => some (true, .c (.d (.int k (maxL m l))), H)
      | _ => none
    | .append, [t, t2], [.c s, .c y] => match X.tt t, X.tt t2 with
      | some i, some i2 => match i.desc, i2.desc with
        | .slice e, .slice _ => match X.tt e with
          | some j => match vecS X.vm s with
           | .old id n => match H[id]?, srcC H j.size y with
             | some (.vec m sz cs), some (k, new) => some (decide (m = n) && decide (sz = j.size) && decide (0 < j.size) && decide ((n + k + (n + k) / 4 + 256) * j.bytes ≤ 281474976710656) && decide (n + k ≤ lim), .c (.vs id (n + k)), H.set id (.vec (n + k) j.size (cs ++ new)))
             | _, _ => none
           | .cut id n => match H[id]?, srcC H j.size y with
             | some (.vec m sz cs), some (k, new) => some (decide (m = n) && decide (sz = j.size) && decide (0 < j.size) && decide (0 < k) && decide ((n + k + (n + k) / 4 + 256) * j.bytes ≤ 281474976710656) && decide (n + k ≤ lim), .c (.vs id (n + k)), H.set id (.vec (n + k) j.size (cs ++ new)))
             | _, _ => none
           | .new => match srcC H j.size y with
             | some (k, new) => some (decide (0 < j.size) && decide ((k + k / 4 + 256) * j.bytes ≤ 281474976710656) && decide (k ≤ lim), .c (.vs H.length k), H ++ [.vec k j.size new])
             | _ => none
           | .none => match srcRows H j.size y with
           | some new =>
            match s with
            | .own id rows => match H[id]? with
              | some (.grow n sz) =>
                some (decide (n = rows.length) && decide (sz = j.size) && decide (0 < j.size) && rows.all (fun r => r.length == j.size) && new.all (fun r => r.length == j.size) && decide ((rows.length + new.length + (rows.length + new.length) / 4 + 256) * j.bytes ≤ 281474976710656) && decide (rows.length + new.length ≤ lim),
                  .c (.own id (rows ++ new)), H.set id (.grow (rows.length + new.length) j.size))
              | _ => none
            | .full rows =>
              some (decide (0 < j.size) && rows.all (fun r => r.length == j.size) && new.all (fun r => r.length == j.size) && decide ((rows.length + new.length + (rows.length + new.length) / 4 + 256) * j.bytes ≤ 281474976710656) && decide (rows.length + new.length ≤ lim),
                .c (.own H.length (rows ++ new)), H ++ [.grow (rows.length + new.length) j.size])
            | _ => none
           | none => none
          | none => none
        | _, _ => none
      | _, _ => none
    | .copy, [t, _], [.c (.ms id off len _), .c y] => match X.tt t, H[id]?, lenC y with
      | some i, some (.cells cs), some m => match i.desc with
        | .slice e => match X.tt e with
          | some j => match srcCells H j.size (Nat.min m len) y with
            | some cs' => some (decide (0 < j.size) && decide (off + Nat.min m len * j.size ≤ cs.length) && decide (cs'.length = Nat.min m len * j.size), I (Nat.min m len), H.set id (.cells (setMany cs off cs')))
            | none => none
          | none => none
        | _ => none
      | _, _, _ => none
    | .delete, [t, _], [.c (.mp id), k] => match X.tt t, H[id]? with
      | some i, some (.mp es) => match i.desc with
        | .map kt _ => match findE k es 0 with
          | some o => some (keyOk X kt k, .tup [], H.set id (.mp (delE es o)))
          | none => none
        | _ => none
      | _, _ => none
    | .clear, [t], [.c (.ms id off len _)] => match X.tt t, H[id]? with
      | some i, some (.cells cs) => match i.desc with
        | .slice e => match X.tt e with
          | some j => some (decide (len ≠ 0) && decide (off + len * j.size ≤ cs.length), .tup [], H.set id (.cells (setMany cs off (zc j.zero.cs len))))
          | none => none
        | _ => none
      | _, _ => none
    | _, _, _ => none
  | _ => none

end Go.Abs
/- The step function is right. -/
namespace Go.Abs
open Go

section
variable {X : Tx} {ro : Option Nat} {H H' : List AB} {E : Operand → V} {z : V} {w : World} {G : Gh}

theorem rel_vIte {t : Bool} {a b : V} {v u : Value} (ha : VRel w G H a v) (hb : VRel w G H b u) : VRel w G H (vIte t a b) (if t then v else u) := by
  unfold vIte
  split
  · obtain rfl := bool_rel ha
    obtain rfl := bool_rel hb
    cases t <;> exact .c _ _ (.d _ _ (.bool _))
  · cases t
    · exact hb
    · exact ha

theorem ps_rel {ps : Array (Nat × Operand)} {a : Act} (h : ∀ x ∈ (ps.toList.map (·.2)).toArray, VRel w G H (E x) (a.eval x)) :
    PsRel w G H (ps.toList.map fun p => (p.1, E p.2)) (ps.map fun (i, x) => (i, a.eval x)).toList := by
  refine ⟨by simp, fun i p r hp hr => ?_⟩
  rw [Array.toList_map] at hr
  rw [List.getElem?_map] at hp hr
  cases hq : ps.toList[i]? with
  | none => simp [hq] at hp
  | some q =>
    simp [hq] at hp hr
    subst hp; subst hr
    refine ⟨rfl, h _ ?_⟩
    simp only [List.mem_toArray, List.mem_map]
    exact ⟨q, List.mem_of_getElem? hq, rfl⟩

theorem cons_rel : ∀ {vs : List V} {cs : List C} {us : List Value}, consOf vs = some cs → vs.length = us.length → (∀ (i : Nat) (x : V) (v : Value), vs[i]? = some x → us[i]? = some v → VRel w G H x v) →
    cs.length = us.length ∧ ∀ (i : Nat) (x : C) (v : Value), cs[i]? = some x → us[i]? = some v → CRel w G H x v
  | [], cs, us, h, hl, _ => by simp [consOf] at h; subst h; exact ⟨hl, fun i x v h => by simp at h⟩
  | .c c :: r, cs, us, h, hl, hr => by
    simp only [consOf] at h
    cases hc : consOf r with
    | none => simp [hc] at h
    | some l =>
      simp [hc] at h; subst h
      cases us with
      | nil => simp at hl
      | cons u us =>
        obtain ⟨h1, h2⟩ := cons_rel (us := us) hc (by simpa using hl) (fun i x v hx hv => hr (i + 1) x v (by simpa using hx) (by simpa using hv))
        refine ⟨by simp [h1], fun i x v hx hv => ?_⟩
        cases i with
        | zero => simp at hx hv; subst hx; subst hv; have := hr 0 (.c c) u rfl rfl; cases this; assumption
        | succ i => exact h2 i x v (by simpa using hx) (by simpa using hv)
  | .agg _ :: r, cs, us, h, _, _ => by simp [consOf] at h
  | .tup _ :: r, cs, us, h, _, _ => by simp [consOf] at h

theorem map_rel {xs : Array Operand} {a : Act} (h : ∀ x ∈ xs, VRel w G H (E x) (a.eval x)) : (xs.toList.map E).length = (xs.map a.eval).toList.length ∧
    ∀ (i : Nat) (x : V) (v : Value), (xs.toList.map E)[i]? = some x → (xs.map a.eval).toList[i]? = some v → VRel w G H x v := by
  refine ⟨by simp, fun i x v hx hv => ?_⟩
  rw [Array.toList_map] at hv
  rw [List.getElem?_map] at hx hv
  cases hq : xs.toList[i]? with
  | none => simp [hq] at hx
  | some q =>
    simp [hq] at hx hv
    subst hx; subst hv
    exact h q (Array.mem_toList_iff.1 (List.mem_of_getElem? hq))

abbrev Sound (X : Tx) (ro : Option Nat) (op : Op) : Prop :=
  ∀ (H H' : List AB) (E : Operand → V) (z : V), op1 X H E op = some (true, z, H') → ∀ o : Oper, o.op = op → OpAt X.P ro o H E (one z H')

theorem sound_load (t : TypeId) (x : Operand) : Sound X ro (.load t x) := by
  intro H H' E z h o ho
  simp only [op1] at h
  refine OpAt.of_value (s := fun ρ => Instr.loadAt t (ρ x)) (by simp [ho]) (fun ρ => by simp [execOp, ho]) (fun w G a R hE => ?_)
  have hx := hE x (by simp [ho, Op.operands])
  split at h
  · rename_i i id off hi hp
    split at h
    · rename_i cs hid
      simp at h
      obtain ⟨h0, rfl, rfl⟩ := h
      rw [hp] at hx
      exact yields_load_ptr X.ok hi R hid h0 hx
    · cases h
  · rename_i i id n off hi hp
    split at h
    · rename_i m sz cs hid
      simp at h
      obtain ⟨⟨⟨h0, h1⟩, h2⟩, rfl, rfl⟩ := h
      subst h0
      rw [hp] at hx
      exact yields_load_vp X.ok hi R hid h1 h2 hx
    · cases h
  · rename_i i ds hi hp
    simp at h
    obtain ⟨h0, rfl, rfl⟩ := h
    rw [hp] at hx
    exact yields_load_dp X.ok hi R h0 hx
  · rename_i i g hi hp
    split at h
    · rename_i ds hg
      simp at h
      obtain ⟨h0, rfl, rfl⟩ := h
      rw [hp] at hx
      have he : ∀ v, VRel w G H (.c (.gp g)) v → VRel w G H (.c (.dp ds)) v := fun v hv => by
        cases hv with
        | c _ _ hv => cases hv with
          | gp => exact .c _ _ (glOf_rel R hg)
      exact yields_load_dp X.ok hi R h0 (he _ hx)
    · cases h
  · cases h

theorem sound_store (t : TypeId) (y x : Operand) : Sound X ro (.store t y x) := by
  intro H H' E z h o ho
  simp only [op1] at h
  split at h
  · rename_i i id off hi hp
    split at h
    · rename_i cs hid
      simp at h
      obtain ⟨⟨⟨h0, h1⟩, h2⟩, rfl, rfl⟩ := h
      refine OpAt.of_unit (s := fun ρ => Instr.storeAt t (ρ y) (ρ x)) (by simp [ho]) (fun ρ => by simp [execOp, ho]) (fun w G a R hE => ?_)
      have hx := hE x (by simp [ho, Op.operands])
      have hy := hE y (by simp [ho, Op.operands])
      rw [hp] at hy
      obtain ⟨w', G', e1, e2, e3⟩ := does_store X.ok hi R hid hy hx h0 h1 h2
      exact ⟨w', G', e1, e2, e3⟩
    · cases h
  · rename_i i id n off hi hp
    split at h
    · rename_i m sz cs hid
      simp at h
      obtain ⟨⟨⟨⟨⟨h3, h4⟩, h0⟩, h1⟩, h2⟩, rfl, rfl⟩ := h
      subst h3
      refine OpAt.of_unit (s := fun ρ => Instr.storeAt t (ρ y) (ρ x)) (by simp [ho]) (fun ρ => by simp [execOp, ho]) (fun w G a R hE => ?_)
      have hx := hE x (by simp [ho, Op.operands])
      have hy := hE y (by simp [ho, Op.operands])
      rw [hp] at hy
      obtain ⟨w', G', e1, e2, e3⟩ := does_store_vp X.ok hi R hid hy hx h0 h1 h4 h2
      exact ⟨w', G', e1, e2, e3⟩
    · cases h
  · cases h

theorem sound_binOp (op : BinOp) (t t' : TypeId) (x y : Operand) : Sound X ro (.binOp op t x y t') := by
  intro H H' E z h o ho
  simp only [op1] at h
  split at h
  · rename_i c z' hb
    simp at h
    obtain ⟨rfl, rfl, rfl⟩ := h
    refine OpAt.of_value (s := fun ρ => do eqGuard op t x y (ρ x) (ρ y); binOp op t (ρ x) (ρ y)) (by simp [ho]) (fun ρ => by simp [execOp, ho]) (fun w G a R hE => ?_)
    exact yields_binOp R (hE x (by simp [ho, Op.operands])) (hE y (by simp [ho, Op.operands])) hb
  · split at h
    · rename_i z' hb
      simp at h
      obtain ⟨rfl, rfl⟩ := h
      refine OpAt.of_value (s := fun ρ => do eqGuard op t x y (ρ x) (ρ y); binOp op t (ρ x) (ρ y)) (by simp [ho]) (fun ρ => by simp [execOp, ho]) (fun w G a R hE => ?_)
      have hy : y = .const (.slice none 0 0) := by
        unfold nilS nilOp at hb
        split at hb
        · rename_i hn; split at hn
          · rfl
          · cases hn
        · cases hb
      subst hy
      exact yields_nil R (hE x (by simp [ho, Op.operands])) hb
    · cases h

theorem sound_fieldAddr (t : TypeId) (x : Operand) (f : Nat) : Sound X ro (.fieldAddr t x f) := by
  intro H H' E z h o ho
  simp only [op1] at h
  split at h
  · rename_i i hi
    split at h
    · rename_i fs hd
      split at h
      · rename_i fd hf
        refine OpAt.of_value (s := fun ρ => Instr.fieldAt t (ρ x) f) (by simp [ho]) (fun ρ => by simp [execOp, ho]) (fun w G a R hE => ?_)
        have hx := hE x (by simp [ho, Op.operands])
        split at h
        · rename_i j id off hj hp
          simp at h
          obtain ⟨h0, rfl, rfl⟩ := h
          rw [hp] at hx
          exact yields_fieldAt X.ok hi hd hf hj h0 R hx
        · rename_i j ds hj hp
          simp at h
          obtain ⟨h0, rfl, rfl⟩ := h
          rw [hp] at hx
          exact yields_fieldAt_dp X.ok hi hd hf hj h0 R hx
        · rename_i j id n off hj hp
          simp at h
          obtain ⟨h0, rfl, rfl⟩ := h
          rw [hp] at hx
          exact yields_fieldAt_vp X.ok hi hd hf hj h0 R hx
        · cases h
      · cases h
    · cases h
  · cases h

theorem sound_field (t : TypeId) (x : Operand) (f : Nat) : Sound X ro (.field t x f) := by
  intro H H' E z h o ho
  simp only [op1] at h
  split at h
  · rename_i i hi
    split at h
    · rename_i fs hd
      split at h
      · rename_i fd hf
        refine OpAt.of_value (s := fun ρ => Instr.field t (ρ x) f) (by simp [ho]) (fun ρ => by simp [execOp, ho]) (fun w G a R hE => ?_)
        have hx := hE x (by simp [ho, Op.operands])
        split at h
        · rename_i j cs hj hp
          simp at h
          obtain ⟨h0, rfl, rfl⟩ := h
          rw [hp] at hx
          exact yields_field X.ok hi hd hf hj R hx h0
        · cases h
      · cases h
    · cases h
  · cases h

theorem sound_indexAddr (t : TypeId) (x y : Operand) : Sound X ro (.indexAddr t x y) := by
  intro H H' E z h o ho
  simp only [op1] at h
  split at h
  · rename_i i k n hi hn
    refine OpAt.of_value (s := fun ρ => Instr.indexAt t (ρ x) (ρ y)) (by simp [ho]) (fun ρ => by simp [execOp, ho]) (fun w G a R hE => ?_)
    have hx := hE x (by simp [ho, Op.operands])
    have hy := hE y (by simp [ho, Op.operands])
    rw [hn] at hy
    split at h
    · rename_i len e hd
      split at h
      · rename_i j id off hj hp
        simp at h
        obtain ⟨⟨h0, h1⟩, rfl, rfl⟩ := h
        rw [hp] at hx
        exact yields_indexAt_arr X.ok hi hd hj h0 h1 R hx hy
      · rename_i j ds hj hp
        simp at h
        obtain ⟨⟨h0, h1⟩, rfl, rfl⟩ := h
        rw [hp] at hx
        exact yields_indexAt_dp X.ok hi hd hj h0 h1 R hx hy
      · cases h
    · rename_i e hd
      split at h
      · rename_i j id off len cap hj hp
        simp at h
        obtain ⟨⟨h0, h1⟩, rfl, rfl⟩ := h
        rw [hp] at hx
        exact yields_indexAt_ms X.ok hi hd hj h0 h1 R hx hy
      · rename_i j id m hj hp
        simp at h
        obtain ⟨⟨h0, h1⟩, rfl, rfl⟩ := h
        rw [hp] at hx
        exact yields_indexAt_vs X.ok hi hd hj h0 h1 R hx hy
      · rename_i j c _ _ hj hp
        split at h
        · rename_i rows hr
          simp at h
          obtain ⟨⟨⟨h0, h1⟩, h2⟩, rfl, rfl⟩ := h
          rw [hp] at hx
          have hlt : n.toNat < rows.length := by omega
          rw [List.getElem?_eq_getElem hlt, Option.getD_some] at h2 ⊢
          exact yields_indexAt_sl X.ok hi hd hj h0 hr (by simp [hlt]) h2 R hx hy
        · cases h
      · cases h
    · cases h
  · cases h

theorem sound_index (t : TypeId) (x y : Operand) : Sound X ro (.index t x y) := by
  intro H H' E z h o ho
  simp only [op1] at h
  split at h
  · rename_i i k n hi hn
    refine OpAt.of_value (s := fun ρ => Instr.index t (ρ x) (ρ y)) (by simp [ho]) (fun ρ => by simp [execOp, ho]) (fun w G a R hE => ?_)
    have hx := hE x (by simp [ho, Op.operands])
    have hy := hE y (by simp [ho, Op.operands])
    rw [hn] at hy
    split at h
    · rename_i len e hd
      split at h
      · rename_i j cs hj hp
        simp at h
        obtain ⟨⟨⟨h0, h1⟩, h2⟩, rfl, rfl⟩ := h
        rw [hp] at hx
        exact yields_index X.ok hi hd hj h0 h1 R hx hy h2
      · cases h
    · cases h
  · cases h

theorem sound_makeSlice (t : TypeId) (x y : Operand) : Sound X ro (.makeSlice t x y) := by
  intro H H' E z h o ho
  simp only [op1] at h
  split at h
  · rename_i i k n k' m hi hn hm
    split at h
    · rename_i e hd
      split at h
      · rename_i j hj
        simp at h
        obtain ⟨⟨⟨⟨h0, h1⟩, h2⟩, h3⟩, rfl, rfl⟩ := h
        refine OpAt.of_value (s := fun ρ => Instr.makeSlice t (ρ x) (ρ y)) (by simp [ho]) (fun ρ => by simp [execOp, ho]) (fun w G a R hE => ?_)
        have hx := hE x (by simp [ho, Op.operands])
        have hy := hE y (by simp [ho, Op.operands])
        rw [hn] at hx
        rw [hm] at hy
        exact yields_makeSlice X.ok hi hd hj h0 h1 h2 h3 R hx hy
      · cases h
    · cases h
  · cases h

theorem sound_build (t : TypeId) (ps : Array (Nat × Operand)) : Sound X ro (.build t ps) := by
  intro H H' E z h o ho
  simp only [op1] at h
  split at h
  · rename_i i hi
    refine OpAt.of_value (s := fun ρ => Instr.build t (ps.map fun (i, x) => (i, ρ x))) (by simp [ho]) (fun ρ => by simp [execOp, ho]) (fun w G a R hE => ?_)
    have hp := ps_rel (E := E) (a := a) (ps := ps) (fun x hx => hE x (by simpa [ho, Op.operands] using hx))
    split at h
    · rename_i fs hd
      split at h
      · rename_i cs hc
        simp at h
        obtain ⟨h0, rfl, rfl⟩ := h
        exact yields_build_struct X.ok hi hd (by simpa using h0) R hp hc
      · cases h
    · rename_i n e hd
      split at h
      · rename_i j hj
        split at h
        · rename_i cs hc
          simp at h
          obtain ⟨rfl, rfl⟩ := h
          exact yields_build_array X.ok hi hd hj R hp hc
        · cases h
      · cases h
    · cases h
  · cases h

theorem sound_buildSlice (t : TypeId) (n : Nat) (ps : Array (Nat × Operand)) : Sound X ro (.buildSlice t n ps) := by
  intro H H' E z h o ho
  simp only [op1] at h
  split at h
  · rename_i i hi
    split at h
    · rename_i e hd
      split at h
      · rename_i j hj
        split at h
        · rename_i cs hc
          split at h
          · rename_i ds hds
            simp at h
            obtain ⟨⟨h0, hn⟩, rfl, rfl⟩ := h
            refine OpAt.of_value (s := fun ρ => Instr.buildSlice t n (ps.map fun (i, x) => (i, ρ x))) (by simp [ho]) (fun ρ => by simp [execOp, ho]) (fun w G a R hE => ?_)
            have hp := ps_rel (E := E) (a := a) (ps := ps) (fun x hx => hE x (by simpa [ho, Op.operands] using hx))
            exact yields_buildSlice X.ok hi hd hj R hp hc hds h0 hn
          · simp at h
            obtain ⟨⟨h0, hn⟩, rfl, rfl⟩ := h
            refine OpAt.of_value (s := fun ρ => Instr.buildSlice t n (ps.map fun (i, x) => (i, ρ x))) (by simp [ho]) (fun ρ => by simp [execOp, ho]) (fun w G a R hE => ?_)
            have hp := ps_rel (E := E) (a := a) (ps := ps) (fun x hx => hE x (by simpa [ho, Op.operands] using hx))
            exact yields_buildSlice_fs X.ok hi hd hj R hp hc h0 hn
        · cases h
      · cases h
    · cases h
  · cases h

theorem sound_move (x : Operand) : Sound X ro (.move x) := by
  intro H H' E z h o ho
  simp [op1] at h
  obtain ⟨rfl, rfl⟩ := h
  refine OpAt.of_value (s := fun ρ => pure (ρ x)) (by simp [ho]) (fun ρ => by simp [execOp, ho]) (fun w G a R hE => ?_)
  exact Yields.still R rfl (hE x (by simp [ho, Op.operands]))
theorem sound_assign (x : Operand) : Sound X ro (.assign x) := by
  intro H H' E z h o ho
  simp [op1] at h
  obtain ⟨rfl, rfl⟩ := h
  refine OpAt.of_value (s := fun ρ => pure (ρ x)) (by simp [ho]) (fun ρ => by simp [execOp, ho]) (fun w G a R hE => ?_)
  exact Yields.still R rfl (hE x (by simp [ho, Op.operands]))

theorem sound_pick (c x y : Operand) : Sound X ro (.pick c x y) := by
  intro H H' E z h o ho
  simp only [op1] at h
  split at h
  · rename_i t hc
    simp at h
    obtain ⟨rfl, rfl⟩ := h
    refine OpAt.of_value (s := fun ρ => do pure (if ← asBool (ρ c) then ρ x else ρ y)) (by simp [ho]) (fun ρ => by simp [execOp, ho]) (fun w G a R hE => ?_)
    have h1 := hE c (by simp [ho, Op.operands])
    rw [hc] at h1
    refine Yields.still R (v := if t then a.eval x else a.eval y) ?_ (rel_vIte (hE x (by simp [ho, Op.operands])) (hE y (by simp [ho, Op.operands])))
    rw [bool_rel h1]; rfl
  · cases h

theorem sound_alloc (t : TypeId) : Sound X ro (.alloc t) := by
  intro H H' E z h o ho
  simp only [op1] at h
  split at h
  · rename_i i hi
    simp at h
    obtain ⟨rfl, rfl⟩ := h
    exact OpAt.of_value (s := fun _ => Instr.alloc t true (.tuple #[])) (by simp [ho]) (fun ρ => by simp [execOp, ho]) (fun w G a R hE => yields_alloc X.ok hi R)
  · cases h

theorem sound_box (t : TypeId) (x : Operand) : Sound X ro (.box t x) := by
  intro H H' E z h o ho
  simp [op1] at h
  obtain ⟨h0, rfl, rfl⟩ := h
  exact OpAt.of_value (s := fun ρ => Instr.box t (ρ x)) (by simp [ho]) (fun ρ => by simp [execOp, ho]) (fun w G a R hE => yields_box R (hE x (by simp [ho, Op.operands])) h0)

theorem sound_nilCheck (x : Operand) : Sound X ro (.nilCheck x) := by
  intro H H' E z h o ho
  have key : ∀ (ok : Value → Prop), (∀ ρ : Operand → Value, ok (ρ x) → ∀ w : World, (execOp ρ o).run X.P w = .ok (.value (ρ x)) w) → (∀ w G v, VRel w G H (E x) v → ok v) → H' = H → z = E x → OpAt X.P ro o H E (one z H') := by
    rintro ok h1 h2 rfl rfl
    intro w G a next Q R hE hn
    have hx := hE x (by simp [ho, Op.operands])
    refine ⟨fun _ _ => trivial, ?_⟩
    rw [Oper.semAt_eq _ _ _ (by simp [ho]), h1 _ (h2 w G _ hx) w]
    exact hn _ _ _ G w ⟨rfl, rfl⟩ hx R (Later.refl _ _ _)
  simp only [op1] at h
  split at h
  · rename_i id off hp
    simp at h
    refine key (fun v => ∃ a, v = .pointer (some a)) (fun ρ hv w => by obtain ⟨a, e⟩ := hv; simp [execOp, ho, e]) (fun w G v hv => ?_) h.2.symm (by rw [hp]; exact h.1.symm)
    rw [hp] at hv
    exact ⟨_, (ptr_rel hv).1⟩
  · rename_i ds hp
    simp at h
    refine key (fun v => ∃ a, v = .pointer (some a)) (fun ρ hv w => by obtain ⟨a, e⟩ := hv; simp [execOp, ho, e]) (fun w G v hv => ?_) h.2.symm (by rw [hp]; exact h.1.symm)
    rw [hp] at hv
    obtain ⟨b, o', f, e, _⟩ := dp_rel hv
    exact ⟨_, e⟩
  · rename_i f cs hp
    simp at h
    refine key (fun v => ∃ f a c, v = .func (.func f) a c) (fun ρ hv w => by obtain ⟨f, a, c, e⟩ := hv; simp [execOp, ho, e]) (fun w G v hv => ?_) h.2.symm (by rw [hp]; exact h.1.symm)
    rw [hp] at hv
    cases hv with | c _ _ hv => cases hv; exact ⟨_, _, _, rfl⟩
  · cases h

theorem sound_unOp (u : UnOp) (t : TypeId) (x : Operand) : Sound X ro (.unOp u t x) := by
  intro H H' E z h o ho
  simp only [op1] at h
  refine OpAt.of_value (s := fun ρ => Op.unary u (ρ x)) (by simp [ho]) (fun ρ => by simp [execOp, ho]) (fun w G a R hE => ?_)
  have hx := hE x (by simp [ho, Op.operands])
  split at h
  · rename_i b hp
    simp at h
    obtain ⟨rfl, rfl⟩ := h
    rw [hp] at hx
    rw [bool_rel hx]
    exact Yields.still R (v := .bool (!b)) rfl (.c _ _ (.d _ _ (.bool _)))
  · rename_i k n hp
    simp at h
    obtain ⟨rfl, rfl⟩ := h
    rw [hp] at hx
    rw [int_rel hx]
    exact Yields.still R (v := .int k (wr k (-n))) (by rw [wr_eq, ← Int.zero_sub]; rfl) (.c _ _ (.d _ _ (.int _ _)))
  · cases h

theorem sound_convert (s t : TypeId) (x : Operand) : Sound X ro (.convert s t x) := by
  intro H H' E z h o ho
  simp only [op1] at h
  split at h
  · rename_i i j k0 n hi hj hp
    split at h
    · rename_i k hd
      simp at h
      obtain ⟨rfl, rfl⟩ := h
      refine OpAt.of_value (s := fun ρ => convert s t (ρ x)) (by simp [ho]) (fun ρ => by simp [execOp, ho]) (fun w G a R hE => ?_)
      have hx := hE x (by simp [ho, Op.operands])
      rw [hp] at hx
      rw [int_rel hx]
      refine Yields.still R (v := .int k (wr k n)) ?_ (.c _ _ (.d _ _ (.int _ _)))
      rw [wr_eq]
      obtain ⟨d0, q1, _⟩ := X.ok.desc s i hi
      have q2 : (underlying s).run X.P w = .ok d0 w := by simp [underlying, q1]
      simp [convert, q2, X.ok.run_at hj hd rfl, Conv.intToInt]
    · cases h
  · cases h

theorem sound_makeFunc (f : Fn) (first caps : Array Operand) : Sound X ro (.makeFunc f first caps) := by
  intro H H' E z h o ho
  simp only [op1] at h
  split at h
  · rename_i hf
    split at h
    · rename_i cs hc
      simp at h
      obtain ⟨rfl, rfl⟩ := h
      have hf' : first = #[] := by simpa using hf
      subst hf'
      refine OpAt.of_value (s := fun ρ => Instr.makeFunc f ((#[] : Array Operand).map ρ) (caps.map ρ)) (by simp [ho]) (fun ρ => by simp [execOp, ho]) (fun w G a R hE => ?_)
      obtain ⟨e1, e2⟩ := map_rel (E := E) (a := a) (xs := caps) (fun x hx => hE x (by simp [ho, Op.operands]; exact hx))
      obtain ⟨e3, e4⟩ := cons_rel hc e1 e2
      refine Yields.still R (v := .func f #[] (caps.map a.eval)) (by simp [Instr.makeFunc]) (.c _ _ (.fn _ _ _ (by simpa using e3.symm) (fun i x v hx hv => e4 i x v hx (by simpa using hv))))
    · cases h
  · split at h
    · rename_i x hx hc
      simp at h
      obtain ⟨rfl, rfl⟩ := h
      have hc' : caps = #[] := by simpa using hc
      subst hc'
      refine OpAt.of_value (s := fun ρ => Instr.makeFunc f (first.map ρ) ((#[] : Array Operand).map ρ)) (by simp [ho]) (fun ρ => by simp [execOp, ho]) (fun w G a R hE => ?_)
      obtain ⟨e1, e2⟩ := map_rel (E := E) (a := a) (xs := first) (fun x hx => hE x (by simp [ho, Op.operands]; exact hx))
      rw [hx] at e1 e2
      obtain ⟨u, hu⟩ : ∃ u, first.map a.eval = #[u] := by
        have : (first.map a.eval).size = 1 := by rw [← Array.length_toList, ← e1]; rfl
        exact Array.size_eq_one_iff.1 this
      have hr := e2 0 (.c x) u rfl (by rw [hu]; rfl)
      cases hr with
      | c _ _ hr => exact Yields.still R (v := .func f #[u] #[]) (by simp [Instr.makeFunc, hu]) (.c _ _ (.mv _ _ _ hr))
    · rename_i cs hx hc
      simp at h
      obtain ⟨rfl, rfl⟩ := h
      have hc' : caps = #[] := by simpa using hc
      subst hc'
      refine OpAt.of_value (s := fun ρ => Instr.makeFunc f (first.map ρ) ((#[] : Array Operand).map ρ)) (by simp [ho]) (fun ρ => by simp [execOp, ho]) (fun w G a R hE => ?_)
      obtain ⟨e1, e2⟩ := map_rel (E := E) (a := a) (xs := first) (fun x hx => hE x (by simp [ho, Op.operands]; exact hx))
      rw [hx] at e1 e2
      obtain ⟨u, hu⟩ : ∃ u, first.map a.eval = #[u] := by
        have : (first.map a.eval).size = 1 := by rw [← Array.length_toList, ← e1]; rfl
        exact Array.size_eq_one_iff.1 this
      have hr := e2 0 (.agg cs) u rfl (by rw [hu]; rfl)
      cases hr with
      | agg _ arr hr =>
        refine Yields.still R (v := .func f #[.agg arr] #[]) (by simp [Instr.makeFunc, hu]) (.c _ _ (.ma _ _ _ (by have := hr.1; simpa using this.symm) (fun i v hv => ?_) (fun i x v hx hv => (hr.2 i x v hx (by simpa using hv)).1)))
        have hlt : i < cs.length := by rw [hr.1]; have := (Array.getElem?_eq_some_iff.1 hv).1; simpa using this
        exact (hr.2 i _ v (List.getElem?_eq_getElem hlt) (by simpa using hv)).2
    · cases h

theorem sound_makeMap (t : TypeId) (r : Option Operand) : Sound X ro (.makeMap t r) := by
  intro H H' E z h o ho
  cases r with
  | some r => simp [op1] at h
  | none =>
    simp [op1] at h
    obtain ⟨rfl, rfl⟩ := h
    refine OpAt.of_value (s := fun _ => Instr.makeMap t none) (by simp [ho]) (fun ρ => by simp [execOp, ho]) (fun w G a R hE => ?_)
    refine ⟨.map (some w.heap.size), w.alloc (.map #[] 0), G.own H.length w.heap.size, by simp [Instr.makeMap], ?_, R.alloc_map 0, Later.alloc_own R _ _⟩
    have := CRel.mp (w := w.alloc (.map #[] 0)) (G := G.own H.length w.heap.size) (H := H ++ [.mp []]) H.length (by simp)
    simp only [Gh.own, upd_same] at this
    exact .c _ _ this

theorem sound_extract (x : Operand) (n : Nat) : Sound X ro (.extract x n) := by
  intro H H' E z h o ho
  simp only [op1] at h
  split at h
  · rename_i vs hp
    split at h
    · rename_i v hv
      simp at h
      obtain ⟨rfl, rfl⟩ := h
      refine OpAt.of_value (s := fun ρ => Instr.extract (ρ x) n) (by simp [ho]) (fun ρ => by simp [execOp, ho]) (fun w G a R hE => ?_)
      have hx := hE x (by simp [ho, Op.operands])
      rw [hp] at hx
      exact yields_extract R hx hv
    · cases h
  · cases h

theorem bound_some {lo : Option Operand} {n m : Int} {a : Act} (h : bound E lo n = some m) (hE : ∀ x, lo = some x → VRel w G H (E x) (a.eval x)) :
    match lo.map a.eval with | some v => ∃ k, v = .int k m | none => m = n := by
  cases lo with
  | none => simp [bound] at h; simp [h]
  | some x =>
    have hx := hE x rfl
    simp only [bound] at h
    split at h
    · rename_i k m' hp
      cases h
      rw [hp] at hx
      exact ⟨k, int_rel hx⟩
    · cases h

theorem sound_slice (t : TypeId) (x : Operand) (lo hi mx : Option Operand) : Sound X ro (.slice t x lo hi mx) := by
  intro H H' E z h o ho
  simp only [op1] at h
  split at h
  · rename_i i hti
    refine OpAt.of_value (s := fun ρ => Instr.sliceAt t (ρ x) (lo.map ρ) (hi.map ρ) (mx.map ρ)) (by simp [ho]) (fun ρ => by simp [execOp, ho]) (fun w G a R hE => ?_)
    have hx := hE x (by simp [ho, Op.operands])
    have hlo : ∀ y, lo = some y → VRel w G H (E y) (a.eval y) := fun y hy => hE y (by simp [ho, Op.operands, hy])
    have hhi : ∀ y, hi = some y → VRel w G H (E y) (a.eval y) := fun y hy => hE y (by simp [ho, Op.operands, hy])
    have hmx : ∀ y, mx = some y → VRel w G H (E y) (a.eval y) := fun y hy => hE y (by simp [ho, Op.operands, hy])
    split at h
    · rename_i n e hd
      split at h
      · rename_i j id off hj hp
        simp at h
        obtain ⟨rfl, rfl⟩ := h
        rw [hp] at hx
        exact yields_slice_arr X.ok hti hd hj R hx
      · rename_i lo hi mx _ _ _ _ _ j id off hj _ hp
        split at h
        · rename_i l hh m hl hb hmm
          have bl := bound_some hl hlo
          have bh := bound_some hb hhi
          have bm := bound_some hmm hmx
          simp at h
          obtain ⟨⟨⟨⟨⟨h0, h1⟩, h2⟩, h3⟩, h4⟩, rfl, rfl⟩ := h
          rw [hp] at hx
          exact yields_slice_arr2 X.ok hti hd hj R hx (l := l.toNat) (h := hh.toNat) (m := m.toNat)
            (by cases mx <;> simp at bm ⊢ <;> first | (obtain ⟨k, e⟩ := bm; exact ⟨⟨k, by rw [e]; congr 1; omega⟩, by omega⟩) | omega)
            (by cases hi <;> cases mx <;> simp at bh bm h4 ⊢ <;> first | (obtain ⟨k, e⟩ := bh; exact ⟨⟨k, by rw [e]; congr 1; omega⟩, by omega⟩) | omega)
            (by cases lo <;> simp at bl ⊢ <;> first | (obtain ⟨k, e⟩ := bl; exact ⟨⟨k, by rw [e]; congr 1; omega⟩, by omega⟩) | omega)
        · cases h
      · cases h
    · rename_i e hd
      split at h
      · rename_i j id off len cap hj hp
        split at h
        · rename_i l hh m hl hb hmm
          have bl := bound_some hl hlo
          have bh := bound_some hb hhi
          have bm := bound_some hmm hmx
          simp at h
          obtain ⟨⟨⟨⟨⟨h0, h1⟩, h2⟩, h3⟩, h4⟩, rfl, rfl⟩ := h
          rw [hp] at hx
          cases hx with
          | c _ _ hx =>
          exact yields_slice_ms X.ok hti hd hj R hx (l := l.toNat) (h := hh.toNat) (m := m.toNat)
            (by cases mx <;> simp at bm ⊢ <;> first | (obtain ⟨k, e⟩ := bm; exact ⟨⟨k, by rw [e]; congr 1; omega⟩, by omega⟩) | omega)
            (by cases hi <;> cases mx <;> simp at bh bm h4 ⊢ <;> first | (obtain ⟨k, e⟩ := bh; exact ⟨⟨k, by rw [e]; congr 1; omega⟩, by omega⟩) | omega)
            (by cases lo <;> simp at bl ⊢ <;> first | (obtain ⟨k, e⟩ := bl; exact ⟨⟨k, by rw [e]; congr 1; omega⟩, by omega⟩) | omega)
        · cases h
      · rename_i j id n hj hp
        split at h
        · rename_i l hh m hl hb hmm
          have bl := bound_some hl hlo
          have bh := bound_some hb hhi
          have bm := bound_some hmm hmx
          simp at h
          obtain ⟨⟨⟨⟨⟨rfl, rfl⟩, rfl⟩, h3⟩, h4⟩, rfl, rfl⟩ := h
          rw [hp] at hx
          cases hx with
          | c _ _ hx =>
          exact yields_slice_vs X.ok hti hd hj R hx
            (by cases lo <;> simp at bl ⊢ <;> first | exact bl | trivial)
            (by cases hi <;> simp at bh h3 ⊢ <;> exact bh)
            (by cases mx <;> simp at bm h4 ⊢ <;> exact bm)
        · cases h
      · rename_i j c _ _ hj hp
        rw [hp] at hx
        split at h
        · rename_i rows hr
          split at h
          · rename_i l hh hl hb
            have bl := bound_some hl hlo
            have bh := bound_some hb hhi
            split at h
            · simp at h
              obtain ⟨⟨⟨⟨h0, h1⟩, h2⟩, h3⟩, rfl, rfl⟩ := h
              have := yields_slice (P := X.P) X.ok hti hd hj hr (fun r hm => by simpa using h3 r hm) (l := l.toNat) (h := hh.toNat) (by omega) (by omega) (lo := lo.map a.eval) (hi := hi.map a.eval) (mx := none) R hx
                (by cases lo <;> simp at bl ⊢ <;> first | (obtain ⟨k, e⟩ := bl; exact ⟨k, by rw [e]; congr 1; omega⟩) | omega)
                (by cases hi <;> simp at bh ⊢ <;> first | (obtain ⟨k, e⟩ := bh; exact ⟨k, by rw [e]; congr 1; omega⟩) | omega) trivial
              simpa using this
            · rename_i b
              split at h
              · rename_i k m hm
                simp at h
                obtain ⟨⟨⟨⟨⟨⟨h0, h1⟩, h2⟩, h4⟩, h5⟩, h3⟩, rfl, rfl⟩ := h
                have hb' := hmx b rfl
                rw [hm] at hb'
                have hb' := int_rel hb'
                have := yields_slice (P := X.P) X.ok hti hd hj hr (fun r hm => by simpa using h3 r hm) (l := l.toNat) (h := hh.toNat) (by omega) (by omega) (lo := lo.map a.eval) (hi := hi.map a.eval) (mx := some (a.eval b)) R hx
                  (by cases lo <;> simp at bl ⊢ <;> first | (obtain ⟨k, e⟩ := bl; exact ⟨k, by rw [e]; congr 1; omega⟩) | omega)
                  (by cases hi <;> simp at bh ⊢ <;> first | (obtain ⟨k, e⟩ := bh; exact ⟨k, by rw [e]; congr 1; omega⟩) | omega) ⟨⟨k, by rw [hb']; congr 1; omega⟩, by simpa using h5⟩
                simpa using this
              · cases h
          · cases h
        · cases h
      · cases h
    · cases h
  · cases h

theorem opAt_builtin {b : Builtin} {as : Array Operand} {ts : Array TypeId} {o : Oper} {f : Array TypeId → TypeId → Array Value → Sem Value} (ho : o.op = .call { callee := .builtin b, args := as, argTypes := ts })
    (hb : ∀ (ty : TypeId) (c : Array Bool) (vs : Array Value), builtin b ts ty c vs = (do pure (.value (← f ts ty vs))))
    (h : ∀ w G (a : Act), Rel w G H → (∀ x ∈ as, VRel w G H (E x) (a.eval x)) → Yields X.P (f ts o.type (as.map a.eval)) w G H z H') : OpAt X.P ro o H E (one z H') := by
  refine OpAt.of_value (s := fun ρ => f ts o.type (as.map ρ)) (by simp [ho]) (fun ρ => ?_) (fun w G a R hE => h w G a R (fun x hx => hE x (by simp [ho, Op.operands, Call.operands]; exact hx)))
  simp only [execOp, ho, resolve, invoke]
  exact hb _ _ _

theorem two_rel {as : Array Operand} {p q : V} {a : Act} (h : as.toList.map E = [p, q]) (hE : ∀ x ∈ as, VRel w G H (E x) (a.eval x)) : ∃ v u, as.map a.eval = #[v, u] ∧ VRel w G H p v ∧ VRel w G H q u := by
  obtain ⟨l⟩ := as
  match l, h, hE with
  | [x, y], h, hE =>
    simp at h
    obtain ⟨rfl, rfl⟩ := h
    exact ⟨a.eval x, a.eval y, by simp, hE x (by simp), hE y (by simp)⟩
theorem one_rel {as : Array Operand} {p : V} {a : Act} (h : as.toList.map E = [p]) (hE : ∀ x ∈ as, VRel w G H (E x) (a.eval x)) : ∃ v, as.map a.eval = #[v] ∧ VRel w G H p v := by
  obtain ⟨l⟩ := as
  match l, h, hE with
  | [x], h, hE =>
    simp at h
    obtain rfl := h
    exact ⟨a.eval x, by simp, hE x (by simp)⟩

theorem sound_builtin (b : Builtin) (as : Array Operand) (ts : Array TypeId) : Sound X ro (.call { callee := .builtin b, args := as, argTypes := ts }) := by
  intro H H' E z h o ho
  simp only [op1] at h
  split at h
  · -- len
    rename_i t x ht hx
    have ht' : ts = #[t] := by obtain ⟨l⟩ := ts; simp at ht; rw [ht]
    refine opAt_builtin (f := Builtin.len_) ho (fun _ _ _ => rfl) (fun w G a R hE => ?_)
    obtain ⟨v, e1, e2⟩ := one_rel (a := a) hx hE
    rw [e1, ht']
    split at h
    · rename_i i hi
      split at h
      · rename_i e c hd
        split at h
        · rename_i n hn
          simp at h
          obtain ⟨rfl, rfl⟩ := h
          cases e2 with | c _ _ e2 => exact yields_lenV hi hd R hn e2
        · cases h
      · rename_i n e hd
        simp at h
        obtain ⟨rfl, rfl⟩ := h
        exact yields_len_arr hi hd R
      · rename_i k e id hd
        split at h
        · rename_i es hid
          simp at h
          obtain ⟨rfl, rfl⟩ := h
          cases e2 with | c _ _ e2 => exact yields_len_map hi hd R hid e2
        · cases h
      · cases h
    · cases h
  · -- min
    rename_i vs _
    split at h
    · rename_i k m l hl
      simp at h
      obtain ⟨rfl, rfl⟩ := h
      refine opAt_builtin (f := Builtin.min_) ho (fun _ _ _ => rfl) (fun w G a R hE => ?_)
      obtain ⟨e1, e2⟩ := map_rel (a := a) hE
      exact yields_min R hl e1 e2
    · cases h
  · -- max
    rename_i vs _
    split at h
    · rename_i k m l hl
      simp at h
      obtain ⟨rfl, rfl⟩ := h
      refine opAt_builtin (f := Builtin.max_) ho (fun _ _ _ => rfl) (fun w G a R hE => ?_)
      obtain ⟨e1, e2⟩ := map_rel (a := a) hE
      exact yields_max R hl e1 e2
    · cases h
  · -- append
    rename_i t t2 s y ht hx
    have ht' : ts = #[t, t2] := by obtain ⟨l⟩ := ts; simp at ht; rw [ht]
    refine opAt_builtin (f := Builtin.append_) ho (fun _ _ _ => rfl) (fun w G a R hE => ?_)
    obtain ⟨v, u, e1, e2, e3⟩ := two_rel (a := a) hx hE
    rw [e1, ht']
    split at h
    · rename_i i i2 hi hi2
      split at h
      · rename_i e e' hd hd2
        split at h
        · rename_i j hj
          split at h
          · rename_i id n hs
            obtain rfl := vecS_old hs
            split at h
            · rename_i m sz cs k new hid hsrc
              simp at h
              obtain ⟨⟨⟨⟨⟨h0, h1⟩, h2⟩, h3⟩, h4⟩, rfl, rfl⟩ := h
              subst h0; subst h1
              cases e2 with
              | c _ _ e2 =>
              cases e3 with
              | c _ _ e3 =>
              cases e2 with
              | vs _ _ ad cap _ hne hg =>
              obtain ⟨ax, capx, us, rfl, q1, q2, q3⟩ := srcC_of (P := X.P) h2 R hsrc e3
              have hg' := (hg _ _ _ hid).2 rfl
              exact yields_append_vec X.ok hi hd hi2 ⟨e', hd2⟩ hj R hid (by rw [hg']) hne.2 hne.1 (fun _ => hg') q1 q2 q3 h3 h4
            · cases h
          · rename_i id n hs
            obtain rfl := vecS_cut hs
            split at h
            · rename_i m sz cs k new hid hsrc
              simp at h
              obtain ⟨⟨⟨⟨⟨⟨h0, h1⟩, h2⟩, h5⟩, h3⟩, h4⟩, rfl, rfl⟩ := h
              subst h0; subst h1
              cases e2 with
              | c _ _ e2 =>
              cases e3 with
              | c _ _ e3 =>
              cases e2 with
              | vc _ _ ad _ hne hg =>
              obtain ⟨ax, capx, us, rfl, q1, q2, q3⟩ := srcC_of (P := X.P) h2 R hsrc e3
              have hg' := (hg _ _ _ hid).2 rfl
              exact yields_append_vec X.ok hi hd hi2 ⟨e', hd2⟩ hj R hid hg' hne (Nat.le_refl _) (fun hh => by omega) q1 q2 q3 h3 h4
            · cases h
          · rename_i hs
            obtain rfl := vecS_new hs
            split at h
            · rename_i k new hsrc
              simp at h
              obtain ⟨⟨⟨h2, h3⟩, h4⟩, rfl, rfl⟩ := h
              cases e2 with
              | c _ _ e2 =>
              cases e3 with
              | c _ _ e3 =>
              obtain ⟨G1, ad, R1, L1, rfl, hg1⟩ := adopt_vec R e2 j.size
              obtain ⟨ax, capx, us, rfl, q1, q2, q3⟩ := srcC_of (P := X.P) h2 R hsrc e3
              obtain ⟨v', w', G', p1, p2, p3, p4⟩ := yields_append_vec (ty := o.type) (P := X.P) X.ok hi hd hi2 ⟨e', hd2⟩ hj (id := H.length) (n := 0) (k := k) (cap := 0) (cs := []) R1 (by simp) (by rw [hg1]) (fun e => absurd rfl e) (Nat.le_refl _) (fun _ => hg1) q1 (q2.mono L1) q3 (by simpa using h3) (by simpa using h4)
              rw [List.set_append_right _ _ (Nat.le_refl _)] at p2 p3 p4
              simp only [Nat.sub_self, List.set_cons_zero, Nat.zero_add, List.nil_append] at p2 p3 p4
              exact ⟨v', w', G', p1, p2, p3, L1.trans p4⟩
            · cases h
          split at h
          · rename_i new hnew
            cases e2 with
            | c _ _ e2 =>
            cases e3 with
            | c _ _ e3 =>
              split at h
              · rename_i id rows
                split at h
                · rename_i n sz hid
                  simp at h
                  obtain ⟨⟨⟨⟨⟨⟨⟨h0, h1⟩, h2⟩, h3⟩, h4⟩, h5⟩, h6⟩, rfl, rfl⟩ := h
                  subst h0; subst h1
                  obtain ⟨ax, capx, us, rfl, q1, q2⟩ := src_of (P := X.P) h2 R hnew h4 e3
                  exact yields_append_own' X.ok hi hd hi2 ⟨e', hd2⟩ hj h2 R hid e2 q1 q2 h3 h4 h5 h6
                · cases h
              · rename_i rows
                simp at h
                obtain ⟨⟨⟨⟨⟨h2, h3⟩, h4⟩, h5⟩, h6⟩, rfl, rfl⟩ := h
                obtain ⟨G1, R1, L1, c1⟩ := adopt R e2 j.size
                obtain ⟨ax, capx, us, rfl, q1, q2⟩ := src_of (P := X.P) h2 R hnew h4 e3
                obtain ⟨v', w', G', p1, p2, p3, p4⟩ := yields_append_own' (ty := o.type) X.ok hi hd hi2 ⟨e', hd2⟩ hj h2 R1 (by simp) c1 q1 (q2.mono L1) h3 h4 h5 h6
                rw [List.set_append_right _ _ (Nat.le_refl _)] at p2 p3 p4
                simp only [Nat.sub_self, List.set_cons_zero] at p2 p3 p4
                exact ⟨v', w', G', p1, p2, p3, L1.trans p4⟩
              · cases h
          · cases h
        · cases h
      · cases h
    · cases h
  · -- copy
    rename_i t t2 id off len cap y ht hx
    have ht' : ts = #[t, t2] := by obtain ⟨l⟩ := ts; simp at ht; rw [ht]
    refine opAt_builtin (f := Builtin.copy_) ho (fun _ _ _ => rfl) (fun w G a R hE => ?_)
    obtain ⟨v, u, e1, e2, e3⟩ := two_rel (a := a) hx hE
    rw [e1, ht']
    split at h
    · rename_i i cs m hi hid hm
      split at h
      · rename_i e hd
        split at h
        · rename_i j hj
          split at h
          · rename_i cs' hcs
            simp at h
            obtain ⟨⟨⟨h0, h1⟩, h2⟩, rfl, rfl⟩ := h
            cases e2 with
            | c _ _ e2 =>
              cases e3 with
              | c _ _ e3 => exact yields_copy (n := Nat.min m len) hi hd hj h0 R hid e2 hm rfl hcs e3 h1 h2
          · cases h
        · cases h
      · cases h
    · cases h
  · -- delete
    rename_i t t2 id k ht hx
    have ht' : ts = #[t, t2] := by obtain ⟨l⟩ := ts; simp at ht; rw [ht]
    refine opAt_builtin (f := Builtin.delete_) ho (fun _ _ _ => rfl) (fun w G a R hE => ?_)
    obtain ⟨v, u, e1, e2, e3⟩ := two_rel (a := a) hx hE
    rw [e1, ht']
    split at h
    · rename_i i es hi hid
      split at h
      · rename_i kt et hd
        split at h
        · rename_i o' hf
          simp at h
          obtain ⟨h0, rfl, rfl⟩ := h
          exact does_delete hi hd rfl R hid h0 hf e2 e3
        · cases h
      · cases h
    · cases h
  · -- clear
    rename_i t id off len cap ht hx
    have ht' : ts = #[t] := by obtain ⟨l⟩ := ts; simp at ht; rw [ht]
    refine opAt_builtin (f := Builtin.clear_) ho (fun _ _ _ => rfl) (fun w G a R hE => ?_)
    obtain ⟨v, e1, e2⟩ := one_rel (a := a) hx hE
    rw [e1, ht']
    split at h
    · rename_i i cs hi hid
      split at h
      · rename_i e hd
        split at h
        · rename_i j hj
          simp at h
          obtain ⟨⟨h0, h1⟩, rfl, rfl⟩ := h
          cases e2 with | c _ _ e2 => exact yields_clear hi hd hj R h0 hid e2 h1
        · cases h
      · cases h
    · cases h
  · cases h

theorem sound_lookup (t : TypeId) (m k : Operand) (ok : Bool) : Sound X ro (.lookup t m k ok) := by
  intro H H' E z h o ho
  simp only [op1] at h
  refine OpAt.of_value (s := fun ρ => Instr.lookup t (ρ m) (ρ k) ok) (by simp [ho]) (fun ρ => by simp [execOp, ho]) (fun w G a R hE => ?_)
  have hm := hE m (by simp [ho, Op.operands])
  have hk := hE k (by simp [ho, Op.operands])
  split at h
  · rename_i i id hi hp
    split at h
    · rename_i kt et es hd hid
      split at h
      · rename_i j p hj hf
        simp at h
        obtain ⟨h0, rfl, rfl⟩ := h
        rw [hp] at hm
        exact yields_lookup (ok := ok) hi hd hj R hid h0 hf hm hk
      · cases h
    · cases h
  · cases h

theorem sound_mapUpdate (t : TypeId) (m k x : Operand) : Sound X ro (.mapUpdate t m k x) := by
  intro H H' E z h o ho
  simp only [op1] at h
  split at h
  · rename_i i id hi hp
    split at h
    · rename_i kt et es hd hid
      split at h
      · rename_i p hf
        simp at h
        obtain ⟨h0, rfl, rfl⟩ := h
        refine OpAt.of_unit (s := fun ρ => Instr.mapUpdate t (ρ m) (ρ k) (ρ x)) (by simp [ho]) (fun ρ => by simp [execOp, ho]) (fun w G a R hE => ?_)
        have hm := hE m (by simp [ho, Op.operands])
        have hk := hE k (by simp [ho, Op.operands])
        have hx := hE x (by simp [ho, Op.operands])
        rw [hp] at hm
        exact does_mapUpdate hi hd R hid h0 hf hm hk hx
      · cases h
    · cases h
  · cases h

/-- The step function is right. -/
theorem op1_sound (o : Oper) {z : V} (h : op1 X H E o.op = some (true, z, H')) : OpAt X.P ro o H E (one z H') := by
  obtain ⟨dst, op, type, pos, after, guard⟩ := o
  cases op
  case move x => exact sound_move x H H' E z h _ rfl
  case assign x => exact sound_assign x H H' E z h _ rfl
  case pick c x y => exact sound_pick c x y H H' E z h _ rfl
  case alloc t => exact sound_alloc t H H' E z h _ rfl
  case box t x => exact sound_box t x H H' E z h _ rfl
  case build t ps => exact sound_build t ps H H' E z h _ rfl
  case buildSlice t n ps => exact sound_buildSlice t n ps H H' E z h _ rfl
  case load t x => exact sound_load t x H H' E z h _ rfl
  case store t y x => exact sound_store t y x H H' E z h _ rfl
  case nilCheck x => exact sound_nilCheck x H H' E z h _ rfl
  case binOp op t x y t' => exact sound_binOp op t t' x y H H' E z h _ rfl
  case unOp u t x => exact sound_unOp u t x H H' E z h _ rfl
  case convert s t x => exact sound_convert s t x H H' E z h _ rfl
  case makeFunc f a b => exact sound_makeFunc f a b H H' E z h _ rfl
  case makeMap t r => exact sound_makeMap t r H H' E z h _ rfl
  case makeSlice t x y => exact sound_makeSlice t x y H H' E z h _ rfl
  case slice t x a b c => exact sound_slice t x a b c H H' E z h _ rfl
  case fieldAddr t x f => exact sound_fieldAddr t x f H H' E z h _ rfl
  case field t x f => exact sound_field t x f H H' E z h _ rfl
  case indexAddr t x y => exact sound_indexAddr t x y H H' E z h _ rfl
  case index t x y => exact sound_index t x y H H' E z h _ rfl
  case extract x n => exact sound_extract x n H H' E z h _ rfl
  case lookup t m k ok => exact sound_lookup t m k ok H H' E z h _ rfl
  case mapUpdate t m k x => exact sound_mapUpdate t m k x H H' E z h _ rfl
  case call c =>
    obtain ⟨callee, args, ts⟩ := c
    cases callee with
    | builtin b => exact sound_builtin b args ts H H' E z h _ rfl
    | _ => simp [op1] at h
  all_goals simp [op1] at h
end
end Go.Abs
/- Calls; a function's contract out of its body. -/
namespace Go.Abs
open Go

def ACall (P : Program) (f : FuncId) (args : List V) (H : List AB) (post : V → List AB → Prop) : Prop :=
  (∀ (as : Array Value) (w : World), (callFunc f as).run P w = .ok (.enter f as) w) ∧
  ∀ (w : World) (G : Gh) (vs : Array Value), Rel w G H → args.length = vs.toList.length → (∀ (i : Nat) (x : V) (v : Value), args[i]? = some x → vs.toList[i]? = some v → VRel w G H x v) →
    CallsIn (Wd none) 0 P f vs w fun e w' => ∃ v x H' G', e = .returned v ∧ post x H' ∧ Rel w' G' H' ∧ VRel w' G' H' x v ∧ Later w G H w' G' H'

theorem ACall.mono {P : Program} {f : FuncId} {args : List V} {H : List AB} {post post' : V → List AB → Prop} (h : ACall P f args H post) (hp : ∀ x H', post x H' → post' x H') : ACall P f args H post' :=
  ⟨h.1, fun w G vs R hl hr => (h.2 w G vs R hl hr).mono fun _ _ ⟨v, x, H', G', a, b, c⟩ => ⟨v, x, H', G', a, hp _ _ b, c⟩⟩

theorem fn_rel {w : World} {G : Gh} {H : List AB} {f : Fn} {caps : List C} {v : Value} (h : VRel w G H (.c (.fn f caps)) v) : ∃ arr, v = .func f #[] arr ∧ caps.length = arr.toList.length ∧ ∀ (i : Nat) (x : C) (u : Value), caps[i]? = some x → arr.toList[i]? = some u → CRel w G H x u := by
  cases h with
  | c _ _ h => cases h with
    | fn _ _ arr hs h => exact ⟨arr, rfl, by simpa using hs.symm, fun i x u hx hu => h i x u hx (by simpa using hu)⟩

theorem CallsIn.at_round {n : Nat} {P : Program} {f : FuncId} {args : Array Value} {w : World} {R : Ending → World → Prop} (r : Option Nat) (h : CallsIn (Wd none) n P f args w R) : CallsIn (Wd r) n P f args w R := h

theorem opAt_call {P : Program} {ro : Option Nat} {o : Oper} {H : List AB} {E : Operand → V} {x : Operand} {as : Array Operand} {ts : Array TypeId} {g : FuncId} {caps : List C} {post : V → List AB → Prop}
    (ho : o.op = .call { callee := .value x, args := as, argTypes := ts }) (hx : E x = .c (.fn (.func g) caps)) (h : ACall P g (as.toList.map E ++ caps.map .c) H post) : OpAt P ro o H E post := by
  intro w G a next Q R hE hn
  have hfx := hE x (by simp [ho, Op.operands, Call.operands])
  rw [hx] at hfx
  obtain ⟨arr, e1, e2, e3⟩ := fn_rel hfx
  obtain ⟨m1, m2⟩ := map_rel (a := a) (fun y hy => hE y (by simp [ho, Op.operands, Call.operands]; exact .inr hy))
  refine ⟨fun _ _ => trivial, ?_⟩
  rw [Oper.semAt_eq _ _ _ (by simp [ho])]
  have hrun : (execOp a.eval o).run P w = .ok (.enter g (as.map a.eval ++ arr)) w := by
    simp [execOp, ho, resolve, e1, Deferred.ofValue, invoke, h.1]
  rw [hrun, Oper.uponIn_enter]
  refine ⟨fun e => by simp [Fence.wide] at e, ?_⟩
  have hc := h.2 w G (as.map a.eval ++ arr) R (by simp at m1 e2 ⊢; omega) (fun i y v hy hv => by
    rw [Array.toList_append] at hv
    by_cases hi : i < (as.toList.map E).length
    · rw [List.getElem?_append_left hi] at hy
      rw [List.getElem?_append_left (by rw [← m1]; exact hi)] at hv
      exact m2 i y v hy hv
    · rw [List.getElem?_append_right (Nat.le_of_not_lt hi)] at hy
      rw [List.getElem?_append_right (by rw [← m1]; exact Nat.le_of_not_lt hi), ← m1] at hv
      rw [List.getElem?_map] at hy
      cases hq : caps[i - (as.toList.map E).length]? with
      | none => rw [hq] at hy; cases hy
      | some q =>
        rw [hq] at hy
        cases hy
        exact .c _ _ (e3 _ q v hq hv))
  have hc' := CallsIn.at_round ro hc
  refine hc'.mono ?_
  rintro e w' ⟨v, y, H', G', rfl, hp, R', hv, L⟩
  exact hn v y H' G' w' hp hv R' L

theorem mv_rel {w : World} {G : Gh} {H : List AB} {f : Fn} {x : C} {v : Value} (h : VRel w G H (.c (.mv f x)) v) : ∃ u, v = .func f #[u] #[] ∧ CRel w G H x u := by
  cases h with
  | c _ _ h => cases h with
    | mv _ _ u h => exact ⟨u, rfl, h⟩
theorem opAt_callM {P : Program} {ro : Option Nat} {o : Oper} {H : List AB} {E : Operand → V} {x : Operand} {as : Array Operand} {ts : Array TypeId} {g : FuncId} {c : C} {post : V → List AB → Prop}
    (ho : o.op = .call { callee := .value x, args := as, argTypes := ts }) (hx : E x = .c (.mv (.func g) c)) (h : ACall P g (.c c :: as.toList.map E) H post) : OpAt P ro o H E post := by
  intro w G a next Q R hE hn
  have hfx := hE x (by simp [ho, Op.operands, Call.operands])
  rw [hx] at hfx
  obtain ⟨u, e1, e3⟩ := mv_rel hfx
  obtain ⟨m1, m2⟩ := map_rel (a := a) (fun y hy => hE y (by simp [ho, Op.operands, Call.operands]; exact .inr hy))
  refine ⟨fun _ _ => trivial, ?_⟩
  rw [Oper.semAt_eq _ _ _ (by simp [ho])]
  have hrun : (execOp a.eval o).run P w = .ok (.enter g (#[u] ++ as.map a.eval)) w := by
    simp [execOp, ho, resolve, e1, Deferred.ofValue, invoke, h.1]
  rw [hrun, Oper.uponIn_enter]
  refine ⟨fun e => by simp [Fence.wide] at e, ?_⟩
  have hc := h.2 w G (#[u] ++ as.map a.eval) R (by simp) (fun i y v hy hv => by
    rw [Array.toList_append] at hv
    cases i with
    | zero => simp at hy hv; subst hy; subst hv; exact .c _ _ e3
    | succ i => exact m2 i y v (by simpa using hy) (by simpa using hv))
  have hc' := CallsIn.at_round ro hc
  refine hc'.mono ?_
  rintro e w' ⟨v, y, H', G', rfl, hp, R', hv, L⟩
  exact hn v y H' G' w' hp hv R' L
theorem ma_rel {w : World} {G : Gh} {H : List AB} {f : Fn} {cs : List C} {v : Value} (h : VRel w G H (.c (.ma f cs)) v) : ∃ arr, v = .func f #[.agg arr] #[] ∧ CsRel w G H cs arr.toList := by
  cases h with
  | c _ _ h => cases h with
    | ma _ _ arr hs ho h => exact ⟨arr, rfl, by simpa using hs.symm, fun i x v hx hv => ⟨h i x v hx (by simpa using hv), ho i v (by simpa using hv)⟩⟩
theorem opAt_callA {P : Program} {ro : Option Nat} {o : Oper} {H : List AB} {E : Operand → V} {x : Operand} {as : Array Operand} {ts : Array TypeId} {g : FuncId} {c : List C} {post : V → List AB → Prop}
    (ho : o.op = .call { callee := .value x, args := as, argTypes := ts }) (hx : E x = .c (.ma (.func g) c)) (h : ACall P g (.agg c :: as.toList.map E) H post) : OpAt P ro o H E post := by
  intro w G a next Q R hE hn
  have hfx := hE x (by simp [ho, Op.operands, Call.operands])
  rw [hx] at hfx
  obtain ⟨u, e1, e3⟩ := ma_rel hfx
  obtain ⟨m1, m2⟩ := map_rel (a := a) (fun y hy => hE y (by simp [ho, Op.operands, Call.operands]; exact .inr hy))
  refine ⟨fun _ _ => trivial, ?_⟩
  rw [Oper.semAt_eq _ _ _ (by simp [ho])]
  have hrun : (execOp a.eval o).run P w = .ok (.enter g (#[.agg u] ++ as.map a.eval)) w := by
    simp [execOp, ho, resolve, e1, Deferred.ofValue, invoke, h.1]
  rw [hrun, Oper.uponIn_enter]
  refine ⟨fun e => by simp [Fence.wide] at e, ?_⟩
  have hc := h.2 w G (#[.agg u] ++ as.map a.eval) R (by simp) (fun i y v hy hv => by
    rw [Array.toList_append] at hv
    cases i with
    | zero => simp at hy hv; subst hy; subst hv; exact .agg _ _ e3
    | succ i => exact m2 i y v (by simpa using hy) (by simpa using hv))
  have hc' := CallsIn.at_round ro hc
  refine hc'.mono ?_
  rintro e w' ⟨v, y, H', G', rfl, hp, R', hv, L⟩
  exact hn v y H' G' w' hp hv R' L

/-! ### What a function hands back -/
def resOne (X : Tx) (s : St) : ResultVar → Option V
  | .tmp t => some (s.get t)
  | .cell a t => match X.tt t, s.get a with
    | some i, .c (.ptr id off) => match s.heap[id]? with
      | some (.cells cs) => if off + i.size ≤ cs.length then some (mkV i cs off) else none
      | _ => none
    | _, _ => none
def resList (X : Tx) (s : St) : List ResultVar → Option (List V)
  | [] => some []
  | r :: rs => match resOne X s r, resList X s rs with
    | some x, some xs => some (x :: xs)
    | _, _ => none
def resV : List V → V
  | [x] => x
  | xs => .tup xs

def popM : List Nat → List AB → Option (List AB)
  | [], H => some H
  | id :: r, H => match H[id]? with
    | some .df => popM r (H.set id .gone)
    | _ => none

def retQ (X : Tx) (fn : Func) (post : V → List AB → Prop) : Exit → St → Prop
  | .normal, s | .ret, s => ∃ H xs, popM s.marks s.heap = some H ∧ resList X { s with heap := H } fn.results.toList = some xs ∧ post (resV xs) H
  | _, _ => False

def argS : Nat → List V → List (Nat × V)
  | _, [] => []
  | n, x :: r => (n, x) :: argS (n + 1) r

theorem getS_argS : ∀ (l : List V) (n j : Nat), getS (argS n l) j = if n ≤ j then (l[j - n]?).getD (.c .any) else .c .any
  | [], n, j => by simp [argS, getS]
  | x :: r, n, j => by
    simp only [argS, getS, getS_argS r]
    by_cases h : n = j
    · subst h; simp
    · rw [if_neg h]
      by_cases h2 : n + 1 ≤ j
      · rw [if_pos h2, if_pos (by omega)]
        have : j - n = (j - (n + 1)) + 1 := by omega
        rw [this]; simp
      · rw [if_neg h2, if_neg (by omega)]

section
variable {X : Tx} {w : World} {G : Gh}

theorem rel_mkV {P : Program} {tt : Nat → Option TI} (T : TTok P tt) {H : List AB} {t : Nat} {i : TI} (ht : tt t = some i) {off : Nat} {cs : List C} {vs : List Value} (hr : CsRel w G H cs vs) (hoff : off + i.size ≤ cs.length) :
    VRel w G H (mkV i cs off) (if isAggD i.desc then .agg ((vs.drop off).take i.size).toArray else vs[off]?.getD undef) := by
  unfold mkV
  cases ha : isAggD i.desc with
  | true => simp only [if_true]; exact .agg _ _ (by simpa using (hr.drop off).take i.size)
  | false =>
    have h1 := T.one t i ht ha
    have hlt : off < cs.length := by omega
    obtain ⟨v, hv, hx, _⟩ := hr.get (i := off) (x := cs[off]) (by simp [hlt])
    simp only [Bool.false_eq_true, if_false, hv, List.getElem?_eq_getElem hlt, Option.getD_some]
    exact .c _ _ hx

def resRun (tm : Array Value) : ResultVar → Sem Value
  | .tmp t => pure (tm.getD t undef)
  | .cell a t => do loadVar t (← asAddr (tm.getD a undef))

theorem run_resOne {s : St} {tm : Array Value} {r : ResultVar} {x : V} (R : Rel w G s.heap) (hs : ∀ i, VRel w G s.heap (s.get i) (tm.getD i undef)) (h : resOne X s r = some x) :
    ∃ v, (resRun tm r).run X.P w = .ok v w ∧ VRel w G s.heap x v := by
  cases r with
  | tmp t => simp [resOne] at h; subst h; exact ⟨_, rfl, hs t⟩
  | cell a t =>
    simp only [resOne] at h
    split at h
    · rename_i i id off hi hp
      split at h
      · rename_i cs hid
        split at h
        · rename_i hle
          cases h
          have ha := hs a
          rw [hp] at ha
          obtain ⟨e1, _⟩ := ptr_rel ha
          obtain ⟨arr, t', hb, hr⟩ := cells_at R hid
          have hrun := run_loadVar (P := X.P) X.ok hi (b := G.rho id) (off := off) (vs := arr.toList) (w := w) (by rw [← hr.1]; exact hle) (fun j _ => cell_arr hb _)
          refine ⟨if isAggD i.desc then .agg ((arr.toList.drop off).take i.size).toArray else arr.toList[off]?.getD undef, ?_, rel_mkV X.ok hi hr hle⟩
          simp only [resRun, e1, asAddr, Sem.run_bind, Sem.run_pure, Result.andThen_ok]
          exact hrun
        · cases h
      · cases h
    · cases h

theorem run_resList {s : St} {tm : Array Value} (R : Rel w G s.heap) (hs : ∀ i, VRel w G s.heap (s.get i) (tm.getD i undef)) : ∀ {rs : List ResultVar} {xs : List V}, resList X s rs = some xs →
    ∃ vs : List Value, (rs.mapM (resRun tm)).run X.P w = .ok vs w ∧ xs.length = vs.length ∧ ∀ (i : Nat) (x : V) (v : Value), xs[i]? = some x → vs[i]? = some v → VRel w G s.heap x v
  | [], xs, h => by simp [resList] at h; subst h; exact ⟨[], by simp, rfl, fun i x v h => by simp at h⟩
  | r :: rs, xs, h => by
    simp only [resList] at h
    split at h
    · rename_i x xs' hx hxs
      cases h
      obtain ⟨v, h1, h2⟩ := run_resOne R hs hx
      obtain ⟨vs, h3, h4, h5⟩ := run_resList R hs hxs
      refine ⟨v :: vs, ?_, by simp [h4], fun i y u hy hu => ?_⟩
      · simp only [List.mapM_cons, Sem.run_bind]
        rw [h1]
        simp only [Result.andThen_ok, h3, Sem.run_pure]
      · cases i with
        | zero => simp at hy hu; subst hy; subst hu; exact h2
        | succ i => exact h5 i y u (by simpa using hy) (by simpa using hu)
    · cases h

theorem run_results {s : St} {tm : Array Value} {fn : Func} {xs : List V} (R : Rel w G s.heap) (hs : ∀ i, VRel w G s.heap (s.get i) (tm.getD i undef)) (h : resList X s fn.results.toList = some xs) :
    ∃ v, (results fn tm).run X.P w = .ok v w ∧ VRel w G s.heap (resV xs) v := by
  obtain ⟨vs, h1, h2, h3⟩ := run_resList R hs h
  have hm : (fn.results.mapM (resRun tm)).run X.P w = .ok vs.toArray w := by
    rw [Array.mapM_eq_mapM_toList, Sem.run_map, h1, Result.andThen_ok]
  refine ⟨if h : vs.toArray.size = 1 then vs.toArray[0] else .tuple vs.toArray, ?_, ?_⟩
  · have he : results fn tm = (do
        let vs ← fn.results.mapM (resRun tm)
        pure (if h : vs.size = 1 then vs[0] else .tuple vs)) := by
      unfold results
      congr 1
    rw [he, Sem.run_bind, hm]
    simp
  · cases vs with
    | nil =>
      have : xs = [] := by simpa using h2
      subst this
      simpa [resV] using VRel.tup (w := w) (G := G) (H := s.heap) [] #[] rfl (fun i x v h => by simp at h)
    | cons v vs =>
      cases xs with
      | nil => simp at h2
      | cons x xs =>
        cases vs with
        | nil =>
          have : xs = [] := by simpa using h2
          subst this
          simpa [resV] using h3 0 x v rfl rfl
        | cons v' vs =>
          cases xs with
          | nil => simp at h2
          | cons x' xs => simpa [resV] using VRel.tup (w := w) (G := G) (H := s.heap) (x :: x' :: xs) (v :: v' :: vs).toArray (by simpa using h2.symm) (fun i x v hx hv => h3 i x v hx (by simpa using hv))

theorem leaves_marks_app {fn : Func} {tm : Array Value} {R : Ending → World → Prop} {G : Gh} {ds : List Deferred} : ∀ (ms : List Nat) (H H' : List AB) (w : World), Rel w G H → popM ms H = some H' →
    (∀ w', Rel w' G H' → Later w G H w' G H' → LeavesInM (Wd none) 0 X.P fn tm R ds .returning w') → LeavesInM (Wd none) 0 X.P fn tm R (ms.map (markOf G) ++ ds) .returning w
  | [], H, H', w, hR, h, k => by simp [popM] at h; subst h; exact k w hR (Later.refl _ _ _)
  | id :: ms, H, H', w, hR, h, k => by
    simp only [popM] at h
    split at h
    · rename_i hid
      cases hR.ab id _ hid with
      | df hb hrole =>
        have hnc : ∀ j, w.cell? ⟨G.rho id, j, none⟩ = none := fun j => by simp [World.cell?, hb]
        have L : Later w G H (w.putObj (G.rho id) (.deferred none)) G (H.set id .gone) :=
          Later.put_own hrole (fun j hj => by obtain ⟨v, hv⟩ := hR.sex _ j hj; rw [hnc] at hv; cases hv) (fun n sz e => by cases e) (fun n sz cs e => by cases e)
        have R' := hR.put_own hrole L (fun _ => .gone)
        refine ⟨by simp, .inl ⟨G.rho id, _, rfl, run_takeDeferred hb, ?_⟩⟩
        exact leaves_marks_app ms _ H' _ R' h (fun w' r l => k w' r (L.trans l))
    · cases h
theorem leaves_marks {fn : Func} {tm : Array Value} {R : Ending → World → Prop} {G : Gh} : ∀ (ms : List Nat) (H H' : List AB) (w : World), Rel w G H → popM ms H = some H' →
    (∀ w', Rel w' G H' → Later w G H w' G H' → LeavesInM (Wd none) 0 X.P fn tm R [] .returning w') → LeavesInM (Wd none) 0 X.P fn tm R (ms.map (markOf G)) .returning w
  | [], H, H', w, hR, h, k => by simp [popM] at h; subst h; exact k w hR (Later.refl _ _ _)
  | id :: ms, H, H', w, hR, h, k => by
    simp only [popM] at h
    split at h
    · rename_i hid
      cases hR.ab id _ hid with
      | df hb hrole =>
        have hnc : ∀ j, w.cell? ⟨G.rho id, j, none⟩ = none := fun j => by simp [World.cell?, hb]
        have L : Later w G H (w.putObj (G.rho id) (.deferred none)) G (H.set id .gone) :=
          Later.put_own hrole (fun j hj => by obtain ⟨v, hv⟩ := hR.sex _ j hj; rw [hnc] at hv; cases hv) (fun n sz e => by cases e) (fun n sz cs e => by cases e)
        have R' := hR.put_own hrole L (fun _ => .gone)
        refine ⟨by simp, .inl ⟨G.rho id, _, rfl, run_takeDeferred hb, ?_⟩⟩
        exact leaves_marks ms _ H' _ R' h (fun w' r l => k w' r (L.trans l))
    · cases h

/-- The marks of ranges that are over. -/
theorem leaves_hid {fn : Func} {tm : Array Value} {R : Ending → World → Prop} {G : Gh} {H : List AB} : ∀ (hs : List Nat) (w : World), hs.Nodup → Rel w G H → (∀ b, b ∈ hs → G.role b = some H.length ∧ w.heap[b]? = some (.deferred (some []))) →
    (∀ w', Rel w' G H → Later w G H w' G H → LeavesInM (Wd none) 0 X.P fn tm R [] .returning w') → LeavesInM (Wd none) 0 X.P fn tm R (hs.map hidOf) .returning w
  | [], w, _, hR, _, k => k w hR (Later.refl _ _ _)
  | b :: hs, w, hn, hR, h, k => by
    obtain ⟨hrole, hb⟩ := h b (by simp)
    have hnc : ∀ j, w.cell? ⟨b, j, none⟩ = none := fun j => by simp [World.cell?, hb]
    have hset : H.set H.length AB.gone = H := List.set_eq_of_length_le (Nat.le_refl _)
    have L : Later w G H (w.putObj b (.deferred none)) G (H.set H.length .gone) :=
      Later.put_own hrole (fun j hj => by obtain ⟨v, hv⟩ := hR.sex _ j hj; rw [hnc] at hv; cases hv) (fun n sz e => by cases e) (fun n sz cs e => by cases e)
    have R' := hR.put_own hrole L (fun _ => .gone)
    rw [hset] at L R'
    rw [List.nodup_cons] at hn
    refine ⟨by simp, .inl ⟨b, _, rfl, run_takeDeferred hb, ?_⟩⟩
    refine leaves_hid hs _ hn.2 R' (fun c hc => ?_) (fun w' r l => k w' r (L.trans l))
    obtain ⟨h1, h2⟩ := h c (by simp [hc])
    refine ⟨h1, ?_⟩
    have hne : c ≠ b := fun e => hn.1 (by rw [← e]; exact hc)
    rw [put_other hne]; exact h2
/-- Blocks of no one, given to someone who is not there. -/
theorem Rel.adopt_free {w : World} {G : Gh} {H : List AB} {hs : List Nat} (R : Rel w G H) (h : ∀ b, b ∈ hs → b < w.heap.size ∧ G.role b = none) : Rel w { G with role := fun b => if b ∈ hs then some H.length else G.role b } H where
  sex := R.sex
  roleLt := fun b id hb => by
    by_cases e : b ∈ hs
    · exact (h b e).1
    · simp only [e, if_false] at hb; exact R.roleLt b id hb
  ab := fun id x hx => by
    have hrole : ∀ b, G.role b = some id → (if b ∈ hs then some H.length else G.role b) = some id := fun b hb => by
      by_cases e : b ∈ hs
      · rw [(h b e).2] at hb; cases hb
      · simp only [e, if_false]; exact hb
    have cr : ∀ (x : C) (v : Value), CRel w G H x v → CRel w { G with role := fun b => if b ∈ hs then some H.length else G.role b } H x v := fun x v h => by
      induction h with
      | any v => exact .any v
      | d x v h => exact .d x v h
      | ptr id off h => exact .ptr id off h
      | nilp => exact .nilp
      | dp ds b o f hcell hrel => exact .dp ds b o f hcell hrel
      | full rows a n hn h => exact .full rows a n hn h
      | own id rows a n cap hid hn h hg => exact .own id rows a n cap hid hn h hg
      | ms id off n cap h => exact .ms id off n cap h
      | fn f caps arr hs _ ih => exact .fn f caps arr hs ih
      | ma f cs arr hs ho _ ih => exact .ma f cs arr hs ho ih
      | mv f x v _ ih => exact .mv f x v ih
      | mp id h => exact .mp id h
      | yd id h => exact .yd id h
      | gp g => exact .gp g
      | vs id n a cap hid ha hg => exact .vs id n a cap hid ha hg
      | vc id n a hid ha hg => exact .vc id n a hid ha hg
      | fs n sz cs b o vs hl hn hcell _ ih => exact .fs n sz cs b o vs hl hn hcell ih
      | vp id n off a hid hg => exact .vp id n off a hid hg
    have vr : ∀ (x : V) (v : Value), VRel w G H x v → VRel w { G with role := fun b => if b ∈ hs then some H.length else G.role b } H x v := fun x v h => by
      induction h with
      | c x v h => exact .c x v (cr x v h)
      | agg cs arr h => exact .agg cs arr ⟨h.1, fun i x v hx hv => ⟨cr x v (h.2 i x v hx hv).1, (h.2 i x v hx hv).2⟩⟩
      | tup vs arr hs _ ih => exact .tup vs arr hs ih
    cases R.ab id x hx with
    | gone => exact .gone
    | cells cs arr t hb hr hro hS => exact .cells cs arr t hb ⟨hr.1, fun i x v hx hv => ⟨cr x v (hr.2 i x v hx hv).1, (hr.2 i x v hx hv).2⟩⟩ (hrole _ hro) hS
    | grow n sz a cap hg hcap h hnil => exact .grow n sz a cap hg hcap (fun x hx hn => by obtain ⟨b, o, h1, h2, h3⟩ := h x hx hn; exact ⟨b, o, h1, hrole b h2, h3⟩) hnil
    | vec n sz cs a cap hg hcap hl h => exact .vec n sz cs a cap hg hcap hl (fun hz => by obtain ⟨b, arr, t, h1, h2, h3, h4, h5, h6⟩ := h hz; exact ⟨b, arr, t, h1, hrole b h2, h3, h4, ⟨h5.1, fun i x v hx hv => ⟨cr x v (h5.2 i x v hx hv).1, (h5.2 i x v hx hv).2⟩⟩, h6⟩)
    | mp es rs clock hb hr hro => exact .mp es rs clock hb ⟨hr.1, fun i e r he hr' => ⟨vr _ _ (hr.2 i e r he hr').1, vr _ _ (hr.2 i e r he hr').2⟩⟩ (hrole _ hro)
    | mpg es rs clock hb hok hro => exact .mpg es rs clock hb (hok.mono (fun _ _ h => h) (fun b h => ⟨hrole b h, rfl, fun _ h => h⟩)) (hrole _ hro)
    | lp r fn tmps hb hsz hD hs hro => exact .lp r fn tmps hb hsz hD (fun i => vr _ _ (hs i)) (hrole _ hro)
    | df hb hro => exact .df hb (hrole _ hro)
    | gl g ds f hc hr => exact .gl g ds f hc hr
theorem VRel.role_free {w : World} {G : Gh} {H : List AB} {f : Nat → Option Nat} {x : V} {v : Value} (h : VRel w G H x v) : VRel w { G with role := f } H x v := by
  have cr : ∀ (x : C) (v : Value), CRel w G H x v → CRel w { G with role := f } H x v := fun x v h => by
    induction h with
    | any v => exact .any v
    | d x v h => exact .d x v h
    | ptr id off h => exact .ptr id off h
    | nilp => exact .nilp
    | dp ds b o f hcell hrel => exact .dp ds b o f hcell hrel
    | full rows a n hn h => exact .full rows a n hn h
    | own id rows a n cap hid hn h hg => exact .own id rows a n cap hid hn h hg
    | ms id off n cap h => exact .ms id off n cap h
    | fn f caps arr hs _ ih => exact .fn f caps arr hs ih
    | ma f cs arr hs ho _ ih => exact .ma f cs arr hs ho ih
    | mv f x v _ ih => exact .mv f x v ih
    | mp id h => exact .mp id h
    | yd id h => exact .yd id h
    | gp g => exact .gp g
    | vs id n a cap hid ha hg => exact .vs id n a cap hid ha hg
    | vc id n a hid ha hg => exact .vc id n a hid ha hg
    | fs n sz cs b o vs hl hn hcell _ ih => exact .fs n sz cs b o vs hl hn hcell ih
    | vp id n off a hid hg => exact .vp id n off a hid hg
  induction h with
  | c x v h => exact .c x v (cr x v h)
  | agg cs arr h => exact .agg cs arr ⟨h.1, fun i x v hx hv => ⟨cr x v (h.2 i x v hx hv).1, (h.2 i x v hx hv).2⟩⟩
  | tup vs arr hs _ ih => exact .tup vs arr hs ih

theorem popM_len : ∀ (ms : List Nat) (H H' : List AB), popM ms H = some H' → H'.length = H.length
  | [], H, H', h => by simp [popM] at h; rw [h]
  | id :: ms, H, H', h => by
    simp only [popM] at h
    split at h
    · rw [popM_len ms _ _ h]; simp
    · cases h

def notNum (fn : Func) : Bool := !(fn.name == "runtime.NumGoroutine")

/-- A function's contract, out of its body. -/
theorem acall_of_awp {f : FuncId} {fn : Func} {c : Code} {args : List V} {H : List AB} {post : V → List AB → Prop} (hf : X.P.funcs[f]? = some fn) (hb : fn.body = some c) (hn0 : notNum fn = true)
    {nt : Nat} (hnt : args.length + (fn.ntmps - args.length) = nt)
    (h : AWP { P := X.P, tt := X.tt, r := none, nb := H.length, nt := nt } c (retQ X fn post) { slots := argS 0 args, heap := H, marks := [] }) : ACall X.P f args H post := by
  have hn : (fn.name == "runtime.NumGoroutine") = false := by simpa [notNum] using hn0
  refine ⟨fun as w => ?_, fun w G vs R hl hr => ?_⟩
  · simp only [callFunc, Sem.run_bind, run_program, Result.andThen_ok, hf, hn, Bool.false_eq_true, if_false, hb, Option.isNone_some]
    rfl
  · have hl' : args.length = vs.size := by simpa using hl
    refine callsIn_of_wp_marks hf hb trivial ?_
    have hst : RelSt ⟨w, G, H⟩ H.length nt w G { slots := argS 0 args, heap := H, marks := [] } { tmps := vs ++ Array.replicate (fn.ntmps - vs.size) undef, defers := [] } :=
      { rel := R
        later := Later.refl _ _ _
        base := rfl
        size := by simp; omega
        slots := fun i => by
          simp only [St.get, getS_argS, Nat.zero_le, if_true, Nat.sub_zero]
          cases hx : args[i]? with
          | none => exact .c _ _ (.any _)
          | some x =>
            have hi : i < vs.size := by rw [← hl']; exact (List.getElem?_eq_some_iff.1 hx).1
            have e : (vs ++ Array.replicate (fn.ntmps - vs.size) undef).getD i undef = vs[i] := by
              rw [Array.getD_eq_getD_getElem?, Array.getElem?_append_left hi]; simp [hi]
            rw [e]
            exact hr i x _ hx (by simp [hi])
        defers := ⟨[], Hid.nil _ _ _, rfl⟩
        marks := fun id h => by simp at h }
    refine wpIn_mono (h _ w G _ hst) ?_
    rintro e a' w' ⟨s', G', hq, hR⟩
    have fin : (∃ H1 xs, popM s'.marks s'.heap = some H1 ∧ resList X { s' with heap := H1 } fn.results.toList = some xs ∧ post (resV xs) H1) → LeavesInM (Wd none) 0 X.P fn a'.tmps (fun e w' => ∃ v x H' G', e = .returned v ∧ post x H' ∧ Rel w' G' H' ∧ VRel w' G' H' x v ∧ Later w G H w' G' H') a'.defers .returning w' := by
      rintro ⟨H1, xs, h1, h2, h3⟩
      obtain ⟨hs, hh, hde⟩ := hR.defers
      rw [hde]
      refine leaves_marks_app s'.marks s'.heap H1 w' hR.rel h1 (fun w2 R2 L2 => ?_)
      have hh2 := hh.mono L2
      have R2' := R2.adopt_free (hs := hs) (fun b hb => ⟨(hh2.at' b hb).2.1, (hh2.at' b hb).2.2.1⟩)
      refine leaves_hid hs w2 hh2.nd R2' (fun b hb => ⟨by simp [hb], (hh2.at' b hb).2.2.2⟩) (fun w3 R3 L3 => ?_)
      have L03 : Later w G H w2 { G' with role := fun b => if b ∈ hs then some H1.length else G'.role b } H1 := by
        have L := hR.later.trans L2
        exact { size := L.size, S := L.S, Snew := L.Snew, len := L.len, rho := L.rho, grow := L.grow, vec := L.vec, frame := L.frame, os := L.os, out := L.out
                role := fun b hb => by
                  by_cases e : b ∈ hs
                  · exact absurd hb (Nat.not_lt.2 (hh2.at' b e).1)
                  · simp only [e, if_false]; exact L.role b hb }
      obtain ⟨v, hv1, hv2⟩ := run_results (X := X) (s := { s' with heap := H1 }) (tm := a'.tmps) (fn := fn) R3 (fun i => (((hR.slots i).mono L2).role_free).mono L3) h2
      exact ⟨v, hv1, v, _, H1, _, rfl, h3, R3, hv2, L03.trans L3⟩
    cases e with
    | normal => exact fin hq
    | ret => exact fin hq
    | _ => exact hq.elim
end
end Go.Abs
/- Regions whose order is drawn: whatever the order is, all comes out as in the text's order. -/
namespace Go.Abs
open Go

def ancRow (tab : List Nat) (i : Nat) (o : Oper) : Nat :=
  o.after.toList.foldl (fun m e => if Region.binds .any e then m ||| (2 ^ e.on ||| (if e.on < i then tab.getD e.on 0 else 0)) else m) 0
def ancGo : List Oper → Nat → List Nat → List Nat
  | [], _, tab => tab
  | o :: os, i, tab => ancGo os (i + 1) (tab ++ [ancRow tab i o])

def pairB (tab : List Nat) (loud : Nat) (ops : Array Oper) (i : Nat) (o : Oper) (j : Nat) : Bool :=
  j == i || match ops[j]? with
    | none => true
    | some oj =>
      (match o.dst, oj.dst with | some a, some b => a != b | _, _ => true) &&
      (match oj.dst with | some d => !(o.looksAt ops).contains d || (tab.getD i 0).testBit j || (tab.getD j 0).testBit i | none => true) &&
      (!loud.testBit j || (tab.getD i 0).testBit j || (tab.getD j 0).testBit i) &&
      (!(tab.getD i 0).testBit j || decide (j < i))
def conflT (tab : List Nat) (loud : Nat) (ops : Array Oper) : Bool :=
  (List.range ops.size).all fun i => match ops[i]? with
    | none => true
    | some o => o.after.all (fun e => !Region.binds .any e || decide (e.on < i)) && tab.getD i 0 == ancRow tab i o && !(tab.getD i 0).testBit i && (match o.dst with | some d => !(o.looksAt ops).contains d | none => true) && (List.range ops.size).all (pairB tab loud ops i o)
def conflB (loud : Nat) (ops : Array Oper) : Bool := conflT (ancGo ops.toList 0 []) loud ops

theorem ancRow_bit {tab : List Nat} {i k : Nat} {o : Oper} (h : (ancRow tab i o).testBit k = true) : ∃ e ∈ o.after, Region.binds .any e = true ∧ (e.on = k ∨ (e.on < i ∧ (tab.getD e.on 0).testBit k = true)) := by
  have key : ∀ (l : List Edge) (m : Nat), (l.foldl (fun m e => if Region.binds .any e then m ||| (2 ^ e.on ||| (if e.on < i then tab.getD e.on 0 else 0)) else m) m).testBit k = true →
      m.testBit k = true ∨ ∃ e ∈ l, Region.binds .any e = true ∧ (e.on = k ∨ (e.on < i ∧ (tab.getD e.on 0).testBit k = true)) := by
    intro l
    induction l with
    | nil => intro m hm; exact .inl hm
    | cons e l ih =>
      intro m hm
      rw [List.foldl_cons] at hm
      rcases ih _ hm with h1 | ⟨e', he', h1⟩
      · by_cases hb : Region.binds .any e = true
        · simp only [hb, if_true, Nat.testBit_or, Bool.or_eq_true, Nat.testBit_two_pow, decide_eq_true_eq] at h1
          rcases h1 with h1 | h1 | h1
          · exact .inl h1
          · exact .inr ⟨e, by simp, hb, .inl h1⟩
          · by_cases hlt : e.on < i
            · simp only [hlt, if_true] at h1; exact .inr ⟨e, by simp, hb, .inr ⟨hlt, h1⟩⟩
            · simp [hlt] at h1
        · simp only [hb] at h1; exact .inl h1
      · exact .inr ⟨e', List.mem_cons_of_mem _ he', h1⟩
  rcases key _ _ h with h1 | ⟨e, he, h1⟩
  · simp at h1
  · exact ⟨e, by simpa using he, h1⟩

section
variable {ops : Array Oper} {base : St} {xs : Nat → V} {hs : Nat → List AB} {loud : Nat}

def slotsL (ops : Array Oper) (base : St) (xs : Nat → V) (L : Nat → Bool) : Nat → List (Nat × V)
  | 0 => base.slots
  | n + 1 => if L n then (match (ops[n]?).bind (·.dst) with | some d => setS (slotsL ops base xs L n) d (xs n) | none => slotsL ops base xs L n) else slotsL ops base xs L n
def heapL (hs : Nat → List AB) (loud : Nat) (L : Nat → Bool) : Nat → List AB
  | 0 => hs 0
  | n + 1 => if L n && loud.testBit n then hs (n + 1) else heapL hs loud L n

theorem slotsL_other {L : Nat → Bool} {d : Nat} : ∀ (n : Nat), (∀ j, j < n → L j = true → (ops[j]?).bind (·.dst) ≠ some d) → getS (slotsL ops base xs L n) d = getS base.slots d
  | 0, _ => rfl
  | n + 1, h => by
    have ih := slotsL_other n (fun j hj => h j (by omega))
    simp only [slotsL]
    split
    · rename_i hL
      split
      · rename_i e he
        have : e ≠ d := fun hh => h n (by omega) hL (by rw [he, hh])
        rw [getS_setS, if_neg this, ih]
      · exact ih
    · exact ih
theorem slotsL_at {L : Nat → Bool} {d k : Nat} : ∀ (n : Nat), k < n → L k = true → (ops[k]?).bind (·.dst) = some d → (∀ j, j < n → j ≠ k → (ops[j]?).bind (·.dst) ≠ some d) → getS (slotsL ops base xs L n) d = xs k
  | 0, hk, _, _, _ => absurd hk (by omega)
  | n + 1, hk, hL, hd, hu => by
    simp only [slotsL]
    by_cases hkn : k = n
    · subst hkn
      simp only [hL, if_true, hd, getS_setS]
    · have ih := slotsL_at n (by omega) hL hd (fun j hj => hu j (by omega))
      split
      · split
        · rename_i e he
          have : e ≠ d := fun hh => hu n (by omega) (fun h => hkn h.symm) (by rw [he, hh])
          rw [getS_setS, if_neg this, ih]
        · exact ih
      · exact ih

theorem heapL_congr {L L' : Nat → Bool} : ∀ (n : Nat), (∀ j, j < n → loud.testBit j = true → L j = L' j) → heapL hs loud L n = heapL hs loud L' n
  | 0, _ => rfl
  | n + 1, h => by
    simp only [heapL]
    rw [heapL_congr n (fun j hj => h j (by omega))]
    by_cases hl : loud.testBit n = true
    · rw [h n (by omega) hl]
    · simp [hl]
theorem heapL_pre {i N : Nat} (hq : ∀ j, j < N → loud.testBit j = false → hs (j + 1) = hs j) : ∀ (n : Nat), n ≤ i → n ≤ N → heapL hs loud (fun j => decide (j < i)) n = hs n
  | 0, _, _ => rfl
  | n + 1, h, hN => by
    simp only [heapL]
    rw [heapL_pre hq n (by omega) (by omega)]
    have : n < i := by omega
    cases hl : loud.testBit n with
    | true => simp [this]
    | false => simp [hq n (by omega) hl]
theorem heapL_post {i : Nat} {h : List AB} (h0 : heapL hs loud (fun j => decide (j < i)) i = h) : ∀ (k : Nat), heapL hs loud (fun j => decide (j < i)) (i + k) = h
  | 0 => h0
  | k + 1 => by
    have e : heapL hs loud (fun j => decide (j < i)) (i + (k + 1)) = heapL hs loud (fun j => decide (j < i)) (i + k) := by
      show heapL hs loud _ ((i + k) + 1) = _
      simp only [heapL]
      simp [show ¬ i + k < i by omega]
    rw [e]; exact heapL_post h0 k

structure Run (X : Cx) (ops : Array Oper) (loud : Nat) (base : St) (xs : Nat → V) (hs : Nat → List AB) : Prop where
  h0 : hs 0 = base.heap
  quiet : ∀ i, i < ops.size → loud.testBit i = false → hs (i + 1) = hs i
  step : ∀ i o, ops[i]? = some o → ∃ t, guardOf ops (getS (slotsL ops base xs (fun _ => true) i)) o = some t ∧
    (if t then OpAt X.P X.r o (hs i) (evS (getS (slotsL ops base xs (fun _ => true) i))) (one (xs i) (hs (i + 1))) else xs i = .tup [] ∧ hs (i + 1) = hs i)

def stL (ops : Array Oper) (loud : Nat) (base : St) (xs : Nat → V) (hs : Nat → List AB) (L : Nat → Bool) : St :=
  { slots := slotsL ops base xs L ops.size, heap := heapL hs loud L ops.size, marks := base.marks }

structure Confl (tab : List Nat) (loud : Nat) (ops : Array Oper) : Prop where
  row : ∀ (i : Nat) (o : Oper), ops[i]? = some o → tab.getD i 0 = ancRow tab i o
  irr : ∀ (i : Nat) (o : Oper), ops[i]? = some o → (tab.getD i 0).testBit i = false
  back : ∀ (i : Nat) (o : Oper), ops[i]? = some o → ∀ e ∈ o.after, Region.binds .any e = true → e.on < i
  self : ∀ (i : Nat) (o : Oper) (d : Nat), ops[i]? = some o → o.dst = some d → d ∉ o.looksAt ops
  dst : ∀ (i : Nat) (o : Oper) (j : Nat) (oj : Oper) (d : Nat), ops[i]? = some o → ops[j]? = some oj → j ≠ i → o.dst = some d → oj.dst ≠ some d
  look : ∀ (i : Nat) (o : Oper) (j : Nat) (oj : Oper) (d : Nat), ops[i]? = some o → ops[j]? = some oj → j ≠ i → oj.dst = some d → d ∈ o.looksAt ops → (tab.getD i 0).testBit j = true ∨ (tab.getD j 0).testBit i = true
  loud : ∀ (i : Nat) (o : Oper) (j : Nat) (oj : Oper), ops[i]? = some o → ops[j]? = some oj → j ≠ i → loud.testBit j = true → (tab.getD i 0).testBit j = true ∨ (tab.getD j 0).testBit i = true
  lt : ∀ (i : Nat) (o : Oper) (j : Nat) (oj : Oper), ops[i]? = some o → ops[j]? = some oj → (tab.getD i 0).testBit j = true → j < i

theorem conflT_spec {tab : List Nat} (h : conflT tab loud ops = true) : Confl tab loud ops := by
  have key : ∀ i o, ops[i]? = some o → tab.getD i 0 = ancRow tab i o ∧ (tab.getD i 0).testBit i = false ∧ (match o.dst with | some d => !(o.looksAt ops).contains d | none => true) = true ∧
      (∀ j, j < ops.size → pairB tab loud ops i o j = true) ∧ o.after.all (fun e => !Region.binds .any e || decide (e.on < i)) = true := fun i o ho => by
    have h1 := List.all_eq_true.1 h i (List.mem_range.2 (Array.getElem?_eq_some_iff.1 ho).1)
    simp only [ho, Bool.and_eq_true, beq_iff_eq, Bool.not_eq_true'] at h1
    exact ⟨h1.1.1.1.2, h1.1.1.2, h1.1.2, fun j hj => List.all_eq_true.1 h1.2 j (List.mem_range.2 hj), h1.1.1.1.1⟩
  have pair : ∀ i o j oj, ops[i]? = some o → ops[j]? = some oj → j ≠ i →
      (match o.dst, oj.dst with | some a, some b => a != b | _, _ => true) = true ∧ (match oj.dst with | some d => !(o.looksAt ops).contains d || (tab.getD i 0).testBit j || (tab.getD j 0).testBit i | none => true) = true ∧
      (!loud.testBit j || (tab.getD i 0).testBit j || (tab.getD j 0).testBit i) = true ∧ (!(tab.getD i 0).testBit j || decide (j < i)) = true := fun i o j oj ho hj hne => by
    have h1 : pairB tab loud ops i o j = true := (key i o ho).2.2.2.1 j (Array.getElem?_eq_some_iff.1 hj).1
    have hne' : (j == i) = false := by simpa using hne
    simp only [pairB, hne', Bool.false_or, hj, Bool.and_eq_true] at h1
    exact ⟨h1.1.1.1, h1.1.1.2, h1.1.2, h1.2⟩
  refine ⟨fun i o ho => (key i o ho).1, fun i o ho => (key i o ho).2.1, fun i o ho e he hb => ?_, fun i o d ho hd => ?_, fun i o j oj d ho hj hne hd hd' => ?_, fun i o j oj d ho hj hne hd hl => ?_, fun i o j oj ho hj hne hl => ?_, fun i o j oj ho hj hb => ?_⟩
  · have := Array.all_eq_true_iff_forall_mem.1 (key i o ho).2.2.2.2 e he
    simpa [hb] using this
  · have := (key i o ho).2.2.1
    simpa [hd] using this
  · have := (pair i o j oj ho hj hne).1
    simp [hd, hd'] at this
  · have := (pair i o j oj ho hj hne).2.1
    simp only [hd, Bool.or_eq_true, Bool.not_eq_true', List.contains_eq_mem, decide_eq_false_iff_not] at this
    rcases this with (h1 | h1) | h1
    · exact absurd hl h1
    · exact .inl h1
    · exact .inr h1
  · have := (pair i o j oj ho hj hne).2.2.1
    simp only [hl, Bool.not_true, Bool.false_or, Bool.or_eq_true] at this
    exact this
  · by_cases hne : j = i
    · subst hne; rw [(key j o ho).2.1] at hb; cases hb
    · have := (pair i o j oj ho hj hne).2.2.2
      simp only [hb, Bool.not_true, Bool.false_or, decide_eq_true_eq] at this
      exact this

def Closed (ops : Array Oper) (listed : Array Bool) : Prop := ∀ j oj, ops[j]? = some oj → listed.getD j false = true → ∀ e ∈ oj.after, Region.binds .any e = true → listed.getD e.on false = true

theorem anc_listed {tab : List Nat} {listed : Array Bool} (C : Confl tab loud ops) (cl : Closed ops listed) : ∀ (i : Nat) (o : Oper), ops[i]? = some o → (∀ e ∈ o.after, Region.binds .any e = true → listed.getD e.on false = true) →
    ∀ k, (tab.getD i 0).testBit k = true → listed.getD k false = true := by
  intro i
  induction i using Nat.strongRecOn with
  | _ i ih =>
    intro o ho hall k hk
    rw [C.row i o ho] at hk
    obtain ⟨e, he, hb, h1 | ⟨hlt, h1⟩⟩ := ancRow_bit hk
    · subst h1; exact hall e he hb
    · have hl := hall e he hb
      have hsz : e.on < ops.size := by have := (Array.getElem?_eq_some_iff.1 ho).1; omega
      have hoe : ops[e.on]? = some ops[e.on] := by simp [hsz]
      exact ih e.on hlt _ hoe (cl e.on _ hoe hl) k h1

def gl (listed : Array Bool) (j : Nat) : Bool := listed.getD j false

theorem guardOf_congr {all : Array Oper} {g g' : Nat → V} {o : Oper} (h : ∀ d ∈ o.looksAt all, g d = g' d) : guardOf all g o = guardOf all g' o := by
  unfold guardOf
  cases hg : o.guard with
  | none => rfl
  | some p =>
    obtain ⟨j, t⟩ := p
    cases hd : (all[j]?).bind (·.dst) with
    | none => simp only [hd]
    | some d =>
      have := h d (by simp [Oper.looksAt, hg, hd])
      simp only [hd, this]
theorem evS_congr {all : Array Oper} {g g' : Nat → V} {o : Oper} (h : ∀ d ∈ o.looksAt all, g d = g' d) : ∀ x ∈ o.op.operands, evS g x = evS g' x := fun x hx => by
  cases x with
  | tmp t => exact h t (List.mem_append_left _ (List.mem_filterMap.2 ⟨.tmp t, by simpa using hx, rfl⟩))
  | _ => rfl
theorem OpAt.congr {P : Program} {ro : Option Nat} {o : Oper} {H : List AB} {E E' : Operand → V} {post : V → List AB → Prop} (he : ∀ x ∈ o.op.operands, E x = E' x) (h : OpAt P ro o H E post) : OpAt P ro o H E' post :=
  fun w G a next Q R hE hn => h w G a next Q R (fun x hx => by rw [he x hx]; exact hE x hx) hn

theorem dst_bind {j : Nat} {oj : Oper} {d : Nat} (hj : ops[j]? = some oj) : (ops[j]?).bind (·.dst) = some d ↔ oj.dst = some d := by simp [hj]

theorem look_same {tab : List Nat} {listed : Array Bool} (C : Confl tab loud ops) (cl : Closed ops listed) {i : Nat} {o : Oper} (ho : ops[i]? = some o) (hun : listed.getD i false = false)
    (hall : ∀ e ∈ o.after, Region.binds .any e = true → listed.getD e.on false = true) {d : Nat} (hd : d ∈ o.looksAt ops) :
    getS (slotsL ops base xs (gl listed) ops.size) d = getS (slotsL ops base xs (fun _ => true) i) d := by
  have hi : i < ops.size := (Array.getElem?_eq_some_iff.1 ho).1
  by_cases hex : ∃ j, j < ops.size ∧ (ops[j]?).bind (·.dst) = some d
  · obtain ⟨j, hj, hjd⟩ := hex
    have hoj : ops[j]? = some ops[j] := by simp [hj]
    have hjd' := (dst_bind hoj).1 hjd
    have hne : j ≠ i := fun e => by
      subst e
      rw [ho] at hoj
      cases hoj
      exact C.self _ _ d ho hjd' hd
    have uniq : ∀ k, k < ops.size → k ≠ j → (ops[k]?).bind (·.dst) ≠ some d := fun k hk hkj h => by
      have hok : ops[k]? = some ops[k] := by simp [hk]
      exact C.dst j _ k _ d hoj hok hkj hjd' ((dst_bind hok).1 h)
    rcases C.look i o j _ d ho hoj hne hjd' hd with h1 | h1
    · have hl := anc_listed C cl i o ho hall j h1
      have hlt := C.lt i o j _ ho hoj h1
      rw [slotsL_at ops.size hj hl hjd uniq, slotsL_at i hlt rfl hjd (fun k hk => uniq k (by omega))]
    · have hlt := C.lt j _ i o hoj ho h1
      have hnl : gl listed j = false := by
        cases hl : gl listed j with
        | false => rfl
        | true =>
          have := anc_listed C cl j _ hoj (cl j _ hoj hl) i h1
          rw [hun] at this; cases this
      rw [slotsL_other ops.size (fun k hk hL h => ?_), slotsL_other i (fun k hk _ h => ?_)]
      · exact uniq k (by omega) (by omega) h
      · by_cases hkj : k = j
        · subst hkj; rw [hnl] at hL; cases hL
        · exact uniq k hk hkj h
  · rw [slotsL_other ops.size (fun k hk _ h => hex ⟨k, hk, h⟩), slotsL_other i (fun k hk _ h => hex ⟨k, by omega, h⟩)]

theorem heap_same {X : Cx} {tab : List Nat} {listed : Array Bool} (C : Confl tab loud ops) (cl : Closed ops listed) (rn : Run X ops loud base xs hs) {i : Nat} {o : Oper} (ho : ops[i]? = some o) (hun : listed.getD i false = false)
    (hall : ∀ e ∈ o.after, Region.binds .any e = true → listed.getD e.on false = true) : heapL hs loud (gl listed) ops.size = hs i := by
  have hi : i < ops.size := (Array.getElem?_eq_some_iff.1 ho).1
  rw [heapL_congr (L' := fun j => decide (j < i)) ops.size (fun j hj hl => ?_)]
  · have h1 := heapL_pre (i := i) (N := ops.size) rn.quiet i (Nat.le_refl _) (by omega)
    have h2 := heapL_post (hs := hs) (loud := loud) h1 (ops.size - i)
    rwa [Nat.add_sub_cancel' (by omega)] at h2
  · have hoj : ops[j]? = some ops[j] := by simp [hj]
    by_cases hne : j = i
    · subst hne; simp only [gl, hun]; simp
    · rcases C.loud i o j _ ho hoj hne hl with h1 | h1
      · have h2 := anc_listed C cl i o ho hall j h1
        have h3 := C.lt i o j _ ho hoj h1
        simp [gl, h2, h3]
      · have h3 := C.lt j _ i o hoj ho h1
        have h4 : gl listed j = false := by
          cases h : gl listed j with
          | false => rfl
          | true =>
            have := anc_listed C cl j _ hoj (cl j _ hoj h) i h1
            rw [hun] at this; cases this
        rw [h4]; simp; omega

theorem RelSt.same {bs : Base} {nb nt : Nat} {w : World} {G : Gh} {s s' : St} {a : Act} (h : RelSt bs nb nt w G s a) (h1 : ∀ i, s'.get i = s.get i) (h2 : s'.heap = s.heap) (h3 : s'.marks = s.marks) : RelSt bs nb nt w G s' a :=
  { rel := by rw [h2]; exact h.rel
    later := by rw [h2]; exact h.later
    base := h.base
    size := h.size
    slots := fun i => by rw [h1, h2]; exact h.slots i
    defers := by rw [h3]; exact h.defers
    marks := fun id hid => by rw [h2]; exact h.marks id (by rw [← h3]; exact hid) }

theorem RelSt.drawn {bs : Base} {nb nt : Nat} {w : World} {G : Gh} {s : St} {a : Act} (h : RelSt bs nb nt w G s a) : RelSt bs nb nt { w with drawn := w.drawn + 1 } G s a :=
  have L : Later w G s.heap { w with drawn := w.drawn + 1 } G s.heap :=
    { size := Nat.le_refl _, S := fun _ _ h => ⟨h, rfl⟩, Snew := fun _ _ _ _ h => h, len := Nat.le_refl _, rho := fun _ _ => rfl, grow := fun _ n _ _ h => ⟨n, h, .inr ⟨rfl, rfl⟩⟩, vec := fun _ n sz cs _ h => ⟨n, sz, cs, h, .inr ⟨rfl, rfl⟩⟩, role := fun _ _ => rfl, frame := fun _ _ _ => rfl, os := rfl, out := rfl }
  { rel := (Rel.of_heap (w := w) (w' := { w with drawn := w.drawn + 1 }) rfl h.rel).1
    later := h.later.trans L
    base := h.base
    size := h.size
    slots := fun i => (h.slots i).mono L
    defers := (by obtain ⟨hs, hh, e⟩ := h.defers; exact ⟨hs, ⟨hh.nd, hh.at'⟩, e⟩)
    marks := h.marks }

theorem gl_set {listed : Array Bool} {i j : Nat} (hi : i < listed.size) : gl (listed.setIfInBounds i true) j = if i = j then true else gl listed j := by
  unfold gl
  by_cases h : i = j
  · subst h; simp [hi]
  · rw [getD_set_ne false h, if_neg h]

theorem slotsL_congr {L L' : Nat → Bool} : ∀ (n : Nat), (∀ j, j < n → L j = L' j) → slotsL ops base xs L n = slotsL ops base xs L' n
  | 0, _ => rfl
  | n + 1, h => by simp only [slotsL]; rw [slotsL_congr n (fun j hj => h j (by omega)), h n (by omega)]

theorem any_sound {X : Cx} {tab : List Nat} (C : Confl tab loud ops) (rn : Run X ops loud base xs hs) (hd : dstsB X.nt ops.toList = true) {Q : Exit → St → Prop}
    (hQ : Q .normal (stL ops loud base xs hs (fun _ => true))) : ∀ (fuel : Nat) (listed : Array Bool) (bs : Base) (w : World) (G : Gh) (a : Act), listed.size = ops.size → Closed ops listed →
      ((List.range ops.size).countP fun i => !gl listed i) ≤ fuel → RelSt bs X.nb X.nt w G (stL ops loud base xs hs (gl listed)) a →
      wpAnyIn (Wd X.r) 0 X.P .any ops (fun e a' w' => ∃ s' G', Q e s' ∧ RelSt bs X.nb X.nt w' G' s' a') fuel listed a w := by
  have ends : ∀ (listed : Array Bool) (bs : Base) (w : World) (G : Gh) (a : Act), listed.size = ops.size → Closed ops listed → Region.ready .any ops listed = [] → RelSt bs X.nb X.nt w G (stL ops loud base xs hs (gl listed)) a →
      ∃ s' G', Q .normal s' ∧ RelSt bs X.nb X.nt w G' s' a := by
    intro listed bs w G a hsz cl hr hR
    have all : ∀ i, i < ops.size → gl listed i = true := by
      intro i
      induction i using Nat.strongRecOn with
      | _ i ih =>
        intro hi
        cases hl : gl listed i with
        | true => rfl
        | false =>
          exfalso
          have hoi : ops[i]? = some ops[i] := by simp [hi]
          have hm : i ∈ Region.ready .any ops listed := mem_ready.2 ⟨getD_in (by omega) hl, _, hoi, fun e he hb => by
            exact ih e.on (C.back i _ hoi e he hb) (Nat.lt_trans (C.back i _ hoi e he hb) hi)⟩
          rw [hr] at hm; cases hm
    refine ⟨_, G, hQ, hR.same (fun i => ?_) ?_ rfl⟩
    · show getS (slotsL _ _ _ _ _) i = getS (slotsL _ _ _ _ _) i
      rw [slotsL_congr ops.size (fun j hj => (all j hj).symm)]
    · exact (heapL_congr ops.size (fun j hj _ => (all j hj).symm))
  intro fuel
  induction fuel with
  | zero =>
    intro listed bs w G a hsz cl hc hR
    have hz := List.countP_eq_zero.1 (Nat.le_zero.1 hc)
    have hr : Region.ready .any ops listed = [] := by
      cases hrr : Region.ready .any ops listed with
      | nil => rfl
      | cons i r =>
        exfalso
        have hm : i ∈ Region.ready .any ops listed := by rw [hrr]; simp
        obtain ⟨h1, o, ho, _⟩ := mem_ready.1 hm
        have := hz i (List.mem_range.2 (Array.getElem?_eq_some_iff.1 ho).1)
        simp [gl, getD_both h1] at this
    exact ⟨hr, ends listed bs w G a hsz cl hr hR⟩
  | succ fuel ih =>
    intro listed bs w G a hsz cl hc hR
    refine ⟨fun hr => ends listed bs w G a hsz cl hr hR, fun i hi => ?_⟩
    obtain ⟨hun, o, ho, hall⟩ := mem_ready.1 hi
    have hun' := getD_both hun
    have hlt : i < ops.size := (Array.getElem?_eq_some_iff.1 ho).1
    obtain ⟨t, hg, hst⟩ := rn.step i o ho
    have hlook : ∀ d ∈ o.looksAt ops, (stL ops loud base xs hs (gl listed)).get d = getS (slotsL ops base xs (fun _ => true) i) d := fun d hd => look_same C cl ho hun' hall hd
    have hheap : (stL ops loud base xs hs (gl listed)).heap = hs i := heap_same C cl rn ho hun' hall
    have hgd : guardOf ops (stL ops loud base xs hs (gl listed)).get o = some t := by rw [guardOf_congr hlook]; exact hg
    have cl' : Closed ops (listed.setIfInBounds i true) := fun j oj hj hl e he hb => by
      by_cases hij : i = j
      · subst hij
        have : oj = o := Option.some.inj (hj.symm.trans ho)
        subst this
        exact getD_set_true (hall e he hb)
      · rw [getD_set_ne false hij] at hl
        exact getD_set_true (cl j oj hj hl e he hb)
    have hsz' : (listed.setIfInBounds i true).size = ops.size := by simp [hsz]
    have hset := fun j => gl_set (listed := listed) (i := i) (j := j) (by omega)
    have hc' : ((List.range ops.size).countP fun k => !gl (listed.setIfInBounds i true) k) ≤ fuel := by
      have hlt' : ((List.range ops.size).countP fun k => !gl (listed.setIfInBounds i true) k) < ((List.range ops.size).countP fun k => !gl listed k) := by
        obtain ⟨l1, l2, he⟩ := List.append_of_mem (List.mem_range.2 hlt)
        have hle : ∀ l : List Nat, (l.countP fun k => !gl (listed.setIfInBounds i true) k) ≤ (l.countP fun k => !gl listed k) := fun l =>
          List.countP_mono_left (fun k _ h => by rw [hset] at h; by_cases hik : i = k <;> simp [hik] at h ⊢; exact h)
        rw [he, List.countP_append, List.countP_append, List.countP_cons, List.countP_cons]
        have h1 := hle l1
        have h2 := hle l2
        have h3 : gl (listed.setIfInBounds i true) i = true := by rw [hset]; simp
        have h4 : gl listed i = false := hun'
        simp [h3, h4]
        omega
      omega
    have next : ∀ (v : Value) (w' : World) (G' : Gh), VRel w' G' (hs (i + 1)) (xs i) v → Rel w' G' (hs (i + 1)) → Later w G (hs i) w' G' (hs (i + 1)) →
        wpAnyIn (Wd X.r) 0 X.P .any ops (fun e a' w' => ∃ s' G', Q e s' ∧ RelSt bs X.nb X.nt w' G' s' a') fuel (listed.setIfInBounds i true) (a.put o.dst v) w' := by
      intro v w' G' hv R L
      have hp := hR.put (dst := o.dst) hv R (by rw [hheap]; exact L) (fun d hod => by
        simp only [dstsB, List.all_eq_true] at hd
        have hm : o ∈ ops.toList := Array.mem_toList_iff.2 (Array.mem_of_getElem? ho)
        have := hd o hm
        simpa [hod] using this)
      refine ih _ bs w' G' _ hsz' cl' hc' (hp.same (fun d => ?_) ?_ rfl)
      · show getS (slotsL ops base xs (gl (listed.setIfInBounds i true)) ops.size) d = getS (match o.dst with | some j => setS (slotsL ops base xs (gl listed) ops.size) j (xs i) | none => slotsL ops base xs (gl listed) ops.size) d
        by_cases hdd : o.dst = some d
        · rw [slotsL_at ops.size hlt (by rw [hset]; simp) (by simpa [ho] using hdd) (fun j hj hji h => by
            have hoj : ops[j]? = some ops[j] := by simp [hj]
            exact C.dst i o j _ d ho hoj hji hdd ((dst_bind hoj).1 h))]
          simp [hdd, getS_setS]
        · have e1 : getS (match o.dst with | some j => setS (slotsL ops base xs (gl listed) ops.size) j (xs i) | none => slotsL ops base xs (gl listed) ops.size) d = getS (slotsL ops base xs (gl listed) ops.size) d := by
            cases hod : o.dst with
            | none => rfl
            | some j => simp only [getS_setS]; rw [if_neg (fun e => hdd (by rw [hod, e]))]
          rw [e1]
          by_cases hex : ∃ j, j < ops.size ∧ gl listed j = true ∧ (ops[j]?).bind (·.dst) = some d
          · obtain ⟨j, hj, hl, hjd⟩ := hex
            have hoj : ops[j]? = some ops[j] := by simp [hj]
            have uniq : ∀ k, k < ops.size → k ≠ j → (ops[k]?).bind (·.dst) ≠ some d := fun k hk hkj h => by
              have hok : ops[k]? = some ops[k] := by simp [hk]
              exact C.dst j _ k _ d hoj hok hkj ((dst_bind hoj).1 hjd) ((dst_bind hok).1 h)
            rw [slotsL_at ops.size hj (by rw [hset]; simp [hl]) hjd uniq, slotsL_at ops.size hj hl hjd uniq]
          · rw [slotsL_other ops.size (fun k hk hL h => ?_), slotsL_other ops.size (fun k hk hL h => hex ⟨k, hk, hL, h⟩)]
            rw [hset] at hL
            by_cases hik : i = k
            · subst hik; exact hdd (by simpa [ho] using h)
            · rw [if_neg hik] at hL; exact hex ⟨k, hk, hL, h⟩
      · show heapL hs loud (gl (listed.setIfInBounds i true)) ops.size = hs (i + 1)
        cases hl : loud.testBit i with
        | false =>
          rw [heapL_congr (L' := gl listed) ops.size (fun j hj hlj => by
            rw [hset]; by_cases hij : i = j
            · subst hij; rw [hl] at hlj; cases hlj
            · rw [if_neg hij])]
          exact hheap.trans (rn.quiet i hlt hl).symm
        | true =>
          rw [heapL_congr (L' := fun j => decide (j < i + 1)) ops.size (fun j hj hlj => ?_)]
          · have h1 := heapL_pre (i := i + 1) (N := ops.size) rn.quiet (i + 1) (Nat.le_refl _) (by omega)
            have h2 := heapL_post (hs := hs) (loud := loud) h1 (ops.size - (i + 1))
            rwa [Nat.add_sub_cancel' (by omega)] at h2
          · have hoj : ops[j]? = some ops[j] := by simp [hj]
            rw [hset]
            by_cases hne : i = j
            · subst hne; simp
            · rw [if_neg hne]
              rcases C.loud i o j _ ho hoj (Ne.symm hne) hlj with h1 | h1
              · have h2 := anc_listed C cl i o ho hall j h1
                have h3 := C.lt i o j _ ho hoj h1
                simp only [gl, h2]; simp; omega
              · have h3 := C.lt j _ i o hoj ho h1
                have h4 : gl listed j = false := by
                  cases h : gl listed j with
                  | false => rfl
                  | true =>
                    have := anc_listed C cl j _ hoj (cl j _ hoj h) i h1
                    rw [hun'] at this; cases this
                rw [h4]; simp; omega
    unfold wpOpIn
    simp only [ho]
    rw [wanted_of_guard hR hgd]
    cases t with
    | true =>
      simp only [if_true] at hst ⊢
      have hop := OpAt.congr (E' := (stL ops loud base xs hs (gl listed)).ev) (fun x hx => (evS_congr hlook x hx).symm) hst
      refine hop w G a _ _ (hheap ▸ hR.rel) (fun x _ => hheap ▸ hR.ev x) ?_
      rintro v x H' G' w' ⟨rfl, rfl⟩ hv R L
      exact next v w' G' hv R L
    | false =>
      simp only [Bool.false_eq_true, if_false] at hst ⊢
      refine ⟨fun _ _ => trivial, ?_⟩
      have hRr : Rel w G (hs (i + 1)) := by rw [hst.2]; exact hheap ▸ hR.rel
      exact next undef w G (by rw [hst.1]; exact .tup [] #[] rfl (fun i x v h => by simp at h)) hRr (by rw [hst.2]; exact Later.refl _ _ _)

/-- The text's order, one operation after another, each with one result. -/
def DOps (X : Cx) (all : Array Oper) (loud : Nat) : Nat → List Oper → (St → Prop) → St → Prop
  | _, [], Q, s => Q s
  | k, o :: os, Q, s => ∃ t x H', guardOf all s.get o = some t ∧ (if t then OpAt X.P X.r o s.heap s.ev (one x H') else x = .tup [] ∧ H' = s.heap) ∧ (loud.testBit k = false → H' = s.heap) ∧
      DOps X all loud (k + 1) os Q (s.put o.dst x H')

theorem dops_run {X : Cx} {Q : St → Prop} : ∀ (os : List Oper) (k : Nat) (s : St), (∀ j, os[j]? = ops[k + j]?) → DOps X ops loud k os Q s →
    ∃ (xs : Nat → V) (hs : Nat → List AB), (∀ j, j ≤ k → hs j = s.heap) ∧ (∀ i, k ≤ i → i < k + os.length → loud.testBit i = false → hs (i + 1) = hs i) ∧
      ∀ (b : Nat → List (Nat × V)), b k = s.slots → (∀ i o, k ≤ i → ops[i]? = some o → b (i + 1) = (match o.dst with | some d => setS (b i) d (xs i) | none => b i)) →
        (∀ i o, k ≤ i → ops[i]? = some o → ∃ t, guardOf ops (getS (b i)) o = some t ∧ (if t then OpAt X.P X.r o (hs i) (evS (getS (b i))) (one (xs i) (hs (i + 1))) else xs i = .tup [] ∧ hs (i + 1) = hs i)) ∧
        Q { slots := b (k + os.length), heap := hs (k + os.length), marks := s.marks }
  | [], k, s, hl, h => ⟨fun _ => .c .any, fun _ => s.heap, fun _ _ => rfl, fun i h1 h2 => by simp at h2; omega, fun b hb _ => by
      refine ⟨fun i o hi ho => ?_, ?_⟩
      · have := hl (i - k)
        rw [Nat.add_sub_cancel' hi, ho] at this
        simp at this
      · simp only [List.length_nil, Nat.add_zero, hb]; exact h⟩
  | o :: os, k, s, hl, h => by
    obtain ⟨t, x, H', h1, h2, h3, h4⟩ := h
    have ho : ops[k]? = some o := by simpa using (hl 0).symm
    have hl' : ∀ j, os[j]? = ops[k + 1 + j]? := fun j => by have := hl (j + 1); simpa [Nat.add_assoc, Nat.add_comm 1 j] using this
    obtain ⟨xs, hs, e1, e2, e3⟩ := dops_run os (k + 1) _ hl' h4
    refine ⟨fun i => if i = k then x else xs i, fun i => if i ≤ k then s.heap else hs i, fun j hj => by simp [hj], fun i hi hi2 hq => ?_, fun b hb hn => ?_⟩
    · by_cases hik : i = k
      · subst hik
        simp only [Nat.le_refl, if_true, show ¬ i + 1 ≤ i by omega, if_false]
        rw [e1 (i + 1) (Nat.le_refl _)]
        exact h3 hq
      · simp only [show ¬ i ≤ k by omega, show ¬ i + 1 ≤ k by omega, if_false]
        exact e2 i (by omega) (by simp at hi2; omega) hq
    · have hb1 : b (k + 1) = (s.put o.dst x H').slots := by
        rw [hn k o (Nat.le_refl _) ho]
        simp only [St.put, if_true, hb]
        rfl
      obtain ⟨f1, f2⟩ := e3 b hb1 (fun i o' hi ho' => by
        have := hn i o' (by omega) ho'
        simp only [show i ≠ k by omega, if_false] at this
        exact this)
      refine ⟨fun i o' hi ho' => ?_, ?_⟩
      · by_cases hik : i = k
        · subst hik
          obtain rfl : o' = o := Option.some.inj (ho'.symm.trans ho)
          refine ⟨t, by rw [hb]; exact h1, ?_⟩
          simp only [Nat.le_refl, if_true, show ¬ i + 1 ≤ i by omega, if_false, e1 (i + 1) (Nat.le_refl _), hb]
          exact h2
        · obtain ⟨t', g1, g2⟩ := f1 i o' (by omega) ho'
          refine ⟨t', g1, ?_⟩
          simp only [hik, show ¬ i ≤ k by omega, show ¬ i + 1 ≤ k by omega, if_false]
          exact g2
      · have e : k + (o :: os).length = k + 1 + os.length := by simp; omega
        rw [e]
        simp only [show ¬ k + 1 + os.length ≤ k by omega, if_false]
        exact f2

theorem awp_region_drawn {X : Cx} {id : Nat} {Q : Exit → St → Prop} {s : St} (loud : Nat) (hm : X.P.follows .mixedOrders = true) (hd : dstsB X.nt ops.toList = true) (hc : conflB loud ops = true)
    (h : DOps X ops loud 0 ops.toList (Q .normal) s) : AWP X (.region id ops true) Q s := fun bs w G a hR => by
  refine wpIn_region_any hm ?_
  obtain ⟨xs, hs, e1, e2, e3⟩ := dops_run (ops := ops) ops.toList 0 s (fun j => by simp) h
  have hlen : ops.toList.length = ops.size := by simp
  obtain ⟨f1, f2⟩ := e3 (fun i => slotsL ops s xs (fun _ => true) i) rfl (fun i o _ ho => by
    simp only [slotsL, if_true, ho, Option.bind_some])
  have rn : Run X ops loud s xs hs :=
    { h0 := e1 0 (Nat.le_refl _)
      quiet := fun i hi hq => e2 i (Nat.zero_le _) (by omega) hq
      step := fun i o ho => f1 i o (Nat.zero_le _) ho }
  have C := conflT_spec hc
  have hbs : RelSt bs X.nb X.nt { w with drawn := w.drawn + 1 } G s a := hR.drawn
  refine any_sound C rn hd ?_ ops.size _ bs _ G a (by simp) ?_ ?_ (hbs.same (fun d => ?_) ?_ rfl)
  · simp only [Nat.zero_add, hlen] at f2
    have hh : heapL hs loud (fun _ => true) ops.size = hs ops.size := by
      rw [heapL_congr (L' := fun j => decide (j < ops.size)) ops.size (fun j hj _ => by simp [hj])]
      exact heapL_pre rn.quiet ops.size (Nat.le_refl _) (Nat.le_refl _)
    unfold stL
    rw [hh]; exact f2
  · intro j oj hj hl
    rw [getD_replicate_false] at hl; cases hl
  · exact Nat.le_trans List.countP_le_length (by simp)
  · have : ∀ n, slotsL ops s xs (gl (Array.replicate ops.size false)) n = s.slots := by
      intro n
      induction n with
      | zero => rfl
      | succ n ih => simp only [slotsL, gl, getD_replicate_false, Bool.false_eq_true, if_false]; exact ih
    show getS (slotsL ops s xs (gl (Array.replicate ops.size false)) ops.size) d = getS s.slots d
    rw [this]
  · have : ∀ n, heapL hs loud (gl (Array.replicate ops.size false)) n = hs 0 := by
      intro n
      induction n with
      | zero => rfl
      | succ n ih => simp only [heapL, gl, getD_replicate_false, Bool.false_and, Bool.false_eq_true, if_false]; exact ih
    show heapL hs loud (gl (Array.replicate ops.size false)) ops.size = s.heap
    rw [this, e1 0 (Nat.le_refl _)]
end
end Go.Abs
