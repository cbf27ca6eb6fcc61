/- The walk whose listed drawn regions are taken by the rule of windows (stores that commute, several new blocks). -/
import Derived.Test.YtklmpopomokglaaAbsZ
set_option linter.unusedSimpArgs false
set_option linter.unusedVariables false
namespace Go.Abs
open Go
/-- Left to the prover: a call. -/
def dS (X : Tx) (r : Option Nat) (nb nt : Nat) (m3 : Bool) (n0 N0 : Nat) (all : Array Oper) (k _hc : Nat) (os : List Oper) (acc : List Note) (Q : St → Prop) (s : St) : Prop :=
  DOps2 (X.cx r nb nt) m3 n0 N0 all k os acc (fun acc t => pairsOk m3 all acc = true ∧ Q t) s
mutual
def dE (X : Tx) (r : Option Nat) (nb nt : Nat) (m3 : Bool) (n0 N0 : Nat) (all : Array Oper) (k hc : Nat) (os : List Oper) (acc : List Note) (Q : St → Prop) (s : St) : Prop :=
  match os with
  | [] => pairsOk m3 all acc = true ∧ Q s
  | o :: os => match guardOf all s.get o with
    | some g => condP g (eRun X r nb nt m3 n0 N0 all k hc (o :: os) acc Q s) (eArm X r nb nt m3 n0 N0 all (k + 1) hc os (addN m3 n0 k (.tup []) .no .none acc) Q (s.put o.dst (.tup []) s.heap))
    | none => dS X r nb nt m3 n0 N0 all k hc (o :: os) acc Q s
  termination_by (os.length, 1)
def eRun (X : Tx) (r : Option Nat) (nb nt : Nat) (m3 : Bool) (n0 N0 : Nat) (all : Array Oper) (k hc : Nat) (os : List Oper) (acc : List Note) (Q : St → Prop) (s : St) : Prop :=
  match os with
  | [] => pairsOk m3 all acc = true ∧ Q s
  | o :: os => match m3 && makes s.ev o.op with
    | true => match mkOf X s.ev o.op with
      | some (mk, b) => match s.heap[hc]? with
        | some .gone => (n0 ≤ hc ∧ b.newB hc N0 = true) ∧ dE X r nb nt m3 n0 N0 all (k + 1) (hc + 1) os (addN m3 n0 k (.c (mk.at hc)) (.put hc b) (.blk hc) acc) Q (s.put o.dst (.c (mk.at hc)) (s.heap.set hc b))
        | _ => dS X r nb nt m3 n0 N0 all k hc (o :: os) acc Q s
      | none => dS X r nb nt m3 n0 N0 all k hc (o :: os) acc Q s
    | false => match op1 X s.heap s.ev o.op with
      | some (c, x, H') => c = true ∧ dE X r nb nt m3 n0 N0 all (k + 1) hc os (addN m3 n0 k x (effOf s.ev o.op H') (footOf X s.ev o.op) acc) Q (s.put o.dst x H')
      | none => dS X r nb nt m3 n0 N0 all k hc (o :: os) acc Q s
  termination_by (os.length, 0)
def eArm (X : Tx) (r : Option Nat) (nb nt : Nat) (m3 : Bool) (n0 N0 : Nat) (all : Array Oper) (k hc : Nat) (os : List Oper) (acc : List Note) (Q : St → Prop) (s : St) : Prop := dE X r nb nt m3 n0 N0 all k hc os acc Q s
  termination_by (os.length, 2)
end
section
variable {X : Tx} {r : Option Nat} {nb nt : Nat} {m3 : Bool} {n0 N0 : Nat} {all : Array Oper} {k hc : Nat} {os : List Oper} {o : Oper} {acc : List Note} {Q : St → Prop} {s : St}
theorem eArm_at : eArm X r nb nt m3 n0 N0 all k hc os acc Q s = dE X r nb nt m3 n0 N0 all k hc os acc Q s := by rw [eArm]
theorem dE_nil : dE X r nb nt m3 n0 N0 all k hc [] acc Q s = (pairsOk m3 all acc = true ∧ Q s) := by rw [dE]
theorem dE_cons : dE X r nb nt m3 n0 N0 all k hc (o :: os) acc Q s = (match guardOf all s.get o with
    | some g => condP g (eRun X r nb nt m3 n0 N0 all k hc (o :: os) acc Q s) (eArm X r nb nt m3 n0 N0 all (k + 1) hc os (addN m3 n0 k (.tup []) .no .none acc) Q (s.put o.dst (.tup []) s.heap))
    | none => dS X r nb nt m3 n0 N0 all k hc (o :: os) acc Q s) := by rw [dE]
theorem eRun_cons : eRun X r nb nt m3 n0 N0 all k hc (o :: os) acc Q s = (match m3 && makes s.ev o.op with
    | true => match mkOf X s.ev o.op with
      | some (mk, b) => match s.heap[hc]? with
        | some .gone => (n0 ≤ hc ∧ b.newB hc N0 = true) ∧ dE X r nb nt m3 n0 N0 all (k + 1) (hc + 1) os (addN m3 n0 k (.c (mk.at hc)) (.put hc b) (.blk hc) acc) Q (s.put o.dst (.c (mk.at hc)) (s.heap.set hc b))
        | _ => dS X r nb nt m3 n0 N0 all k hc (o :: os) acc Q s
      | none => dS X r nb nt m3 n0 N0 all k hc (o :: os) acc Q s
    | false => match op1 X s.heap s.ev o.op with
      | some (c, x, H') => c = true ∧ dE X r nb nt m3 n0 N0 all (k + 1) hc os (addN m3 n0 k x (effOf s.ev o.op H') (footOf X s.ev o.op) acc) Q (s.put o.dst x H')
      | none => dS X r nb nt m3 n0 N0 all k hc (o :: os) acc Q s) := by rw [eRun]
theorem de_t (b : Prop) : condP true (eRun X r nb nt m3 n0 N0 all k hc (o :: os) acc Q s) b = (match m3 && makes s.ev o.op with
    | true => match mkOf X s.ev o.op with
      | some (mk, b) => match s.heap[hc]? with
        | some .gone => (n0 ≤ hc ∧ b.newB hc N0 = true) ∧ dE X r nb nt m3 n0 N0 all (k + 1) (hc + 1) os (addN m3 n0 k (.c (mk.at hc)) (.put hc b) (.blk hc) acc) Q (s.put o.dst (.c (mk.at hc)) (s.heap.set hc b))
        | _ => dS X r nb nt m3 n0 N0 all k hc (o :: os) acc Q s
      | none => dS X r nb nt m3 n0 N0 all k hc (o :: os) acc Q s
    | false => match op1 X s.heap s.ev o.op with
      | some (c, x, H') => c = true ∧ dE X r nb nt m3 n0 N0 all (k + 1) hc os (addN m3 n0 k x (effOf s.ev o.op H') (footOf X s.ev o.op) acc) Q (s.put o.dst x H')
      | none => dS X r nb nt m3 n0 N0 all k hc (o :: os) acc Q s) := by rw [condP_t, eRun_cons]
theorem de_f (a : Prop) : condP false a (eArm X r nb nt m3 n0 N0 all k hc os acc Q s) = dE X r nb nt m3 n0 N0 all k hc os acc Q s := by rw [condP_f, eArm_at]
theorem dE_sound : ∀ (os : List Oper) (k hc : Nat) (acc : List Note) (s : St), dE X r nb nt m3 n0 N0 all k hc os acc Q s → dS X r nb nt m3 n0 N0 all k hc os acc Q s
  | [], k, hc, acc, s, h => by rw [dE_nil] at h; exact h
  | o :: os, k, hc, acc, s, h => by
    rw [dE_cons] at h
    split at h
    · rename_i g hg
      cases g with
      | false =>
        rw [de_f] at h
        exact ⟨false, .tup [], .no, .none, hg, by simp, kindP_no _ _, dE_sound os _ hc _ _ h⟩
      | true =>
        rw [de_t] at h
        split at h
        · rename_i hmk
          simp only [Bool.and_eq_true] at hmk
          split at h
          · rename_i mk b hm1
            split at h
            · rename_i hgone
              obtain ⟨⟨hc0, hc1⟩, h⟩ := h
              obtain ⟨g1, g2⟩ := AB.newB_spec hc1
              obtain ⟨f1', f2⟩ := mkOf_spec hm1
              refine ⟨true, _, .put hc b, .blk hc, hg, ?_, kindP_mk hmk.1 f1', dE_sound os _ _ _ _ h⟩
              simp only [if_true]
              exact ⟨mk, b, rfl, rfl, hgone, rfl, hc0, g1, g2, fun H2 _ => op1_sound _ (f2 H2)⟩
            · exact h
          · exact h
        · rename_i hmk
          split at h
          · rename_i c x H' hop
            obtain ⟨hc1, h⟩ := h
            subst hc1
            obtain ⟨f1, f2⟩ := op1_foot hop
            refine ⟨true, x, effOf s.ev o.op H', footOf X s.ev o.op, hg, ?_, kindP_of m3 (fun h3 => makes_not (by rw [h3] at hmk; simpa using hmk)) hop, ?_⟩
            · simp only [if_true]
              unfold StepP
              rw [effOf_hole]
              exact fun H2 hs => op1_sound _ (f1 H2 hs)
            · rw [f2]; exact dE_sound os _ hc _ _ h
          · exact h
    · exact h
theorem de_pure {g : FuncId} {args args' : List V} {y : V} (h : Pure X.P g args' y) (hg : guardOf all s.get o = some true) (hcl : calleeOf s.ev o = some (g, args)) (hw : WkVs args args')
    (n : dE X r nb nt m3 n0 N0 all (k + 1) hc os (addN m3 n0 k y .no .none acc) Q (s.put o.dst y s.heap)) : dS X r nb nt m3 n0 N0 all k hc (o :: os) acc Q s :=
  ⟨true, y, .no, .none, hg, by simp only [if_true]; exact fun H2 _ => opAt_of_callee hcl ((h.at _).weak hw), kindP_no _ _, dE_sound os _ hc _ _ n⟩
end

/-! ### What is not read any more is dropped -/
def lookK : List (Nat × List Nat) → Nat → Option (List Nat)
  | [], _ => none
  | (i, l) :: r, j => if i = j then some l else lookK r j
def trimL (sl : List (Nat × V)) : Option (List Nat) → List (Nat × V)
  | some l => l.map fun j => (j, getS sl j)
  | none => sl
def trimK (kp : List (Nat × List Nat)) (id : Nat) (t : St) : St := { slots := trimL t.slots (lookK kp id), heap := t.heap, marks := t.marks }
theorem getS_keep (sl : List (Nat × V)) (i : Nat) : ∀ l : List Nat, getS (l.map fun j => (j, getS sl j)) i = getS sl i ∨ getS (l.map fun j => (j, getS sl j)) i = .c .any
  | [] => .inr rfl
  | j :: l => by
    simp only [List.map_cons, getS]
    by_cases h : j = i
    · subst h; simp
    · rw [if_neg h]; exact getS_keep sl i l
theorem ent_trim {X : Cx} (kp : List (Nat × List Nat)) (id : Nat) (t : St) : Ent X t (trimK kp id t) := fun bs w G a hR => by
  refine ⟨G, { rel := hR.rel, later := hR.later, base := hR.base, size := hR.size, slots := fun i => ?_, defers := hR.defers, marks := hR.marks }⟩
  show VRel w G t.heap (getS (trimL t.slots (lookK kp id)) i) _
  cases lookK kp id with
  | none => exact hR.slots i
  | some l =>
    rcases getS_keep t.slots i l with h | h
    · simp only [trimL, h]; exact hR.slots i
    · simp only [trimL, h]; exact .c _ _ (.any _)
theorem post_trim {X : Cx} {c : Code} {Q : Exit → St → Prop} {s : St} {kp : List (Nat × List Nat)} {id : Nat} (h : AWP X c (fun e t => Q e (trimK kp id t)) s) : AWP X c Q s :=
  AWP.post (h.mono fun e t ht => ⟨_, ent_trim kp id t, ht⟩)

/-- Its regions are as the walk wants them; of those in the list another thing is asked. -/
def okE (bad : List Nat) (nt : Nat) : Code → Bool
  | .seq x y => okE bad nt x && okE bad nt y
  | .block _ c => okE bad nt c
  | .loop c => okE bad nt c
  | .scope c => okE bad nt c
  | .cond _ x y => okE bad nt x && okE bad nt y
  | .region _ ops false => dstsB nt ops.toList
  | .region id ops true => dstsB nt ops.toList && (if bad.contains id then conflB2 (m3of ops) ops else conflB (loudL ops.toList) ops)
  | .rangeFunc _ _ a b => okE bad nt a && okE bad nt b
  | _ => true
mutual
def goE (bad : List Nat) (kp : List (Nat × List Nat)) (X : Tx) (r : Option Nat) (nb nt : Nat) (c : Code) (Q : Exit → St → Prop) (s : St) : Prop :=
  match c with
  | .skip => Q .normal s
  | .label _ => Q .normal s
  | .exit id => Q (.exit id) s
  | .ret => Q .ret s
  | .seq x y => goE bad kp X r nb nt x (thenQ (contE bad kp X r nb nt y Q) Q) s
  | .block id c => goE bad kp X r nb nt c (blockQ id Q) s
  | .scope c => goE bad kp X r nb nt c (noGoto Q) s
  | .cond c x y => match s.ev c with
    | .c (.d (.bool t)) => condP t (armE bad kp X r nb nt x Q s) (armE bad kp X r nb nt y Q s)
    | _ => False
  | .region id ops false => aW X r nb nt ops ops.toList (fun t => Q .normal (trimK kp id t)) s
  | .region id ops true => match bad.contains id with
    | true => dE X r nb nt (m3of ops) s.heap.length (holed (m3of ops) (countMk ops.toList) s).heap.length ops 0 s.heap.length ops.toList [] (fun t => Q .normal (trimK kp id t)) (holed (m3of ops) (countMk ops.toList) s)
    | false => dW X r nb nt ops (loudL ops.toList) 0 ops.toList (fun t => Q .normal (trimK kp id t)) s
  | c => AWP (X.cx r nb nt) c Q s
def contE (bad : List Nat) (kp : List (Nat × List Nat)) (X : Tx) (r : Option Nat) (nb nt : Nat) (c : Code) (Q : Exit → St → Prop) (s : St) : Prop := goE bad kp X r nb nt c Q s
def armE (bad : List Nat) (kp : List (Nat × List Nat)) (X : Tx) (r : Option Nat) (nb nt : Nat) (c : Code) (Q : Exit → St → Prop) (s : St) : Prop := goE bad kp X r nb nt c Q s
end
theorem contE_at (bad : List Nat) (kp : List (Nat × List Nat)) (X : Tx) (r : Option Nat) (nb nt : Nat) (c : Code) (Q : Exit → St → Prop) (s : St) : contE bad kp X r nb nt c Q s = goE bad kp X r nb nt c Q s := by rw [contE]
theorem armE_at (bad : List Nat) (kp : List (Nat × List Nat)) (X : Tx) (r : Option Nat) (nb nt : Nat) (c : Code) (Q : Exit → St → Prop) (s : St) : armE bad kp X r nb nt c Q s = goE bad kp X r nb nt c Q s := by rw [armE]
theorem goE_sound {bad : List Nat} {kp : List (Nat × List Nat)} {X : Tx} {r : Option Nat} {nb nt : Nat} (hm : X.P.follows .mixedOrders = true) (c : Code) : okE bad nt c = true → ∀ {Q : Exit → St → Prop} {s : St}, goE bad kp X r nb nt c Q s → AWP (X.cx r nb nt) c Q s := by
  induction c with
  | skip => intro _ Q s h; rw [goE] at h; exact awp_skip h
  | label l => intro _ Q s h; rw [goE] at h; exact awp_label h
  | exit id => intro _ Q s h; rw [goE] at h; exact awp_exit h
  | ret => intro _ Q s h; rw [goE] at h; exact awp_ret h
  | seq x y ihx ihy =>
    intro hok Q s h
    simp only [okE, Bool.and_eq_true] at hok
    rw [goE] at h
    exact awp_seq ((ihx hok.1 h).mono (thenQ_mono fun s h => ihy hok.2 (by rw [contE_at] at h; exact h)))
  | block id c ih => intro hok Q s h; rw [goE] at h; exact awp_block (ih hok h)
  | scope c ih => intro hok Q s h; rw [goE] at h; exact awp_scope (ih hok h)
  | cond c x y ihx ihy =>
    intro hok Q s h
    simp only [okE, Bool.and_eq_true] at hok
    rw [goE] at h
    split at h
    · rename_i t hc
      rw [condP, armE_at, armE_at] at h
      exact awp_cond hc (fun e => ihx hok.1 (h.1 e)) (fun e => ihy hok.2 (h.2 e))
    · exact h.elim
  | region id ops d =>
    intro hok Q s h
    cases d with
    | false => rw [goE] at h; exact post_trim (awp_region (X := X.cx r nb nt) (Q := fun e t => Q e (trimK kp id t)) hok (aW_sound _ _ h))
    | true =>
      rw [goE] at h
      simp only [okE, Bool.and_eq_true] at hok
      split at h
      · rename_i hb
        rw [if_pos hb] at hok
        exact post_trim (awp_region_drawn2 (X := X.cx r nb nt) (Q := fun e t => Q e (trimK kp id t)) (m3of ops) (countMk ops.toList) hm hok.1 hok.2 (dE_sound _ _ _ _ _ h))
      · rename_i hb
        rw [if_neg (by rw [hb]; simp)] at hok
        exact post_trim (awp_region_drawn (X := X.cx r nb nt) (Q := fun e t => Q e (trimK kp id t)) (loudL ops.toList) hm hok.1 hok.2 (dW_sound _ _ _ (fun j o ho => by rw [Nat.zero_add]; exact loudL_bit _ j o ho) h))
  | _ => intro _ Q s h; unfold goE at h; exact h
theorem acall_ofE {bad : List Nat} {kp : List (Nat × List Nat)} {X : Tx} {f : FuncId} {fn : Func} {c : Code} {args : List V} {H : List AB} {nt : Nat} {rs : List ResultVar} {post : V → List AB → Prop} (hf : X.P.funcs[f]? = some fn) (hb : fn.body = some c) (hn0 : notNum fn = true)
    (hnt : args.length + (fn.ntmps - args.length) = nt) (hrs : fn.results.toList = rs) (hm : X.P.follows .mixedOrders = true) (hok : okE bad nt c = true)
    (h : goE bad kp X none H.length nt c (retG X rs post) { slots := argS 0 args, heap := H, marks := [] }) : ACall X.P f args H post := by
  subst hrs
  exact acall_of_awp (X := X) hf hb hn0 hnt ((goE_sound hm c hok h).mono retG_sound)
theorem pure_wkE {bad : List Nat} {kp : List (Nat × List Nat)} {X : Tx} {f : FuncId} {fn : Func} {c : Code} {args : List V} {r : V} {nt : Nat} {rs : List ResultVar} (hf : X.P.funcs[f]? = some fn) (hb : fn.body = some c) (hn0 : notNum fn = true)
    (hnt : args.length + (fn.ntmps - args.length) = nt) (hrs : fn.results.toList = rs) (hm : X.P.follows .mixedOrders = true) (hok : okE bad nt c = true) (ha : args.all (V.low 0) = true) (hr : r.low 0 = true)
    (h : (∀ x ∈ args, FitV x) → goE bad kp X none 0 nt c (retG X rs (fun x _ => WkV x r)) { slots := argS 0 args, heap := [], marks := [] }) : Pure X.P f args r :=
  ⟨ACall.wkpost (ACall.fit (callFunc_runs hf hb hn0) (fun hfit => acall_ofE (bad := bad) (X := X) hf hb hn0 hnt hrs hm hok (h hfit))), ha, hr⟩
theorem goE_t {bad : List Nat} {kp : List (Nat × List Nat)} {X : Tx} {r : Option Nat} {nb nt : Nat} {c : Code} {Q : Exit → St → Prop} {s : St} (b : Prop) : condP true (armE bad kp X r nb nt c Q s) b = goE bad kp X r nb nt c Q s := by rw [condP_t, armE_at]
theorem goE_f {bad : List Nat} {kp : List (Nat × List Nat)} {X : Tx} {r : Option Nat} {nb nt : Nat} {c : Code} {Q : Exit → St → Prop} {s : St} (a : Prop) : condP false a (armE bad kp X r nb nt c Q s) = goE bad kp X r nb nt c Q s := by rw [condP_f, armE_at]
theorem goE_if {bad : List Nat} {kp : List (Nat × List Nat)} {X : Tx} {r : Option Nat} {nb nt : Nat} {c c' : Code} {Q : Exit → St → Prop} {s : St} {t : Bool} (h1 : t = true → goE bad kp X r nb nt c Q s) (h2 : t = false → goE bad kp X r nb nt c' Q s) : condP t (armE bad kp X r nb nt c Q s) (armE bad kp X r nb nt c' Q s) :=
  ⟨fun h => by rw [armE_at]; exact h1 h, fun h => by rw [armE_at]; exact h2 h⟩
theorem goE_loop {bad : List Nat} {kp : List (Nat × List Nat)} {X : Tx} {r : Option Nat} {nb nt : Nat} {c : Code} {Q : Exit → St → Prop} {s : St} {α : Type} (S : α → St) (Inv : α → Prop) (μ : α → Nat) (a0 : α) (hm : X.P.follows .mixedOrders = true) (hok : okE bad nt c = true)
    (h0 : Ent (X.cx r nb nt) s (S a0)) (hI : Inv a0)
    (round : ∀ a, Inv a → goE bad kp X r nb nt c (thenQ (fun s' => ∃ a', Inv a' ∧ μ a' < μ a ∧ Ent (X.cx r nb nt) s' (S a')) Q) (S a)) : AWP (X.cx r nb nt) (.loop c) Q s := by
  refine AWP.ent h0 (awp_loop (fun m s' => ∃ a, Inv a ∧ μ a = m ∧ Ent (X.cx r nb nt) s' (S a)) (μ a0) ⟨a0, hI, rfl, Ent.refl⟩ ?_)
  rintro m s' ⟨a, hI, rfl, he⟩
  refine AWP.ent he ((goE_sound hm c hok (round a hI)).mono ?_)
  exact thenQ_mono fun s'' ⟨a', h1, h2, h3⟩ => ⟨μ a', h2, a', h1, rfl, h3⟩
end Go.Abs
