/- Calls; a function's contract out of its body. -/
import Derived.Test.YtklmpopomokglaaAbs15
set_option linter.unusedSimpArgs false
set_option linter.unusedVariables false
namespace Go.Abs
open Go

def ACall (P : Program) (f : FuncId) (args : List V) (H : List AB) (post : V → List AB → Prop) : Prop :=
  (∀ (as : Array Value) (w : World), (callFunc f as).run P w = .ok (.enter f as) w) ∧
  ∀ (w : World) (G : Gh) (vs : Array Value), Rel w G H → args.length = vs.toList.length → (∀ (i : Nat) (x : V) (v : Value), args[i]? = some x → vs.toList[i]? = some v → VRel w G H x v) →
    CallsIn (Wd none) 0 P f vs w fun e w' => ∃ v x H' G', e = .returned v ∧ post x H' ∧ Rel w' G' H' ∧ VRel w' G' H' x v ∧ Later w G H w' G' H'

theorem ACall.mono {P : Program} {f : FuncId} {args : List V} {H : List AB} {post post' : V → List AB → Prop} (h : ACall P f args H post) (hp : ∀ x H', post x H' → post' x H') : ACall P f args H post' :=
  ⟨h.1, fun w G vs R hl hr => (h.2 w G vs R hl hr).mono fun _ _ ⟨v, x, H', G', a, b, c⟩ => ⟨v, x, H', G', a, hp _ _ b, c⟩⟩

theorem fn_rel {w : World} {G : Gh} {H : List AB} {f : Fn} {caps : List C} {v : Value} (h : VRel w G H (.c (.fn f caps)) v) : ∃ arr, v = .func f #[] arr ∧ caps.length = arr.toList.length ∧ ∀ (i : Nat) (x : C) (u : Value), caps[i]? = some x → arr.toList[i]? = some u → CRel w G H x u := by
  cases h with
  | c _ _ h => cases h with
    | fn _ _ arr hs h => exact ⟨arr, rfl, by simpa using hs.symm, fun i x u hx hu => h i x u hx (by simpa using hu)⟩

theorem CallsIn.at_round {n : Nat} {P : Program} {f : FuncId} {args : Array Value} {w : World} {R : Ending → World → Prop} (r : Option Nat) (h : CallsIn (Wd none) n P f args w R) : CallsIn (Wd r) n P f args w R := h

theorem opAt_call {P : Program} {ro : Option Nat} {o : Oper} {H : List AB} {E : Operand → V} {x : Operand} {as : Array Operand} {ts : Array TypeId} {g : FuncId} {caps : List C} {post : V → List AB → Prop}
    (ho : o.op = .call { callee := .value x, args := as, argTypes := ts }) (hx : E x = .c (.fn (.func g) caps)) (h : ACall P g (as.toList.map E ++ caps.map .c) H post) : OpAt P ro o H E post := by
  intro w G a next Q R hE hn
  have hfx := hE x (by simp [ho, Op.operands, Call.operands])
  rw [hx] at hfx
  obtain ⟨arr, e1, e2, e3⟩ := fn_rel hfx
  obtain ⟨m1, m2⟩ := map_rel (a := a) (fun y hy => hE y (by simp [ho, Op.operands, Call.operands]; exact .inr hy))
  refine ⟨fun _ _ => trivial, ?_⟩
  rw [Oper.semAt_eq _ _ _ (by simp [ho])]
  have hrun : (execOp a.eval o).run P w = .ok (.enter g (as.map a.eval ++ arr)) w := by
    simp [execOp, ho, resolve, e1, Deferred.ofValue, invoke, h.1]
  rw [hrun, Oper.uponIn_enter]
  refine ⟨fun e => by simp [Fence.wide] at e, ?_⟩
  have hc := h.2 w G (as.map a.eval ++ arr) R (by simp at m1 e2 ⊢; omega) (fun i y v hy hv => by
    rw [Array.toList_append] at hv
    by_cases hi : i < (as.toList.map E).length
    · rw [List.getElem?_append_left hi] at hy
      rw [List.getElem?_append_left (by rw [← m1]; exact hi)] at hv
      exact m2 i y v hy hv
    · rw [List.getElem?_append_right (Nat.le_of_not_lt hi)] at hy
      rw [List.getElem?_append_right (by rw [← m1]; exact Nat.le_of_not_lt hi), ← m1] at hv
      rw [List.getElem?_map] at hy
      cases hq : caps[i - (as.toList.map E).length]? with
      | none => rw [hq] at hy; cases hy
      | some q =>
        rw [hq] at hy
        cases hy
        exact .c _ _ (e3 _ q v hq hv))
  have hc' := CallsIn.at_round ro hc
  refine hc'.mono ?_
  rintro e w' ⟨v, y, H', G', rfl, hp, R', hv, L⟩
  exact hn v y H' G' w' hp hv R' L

/-! ### What a function hands back -/
def resOne (X : Tx) (s : St) : ResultVar → Option V
  | .tmp t => some (s.get t)
  | .cell a t => match X.tt t, s.get a with
    | some i, .c (.ptr id off) => match s.heap[id]? with
      | some (.cells cs) => if off + i.size ≤ cs.length then some (mkV i cs off) else none
      | _ => none
    | _, _ => none
def resList (X : Tx) (s : St) : List ResultVar → Option (List V)
  | [] => some []
  | r :: rs => match resOne X s r, resList X s rs with
    | some x, some xs => some (x :: xs)
    | _, _ => none
def resV : List V → V
  | [x] => x
  | xs => .tup xs

def popM : List Nat → List AB → Option (List AB)
  | [], H => some H
  | id :: r, H => match H[id]? with
    | some .df => popM r (H.set id .gone)
    | _ => none

def retQ (X : Tx) (fn : Func) (post : V → List AB → Prop) : Exit → St → Prop
  | .normal, s | .ret, s => ∃ H xs, popM s.marks s.heap = some H ∧ resList X { s with heap := H } fn.results.toList = some xs ∧ post (resV xs) H
  | _, _ => False

def argS : Nat → List V → List (Nat × V)
  | _, [] => []
  | n, x :: r => (n, x) :: argS (n + 1) r

theorem getS_argS : ∀ (l : List V) (n j : Nat), getS (argS n l) j = if n ≤ j then (l[j - n]?).getD (.c .any) else .c .any
  | [], n, j => by simp [argS, getS]
  | x :: r, n, j => by
    simp only [argS, getS, getS_argS r]
    by_cases h : n = j
    · subst h; simp
    · rw [if_neg h]
      by_cases h2 : n + 1 ≤ j
      · rw [if_pos h2, if_pos (by omega)]
        have : j - n = (j - (n + 1)) + 1 := by omega
        rw [this]; simp
      · rw [if_neg h2, if_neg (by omega)]

section
variable {X : Tx} {w : World} {G : Gh}

theorem rel_mkV {P : Program} {tt : Nat → Option TI} (T : TTok P tt) {H : List AB} {t : Nat} {i : TI} (ht : tt t = some i) {off : Nat} {cs : List C} {vs : List Value} (hr : CsRel w G H cs vs) (hoff : off + i.size ≤ cs.length) :
    VRel w G H (mkV i cs off) (if isAggD i.desc then .agg ((vs.drop off).take i.size).toArray else vs[off]?.getD undef) := by
  unfold mkV
  cases ha : isAggD i.desc with
  | true => simp only [if_true]; exact .agg _ _ (by simpa using (hr.drop off).take i.size)
  | false =>
    have h1 := T.one t i ht ha
    have hlt : off < cs.length := by omega
    obtain ⟨v, hv, hx, _⟩ := hr.get (i := off) (x := cs[off]) (by simp [hlt])
    simp only [Bool.false_eq_true, if_false, hv, List.getElem?_eq_getElem hlt, Option.getD_some]
    exact .c _ _ hx

def resRun (tm : Array Value) : ResultVar → Sem Value
  | .tmp t => pure (tm.getD t undef)
  | .cell a t => do loadVar t (← asAddr (tm.getD a undef))

theorem run_resOne {s : St} {tm : Array Value} {r : ResultVar} {x : V} (R : Rel w G s.heap) (hs : ∀ i, VRel w G s.heap (s.get i) (tm.getD i undef)) (h : resOne X s r = some x) :
    ∃ v, (resRun tm r).run X.P w = .ok v w ∧ VRel w G s.heap x v := by
  cases r with
  | tmp t => simp [resOne] at h; subst h; exact ⟨_, rfl, hs t⟩
  | cell a t =>
    simp only [resOne] at h
    split at h
    · rename_i i id off hi hp
      split at h
      · rename_i cs hid
        split at h
        · rename_i hle
          cases h
          have ha := hs a
          rw [hp] at ha
          obtain ⟨e1, _⟩ := ptr_rel ha
          obtain ⟨arr, t', hb, hr⟩ := cells_at R hid
          have hrun := run_loadVar (P := X.P) X.ok hi (b := G.rho id) (off := off) (vs := arr.toList) (w := w) (by rw [← hr.1]; exact hle) (fun j _ => cell_arr hb _)
          refine ⟨if isAggD i.desc then .agg ((arr.toList.drop off).take i.size).toArray else arr.toList[off]?.getD undef, ?_, rel_mkV X.ok hi hr hle⟩
          simp only [resRun, e1, asAddr, Sem.run_bind, Sem.run_pure, Result.andThen_ok]
          exact hrun
        · cases h
      · cases h
    · cases h

theorem run_resList {s : St} {tm : Array Value} (R : Rel w G s.heap) (hs : ∀ i, VRel w G s.heap (s.get i) (tm.getD i undef)) : ∀ {rs : List ResultVar} {xs : List V}, resList X s rs = some xs →
    ∃ vs : List Value, (rs.mapM (resRun tm)).run X.P w = .ok vs w ∧ xs.length = vs.length ∧ ∀ (i : Nat) (x : V) (v : Value), xs[i]? = some x → vs[i]? = some v → VRel w G s.heap x v
  | [], xs, h => by simp [resList] at h; subst h; exact ⟨[], by simp, rfl, fun i x v h => by simp at h⟩
  | r :: rs, xs, h => by
    simp only [resList] at h
    split at h
    · rename_i x xs' hx hxs
      cases h
      obtain ⟨v, h1, h2⟩ := run_resOne R hs hx
      obtain ⟨vs, h3, h4, h5⟩ := run_resList R hs hxs
      refine ⟨v :: vs, ?_, by simp [h4], fun i y u hy hu => ?_⟩
      · simp only [List.mapM_cons, Sem.run_bind]
        rw [h1]
        simp only [Result.andThen_ok, h3, Sem.run_pure]
      · cases i with
        | zero => simp at hy hu; subst hy; subst hu; exact h2
        | succ i => exact h5 i y u (by simpa using hy) (by simpa using hu)
    · cases h

theorem run_results {s : St} {tm : Array Value} {fn : Func} {xs : List V} (R : Rel w G s.heap) (hs : ∀ i, VRel w G s.heap (s.get i) (tm.getD i undef)) (h : resList X s fn.results.toList = some xs) :
    ∃ v, (results fn tm).run X.P w = .ok v w ∧ VRel w G s.heap (resV xs) v := by
  obtain ⟨vs, h1, h2, h3⟩ := run_resList R hs h
  have hm : (fn.results.mapM (resRun tm)).run X.P w = .ok vs.toArray w := by
    rw [Array.mapM_eq_mapM_toList, Sem.run_map, h1, Result.andThen_ok]
  refine ⟨if h : vs.toArray.size = 1 then vs.toArray[0] else .tuple vs.toArray, ?_, ?_⟩
  · have he : results fn tm = (do
        let vs ← fn.results.mapM (resRun tm)
        pure (if h : vs.size = 1 then vs[0] else .tuple vs)) := by
      unfold results
      congr 1
    rw [he, Sem.run_bind, hm]
    simp
  · cases vs with
    | nil =>
      have : xs = [] := by simpa using h2
      subst this
      simpa [resV] using VRel.tup (w := w) (G := G) (H := s.heap) [] #[] rfl (fun i x v h => by simp at h)
    | cons v vs =>
      cases xs with
      | nil => simp at h2
      | cons x xs =>
        cases vs with
        | nil =>
          have : xs = [] := by simpa using h2
          subst this
          simpa [resV] using h3 0 x v rfl rfl
        | cons v' vs =>
          cases xs with
          | nil => simp at h2
          | cons x' xs => simpa [resV] using VRel.tup (w := w) (G := G) (H := s.heap) (x :: x' :: xs) (v :: v' :: vs).toArray (by simpa using h2.symm) (fun i x v hx hv => h3 i x v hx (by simpa using hv))

theorem leaves_marks {fn : Func} {tm : Array Value} {R : Ending → World → Prop} {G : Gh} : ∀ (ms : List Nat) (H H' : List AB) (w : World), Rel w G H → popM ms H = some H' →
    (∀ w', Rel w' G H' → Later w G H w' G H' → LeavesInM (Wd none) 0 X.P fn tm R [] .returning w') → LeavesInM (Wd none) 0 X.P fn tm R (ms.map (markOf G)) .returning w
  | [], H, H', w, hR, h, k => by simp [popM] at h; subst h; exact k w hR (Later.refl _ _ _)
  | id :: ms, H, H', w, hR, h, k => by
    simp only [popM] at h
    split at h
    · rename_i hid
      cases hR.ab id _ hid with
      | df hb hrole =>
        have hnc : ∀ j, w.cell? ⟨G.rho id, j, none⟩ = none := fun j => by simp [World.cell?, hb]
        have L : Later w G H (w.putObj (G.rho id) (.deferred none)) G (H.set id .gone) :=
          Later.put_own hrole (fun j hj => by obtain ⟨v, hv⟩ := hR.sex _ j hj; rw [hnc] at hv; cases hv) (fun n sz e => by cases e)
        have R' := hR.put_own hrole L (fun _ => .gone)
        refine ⟨by simp, .inl ⟨G.rho id, _, rfl, run_takeDeferred hb, ?_⟩⟩
        exact leaves_marks ms _ H' _ R' h (fun w' r l => k w' r (L.trans l))
    · cases h

theorem popM_len : ∀ (ms : List Nat) (H H' : List AB), popM ms H = some H' → H'.length = H.length
  | [], H, H', h => by simp [popM] at h; rw [h]
  | id :: ms, H, H', h => by
    simp only [popM] at h
    split at h
    · rw [popM_len ms _ _ h]; simp
    · cases h

def notNum (fn : Func) : Bool := !(fn.name == "runtime.NumGoroutine")

/-- A function's contract, out of its body. -/
theorem acall_of_awp {f : FuncId} {fn : Func} {c : Code} {args : List V} {H : List AB} {post : V → List AB → Prop} (hf : X.P.funcs[f]? = some fn) (hb : fn.body = some c) (hn0 : notNum fn = true)
    {nt : Nat} (hnt : args.length + (fn.ntmps - args.length) = nt)
    (h : AWP { P := X.P, tt := X.tt, r := none, nb := H.length, nt := nt } c (retQ X fn post) { slots := argS 0 args, heap := H, marks := [] }) : ACall X.P f args H post := by
  have hn : (fn.name == "runtime.NumGoroutine") = false := by simpa [notNum] using hn0
  refine ⟨fun as w => ?_, fun w G vs R hl hr => ?_⟩
  · simp only [callFunc, Sem.run_bind, run_program, Result.andThen_ok, hf, hn, Bool.false_eq_true, if_false, hb, Option.isNone_some]
    rfl
  · have hl' : args.length = vs.size := by simpa using hl
    refine callsIn_of_wp_marks hf hb trivial ?_
    have hst : RelSt ⟨w, G, H⟩ H.length nt w G { slots := argS 0 args, heap := H, marks := [] } { tmps := vs ++ Array.replicate (fn.ntmps - vs.size) undef, defers := [] } :=
      { rel := R
        later := Later.refl _ _ _
        base := rfl
        size := by simp; omega
        slots := fun i => by
          simp only [St.get, getS_argS, Nat.zero_le, if_true, Nat.sub_zero]
          cases hx : args[i]? with
          | none => exact .c _ _ (.any _)
          | some x =>
            have hi : i < vs.size := by rw [← hl']; exact (List.getElem?_eq_some_iff.1 hx).1
            have e : (vs ++ Array.replicate (fn.ntmps - vs.size) undef).getD i undef = vs[i] := by
              rw [Array.getD_eq_getD_getElem?, Array.getElem?_append_left hi]; simp [hi]
            rw [e]
            exact hr i x _ hx (by simp [hi])
        defers := rfl
        marks := fun id h => by simp at h }
    refine wpIn_mono (h _ w G _ hst) ?_
    rintro e a' w' ⟨s', G', hq, hR⟩
    have fin : (∃ H1 xs, popM s'.marks s'.heap = some H1 ∧ resList X { s' with heap := H1 } fn.results.toList = some xs ∧ post (resV xs) H1) → LeavesInM (Wd none) 0 X.P fn a'.tmps (fun e w' => ∃ v x H' G', e = .returned v ∧ post x H' ∧ Rel w' G' H' ∧ VRel w' G' H' x v ∧ Later w G H w' G' H') a'.defers .returning w' := by
      rintro ⟨H1, xs, h1, h2, h3⟩
      rw [hR.defers]
      refine leaves_marks s'.marks s'.heap H1 w' hR.rel h1 (fun w2 R2 L2 => ?_)
      obtain ⟨v, hv1, hv2⟩ := run_results (X := X) (s := { s' with heap := H1 }) (tm := a'.tmps) (fn := fn) R2 (fun i => (hR.slots i).mono L2) h2
      exact ⟨v, hv1, v, _, H1, G', rfl, h3, R2, hv2, hR.later.trans L2⟩
    cases e with
    | normal => exact fin hq
    | ret => exact fin hq
    | _ => exact hq.elim
end
end Go.Abs
