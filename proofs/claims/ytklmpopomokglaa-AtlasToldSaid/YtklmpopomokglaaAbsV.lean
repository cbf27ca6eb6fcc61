/- What one operation looks at and changes. -/
import Derived.Test.YtklmpopomokglaaAbsW
set_option linter.unusedSimpArgs false
set_option linter.unusedVariables false
namespace Go.Abs
open Go

set_option maxHeartbeats 4000000 in
theorem op1_kq {X : Tx} {H H' : List AB} {E : Operand → V} {op : Op} {c : Bool} {x : V} (hq : quietOp op = true) (h : op1 X H E op = some (c, x, H')) (H2 : List AB) : op1 X H2 E op = some (c, x, H2) := by
  unfold op1 at h
  split at h
  all_goals first
    | (simp [quietOp, loudOp] at hq; done)
    | (simp only [op1]; (repeat' split at h) <;> first | (cases h; done) | (simp [quietOp, loudOp] at hq; done) | (simp_all [op1]; done))

def footOf (X : Tx) (E : Operand → V) (op : Op) : Foot :=
  if quietOp op then .none else match op with
  | .load t x => match X.tt t, E x with
    | some i, .c (.ptr id off) => .win id off i.size
    | _, _ => .none
  | .store _ a x => match E a with
    | .c (.ptr id off) => .win id off (E x).cs.length
    | _ => .none
  | .lookup _ m _ _ => match E m with
    | .c (.mp id) => .blk id
    | _ => .none
  | .call { callee := .builtin .len, args := as, argTypes := _ } => match as.toList.map E with
    | [.c (.mp id)] => .blk id
    | _ => .none
  | _ => .all
def effOf (E : Operand → V) (op : Op) (H' : List AB) : Eff := match op with
  | .store _ a x => match E a with
    | .c (.ptr id off) => .patch id off (E x).cs
    | _ => .no
  | op => if loudOp op then .to H' else .no

theorem quietOp_loud {op : Op} (h : quietOp op = true) : loudOp op = false := by
  cases op with
  | call c =>
    obtain ⟨callee, args, ts⟩ := c
    cases callee with
    | builtin b => cases b <;> simp [quietOp, loudOp] at h ⊢
    | _ => rfl
  | _ => simp [quietOp, loudOp] at h ⊢

theorem kindP_of {X : Tx} {E : Operand → V} {op : Op} {H H' : List AB} {c : Bool} {x : V} (m3 : Bool) (hm : m3 = true → makeOp op = false) (h : op1 X H E op = some (c, x, H')) : kindP m3 op (effOf E op H') (footOf X E op) := by
  refine ⟨fun hq => ⟨?_, by simp [footOf, hq]⟩, fun hl => ?_, fun hs => ?_, fun _ => ?_⟩
  · have := quietOp_loud hq
    cases op <;> simp [effOf, this]
    simp [loudOp] at this
  · cases op <;> simp [effOf, hl]
    simp [loudOp] at hl
  · have hst : storeOp op = true := by
      simp only [mutOp, Bool.or_eq_true, Bool.and_eq_true] at hs
      rcases hs with hs | ⟨h1, h2⟩
      · exact hs
      · rw [hm h1] at h2; cases h2
    cases op <;> simp [storeOp] at hst
    simp only [effOf, footOf]
    split
    · exact .inr ⟨by simp [quietOp, loudOp, Eff.foot], rfl⟩
    · exact .inl rfl
  · cases op <;> simp only [effOf]
    case store => split <;> rfl
    all_goals (split <;> rfl)

theorem mkV_win {i : TI} {cs cs' : List C} {off : Nat} (h3 : cs.length = cs'.length) (h4 : ∀ j, off ≤ j → j < off + i.size → cs[j]? = cs'[j]?) (hs : isAggD i.desc = false → 0 < i.size) : mkV i cs off = mkV i cs' off := by
  unfold mkV
  cases ha : isAggD i.desc with
  | true =>
    simp only [if_true]
    congr 1
    refine List.ext_getElem? fun j => ?_
    simp only [List.getElem?_take, List.getElem?_drop]
    split
    · exact h4 _ (by omega) (by omega)
    · rfl
  | false =>
    have := hs ha
    simp only [Bool.false_eq_true, if_false]
    rw [h4 off (Nat.le_refl _) (by omega)]

set_option maxHeartbeats 4000000 in
theorem op1_quiet {X : Tx} {H H' : List AB} {E : Operand → V} {op : Op} {c : Bool} {x : V} (hl : loudOp op = false) (h : op1 X H E op = some (c, x, H')) : H' = H := by
  unfold op1 at h
  split at h
  all_goals first
    | (simp [loudOp] at hl; done)
    | (repeat' split at h) <;> first | (cases h; rfl) | (cases h; done) | (simp [loudOp] at hl; done) | (simp at h; done) | (simp at h; exact h.2.2.symm)

theorem footOf_all {X : Tx} {E : Operand → V} {op : Op} (hq : quietOp op = false) (hw : winOp false op = false) : footOf X E op = .all := by
  unfold footOf
  rw [hq]
  cases op with
  | call c =>
    obtain ⟨callee, args, ts⟩ := c
    cases callee with
    | builtin b => cases b <;> first | (simp [winOp, loadOp, mutOp, storeOp] at hw; done) | rfl
    | _ => rfl
  | _ => first | (simp [winOp, loadOp, mutOp, storeOp] at hw; done) | rfl
theorem effOf_gen {E : Operand → V} {op : Op} {H' : List AB} (hw : storeOp op = false) : effOf E op H' = if loudOp op then .to H' else .no := by
  cases op <;> first | (simp [storeOp] at hw; done) | rfl

/-- At a heap that looks the same where the operation looks, it does the same. -/
theorem op1_foot {X : Tx} {H H' : List AB} {E : Operand → V} {op : Op} {c : Bool} {x : V} (h : op1 X H E op = some (c, x, H')) : (∀ H2, sim (footOf X E op) H2 H → op1 X H2 E op = some (c, x, (effOf E op H').app H2)) ∧ (effOf E op H').app H = H' := by
  have key : ∀ H2, sim (footOf X E op) H2 H → op1 X H2 E op = some (c, x, (effOf E op H').app H2) := by
    intro H2 hs
    cases hq : quietOp op with
    | true =>
      have e : effOf E op H' = .no := (kindP_of false (fun h => by cases h) h).1 hq |>.1
      rw [e]
      exact op1_kq hq h H2
    | false =>
      cases hw : winOp false op with
      | false =>
        rw [footOf_all hq hw] at hs
        have e : H2 = H := hs
        subst e
        rw [h, effOf_gen (by simp [winOp, mutOp] at hw; exact hw.2)]
        cases hl : loudOp op with
        | true => rfl
        | false => rw [op1_quiet hl h]; rfl
      | true =>
      cases op with
      | load t a =>
        simp only [footOf, hq, Bool.false_eq_true, if_false] at hs
        simp only [effOf, loudOp, Bool.false_eq_true, if_false, Eff.app]
        simp only [op1] at h ⊢
        split at h
        · rename_i i id off ht hx
          simp only [ht, hx] at hs ⊢
          split at h
          · rename_i cs hid
            cases h
            rcases hs with hs | ⟨ds, ds', h1, h2, h3, h4⟩
            · rw [hs, hid]
            · rw [hid] at h2
              cases h2
              simp only [h1, h3]
              rw [mkV_win h3 h4 (fun ha => by have := X.ok.one t i ht ha; omega)]
          · cases h
        · rename_i i ds ht hx
          simp only [ht, hx] at hs ⊢
          cases h; rfl
        · cases h
      | store t a y =>
        simp only [footOf, hq, Bool.false_eq_true, if_false] at hs
        simp only [op1] at h ⊢
        split at h
        · rename_i i id off ht hx
          simp only [hx] at hs
          simp only [ht, hx, effOf]
          split at h
          · rename_i cs hid
            cases h
            rcases hs with hs | ⟨ds, ds', h1, h2, h3, h4⟩
            · rw [hs, hid]
              simp [Eff.app, patchH, hs, hid]
            · rw [hid] at h2
              cases h2
              simp only [h1, h3]
              simp [Eff.app, patchH, h1]
          · cases h
        · cases h
      | lookup t m k ok =>
        have e : effOf E (.lookup t m k ok) H' = .no := rfl
        rw [e]
        unfold footOf at hs; rw [hq] at hs
        simp only [Bool.false_eq_true, if_false] at hs
        simp only [op1] at h ⊢
        split at h
        · rename_i i id ht hx
          simp only [hx] at hs
          have hs : H2[id]? = H[id]? := hs
          simp only [ht, hx, hs]
          split at h
          · rename_i kt et es hd hid
            split at h
            · rename_i j o hj ho
              cases h
              first | rfl | (simp only [hd, hid, hj, ho]; rfl) | (simp only [hd, hid, hj, ho])
            · cases h
          · cases h
        · cases h
      | call c =>
        obtain ⟨callee, args, ts⟩ := c
        cases callee with
        | builtin b =>
          cases b <;> first | (simp [winOp, loadOp, mutOp, storeOp, makeOp] at hw; done) | skip
          have e : effOf E (.call { callee := .builtin .len, args := args, argTypes := ts }) H' = .no := rfl
          rw [e]
          unfold footOf at hs; rw [hq] at hs
          simp only [Bool.false_eq_true, if_false] at hs
          simp only [op1] at h ⊢
          generalize ts.toList = tl at h ⊢
          generalize args.toList.map E = vl at h hs ⊢
          rcases tl with _ | ⟨t, _ | ⟨t2, tl⟩⟩ <;> rcases vl with _ | ⟨x1, _ | ⟨x2, vl⟩⟩ <;> try (simp at h; done)
          simp only at h ⊢
          split at h
          · rename_i i hi
            split at h
            · rename_i el cc hd
              split at h
              · rename_i n hn; cases h; first | rfl | (simp only [hi, hd, hn]; rfl) | simp [hi, hd, hn, Eff.app]
              · cases h
            · rename_i n el hd; cases h; first | rfl | (simp only [hi, hd]; rfl) | simp [hi, hd, Eff.app]
            · rename_i kt et id hd
              have hs : H2[id]? = H[id]? := hs
              split at h
              · rename_i es hid; cases h; first | (simp only [hi, hd, hs, hid]; rfl) | simp [hi, hd, hs, hid, Eff.app]
              · cases h
            · cases h
          · cases h
        | _ => simp [winOp, loadOp, mutOp, storeOp, makeOp] at hw
      | _ => simp [winOp, loadOp, mutOp, storeOp] at hw
  refine ⟨key, ?_⟩
  have := key H (sim_refl _ _)
  rw [h] at this
  injection this with this
  injection this with _ this
  injection this with _ this
  exact this.symm

theorem kindP_no (m3 : Bool) (op : Op) : kindP m3 op .no .none := ⟨fun _ => ⟨rfl, rfl⟩, fun _ => rfl, fun _ => .inl rfl, fun _ => rfl⟩
theorem effOf_hole {E : Operand → V} {op : Op} {H' : List AB} : (effOf E op H').hole = none := by
  cases op <;> simp only [effOf]
  case store => split <;> rfl
  all_goals (split <;> rfl)

/-- A new block, whatever its number. -/
def mkOf (X : Tx) (E : Operand → V) (op : Op) : Option (MkK × AB) := match op with
  | .alloc t => match X.tt t with
    | some i => some (.ptr, .cells i.zero.cs)
    | none => none
  | .box _ x => if (E x).solid then some (.ptr, .cells (E x).cs) else none
  | .makeSlice t l c => match X.tt t, E l, E c with
    | some i, .c (.d (.int _ n)), .c (.d (.int _ m)) => match i.desc with
      | .slice e => match X.tt e with
        | some j => if decide (0 ≤ n) && decide (n ≤ m) && decide ((j.bytes : Int) * m ≤ 140737488355328) && decide (m ≤ lim) then some (.ms n.toNat m.toNat, .cells (zc j.zero.cs m.toNat)) else none
        | none => none
      | _ => none
    | _, _, _ => none
  | .makeMap _ none => some (.mp, .mp [])
  | _ => none
theorem mkOf_spec {X : Tx} {E : Operand → V} {op : Op} {k : MkK} {b : AB} (h : mkOf X E op = some (k, b)) : makeOp op = true ∧ ∀ H, op1 X H E op = some (true, .c (k.at H.length), H ++ [b]) := by
  unfold mkOf at h
  split at h
  · split at h
    · rename_i i hi; cases h; exact ⟨rfl, fun H => by simp [op1, hi, MkK.at]⟩
    · cases h
  · split at h
    · rename_i hs; cases h; exact ⟨rfl, fun H => by simp [op1, hs, MkK.at]⟩
    · cases h
  · split at h
    · rename_i i k1 n k2 m hi h1 h2
      split at h
      · rename_i e hd
        split at h
        · rename_i j hj
          split at h
          · rename_i hc; cases h; exact ⟨rfl, fun H => by simp only [op1, hi, h1, h2, hd, hj, hc, MkK.at]⟩
          · cases h
        · cases h
      · cases h
    · cases h
  · cases h; exact ⟨rfl, fun H => by simp [op1, MkK.at]⟩
  · cases h
theorem kindP_mk {m3 : Bool} {op : Op} {id : Nat} {b : AB} (hm3 : m3 = true) (h : makeOp op = true) : kindP m3 op (.put id b) (.blk id) := by
  have hl : loudOp op = true := by cases op <;> simp [makeOp] at h <;> rfl
  have hq : quietOp op = false := by
    cases hq : quietOp op with
    | false => rfl
    | true => rw [quietOp_loud hq] at hl; cases hl
  exact ⟨fun h => (by rw [hq] at h; cases h), fun h => (by rw [hl] at h; cases h), fun _ => .inr ⟨rfl, rfl⟩, fun h => (by rw [hm3] at h; cases h)⟩
/-- The new block names nothing that is not there. -/
def AB.newB (id N0 : Nat) : AB → Bool
  | .cells cs => C.freeL id cs && C.lowL N0 cs
  | .mp [] => true
  | _ => false
theorem AB.newB_spec {id N0 : Nat} {b : AB} (h : b.newB id N0 = true) : b.freeP id ∧ b.lowP N0 := by
  cases b with
  | cells cs => simp only [AB.newB, Bool.and_eq_true] at h; exact h
  | mp es =>
    cases es with
    | nil => exact ⟨fun e he => (by cases he), fun e he => (by cases he)⟩
    | cons => cases h
  | _ => cases h

def countMk : List Oper → Nat
  | [] => 0
  | o :: os => countMk os + (if makeOp o.op then 1 else 0)
/-- Which rule is taken for a drawn region. -/
def m3of (ops : Array Oper) : Bool := decide (1 ≤ countMk ops.toList) && ops.toList.all fun o => !loudOp o.op || mutOp true o.op

/-- Its regions are as the executor wants them. -/
def okX (nt : Nat) : Code → Bool
  | .seq x y => okX nt x && okX nt y
  | .block _ c => okX nt c
  | .loop c => okX nt c
  | .scope c => okX nt c
  | .cond _ x y => okX nt x && okX nt y
  | .region _ ops false => dstsB nt ops.toList
  | .region _ ops true => dstsB nt ops.toList && conflB2 (m3of ops) ops
  | .rangeFunc _ _ a b => okX nt a && okX nt b
  | _ => true
end Go.Abs
