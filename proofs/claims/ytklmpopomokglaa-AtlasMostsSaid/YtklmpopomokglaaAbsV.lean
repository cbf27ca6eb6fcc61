/- What one operation looks at and changes. -/
import Derived.Test.YtklmpopomokglaaAbsW
set_option linter.unusedSimpArgs false
set_option linter.unusedVariables false
namespace Go.Abs
open Go

set_option maxHeartbeats 4000000 in
theorem op1_kq {X : Tx} {H H' : List AB} {E : Operand → V} {op : Op} {c : Bool} {x : V} (hq : quietOp op = true) (h : op1 X H E op = some (c, x, H')) (H2 : List AB) : op1 X H2 E op = some (c, x, H2) := by
  unfold op1 at h
  split at h
  all_goals first
    | (simp [quietOp, loudOp] at hq; done)
    | (simp only [op1]; (repeat' split at h) <;> first | (cases h; done) | (simp [quietOp, loudOp] at hq; done) | (simp_all [op1]; done))

def footOf (X : Tx) (E : Operand → V) (op : Op) : Foot :=
  if quietOp op then .none else match op with
  | .load t x => match X.tt t, E x with
    | some i, .c (.ptr id off) => .win id off i.size
    | _, _ => .none
  | .store _ a x => match E a with
    | .c (.ptr id off) => .win id off (E x).cs.length
    | _ => .none
  | _ => .all
def effOf (E : Operand → V) (op : Op) (H' : List AB) : Eff := match op with
  | .store _ a x => match E a with
    | .c (.ptr id off) => .patch id off (E x).cs
    | _ => .no
  | op => if loudOp op then .to H' else .no

theorem quietOp_loud {op : Op} (h : quietOp op = true) : loudOp op = false := by
  cases op with
  | call c =>
    obtain ⟨callee, args, ts⟩ := c
    cases callee with
    | builtin b => cases b <;> simp [quietOp, loudOp] at h ⊢
    | _ => rfl
  | _ => simp [quietOp, loudOp] at h ⊢

theorem kindP_of {X : Tx} {E : Operand → V} {op : Op} {H H' : List AB} {c : Bool} {x : V} (h : op1 X H E op = some (c, x, H')) : kindP op (effOf E op H') (footOf X E op) := by
  refine ⟨fun hq => ⟨?_, by simp [footOf, hq]⟩, fun hl => ?_, fun hs => ?_, fun hw => ?_⟩
  · have := quietOp_loud hq
    cases op <;> simp [effOf, this]
    simp [loudOp] at this
  · cases op <;> simp [effOf, hl]
    simp [loudOp] at hl
  · cases op <;> simp [storeOp] at hs
    simp only [effOf, footOf]
    split
    · exact .inr ⟨_, _, _, rfl, by simp [quietOp, loudOp]⟩
    · exact .inl rfl
  · have key : ∀ w : Foot, w ≠ .all → w = .none ∨ ∃ id off n, w = .win id off n := fun w hw => by cases w <;> simp at hw ⊢
    refine key _ ?_
    cases op <;> simp [winOp] at hw <;> simp only [footOf, quietOp, loudOp, Bool.not_true, Bool.false_eq_true, if_false] <;> (split <;> simp)

theorem mkV_win {i : TI} {cs cs' : List C} {off : Nat} (h3 : cs.length = cs'.length) (h4 : ∀ j, off ≤ j → j < off + i.size → cs[j]? = cs'[j]?) (hs : isAggD i.desc = false → 0 < i.size) : mkV i cs off = mkV i cs' off := by
  unfold mkV
  cases ha : isAggD i.desc with
  | true =>
    simp only [if_true]
    congr 1
    refine List.ext_getElem? fun j => ?_
    simp only [List.getElem?_take, List.getElem?_drop]
    split
    · exact h4 _ (by omega) (by omega)
    · rfl
  | false =>
    have := hs ha
    simp only [Bool.false_eq_true, if_false]
    rw [h4 off (Nat.le_refl _) (by omega)]

set_option maxHeartbeats 4000000 in
theorem op1_quiet {X : Tx} {H H' : List AB} {E : Operand → V} {op : Op} {c : Bool} {x : V} (hl : loudOp op = false) (h : op1 X H E op = some (c, x, H')) : H' = H := by
  unfold op1 at h
  split at h
  all_goals first
    | (simp [loudOp] at hl; done)
    | (repeat' split at h) <;> first | (cases h; rfl) | (cases h; done) | (simp [loudOp] at hl; done) | (simp at h; done) | (simp at h; exact h.2.2.symm)

theorem footOf_all {X : Tx} {E : Operand → V} {op : Op} (hq : quietOp op = false) (hw : winOp op = false) : footOf X E op = .all := by
  cases op <;> first | (simp [winOp] at hw; done) | simp [footOf, hq]
theorem effOf_gen {E : Operand → V} {op : Op} {H' : List AB} (hw : winOp op = false) : effOf E op H' = if loudOp op then .to H' else .no := by
  cases op <;> first | (simp [winOp] at hw; done) | rfl

/-- At a heap that looks the same where the operation looks, it does the same. -/
theorem op1_foot {X : Tx} {H H' : List AB} {E : Operand → V} {op : Op} {c : Bool} {x : V} (h : op1 X H E op = some (c, x, H')) : (∀ H2, sim (footOf X E op) H2 H → op1 X H2 E op = some (c, x, (effOf E op H').app H2)) ∧ (effOf E op H').app H = H' := by
  have key : ∀ H2, sim (footOf X E op) H2 H → op1 X H2 E op = some (c, x, (effOf E op H').app H2) := by
    intro H2 hs
    cases hq : quietOp op with
    | true =>
      have e : effOf E op H' = .no := (kindP_of h).1 hq |>.1
      rw [e]
      exact op1_kq hq h H2
    | false =>
      cases hw : winOp op with
      | false =>
        rw [footOf_all hq hw] at hs
        have e : H2 = H := hs
        subst e
        rw [h, effOf_gen hw]
        cases hl : loudOp op with
        | true => rfl
        | false => rw [op1_quiet hl h]; rfl
      | true =>
      cases op with
      | load t a =>
        simp only [footOf, hq, Bool.false_eq_true, if_false] at hs
        simp only [effOf, loudOp, Bool.false_eq_true, if_false, Eff.app]
        simp only [op1] at h ⊢
        split at h
        · rename_i i id off ht hx
          simp only [ht, hx] at hs ⊢
          split at h
          · rename_i cs hid
            cases h
            rcases hs with hs | ⟨ds, ds', h1, h2, h3, h4⟩
            · rw [hs, hid]
            · rw [hid] at h2
              cases h2
              simp only [h1, h3]
              rw [mkV_win h3 h4 (fun ha => by have := X.ok.one t i ht ha; omega)]
          · cases h
        · rename_i i ds ht hx
          simp only [ht, hx] at hs ⊢
          cases h; rfl
        · cases h
      | store t a y =>
        simp only [footOf, hq, Bool.false_eq_true, if_false] at hs
        simp only [op1] at h ⊢
        split at h
        · rename_i i id off ht hx
          simp only [hx] at hs
          simp only [ht, hx, effOf]
          split at h
          · rename_i cs hid
            cases h
            rcases hs with hs | ⟨ds, ds', h1, h2, h3, h4⟩
            · rw [hs, hid]
              simp [Eff.app, patchH, hs, hid]
            · rw [hid] at h2
              cases h2
              simp only [h1, h3]
              simp [Eff.app, patchH, h1]
          · cases h
        · cases h
      | _ => simp [winOp] at hw
  refine ⟨key, ?_⟩
  have := key H (sim_refl _ _)
  rw [h] at this
  injection this with this
  injection this with _ this
  injection this with _ this
  exact this.symm

theorem kindP_no (op : Op) : kindP op .no .none := ⟨fun _ => ⟨rfl, rfl⟩, fun _ => rfl, fun _ => .inl rfl, fun _ => .inl rfl⟩

/-- Its regions are as the executor wants them. -/
def okX (nt : Nat) : Code → Bool
  | .seq x y => okX nt x && okX nt y
  | .block _ c => okX nt c
  | .loop c => okX nt c
  | .scope c => okX nt c
  | .cond _ x y => okX nt x && okX nt y
  | .region _ ops false => dstsB nt ops.toList
  | .region _ ops true => dstsB nt ops.toList && conflB2 ops
  | .rangeFunc _ _ a b => okX nt a && okX nt b
  | _ => true
end Go.Abs
