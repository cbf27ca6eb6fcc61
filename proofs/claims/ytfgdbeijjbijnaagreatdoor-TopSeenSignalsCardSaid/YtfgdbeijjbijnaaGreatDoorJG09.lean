/- Regions whose order is drawn, with stores that no edge orders. -/
import Derived.Test.YtfgdbeijjbijnaaGreatDoorJG08
set_option linter.unusedSimpArgs false
set_option linter.unusedVariables false
namespace Go.Abs
open Go
inductive DR where
 | none
 | win (id off n : Nat)
 | blk (id : Nat)
 | blks (id m : Nat)
 | all
inductive Eff where
 | no
 | patch (id off : Nat) (cs : List C)
 | put (id : Nat) (b : AB)
 | upd (id : Nat) (b : AB)
 | puts (id : Nat) (bs : List AB)
 | to (H : List AB)
def Ds (id off : Nat) (cs : List C) (H : List AB) : List AB := match H[id]? with
 | some (.cells ds) => H.set id (.cells (setMany ds off cs))
 | _ => H
def Eff.app : Eff → List AB → List AB
 | .no, H => H
 | .patch id off cs, H => Ds id off cs H
 | .put id b, H => H.set id b
 | .upd id b, H => H.set id b
 | .puts id bs, H => setMany H id bs
 | .to H', _ => H'
def Eff.foot : Eff → DR
 | .no => .none
 | .patch id off cs => .win id off cs.length
 | .put id _ => .blk id
 | .upd id _ => .blk id
 | .puts id bs => .blks id bs.length
 | .to _ => .all
def sim : DR → List AB → List AB → Prop
 | .none, _, _ => True
 | .win id off n, H, H' => H[id]? = H'[id]? ∨ ∃ cs cs', H[id]? = some (.cells cs) ∧ H'[id]? = some (.cells cs') ∧ cs.length = cs'.length ∧ ∀ j, off ≤ j → j < off + n → cs[j]? = cs'[j]?
 | .blk id, H, H' => H[id]? = H'[id]?
 | .blks id m, H, H' => ∀ k, id ≤ k → k < id + m → H[k]? = H'[k]?
 | .all, H, H' => H = H'
theorem Hu (w : DR) (H : List AB) : sim w H H := by
 cases w with
 | none => trivial
 | win => exact .inl rfl
 | blk => rfl
 | blks => exact fun _ _ _ => rfl
 | all => rfl
theorem Pa {w : DR} {H H' : List AB} (h : sim w H H') : sim w H' H := by
 cases w with
 | none => trivial
 | win id off n =>
  rcases h with h | ⟨cs, cs', h1, h2, h3, h4⟩
  ·exact .inl h.symm
  ·exact .inr ⟨cs', cs, h2, h1, h3.symm, fun j a b => (h4 j a b).symm⟩
 | blk => exact Eq.symm h
 | blks => exact fun k a b => (h k a b).symm
 | all => exact Eq.symm h
theorem BF (id off : Nat) (cs : List C) (H : List AB) (k : Nat) : (Ds id off cs H)[k]? = if k = id then (match H[id]? with | some (.cells ds) => some (.cells (setMany ds off cs)) | x => x) else H[k]? := by
 unfold Ds
 by_cases e : k = id
 ·subst e
  simp only [if_true]
  cases hx : H[k]? with
  | none => simp [hx]
  | some x =>
   have hlt := (List.getElem?_eq_some_iff.1 hx).1
   cases x <;> first | (simp [hx, hlt]; done) | (simp only [hx])
 ·simp only [if_neg e]
  split
  ·rw [List.getElem?_set_ne (Ne.symm e)]
  ·rfl
theorem Ks {H H' : List AB} {id : Nat} (b : AB) (h : H[id]? = H'[id]?) (k : Nat) (hk : H[k]? = H'[k]?) : (H.set id b)[k]? = (H'.set id b)[k]? := by
 have hl : id < H.length ↔ id < H'.length := by
  constructor
  ·intro hk; rw [List.getElem?_eq_getElem hk] at h; exact (List.getElem?_eq_some_iff.1 h.symm).1
  ·intro hk; rw [List.getElem?_eq_getElem hk] at h; exact (List.getElem?_eq_some_iff.1 h).1
 by_cases e : id = k
 ·subst e
  by_cases hk2 : id < H.length
  ·simp [hk2, hl.1 hk2]
  ·simp [hk2, show ¬ id < H'.length from fun h => hk2 (hl.2 h)]
 ·rw [List.getElem?_set_ne e, List.getElem?_set_ne e]; exact hk
theorem Ee {H : List AB} {id : Nat} (bs : List AB) {k : Nat} (h : k < id ∨ id + bs.length ≤ k) : (setMany H id bs)[k]? = H[k]? := by
 rw [AG, if_neg (by omega)]
theorem TW {H H' : List AB} {id : Nat} (bs : List AB) (k : Nat) (hk : H[k]? = H'[k]?) : (setMany H id bs)[k]? = (setMany H' id bs)[k]? := by
 have hl : k < H.length ↔ k < H'.length := by
  constructor
  ·intro h; rw [List.getElem?_eq_getElem h] at hk; exact (List.getElem?_eq_some_iff.1 hk.symm).1
  ·intro h; rw [List.getElem?_eq_getElem h] at hk; exact (List.getElem?_eq_some_iff.1 hk).1
 rw [AG, AG, hk]
 simp only [hl]
theorem Ij {H H' : List AB} {id : Nat} (h : H[id]? = H'[id]? ∨ ∃ cs cs', H[id]? = some (.cells cs) ∧ H'[id]? = some (.cells cs')) : id < H.length ↔ id < H'.length := by
 rcases h with h | ⟨cs, cs', h1, h2⟩
 ·constructor
  ·intro hk; rw [List.getElem?_eq_getElem hk] at h; exact (List.getElem?_eq_some_iff.1 h.symm).1
  ·intro hk; rw [List.getElem?_eq_getElem hk] at h; exact (List.getElem?_eq_some_iff.1 h).1
 ·exact ⟨fun _ => (List.getElem?_eq_some_iff.1 h2).1, fun _ => (List.getElem?_eq_some_iff.1 h1).1⟩
theorem Kt {e : Eff} {H H' : List AB} {k : Nat} (hk : H[k]? = H'[k]?) : (e.app H)[k]? = (e.app H')[k]? := by
 cases e with
 | no => exact hk
 | to => rfl
 | patch id2 off2 cs2 =>
  simp only [Eff.app, BF]
  by_cases e : k = id2
  ·subst e; simp only [if_true, hk]
  ·simp only [if_neg e]; exact hk
 | put id2 b =>
  simp only [Eff.app]
  by_cases e : id2 = k
  ·subst e; exact Ks b hk _ hk
  ·rw [List.getElem?_set_ne e, List.getElem?_set_ne e]; exact hk
 | upd id2 b =>
  simp only [Eff.app]
  by_cases e : id2 = k
  ·subst e; exact Ks b hk _ hk
  ·rw [List.getElem?_set_ne e, List.getElem?_set_ne e]; exact hk
 | puts id2 bs => exact TW bs k hk
theorem Vl {w : DR} {e : Eff} {H H' : List AB} (h : sim w H H') : sim w (e.app H) (e.app H') := by
 cases w with
 | none => trivial
 | all => have h : H = H' := h; subst h; rfl
 | blk id => exact Kt h
 | blks id m => exact fun k a b => Kt (h k a b)
 | win id off n =>
  cases e with
  | no => exact h
  | to => exact Hu _ _
  | patch id2 off2 cs2 =>
   simp only [Eff.app, sim, BF]
   by_cases e : id = id2
   ·subst e
    simp only [if_true]
    rcases h with h | ⟨cs, cs', h1, h2, h3, h4⟩
    ·exact .inl (by rw [h])
    ·refine .inr ⟨_, _, by rw [h1], by rw [h2], by simp [As, h3], fun j a b => ?_⟩
     rw [AG, AG, h3, h4 j a b]
   ·simp only [if_neg e]; exact h
  | put id2 b =>
   simp only [Eff.app, sim]
   by_cases e : id2 = id
   ·subst e
    have hl := Ij (h.imp (fun h => h) (fun ⟨cs, cs', h1, h2, _⟩ => ⟨cs, cs', h1, h2⟩))
    left
    by_cases hk : id2 < H.length
    ·simp [hk, hl.1 hk]
    ·simp [hk, show ¬ id2 < H'.length from fun h => hk (hl.2 h)]
   ·rw [List.getElem?_set_ne e, List.getElem?_set_ne e]; exact h
  | upd id2 b =>
   simp only [Eff.app, sim]
   by_cases e : id2 = id
   ·subst e
    have hl := Ij (h.imp (fun h => h) (fun ⟨cs, cs', h1, h2, _⟩ => ⟨cs, cs', h1, h2⟩))
    left
    by_cases hk : id2 < H.length
    ·simp [hk, hl.1 hk]
    ·simp [hk, show ¬ id2 < H'.length from fun h => hk (hl.2 h)]
   ·rw [List.getElem?_set_ne e, List.getElem?_set_ne e]; exact h
  | puts id2 bs =>
   simp only [Eff.app, sim]
   by_cases e : id2 ≤ id ∧ id < id2 + bs.length
   ·have hl := Ij (h.imp (fun h => h) (fun ⟨cs, cs', h1, h2, _⟩ => ⟨cs, cs', h1, h2⟩))
    left
    rw [AG, AG]
    by_cases hk : id < H.length
    ·rw [if_pos ⟨e.1, e.2, hk⟩, if_pos ⟨e.1, e.2, hl.1 hk⟩]
    ·have hk' : ¬ id < H'.length := fun h => hk (hl.2 h)
     rw [if_neg (by omega), if_neg (by omega), List.getElem?_eq_none (by omega), List.getElem?_eq_none (by omega)]
   ·rw [Ee bs (by omega), Ee bs (by omega)]; exact h
def CB : DR → DR → Prop
 | .none, _ => True
 | _, .none => True
 | .win id off n, .win id' off' n' => id ≠ id' ∨ off + n ≤ off' ∨ off' + n' ≤ off
 | .win id _ _, .blk id' => id ≠ id'
 | .blk id, .win id' _ _ => id ≠ id'
 | .blk id, .blk id' => id ≠ id'
 | .win a _ _, .blks id m => a < id ∨ id + m ≤ a
 | .blk a, .blks id m => a < id ∨ id + m ≤ a
 | .blks id m, .win a _ _ => a < id ∨ id + m ≤ a
 | .blks id m, .blk a => a < id ∨ id + m ≤ a
 | .blks id m, .blks id' m' => id + m ≤ id' ∨ id' + m' ≤ id
 | _, _ => False
theorem Ku {w : DR} {e : Eff} {H H' : List AB} (ha : CB w e.foot) (h : sim w H H') : sim w (e.app H) H' := by
 cases w with
 | none => trivial
 | all => cases e <;> simp [CB, Eff.foot] at ha; exact h
 | blk id =>
  cases e with
  | no => exact h
  | to => simp [CB, Eff.foot] at ha
  | patch id2 off2 cs2 =>
   have ha : id ≠ id2 := ha
   simp only [Eff.app, sim, BF, if_neg ha]; exact h
  | put id2 b =>
   have ha : id ≠ id2 := ha
   simp only [Eff.app, sim]
   rw [List.getElem?_set_ne (Ne.symm ha)]; exact h
  | upd id2 b =>
   have ha : id ≠ id2 := ha
   simp only [Eff.app, sim]
   rw [List.getElem?_set_ne (Ne.symm ha)]; exact h
  | puts id2 bs =>
   simp only [Eff.app, sim]
   rw [Ee bs ha]; exact h
 | blks id m =>
  intro k hk1 hk2
  have h := h k hk1 hk2
  cases e with
  | no => exact h
  | to => simp [CB, Eff.foot] at ha
  | patch id2 off2 cs2 =>
   have ha : id2 < id ∨ id + m ≤ id2 := ha
   simp only [Eff.app, BF, if_neg (show ¬ k = id2 by omega)]; exact h
  | put id2 b =>
   have ha : id2 < id ∨ id + m ≤ id2 := ha
   simp only [Eff.app]
   rw [List.getElem?_set_ne (by omega)]; exact h
  | upd id2 b =>
   have ha : id2 < id ∨ id + m ≤ id2 := ha
   simp only [Eff.app]
   rw [List.getElem?_set_ne (by omega)]; exact h
  | puts id2 bs =>
   have ha : id + m ≤ id2 ∨ id2 + bs.length ≤ id := ha
   simp only [Eff.app]
   rw [Ee bs (by omega)]; exact h
 | win id off n =>
  cases e with
  | no => exact h
  | to => simp [CB, Eff.foot] at ha
  | put id2 b =>
   have ha : id ≠ id2 := ha
   simp only [Eff.app, sim]
   rw [List.getElem?_set_ne (Ne.symm ha)]; exact h
  | upd id2 b =>
   have ha : id ≠ id2 := ha
   simp only [Eff.app, sim]
   rw [List.getElem?_set_ne (Ne.symm ha)]; exact h
  | puts id2 bs =>
   simp only [Eff.app, sim]
   rw [Ee bs ha]; exact h
  | patch id2 off2 cs2 =>
   simp only [Eff.app, sim, BF]
   by_cases e : id = id2
   ·subst e
    have ha : off + n ≤ off2 ∨ off2 + cs2.length ≤ off := by simpa [CB, Eff.foot] using ha
    simp only [if_true]
    rcases h with h | ⟨cs, cs', h1, h2, h3, h4⟩
    ·rw [h]
     cases hx : H'[id]? with
     | none => exact .inl rfl
     | some x =>
      cases x with
      | cells ds =>
       refine .inr ⟨_, ds, rfl, rfl, by simp [As], fun j a b => ?_⟩
       rw [AG, if_neg (by omega)]
      | _ => exact .inl rfl
    ·rw [h1]
     refine .inr ⟨_, cs', rfl, h2, by simp [As, h3], fun j a b => ?_⟩
     rw [AG, if_neg (by omega), h4 j a b]
   ·simp only [if_neg e]; exact h
theorem Rs {id off id2 off2 : Nat} {cs cs2 : List C} (H : List AB) (ha : CB (.win id off cs.length) (.win id2 off2 cs2.length)) : Ds id off cs (Ds id2 off2 cs2 H) = Ds id2 off2 cs2 (Ds id off cs H) := by
 refine List.ext_getElem? fun k => ?_
 by_cases e : id = id2
 ·subst e
  have ha : off + cs.length ≤ off2 ∨ off2 + cs2.length ≤ off := by simpa [CB] using ha
  by_cases ek : k = id
  ·subst ek
   simp only [BF, if_true]
   cases hx : H[k]? with
   | none => rfl
   | some x =>
    cases x with
    | cells ds =>
     have he : setMany (setMany ds off2 cs2) off cs = setMany (setMany ds off cs) off2 cs2 := by
      refine List.ext_getElem? fun j => ?_
      simp only [AG, As]
      by_cases h1 : off ≤ j ∧ j < off + cs.length ∧ j < ds.length
      ·rw [if_pos h1, if_neg (by omega), if_pos h1]
      ·rw [if_neg h1, if_neg h1]
     exact congrArg (fun q => some (AB.cells q)) he
    | _ => rfl
  ·simp only [BF, if_neg ek]
 ·by_cases ek : k = id
  ·subst ek
   simp only [BF, if_true, if_neg e]
  ·by_cases ek2 : k = id2
   ·subst ek2
    simp only [BF, if_true, if_neg ek, if_neg (Ne.symm e)]
   ·simp only [BF, if_neg ek, if_neg ek2]
theorem C9 {id off id2 : Nat} {cs : List C} {b : AB} (H : List AB) (ha : id ≠ id2) : Ds id off cs (H.set id2 b) = (Ds id off cs H).set id2 b := by
 refine List.ext_getElem? fun k => ?_
 by_cases ek : k = id
 ·subst ek
  simp only [BF, if_true]
  rw [List.getElem?_set_ne (Ne.symm ha), List.getElem?_set_ne (Ne.symm ha), BF, if_pos rfl]
 ·rw [BF, if_neg ek]
  refine Ks b ?_ k ?_
  ·rw [BF, if_neg (Ne.symm ha)]
  ·rw [BF, if_neg ek]
theorem aFp {e : Eff} {H : List AB} (he : e.foot ≠ .all) : (e.app H).length = H.length := by
 cases e with
 | no => rfl
 | to => exact absurd rfl he
 | put => simp [Eff.app]
 | upd => simp [Eff.app]
 | puts => simp [Eff.app, As]
 | patch => simp only [Eff.app, Ds]; split <;> simp
theorem Gb {e : Eff} {id : Nat} {bs : List AB} (H : List AB) (ha : CB e.foot (.blks id bs.length)) : e.app (setMany H id bs) = setMany (e.app H) id bs := by
 have hne : e.foot ≠ .all := fun h => by rw [h] at ha; exact ha
 have hl := aFp (H := H) hne
 refine List.ext_getElem? fun k => ?_
 by_cases hk : id ≤ k ∧ k < id + bs.length
 ·
  have h1 : sim (.blk k) (e.app (setMany H id bs)) (setMany H id bs) := Ku (by
   cases e with
   | no => trivial
   | to => exact absurd rfl hne
   | patch i o cs => have ha : i < id ∨ id + bs.length ≤ i := ha; show k ≠ i; omega
   | put i b => have ha : i < id ∨ id + bs.length ≤ i := ha; show k ≠ i; omega
   | upd i b => have ha : i < id ∨ id + bs.length ≤ i := ha; show k ≠ i; omega
   | puts i bs2 => have ha : i + bs2.length ≤ id ∨ id + bs.length ≤ i := ha; show k < i ∨ i + bs2.length ≤ k; omega) (Hu _ _)
  rw [show (e.app (setMany H id bs))[k]? = (setMany H id bs)[k]? from h1, AG, AG, hl]
  by_cases hH : k < H.length
  ·rw [if_pos ⟨hk.1, hk.2, hH⟩, if_pos ⟨hk.1, hk.2, hH⟩]
  ·rw [if_neg (by omega), if_neg (by omega), List.getElem?_eq_none (by omega), List.getElem?_eq_none (by omega)]
 ·rw [Ee bs (by omega)]
  exact Kt (Ee bs (by omega))
def Eff.loc : Eff → Bool
 | .to _ => false
 | _ => true
theorem Rt {a b : DR} (h : CB a b) : CB b a := by
 cases a <;> cases b <;> simp [CB] at h ⊢ <;> omega
theorem Vm {e e' : Eff} (H : List AB) (h1 : e.loc = true) (h2 : e'.loc = true) (ha : CB e.foot e'.foot) : e.app (e'.app H) = e'.app (e.app H) := by
 cases e with
 | no => rfl
 | to => simp [Eff.loc] at h1
 | patch id off cs =>
  cases e' with
  | no => rfl
  | to => simp [Eff.loc] at h2
  | patch id2 off2 cs2 => exact Rs H ha
  | put id2 b => exact C9 H ha
  | upd id2 b => exact C9 H ha
  | puts id2 bs => exact Gb (e := .patch id off cs) H ha
 | put id b =>
  cases e' with
  | no => rfl
  | to => simp [Eff.loc] at h2
  | patch id2 off2 cs2 => exact (C9 H (Ne.symm ha)).symm
  | put id2 b2 =>
   have ha : id ≠ id2 := ha
   exact List.set_comm _ _ (Ne.symm ha)
  | upd id2 b2 =>
   have ha : id ≠ id2 := ha
   exact List.set_comm _ _ (Ne.symm ha)
  | puts id2 bs => exact Gb (e := .put id b) H ha
 | upd id b =>
  cases e' with
  | no => rfl
  | to => simp [Eff.loc] at h2
  | patch id2 off2 cs2 => exact (C9 H (Ne.symm ha)).symm
  | put id2 b2 =>
   have ha : id ≠ id2 := ha
   exact List.set_comm _ _ (Ne.symm ha)
  | upd id2 b2 =>
   have ha : id ≠ id2 := ha
   exact List.set_comm _ _ (Ne.symm ha)
  | puts id2 bs => exact Gb (e := .upd id b) H ha
 | puts id bs => exact (Gb (e := e') H (Rt ha)).symm
def EI : Op → Bool
 | .load _ _ | .lookup _ _ _ _ => true
 | .call { callee := .value _, args := _, argTypes := _ } => true
 | .call { callee := .builtin .len, args := _, argTypes := _ } => true
 | _ => false
theorem NX {op : Op} (h : EI op = true) : AC op = false := by
 cases op with
 | call c =>
  obtain ⟨callee, args, ts⟩ := c
  cases callee with
  | builtin b => cases b <;> simp [EI, AC] at h ⊢
  | _ => rfl
 | _ => simp [EI, AC] at h ⊢
def BA : Op → Bool
 | .store _ _ _ => true
 | _ => false
def Da : Op → Bool
 | .alloc _ | .box _ _ | .makeSlice _ _ _ | .makeMap _ _ => true
 | _ => false
def DL : Op → Bool
 | .call { callee := .builtin .append, args := _, argTypes := _ } => true
 | _ => false
def Db : Op → Bool
 | .call { callee := .value (.func _), args := _, argTypes := _ } => true
 | _ => false
def CT (m3 : Bool) (op : Op) : Bool := BA op || (m3 && ((Da op || DL op) || Db op))
def DX (m3 : Bool) (op : Op) : Bool := AC op || (m3 && Db op)
def Et (m3 : Bool) (op : Op) : Bool := EI op || CT m3 op
def Bg : Op → Bool
 | .load _ _ | .lookup _ _ _ _ => false
 | .call { callee := .value _, args := _, argTypes := _ } => false
 | .call { callee := .builtin .len, args := _, argTypes := _ } => false
 | op => !AC op
def IU (p : Op → Bool) : List Oper → Nat
 | [] => 0
 | o :: os => 2 * IU p os + (if p o.op then 1 else 0)
theorem EO {p : Op → Bool} : ∀ (os : List Oper) (k : Nat) (o : Oper), os[k]? = some o → (IU p os).testBit k = p o.op
 | [], k, o, h => by simp at h
 | o' :: os, 0, o, h => by
  simp at h; subst h
  simp only [IU, Nat.testBit_zero]
  cases p o'.op <;> simp <;> omega
 | o' :: os, k + 1, o, h => by
  have ih := EO (p := p) os k o (by simpa using h)
  rw [IU, Nat.testBit_succ, ← ih]
  congr 1
  split <;> omega
def JF (tab : List Nat) (i j : Nat) : Bool := (tab.getD i 0).testBit j || (tab.getD j 0).testBit i
theorem TX {m3 : Bool} {op : Op} (h : Et m3 op = true) (hl : DX m3 op = true) : CT m3 op = true := by
 simp only [Et, Bool.or_eq_true] at h
 rcases h with h | h
 ·simp only [DX, Bool.or_eq_true] at hl
  rcases hl with hl | hl
  ·rw [NX h] at hl; cases hl
  ·simp only [Bool.and_eq_true] at hl
   simp [CT, hl.1, hl.2]
 ·exact h
def aHK (tab : List Nat) (loud quiet win mtt n : Nat) : Bool :=
 (List.range n).all fun j => !loud.testBit j || (List.range n).all fun i => j == i || quiet.testBit i || (mtt.testBit j && win.testBit i) || JF tab i j
def Fa (m3 : Bool) (ops : Array Oper) : Bool :=
 let tab := DJ ops.toList 0 []
 Ro tab 0 ops && aHK tab (IU (DX m3) ops.toList) (IU Bg ops.toList) (IU (Et m3) ops.toList) (IU (CT m3) ops.toList) ops.size
structure BO where
 at' : Nat
 x : V
 e : Eff
 w : DR
def FM : DR → DR → Bool
 | .none, _ => true
 | _, .none => true
 | .win id off n, .win id' off' n' => id != id' || decide (off + n ≤ off') || decide (off' + n' ≤ off)
 | .win id _ _, .blk id' => id != id'
 | .blk id, .win id' _ _ => id != id'
 | .blk id, .blk id' => id != id'
 | .win a _ _, .blks id m => decide (a < id) || decide (id + m ≤ a)
 | .blk a, .blks id m => decide (a < id) || decide (id + m ≤ a)
 | .blks id m, .win a _ _ => decide (a < id) || decide (id + m ≤ a)
 | .blks id m, .blk a => decide (a < id) || decide (id + m ≤ a)
 | .blks id m, .blks id' m' => decide (id + m ≤ id') || decide (id' + m' ≤ id)
 | _, _ => false
theorem IV {a b : DR} (h : FM a b = true) : CB a b := by
 cases a <;> cases b <;> simp [FM, CB] at h ⊢ <;> omega
def GO (m3 : Bool) (ops : Array Oper) (j : Nat) : Bool := match ops[j]? with | some o => !CT m3 o.op | none => true
def Kv (m3 : Bool) (ops : Array Oper) (j : Nat) : Bool := match ops[j]? with | some o => Et m3 o.op | none => false
def NY (m3 : Bool) (ops : Array Oper) (acc : List BO) : Bool := acc.all fun b => GO m3 ops b.at' || acc.all fun a => a.at' == b.at' || !Kv m3 ops a.at' || FM a.w b.w
def Ik (m3 : Bool) (tab : List Nat) (ops : Array Oper) (acc : List BO) : Bool := acc.all fun b => GO m3 ops b.at' || acc.all fun a => a.at' == b.at' || !Kv m3 ops a.at' || FM a.w b.w || JF tab a.at' b.at'
def Eff.freeB (id : Nat) : Eff → Bool
 | .no => true
 | .patch _ _ cs => C.freeL id cs
 | .put _ (.cells cs) => C.freeL id cs
 | .put _ (.mp []) => true
 | .put _ (.grow _ _) => true
 | .put _ (.vec _ _ cs) => C.freeL id cs
 | .upd _ (.vec _ _ cs) => C.freeL id cs
 | .upd _ (.grow _ _) => true
 | .puts _ bs => bs.all fun b => match b with
  | .cells cs => C.freeL id cs
  | .grow _ _ => true
  | .vec _ _ cs => C.freeL id cs
  | _ => false
 | _ => false
def Eff.hole : Eff → Option Nat
 | .put id _ => some id
 | .puts id _ => some id
 | _ => none
def Eff.wide : Eff → Nat
 | .puts _ bs => bs.length
 | _ => 1
def Kw (tab : List Nat) (acc : List BO) : Bool := acc.all fun b => match b.e.hole with
 | none => true
 | some id => acc.all fun a => a.at' == b.at' || (List.range b.e.wide).all (fun k => a.x.free (id + k) && a.e.freeB (id + k)) || (tab.getD a.at' 0).testBit b.at'
def CC (m3 : Bool) (ops : Array Oper) (acc : List BO) : Bool := (NY m3 ops acc || Ik m3 (DJ ops.toList 0 []) ops acc) && (!m3 || (Kw (DJ ops.toList 0 []) acc && acc.all fun a => a.e.loc))
def Eff.isNo : Eff → Bool
 | .no => true
 | _ => false
def aFq (m3 : Bool) (tab : List Nat) (ops : Array Oper) (acc : List BO) : Bool := acc.all fun b => GO m3 ops b.at' || b.e.isNo || acc.all fun a => a.at' == b.at' || !Kv m3 ops a.at' || FM a.w b.w || JF tab a.at' b.at'
def CE (m3 : Bool) (ops : Array Oper) (acc : List BO) : Bool := CC m3 ops acc || (aFq m3 (DJ ops.toList 0 []) ops acc && (!m3 || (Kw (DJ ops.toList 0 []) acc && acc.all fun a => a.e.loc)))
theorem NZ {m3 : Bool} {ops : Array Oper} {acc : List BO} (h : CC m3 ops acc = true) {a b : BO} (ha : a ∈ acc) (hb : b ∈ acc) (hs : GO m3 ops b.at' = false) (hl : Kv m3 ops a.at' = true) (hne : a.at' ≠ b.at') (ho : JF (DJ ops.toList 0 []) a.at' b.at' = false) : CB a.w b.w := by
 have hne' : (a.at' == b.at') = false := by simpa using hne
 simp only [CC, Bool.or_eq_true, Bool.and_eq_true] at h
 refine IV ?_
 rcases h.1 with h | h
 ·have h1 := List.all_eq_true.1 h b hb
  simp only [hs, Bool.false_or] at h1
  have h2 := List.all_eq_true.1 h1 a ha
  simpa [hne', hl] using h2
 ·have h1 := List.all_eq_true.1 h b hb
  simp only [hs, Bool.false_or] at h1
  have h2 := List.all_eq_true.1 h1 a ha
  simpa [hne', hl, ho] using h2
theorem Md {m3 : Bool} {ops : Array Oper} {acc : List BO} (h : CE m3 ops acc = true) {a b : BO} (ha : a ∈ acc) (hb : b ∈ acc) (hs : GO m3 ops b.at' = false) (hl : Kv m3 ops a.at' = true) (hne : a.at' ≠ b.at') (ho : JF (DJ ops.toList 0 []) a.at' b.at' = false) : b.e = .no ∨ CB a.w b.w := by
 simp only [CE, Bool.or_eq_true] at h
 rcases h with h | h
 ·exact .inr (NZ h ha hb hs hl hne ho)
 ·simp only [Bool.and_eq_true] at h
  have hne' : (a.at' == b.at') = false := by simpa using hne
  have h1 := List.all_eq_true.1 h.1 b hb
  simp only [hs, Bool.false_or, Bool.or_eq_true] at h1
  rcases h1 with h1 | h1
  ·left
   cases he : b.e <;> rw [he] at h1 <;> first | rfl | cases h1
  ·right
   refine IV ?_
   have h2 := List.all_eq_true.1 h1 a ha
   simpa [hne', hl, ho] using h2
theorem Gs {ops : Array Oper} {acc : List BO} (h : CE true ops acc = true) : Kw (DJ ops.toList 0 []) acc = true ∧ acc.all (fun a => a.e.loc) = true := by
 simp only [CE, CC, Bool.or_eq_true, Bool.and_eq_true, Bool.not_true, Bool.false_or, Bool.false_eq_true, false_or] at h
 rcases h with h | h
 ·exact h.2
 ·exact h.2
theorem Mf {ops : Array Oper} {acc : List BO} (h : CE true ops acc = true) {a b : BO} {id : Nat} (ha : a ∈ acc) (hb : b ∈ acc) (hid : b.e.hole = some id) (hne : a.at' ≠ b.at') : (∀ k, k < b.e.wide → a.x.free (id + k) = true ∧ a.e.freeB (id + k) = true) ∨ ((DJ ops.toList 0 []).getD a.at' 0).testBit b.at' = true := by
 have h1 := List.all_eq_true.1 (Gs h).1 b hb
 simp only [hid] at h1
 have h2 := List.all_eq_true.1 h1 a ha
 have hne' : (a.at' == b.at') = false := by simpa using hne
 simp only [hne', Bool.false_or, Bool.or_eq_true, List.all_eq_true, List.mem_range, Bool.and_eq_true] at h2
 exact h2
theorem N1 {ops : Array Oper} {acc : List BO} (h : CE true ops acc = true) {a : BO} (ha : a ∈ acc) : a.e.loc = true := List.all_eq_true.1 (Gs h).2 a ha
section
variable {ops : Array Oper} {base : St} {xs : Nat → V} {ef : Nat → Eff} {W : Nat → DR} {m3 : Bool} {n0 N0 : Nat}
def Bj (ef : Nat → Eff) (H0 : List AB) (L : Nat → Bool) : Nat → List AB
 | 0 => H0
 | n + 1 => if L n then (ef n).app (Bj ef H0 L n) else Bj ef H0 L n
theorem Eu {H0 : List AB} {L L' : Nat → Bool} : ∀ (n : Nat), (∀ j, j < n → L j = L' j) → Bj ef H0 L n = Bj ef H0 L' n
 | 0, _ => rfl
 | n + 1, h => by simp only [Bj]; rw [Eu n (fun j hj => h j (by omega)), h n (by omega)]
theorem Kx {H0 : List AB} {i : Nat} : ∀ (k : Nat), Bj ef H0 (fun j => decide (j < i)) (i + k) = Bj ef H0 (fun j => decide (j < i)) i
 | 0 => rfl
 | k + 1 => by
  show Bj ef H0 _ ((i + k) + 1) = _
  simp only [Bj]
  simp [Kx k, show ¬ i + k < i by omega]
def IW (X : Cx) (o : Oper) (H0 : List AB) (E : Operand → V) (n0 N0 : Nat) (x : V) (e : Eff) (w : DR) : Prop := match e.hole with
 | none => ∀ H, sim w H H0 → AL X.P X.r o H E (one x (e.app H))
 | some id => (∃ (x0 : V) (B : List AB), e = .puts id (B.map (AB.shift id)) ∧ x = x0.shift id ∧ w = .blks id B.length ∧ n0 ≤ id ∧ id + B.length ≤ N0 ∧ x0.shB B.length = true ∧ B.all (AB.shB B.length) = true ∧
   ∀ H, H.length = N0 → AL X.P X.r o H E (one (x0.shift H.length) (H ++ B.map (AB.shift H.length)))) ∨ ∃ (k : MkK) (b : AB), e = .put id b ∧ x = .c (k.at id) ∧ H0[id]? = some .gone ∧ w = .blk id ∧ n0 ≤ id ∧ b.freeP id ∧ b.lowP N0 ∧ ∀ H, H.length = N0 → AL X.P X.r o H E (one (.c (k.at H.length)) (H ++ [b]))
structure aD7 (X : Cx) (m3 : Bool) (n0 N0 : Nat) (tab : List Nat) (ops : Array Oper) (base : St) (xs : Nat → V) (ef : Nat → Eff) (W : Nat → DR) : Prop where
 step : ∀ i o, ops[i]? = some o → ∃ t, Ay ops (Aw (AA ops base xs (fun _ => true) i)) o = some t ∧
  (if t then IW X o (Bj ef base.heap (fun j => decide (j < i)) i) (evS (Aw (AA ops base xs (fun _ => true) i))) n0 N0 (xs i) (ef i) (W i) else xs i = .tup [] ∧ ef i = .no)
 kq : ∀ i o, ops[i]? = some o → Bg o.op = true → ef i = .no ∧ W i = .none
 kl : ∀ i o, ops[i]? = some o → DX m3 o.op = false → ef i = .no
 ks : ∀ i o, ops[i]? = some o → CT m3 o.op = true → ef i = .no ∨ (W i = (ef i).foot ∧ (ef i).loc = true)
 pairs : ∀ i o j oj, ops[i]? = some o → ops[j]? = some oj → j ≠ i → CT m3 oj.op = true → Et m3 o.op = true → JF tab i j = false → ef j = .no ∨ CB (W i) (W j)
 free : ∀ i id, i < ops.size → (ef i).hole = some id → ∀ j, j < ops.size → j ≠ i → (∀ k, k < (ef i).wide → (xs j).free (id + k) = true ∧ (ef j).freeB (id + k) = true) ∨ (tab.getD j 0).testBit i = true
 loc : ∀ i id, i < ops.size → (ef i).hole = some id → ∀ j, j < ops.size → (ef j).loc = true
structure N2 (m3 : Bool) (tab : List Nat) (ops : Array Oper) : Prop where
 c : Kq tab 0 ops
 heap : ∀ (i : Nat) (o : Oper) (j : Nat) (oj : Oper), ops[i]? = some o → ops[j]? = some oj → j ≠ i → DX m3 oj.op = true → Bg o.op = true ∨ (CT m3 oj.op = true ∧ Et m3 o.op = true) ∨ JF tab i j = true
theorem N3 (h : Fa m3 ops = true) : N2 m3 (DJ ops.toList 0 []) ops := by
 simp only [Fa, Bool.and_eq_true] at h
 refine ⟨IS h.1, fun i o j oj ho hj hne hl => ?_⟩
 have hi := (Array.getElem?_eq_some_iff.1 ho).1
 have hjl := (Array.getElem?_eq_some_iff.1 hj).1
 have h1 := List.all_eq_true.1 h.2 j (List.mem_range.2 hjl)
 have ho' : ops.toList[i]? = some o := by simpa using ho
 have hj' : ops.toList[j]? = some oj := by simpa using hj
 rw [EO _ _ _ hj', hl] at h1
 simp only [Bool.not_true, Bool.false_or] at h1
 have h2 := List.all_eq_true.1 h1 i (List.mem_range.2 hi)
 rw [EO _ _ _ ho', EO _ _ _ hj', EO _ _ _ ho'] at h2
 have hne' : (j == i) = false := by simpa using hne
 simp only [hne', Bool.false_or, Bool.or_eq_true, Bool.and_eq_true] at h2
 rcases h2 with (h2 | h2) | h2
 ·exact .inl h2
 ·exact .inr (.inl h2)
 ·exact .inr (.inr h2)
theorem aFr {tab : List Nat} {i j : Nat} : JF tab i j = true ↔ (tab.getD i 0).testBit j = true ∨ (tab.getD j 0).testBit i = true := by simp [JF]
theorem aE0 {tab : List Nat} {listed : Array Bool} (C : Kq tab 0 ops) (cl : DQ ops listed) {i : Nat} {o : Oper} (ho : ops[i]? = some o) (hun : listed.getD i false = false)
  (hall : ∀ e ∈ o.after, Region.binds .any e = true → listed.getD e.on false = true) {j : Nat} {oj : Oper} (hj : ops[j]? = some oj) (hd : gl listed j ≠ decide (j < i)) : JF tab i j = false := by
 cases h : JF tab i j with
 | false => rfl
 | true =>
  exfalso
  rcases aFr.1 h with h1 | h1
  ·have h2 := Cn C cl i o ho hall j h1
   have h3 := C.lt i o j _ ho hj h1
   apply hd; simp [gl, h2, h3]
  ·have h3 := C.lt j _ i o hj ho h1
   have h4 : gl listed j = false := by
    cases h : gl listed j with
    | false => rfl
    | true =>
     have := Cn C cl j _ hj (cl j _ hj h) i h1
     rw [hun] at this; cases this
   apply hd; rw [h4]; simp; omega
theorem Vn {X : Cx} {tab : List Nat} {listed : Array Bool} (C : N2 m3 tab ops) (cl : DQ ops listed) (rn : aD7 X m3 n0 N0 tab ops base xs ef W) {i : Nat} {o : Oper} (ho : ops[i]? = some o) (hun : listed.getD i false = false)
  (hall : ∀ e ∈ o.after, Region.binds .any e = true → listed.getD e.on false = true) : sim (W i) (Bj ef base.heap (gl listed) ops.size) (Bj ef base.heap (fun j => decide (j < i)) i) := by
 have hi : i < ops.size := (Array.getElem?_eq_some_iff.1 ho).1
 have key : ∀ n, n ≤ ops.size → sim (W i) (Bj ef base.heap (gl listed) n) (Bj ef base.heap (fun j => decide (j < i)) n) := by
  intro n
  induction n with
  | zero => intro _; exact Hu _ _
  | succ n ih =>
   intro hn
   have ih := ih (by omega)
   have hon : ops[n]? = some ops[n] := by simp [show n < ops.size by omega]
   simp only [Bj]
   by_cases hb : gl listed n = decide (n < i)
   ·rw [hb]
    split
    ·exact Vl ih
    ·exact ih
   ·have hu := aE0 C.c cl ho hun hall hon hb
    have hne : n ≠ i := fun e => by subst e; apply hb; simp only [gl, hun]; simp
    cases hl : DX m3 ops[n].op with
    | false =>
     rw [rn.kl n _ hon hl]
     simpa [Eff.app] using ih
    | true =>
     rcases C.heap i o n _ ho hon hne hl with h1 | ⟨h1, h2⟩ | h1
     ·rw [(rn.kq i o ho h1).2]; trivial
     ·rcases rn.ks n _ hon h1 with h3 | ⟨h4, h5⟩
      ·rw [h3]; simpa [Eff.app] using ih
      ·rcases rn.pairs i o n _ ho hon hne h1 h2 hu with h3 | hap
       ·rw [h3]; simpa [Eff.app] using ih
       rw [h4] at hap
       cases hg : gl listed n with
       | true =>
        have : ¬ n < i := fun h => hb (by simp [hg, h])
        simp only [this, decide_false, if_true, Bool.false_eq_true, if_false]
        exact Ku hap ih
       | false =>
        have : n < i := by
         cases Nat.lt_or_ge n i with
         | inl h => exact h
         | inr h => exact absurd (by rw [hg]; simp; omega) hb
        simp only [this, decide_true, if_true, Bool.false_eq_true, if_false]
        exact Pa (Ku hap (Pa ih))
     ·rw [hu] at h1; cases h1
 have h1 := key ops.size (Nat.le_refl _)
 have h2 := Kx (ef := ef) (H0 := base.heap) (i := i) (ops.size - i)
 rw [Nat.add_sub_cancel' (by omega)] at h2
 rw [h2] at h1
 exact h1
theorem TY {X : Cx} {tab : List Nat} {listed : Array Bool} (C : N2 m3 tab ops) (cl : DQ ops listed) (rn : aD7 X m3 n0 N0 tab ops base xs ef W) (hsz : listed.size = ops.size) {i : Nat} {o : Oper} (ho : ops[i]? = some o) (hun : listed.getD i false = false)
  (hall : ∀ e ∈ o.after, Region.binds .any e = true → listed.getD e.on false = true) : Bj ef base.heap (gl (listed.setIfInBounds i true)) ops.size = (ef i).app (Bj ef base.heap (gl listed) ops.size) := by
 have hi : i < ops.size := (Array.getElem?_eq_some_iff.1 ho).1
 have hset := fun j => Rq (listed := listed) (i := i) (j := j) (by omega)
 have key : ∀ n, n ≤ ops.size → Bj ef base.heap (gl (listed.setIfInBounds i true)) n = if i < n then (ef i).app (Bj ef base.heap (gl listed) n) else Bj ef base.heap (gl listed) n := by
  intro n
  induction n with
  | zero => intro _; rfl
  | succ n ih =>
   intro hn
   have ih := ih (by omega)
   simp only [Bj, hset]
   rw [ih]
   by_cases h1 : i = n
   ·subst h1
    have hg : gl listed i = false := hun
    simp [hg]
   ·simp only [h1, if_false]
    by_cases h2 : i < n
    ·have h3 : i < n + 1 := by omega
     simp only [h2, h3, if_true]
     cases hg : gl listed n with
     | false => simp
     | true =>
      simp only [if_true]
      have hon : ops[n]? = some ops[n] := by simp [show n < ops.size by omega]
      have hu := aE0 C.c cl ho hun hall hon (by rw [hg]; simp; omega)
      cases hl : DX m3 ops[n].op with
      | false => rw [rn.kl n _ hon hl]; rfl
      | true =>
       rcases C.heap i o n _ ho hon (by omega) hl with h4 | ⟨h4, h5⟩ | h4
       ·rw [(rn.kq i o ho h4).1]; rfl
       ·rcases rn.ks n _ hon h4 with h6 | ⟨h6, h7⟩
        ·rw [h6]; rfl
        ·cases hli : DX m3 o.op with
         | false => rw [rn.kl i o ho hli]; rfl
         | true =>
          have hst : CT m3 o.op = true := TX h5 hli
          rcases rn.ks i o ho hst with h8 | ⟨h8, h9⟩
          ·rw [h8]; rfl
          ·rcases rn.pairs i o n _ ho hon (by omega) h4 h5 hu with h3 | hap
           ·rw [h3]; rfl
           rw [h6, h8] at hap
           exact (Vm _ h9 h7 hap).symm
       ·rw [hu] at h4; cases h4
    ·have h3 : ¬ i < n + 1 := by omega
     simp only [h2, h3, if_false]
 have := key ops.size (Nat.le_refl _)
 rwa [if_pos hi] at this
def stF (ops : Array Oper) (base : St) (xs : Nat → V) (ef : Nat → Eff) (L : Nat → Bool) : St :=
 {slots := AA ops base xs L ops.size, heap := Bj ef base.heap L ops.size, marks := base.marks }
theorem Gc {H0 : List AB} (hloc : ∀ j, j < ops.size → (ef j).loc = true) (L : Nat → Bool) : ∀ n, n ≤ ops.size → (Bj ef H0 L n).length = H0.length
 | 0, _ => rfl
 | n + 1, h => by
  simp only [Bj]
  have ih := Gc (H0 := H0) hloc L n (by omega)
  have hl := hloc n (by omega)
  split
  ·cases he : ef n with
   | no => simpa [Eff.app] using ih
   | to => rw [he] at hl; cases hl
   | put id b => simpa [Eff.app] using ih
   | upd id b => simpa [Eff.app] using ih
   | puts id bs => simpa [Eff.app, As] using ih
   | patch id off cs =>
    simp only [Eff.app, Ds]
    split
    ·simpa using ih
    ·exact ih
  ·exact ih
theorem FN {L : Nat → Bool} {id : Nat} (h0 : ∀ d, (Aw base.slots d).free id = true) (hx : ∀ j, j < ops.size → L j = true → (xs j).free id = true) : ∀ n, n ≤ ops.size → ∀ d, (Aw (AA ops base xs L n) d).free id = true
 | 0, _, d => h0 d
 | n + 1, h, d => by
  have ih := FN h0 hx n (by omega)
  simp only [AA]
  split
  ·rename_i hL
   split
   ·rename_i d' hd
    rw [Bv]
    split
    ·exact hx n (by omega) hL
    ·exact ih d
   ·exact ih d
  ·exact ih d
theorem MF {id : Nat} : ∀ (cs : List C) (i : Nat) (x : C), C.freeL id cs = true → x.free id = true → C.freeL id (cs.set i x) = true
 | [], _, _, _, _ => rfl
 | c :: cs, 0, x, h, hx => by simp only [C.freeL, Bool.and_eq_true] at h; simp only [List.set_cons_zero, C.freeL, Bool.and_eq_true]; exact ⟨hx, h.2⟩
 | c :: cs, i + 1, x, h, hx => by simp only [C.freeL, Bool.and_eq_true] at h; simp only [List.set_cons_succ, C.freeL, Bool.and_eq_true]; exact ⟨h.1, MF cs i x h.2 hx⟩
theorem Gt {id : Nat} : ∀ (xs cs : List C) (off : Nat), C.freeL id cs = true → C.freeL id xs = true → C.freeL id (setMany cs off xs) = true
 | [], cs, off, h, _ => h
 | x :: xs, cs, off, h, hx => by
  simp only [C.freeL, Bool.and_eq_true] at hx
  exact Gt xs _ _ (MF cs off x h hx.1) hx.2
theorem GP {H0 : List AB} {L : Nat → Bool} {id : Nat} (h0 : ∀ (k : Nat) y, H0[k]? = some y → y.freeP id) (hx : ∀ j, j < ops.size → L j = true → (ef j).freeB id = true) : ∀ n, n ≤ ops.size → ∀ (k : Nat) y, (Bj ef H0 L n)[k]? = some y → y.freeP id
 | 0, _, k, y, h => h0 k y h
 | n + 1, hn, k, y, h => by
  have ih := GP h0 hx n (by omega)
  simp only [Bj] at h
  split at h
  ·rename_i hL
   have hf := hx n (by omega) hL
   cases he : ef n with
   | no => rw [he] at h; exact ih k y h
   | to => rw [he] at hf; cases hf
   | put id' b =>
    rw [he] at h hf
    simp only [Eff.app] at h
    by_cases e : id' = k
    ·subst e
     have hlt : id' < (Bj ef H0 L n).length := by have := (List.getElem?_eq_some_iff.1 h).1; simpa using this
     simp [hlt] at h
     subst h
     cases b with
     | cells cs => exact hf
     | mp es =>
      cases es with
      | nil => exact fun e he => by cases he
      | cons => cases hf
     | grow => trivial
     | vec _ _ cs => exact hf
     | _ => cases hf
    ·rw [List.getElem?_set_ne e] at h; exact ih k y h
   | upd id' b =>
    rw [he] at h hf
    simp only [Eff.app] at h
    by_cases e : id' = k
    ·subst e
     have hlt : id' < (Bj ef H0 L n).length := by have := (List.getElem?_eq_some_iff.1 h).1; simpa using this
     simp [hlt] at h
     subst h
     cases b with
     | grow => trivial
     | vec _ _ cs => exact hf
     | _ => cases hf
    ·rw [List.getElem?_set_ne e] at h; exact ih k y h
   | puts id' bs =>
    rw [he] at h hf
    simp only [Eff.app] at h
    by_cases e : id' ≤ k ∧ k < id' + bs.length ∧ k < (Bj ef H0 L n).length
    ·rw [AG, if_pos e] at h
     have hf := List.all_eq_true.1 hf y (List.mem_of_getElem? h)
     cases y with
     | cells cs => exact hf
     | grow => trivial
     | vec _ _ cs => exact hf
     | _ => cases hf
    ·rw [AG, if_neg e] at h; exact ih k y h
   | patch id' off cs =>
    rw [he] at h hf
    simp only [Eff.app, BF] at h
    by_cases e : k = id'
    ·subst e
     simp only [if_true] at h
     cases hh : (Bj ef H0 L n)[k]? with
     | none => rw [hh] at h; cases h
     | some z =>
      rw [hh] at h
      cases z with
      | cells ds =>
       simp at h; subst h
       exact Gt cs ds off (ih k _ hh) hf
      | _ => simp at h; subst h; exact ih k _ hh
    ·rw [if_neg e] at h; exact ih k y h
  ·exact ih k y h
theorem Ru {X : Cx} {tab : List Nat} (hb0 : X.nb ≤ n0) (hb1 : ∀ d, (Aw base.slots d).low n0 = true) (hb2 : ∀ (k : Nat) y, base.heap[k]? = some y → y.lowP n0) (hb3 : ∀ m ∈ base.marks, m < n0) (hbN : base.heap.length = N0) (C : N2 m3 tab ops) (rn : aD7 X m3 n0 N0 tab ops base xs ef W) (hd : C6 X.nt ops.toList = true) {Q : Exit → St → Prop}
  (hQ : Q .normal (stF ops base xs ef (fun _ => true))) : ∀ (fuel : Nat) (listed : Array Bool) (bs : EF) (w : World) (G : Gh) (a : Act), listed.size = ops.size → DQ ops listed →
   ((List.range ops.size).countP fun i => !gl listed i) ≤ fuel → AP bs X.nb X.nt w G (stF ops base xs ef (gl listed)) a →
   wpAnyIn (Wd X.r) 0 X.P .any ops (fun e a' w' => ∃ s' G', Q e s' ∧ AP bs X.nb X.nt w' G' s' a') fuel listed a w := by
 have ends : ∀ (listed : Array Bool) (bs : EF) (w : World) (G : Gh) (a : Act), listed.size = ops.size → DQ ops listed → Region.ready .any ops listed = [] → AP bs X.nb X.nt w G (stF ops base xs ef (gl listed)) a →
   ∃ s' G', Q .normal s' ∧ AP bs X.nb X.nt w G' s' a := by
  intro listed bs w G a hsz cl hr hR
  have all : ∀ i, i < ops.size → gl listed i = true := by
   intro i
   induction i using Nat.strongRecOn with
   | _ i ih =>
    intro hi
    cases hl : gl listed i with
    | true => rfl
    | false =>
     exfalso
     have hoi : ops[i]? = some ops[i] := by simp [hi]
     have hm : i ∈ Region.ready .any ops listed := mem_ready.2 ⟨getD_in (by omega) hl, _, hoi, fun e he hb => by
      exact ih e.on (C.c.back i _ hoi e he hb) (Nat.lt_trans (C.c.back i _ hoi e he hb) hi)⟩
     rw [hr] at hm; cases hm
  refine ⟨_, G, hQ, hR.same (fun i => ?_) ?_ rfl⟩
  ·show Aw (AA _ _ _ _ _) i = Aw (AA _ _ _ _ _) i
   rw [E9 ops.size (fun j hj => (all j hj).symm)]
  ·exact (Eu ops.size (fun j hj => (all j hj).symm))
 intro fuel
 induction fuel with
 | zero =>
  intro listed bs w G a hsz cl hc hR
  have hz := List.countP_eq_zero.1 (Nat.le_zero.1 hc)
  have hr : Region.ready .any ops listed = [] := by
   cases hrr : Region.ready .any ops listed with
   | nil => rfl
   | cons i r =>
    exfalso
    have hm : i ∈ Region.ready .any ops listed := by rw [hrr]; simp
    obtain ⟨h1, o, ho, _⟩ := mem_ready.1 hm
    have := hz i (List.mem_range.2 (Array.getElem?_eq_some_iff.1 ho).1)
    simp [gl, getD_both h1] at this
  exact ⟨hr, ends listed bs w G a hsz cl hr hR⟩
 | succ fuel ih =>
  intro listed bs w G a hsz cl hc hR
  refine ⟨fun hr => ends listed bs w G a hsz cl hr hR, fun i hi => ?_⟩
  obtain ⟨hun, o, ho, hall⟩ := mem_ready.1 hi
  have hun' := getD_both hun
  have hlt : i < ops.size := (Array.getElem?_eq_some_iff.1 ho).1
  obtain ⟨t, hg, hst⟩ := rn.step i o ho
  have hlook : ∀ d ∈ o.looksAt ops, (stF ops base xs ef (gl listed)).get d = Aw (AA ops base xs (fun _ => true) i) d := fun d hd => Mz C.c cl ho hun' hall hd
  have hheap := Vn C cl rn ho hun' hall
  have hgd : Ay ops (stF ops base xs ef (gl listed)).get o = some t := by rw [Gr hlook]; exact hg
  have cl' : DQ ops (listed.setIfInBounds i true) := fun j oj hj hl e he hb => by
   by_cases hij : i = j
   ·subst hij
    have : oj = o := Option.some.inj (hj.symm.trans ho)
    subst this
    exact getD_set_true (hall e he hb)
   ·rw [getD_set_ne false hij] at hl
    exact getD_set_true (cl j oj hj hl e he hb)
  have hsz' : (listed.setIfInBounds i true).size = ops.size := by simp [hsz]
  have hset := fun j => Rq (listed := listed) (i := i) (j := j) (by omega)
  have hc' : ((List.range ops.size).countP fun k => !gl (listed.setIfInBounds i true) k) ≤ fuel := by
   have hlt' : ((List.range ops.size).countP fun k => !gl (listed.setIfInBounds i true) k) < ((List.range ops.size).countP fun k => !gl listed k) := by
    obtain ⟨l1, l2, he⟩ := List.append_of_mem (List.mem_range.2 hlt)
    have hle : ∀ l : List Nat, (l.countP fun k => !gl (listed.setIfInBounds i true) k) ≤ (l.countP fun k => !gl listed k) := fun l =>
     List.countP_mono_left (fun k _ h => by rw [hset] at h; by_cases hik : i = k <;> simp [hik] at h ⊢; exact h)
    rw [he, List.countP_append, List.countP_append, List.countP_cons, List.countP_cons]
    have h1 := hle l1
    have h2 := hle l2
    have h3 : gl (listed.setIfInBounds i true) i = true := by rw [hset]; simp
    have h4 : gl listed i = false := hun'
    simp [h3, h4]
    omega
   omega
  have hnext := TY C cl rn hsz ho hun' hall
  have hdst : ∀ d, o.dst = some d → d < X.nt := fun d hod => by
   simp only [C6, List.all_eq_true] at hd
   have hm : o ∈ ops.toList := Array.mem_toList_iff.2 (Array.mem_of_getElem? ho)
   have := hd o hm
   simpa [hod] using this
  have next : ∀ (v : Value) (w' : World) (G' : Gh), AP bs X.nb X.nt w' G' ((stF ops base xs ef (gl listed)).put o.dst (xs i) ((ef i).app (Bj ef base.heap (gl listed) ops.size))) (a.put o.dst v) →
    wpAnyIn (Wd X.r) 0 X.P .any ops (fun e a' w' => ∃ s' G', Q e s' ∧ AP bs X.nb X.nt w' G' s' a') fuel (listed.setIfInBounds i true) (a.put o.dst v) w' := by
   intro v w' G' hp
   rw [← hnext] at hp
   refine ih _ bs w' G' _ hsz' cl' hc' (hp.same (fun d => ?_) rfl rfl)
   show Aw (AA ops base xs (gl (listed.setIfInBounds i true)) ops.size) d = Aw (match o.dst with | some j => EM (AA ops base xs (gl listed) ops.size) j (xs i) | none => AA ops base xs (gl listed) ops.size) d
   by_cases hdd : o.dst = some d
   ·rw [CL ops.size hlt (by rw [hset]; simp) (by simpa [ho] using hdd) (fun j hj hji h => by
     have hoj : ops[j]? = some ops[j] := by simp [hj]
     exact C.c.dst i o j _ d ho hoj hji hdd ((DK hoj).1 h))]
    simp [hdd, Bv]
   ·have e1 : Aw (match o.dst with | some j => EM (AA ops base xs (gl listed) ops.size) j (xs i) | none => AA ops base xs (gl listed) ops.size) d = Aw (AA ops base xs (gl listed) ops.size) d := by
     cases hod : o.dst with
     | none => rfl
     | some j => simp only [Bv]; rw [if_neg (fun e => hdd (by rw [hod, e]))]
    rw [e1]
    by_cases hex : ∃ j, j < ops.size ∧ gl listed j = true ∧ (ops[j]?).bind (·.dst) = some d
    ·obtain ⟨j, hj, hl, hjd⟩ := hex
     have hoj : ops[j]? = some ops[j] := by simp [hj]
     have uniq : ∀ k, k < ops.size → k ≠ j → (ops[k]?).bind (·.dst) ≠ some d := fun k hk hkj h => by
      have hok : ops[k]? = some ops[k] := by simp [hk]
      exact C.c.dst j _ k _ d hoj hok hkj ((DK hoj).1 hjd) ((DK hok).1 h)
     rw [CL ops.size hj (by rw [hset]; simp [hl]) hjd uniq, CL ops.size hj hl hjd uniq]
    ·rw [BH ops.size (fun k hk hL h => ?_), BH ops.size (fun k hk hL h => hex ⟨k, hk, hL, h⟩)]
     rw [hset] at hL
     by_cases hik : i = k
     ·subst hik; exact hdd (by simpa [ho] using h)
     ·rw [if_neg hik] at hL; exact hex ⟨k, hk, hL, h⟩
  unfold wpOpIn
  simp only [ho]
  rw [Ct hR hgd]
  cases t with
  | true =>
   simp only [if_true] at hst ⊢
   unfold IW at hst
   cases hh : (ef i).hole with
   | none =>
    rw [hh] at hst
    have hop := AL.congr (E' := (stF ops base xs ef (gl listed)).ev) (fun x hx => (Ga hlook x hx).symm) (hst _ hheap)
    refine hop w G a _ _ hR.rel (fun x _ => hR.ev x) ?_
    rintro v x H' G' w' ⟨rfl, rfl⟩ hv R L
    exact next v w' G' (hR.put hv R L hdst)
   | some id =>
    rw [hh] at hst
    have hall0 : ∀ j, j < ops.size → gl listed j = true → ∀ k, k < (ef i).wide → (xs j).free (id + k) = true ∧ (ef j).freeB (id + k) = true := fun j hj hl => by
     have hne : j ≠ i := fun e => by subst e; have : gl listed j = false := hun'; rw [this] at hl; cases hl
     rcases rn.free i id hlt hh j hj hne with h1 | h1
     ·exact h1
     ·have hoj : ops[j]? = some ops[j] := by simp [hj]
      have := Cn C.c cl j _ hoj (cl j _ hoj hl) i h1
      rw [hun'] at this; cases this
    rcases hst with ⟨x0, B, e1, e2, e4, e5, e6, e7, e8, e9⟩ | ⟨k, b, e1, e2, e3, e4, e5, e6, e7, e8⟩
    ·have hlen := Gc (H0 := base.heap) (rn.loc i id hlt hh) (gl listed) _ (Nat.le_refl _)
     rw [hbN] at hlen
     have hwd : (ef i).wide = B.length := by rw [e1]; simp [Eff.wide]
     have hop := AL.congr (E' := (stF ops base xs ef (gl listed)).ev) (fun x hx => (Ga hlook x hx).symm) (e9 (Bj ef base.heap (gl listed) ops.size) hlen)
     have fr : ∀ j, j < ops.size → gl listed j = true → ∀ k, id ≤ k → k < id + B.length → (xs j).free k = true ∧ (ef j).freeB k = true := fun j hj hl k h1 h2 => by
      have := hall0 j hj hl (k - id) (by omega)
      rwa [Nat.add_sub_cancel' h1] at this
     refine Rr (s := stF ops base xs ef (gl listed)) (id := id) (x := x0) (B := B) hR (by show id + B.length ≤ (Bj ef base.heap (gl listed) ops.size).length; rw [hlen]; exact e6) (Nat.le_trans hb0 e5)
      (fun d k h1 h2 => FN (fun d => V.low_free (Nat.le_trans e5 h1) (hb1 d)) (fun j hj hl => (fr j hj hl k h1 h2).1) _ (Nat.le_refl _) d)
      (fun j y hy => .inr fun k h1 h2 => GP (fun k' y hy => AB.low_free (Nat.le_trans e5 h1) (hb2 k' y hy)) (fun j hj hl => (fr j hj hl k h1 h2).2) _ (Nat.le_refl _) j y hy) (fun m hm => by have := hb3 m hm; omega) e8 e7 hop hdst ?_
     intro v w' G' hp
     refine next v w' G' ?_
     rw [e2, e1]; exact hp
    have hall' : ∀ j, j < ops.size → gl listed j = true → (xs j).free id = true ∧ (ef j).freeB id = true := fun j hj hl => hall0 j hj hl 0 (by rw [e1]; exact Nat.one_pos)
    rw [e4] at hheap
    have hop := AL.congr (E' := (stF ops base xs ef (gl listed)).ev) (fun x hx => (Ga hlook x hx).symm) (e8 (Bj ef base.heap (gl listed) ops.size) (by rw [Gc (rn.loc i id hlt hh) _ _ (Nat.le_refl _), hbN]))
    refine hole_step (s := stF ops base xs ef (gl listed)) (id := id) (k := k) (b := b) hR (Eq.trans hheap e3) (Nat.le_trans hb0 e5)
     (FN (fun d => V.low_free e5 (hb1 d)) (fun j hj hl => (hall' j hj hl).1) _ (Nat.le_refl _))
     (GP (fun k y hy => AB.low_free e5 (hb2 k y hy)) (fun j hj hl => (hall' j hj hl).2) _ (Nat.le_refl _)) (fun m hm => by have := hb3 m hm; omega) e6
     (by show b.lowP (Bj ef base.heap (gl listed) ops.size).length; rw [Gc (rn.loc i id hlt hh) _ _ (Nat.le_refl _), hbN]; exact e7) hop hdst ?_
    intro v w' G' hp
    refine next v w' G' ?_
    rw [e2, e1]; exact hp
  | false =>
   simp only [Bool.false_eq_true, if_false] at hst ⊢
   refine ⟨fun _ _ => trivial, ?_⟩
   have hRr := hR.put (dst := o.dst) (x := .tup []) (v := undef) (.tup [] #[] rfl (fun i x v h => by simp at h)) hR.rel (Am.refl _ _ _) hdst
   exact next undef w G (by rw [hst.1, hst.2]; exact hRr)
def D1 (m3 : Bool) (n0 k : Nat) (x : V) (e : Eff) (w : DR) (acc : List BO) : List BO := match w, e with
 | .none, .no => if m3 && !x.low n0 then ⟨k, x, e, w⟩ :: acc else acc
 | _, _ => ⟨k, x, e, w⟩ :: acc
theorem TZ {k : Nat} {x : V} {e : Eff} {w : DR} {acc : List BO} {a : BO} (h : a ∈ acc) : a ∈ D1 m3 n0 k x e w acc := by
 unfold D1
 split
 ·split
  ·exact List.mem_cons_of_mem _ h
  ·exact h
 ·exact List.mem_cons_of_mem _ h
theorem Vo {k : Nat} {x : V} {e : Eff} {w : DR} {acc : List BO} : (⟨k, x, e, w⟩ : BO) ∈ D1 m3 n0 k x e w acc ∨ (w = .none ∧ e = .no ∧ (m3 = true → x.low n0 = true)) := by
 unfold D1
 split
 ·split
  ·exact .inl (List.mem_cons_self ..)
  ·rename_i h
   refine .inr ⟨rfl, rfl, fun hm => ?_⟩
   subst hm
   simpa using h
 ·exact .inl (List.mem_cons_self ..)
def Gu (m3 : Bool) (op : Op) (e : Eff) (w : DR) : Prop :=
 (Bg op = true → e = .no ∧ w = .none) ∧ (DX m3 op = false → e = .no) ∧ (CT m3 op = true → e = .no ∨ (w = e.foot ∧ e.loc = true)) ∧ (m3 = false → e.hole = none)
def Ef (X : Cx) (m3 : Bool) (n0 N0 : Nat) (all : Array Oper) : Nat → List Oper → List BO → (List BO → St → Prop) → St → Prop
 | _, [], acc, Q, s => Q acc s
 | k, o :: os, acc, Q, s => ∃ t x e w, Ay all s.get o = some t ∧ (if t then IW X o s.heap s.ev n0 N0 x e w else x = .tup [] ∧ e = .no) ∧ Gu m3 o.op e w ∧
   Ef X m3 n0 N0 all (k + 1) os (D1 m3 n0 k x e w acc) Q (s.put o.dst x (e.app s.heap))
theorem Ef.mono {X : Cx} {all : Array Oper} {Q Q' : List BO → St → Prop} (hq : ∀ a s, Q a s → Q' a s) : ∀ {os : List Oper} {k : Nat} {acc : List BO} {s : St}, Ef X m3 n0 N0 all k os acc Q s → Ef X m3 n0 N0 all k os acc Q' s
 | [], _, _, s, h => hq _ s h
 | o :: os, k, acc, s, ⟨t, x, e, w, h1, h2, h3, h4⟩ => ⟨t, x, e, w, h1, h2, h3, Ef.mono hq h4⟩
theorem MG {X : Cx} {Q : List BO → St → Prop} : ∀ (os : List Oper) (k : Nat) (acc : List BO) (s : St), (∀ j, os[j]? = ops[k + j]?) → Ef X m3 n0 N0 ops k os acc Q s →
  ∃ (xs : Nat → V) (ef : Nat → Eff) (W : Nat → DR) (acc' : List BO), (∀ i o, k ≤ i → ops[i]? = some o → Gu m3 o.op (ef i) (W i)) ∧ (∀ a ∈ acc, a ∈ acc') ∧
   (∀ i, k ≤ i → i < k + os.length → (⟨i, xs i, ef i, W i⟩ : BO) ∈ acc' ∨ (W i = .none ∧ ef i = .no ∧ (m3 = true → (xs i).low n0 = true))) ∧
   ∀ (b : Nat → List (Nat × V)) (h : Nat → List AB), b k = s.slots → h k = s.heap → (∀ i o, k ≤ i → ops[i]? = some o → b (i + 1) = (match o.dst with | some d => EM (b i) d (xs i) | none => b i)) → (∀ i, k ≤ i → h (i + 1) = (ef i).app (h i)) →
    (∀ i o, k ≤ i → ops[i]? = some o → ∃ t, Ay ops (Aw (b i)) o = some t ∧ (if t then IW X o (h i) (evS (Aw (b i))) n0 N0 (xs i) (ef i) (W i) else xs i = .tup [] ∧ ef i = .no)) ∧
    Q acc' { slots := b (k + os.length), heap := h (k + os.length), marks := s.marks }
 | [], k, acc, s, hl, h => ⟨fun _ => .c .any, fun _ => .no, fun _ => .none, acc, fun i o hi ho => by
   have := hl (i - k)
   rw [Nat.add_sub_cancel' hi, ho] at this
   simp at this, fun a ha => ha, fun i h1 h2 => by simp at h2; omega, fun b hp hb hh _ _ => by
   refine ⟨fun i o hi ho => ?_, ?_⟩
   ·have := hl (i - k)
    rw [Nat.add_sub_cancel' hi, ho] at this
    simp at this
   ·simp only [List.length_nil, Nat.add_zero, hb, hh]; exact h⟩
 | o :: os, k, acc, s, hl, h => by
  obtain ⟨t, x, e, w, h1, h2, h3, h4⟩ := h
  have ho : ops[k]? = some o := by simpa using (hl 0).symm
  have hl' : ∀ j, os[j]? = ops[k + 1 + j]? := fun j => by have := hl (j + 1); simpa [Nat.add_assoc, Nat.add_comm 1 j] using this
  obtain ⟨xs, ef, W, acc', e1, e2, e3, e4⟩ := MG os (k + 1) _ _ hl' h4
  refine ⟨fun i => if i = k then x else xs i, fun i => if i = k then e else ef i, fun i => if i = k then w else W i, acc', fun i o' hi ho' => ?_, fun a ha => e2 a (TZ ha), fun i hi hi2 => ?_, fun b hp hb hh hn hn2 => ?_⟩
  ·by_cases hik : i = k
   ·subst hik
    obtain rfl : o' = o := Option.some.inj (ho'.symm.trans ho)
    simpa using h3
   ·simp only [hik, if_false]; exact e1 i o' (by omega) ho'
  ·by_cases hik : i = k
   ·subst hik
    simp only [if_true]
    rcases Vo (m3 := m3) (n0 := n0) (k := i) (x := x) (e := e) (w := w) (acc := acc) with h | h
    ·exact .inl (e2 _ h)
    ·exact .inr h
   ·simp only [hik, if_false]
    exact e3 i (by omega) (by simp at hi2; omega)
  ·have hb1 : b (k + 1) = (s.put o.dst x (e.app s.heap)).slots := by
    rw [hn k o (Nat.le_refl _) ho]
    simp only [St.put, if_true, hb]
    rfl
   have hh1 : hp (k + 1) = (s.put o.dst x (e.app s.heap)).heap := by
    rw [hn2 k (Nat.le_refl _)]
    simp only [if_true, hh]
    rfl
   obtain ⟨f1, f2⟩ := e4 b hp hb1 hh1 (fun i o' hi ho' => by
    have := hn i o' (by omega) ho'
    simp only [show i ≠ k by omega, if_false] at this
    exact this) (fun i hi => by
    have := hn2 i (by omega)
    simp only [show i ≠ k by omega, if_false] at this
    exact this)
   refine ⟨fun i o' hi ho' => ?_, ?_⟩
   ·by_cases hik : i = k
    ·subst hik
     obtain rfl : o' = o := Option.some.inj (ho'.symm.trans ho)
     refine ⟨t, by rw [hb]; exact h1, ?_⟩
     simp only [if_true, hb, hh]
     exact h2
    ·obtain ⟨t', g1, g2⟩ := f1 i o' (by omega) ho'
     refine ⟨t', g1, ?_⟩
     simp only [hik, if_false]
     exact g2
   ·have e : k + (o :: os).length = k + 1 + os.length := by simp; omega
    rw [e]
    exact f2
theorem Vp {X : Cx} {id : Nat} {Q : Exit → St → Prop} {s : St} (hm : X.P.follows .mixedOrders = true) (hd : C6 X.nt ops.toList = true) (hc : Fa m3 ops = true)
  (hb0 : X.nb ≤ n0) (hb1 : ∀ d, (Aw s.slots d).low n0 = true) (hb2 : ∀ (k : Nat) y, s.heap[k]? = some y → y.lowP n0) (hb3 : ∀ m ∈ s.marks, m < n0) (hbN : s.heap.length = N0)
  (h : Ef X m3 n0 N0 ops 0 ops.toList [] (fun acc s => CE m3 ops acc = true ∧ Q .normal s) s) : AWP X (.region id ops true) Q s := fun bs w G a hR => by
 refine wpIn_region_any hm ?_
 obtain ⟨xs, ef, W, acc, k1, k2, k3, k4⟩ := MG (ops := ops) ops.toList 0 [] s (fun j => by simp) h
 have hlen : ops.toList.length = ops.size := by simp
 have hpre : ∀ i, Bj ef s.heap (fun j => decide (j < i + 1)) (i + 1) = (ef i).app (Bj ef s.heap (fun j => decide (j < i)) i) := fun i => by
  simp only [Bj]
  simp only [Nat.lt_succ_self, decide_true, if_true]
  rw [Eu (L' := fun j => decide (j < i)) i (fun j hj => by simp [hj]; omega)]
 obtain ⟨f1, hpk, f2⟩ := k4 (fun i => AA ops s xs (fun _ => true) i) (fun i => Bj ef s.heap (fun j => decide (j < i)) i) rfl rfl (fun i o _ ho => by
  simp only [AA, if_true, ho, Option.bind_some]
  rfl) (fun i _ => hpre i)
 have C := N3 hc
 have hole3 : ∀ i id, i < ops.size → (ef i).hole = some id → m3 = true := fun i id hi hid => by
  have hoi : ops[i]? = some ops[i] := by simp [hi]
  cases hm3 : m3 with
  | true => rfl
  | false =>
   have := (k1 i _ (Nat.zero_le _) hoi).2.2.2 hm3
   rw [this] at hid; cases hid
 have rn : aD7 X m3 n0 N0 (DJ ops.toList 0 []) ops s xs ef W :=
  {step := fun i o ho => f1 i o (Nat.zero_le _) ho
   kq := fun i o ho hq => (k1 i o (Nat.zero_le _) ho).1 hq
   kl := fun i o ho hq => (k1 i o (Nat.zero_le _) ho).2.1 hq
   ks := fun i o ho hq => (k1 i o (Nat.zero_le _) ho).2.2.1 hq
   pairs := fun i o j oj ho hj hne hs hw hu => by
    have hi := (Array.getElem?_eq_some_iff.1 ho).1
    have hjl := (Array.getElem?_eq_some_iff.1 hj).1
    rcases k3 i (Nat.zero_le _) (by omega) with m1 | ⟨h1, _⟩
    ·rcases k3 j (Nat.zero_le _) (by omega) with m2 | ⟨h2, _⟩
     ·exact Md hpk m1 m2 (by simp only [GO, hj, hs]; rfl) (by simp only [Kv, ho, hw]) (by simpa using hne.symm) hu
     ·right; rw [h2]; cases W i <;> trivial
    ·right; rw [h1]; trivial
   free := fun i id hi hid j hj hne => by
    have hm3 := hole3 i id hi hid
    subst hm3
    rcases k3 i (Nat.zero_le _) (by omega) with m2 | ⟨_, h2, _⟩
    ·rcases k3 j (Nat.zero_le _) (by omega) with m1 | ⟨_, h1, h3⟩
     ·exact Mf hpk m1 m2 hid (by simpa using hne)
     ·left
      rw [h1]
      have hoi : ops[i]? = some ops[i] := by simp [hi]
      obtain ⟨t, _, hst⟩ := f1 i _ (Nat.zero_le _) hoi
      intro k _
      refine ⟨?_, rfl⟩
      cases t with
      | false => simp at hst; rw [hst.2] at hid; cases hid
      | true =>
       simp only [if_true] at hst
       unfold IW at hst
       rw [hid] at hst
       rcases hst with ⟨x0, B, _, _, _, e5, _⟩ | ⟨k, b, _, _, _, _, e5, _⟩
       ·exact V.low_free (Nat.le_trans e5 (Nat.le_add_right _ _)) (h3 rfl)
       ·exact V.low_free (Nat.le_trans e5 (Nat.le_add_right _ _)) (h3 rfl)
    ·rw [h2] at hid; cases hid
   loc := fun i id hi hid j hj => by
    have hm3 := hole3 i id hi hid
    subst hm3
    rcases k3 j (Nat.zero_le _) (by omega) with m1 | ⟨_, h1, _⟩
    ·exact N1 hpk m1
    ·rw [h1]; rfl }
 have hbs : AP bs X.nb X.nt { w with drawn := w.drawn + 1 } G s a := hR.drawn
 refine Ru hb0 hb1 hb2 hb3 hbN C rn hd ?_ ops.size _ bs _ G a (by simp) ?_ ?_ (hbs.same (fun d => ?_) ?_ rfl)
 ·simp only [Nat.zero_add, hlen] at f2
  unfold stF
  rw [Eu (L' := fun j => decide (j < ops.size)) ops.size (fun j hj => by simp [hj])]
  exact f2
 ·intro j oj hj hl
  rw [getD_replicate_false] at hl; cases hl
 ·exact Nat.le_trans List.countP_le_length (by simp)
 ·have : ∀ n, AA ops s xs (gl (Array.replicate ops.size false)) n = s.slots := by
   intro n
   induction n with
   | zero => rfl
   | succ n ih => simp only [AA, gl, getD_replicate_false, Bool.false_eq_true, if_false]; exact ih
  show Aw (AA ops s xs (gl (Array.replicate ops.size false)) ops.size) d = Aw s.slots d
  rw [this]
 ·have : ∀ n, Bj ef s.heap (gl (Array.replicate ops.size false)) n = s.heap := by
   intro n
   induction n with
   | zero => rfl
   | succ n ih => simp only [Bj, gl, getD_replicate_false, Bool.false_eq_true, if_false]; exact ih
  exact this _
def FO (m3 : Bool) (h : Nat) (s : St) : St := { s with heap := if m3 then s.heap ++ List.replicate h .gone else s.heap }
theorem T1 {X : Cx} (m3 : Bool) (h : Nat) (s : St) : Ent X s (FO m3 h s) := fun bs w G a hR => by
 cases m3 with
 | false => exact ⟨G, hR⟩
 | true =>
  have L : Am w G s.heap w G (s.heap ++ List.replicate h .gone) :=
   {size := Nat.le_refl _, S := fun b o h => ⟨h, rfl⟩, Snew := fun _ _ _ _ h => h, len := by simp, rho := fun _ _ => rfl,
    grow := fun id n sz hid h => ⟨n, by rwa [List.getElem?_append_left hid] at h, .inr ⟨rfl, rfl⟩⟩, vec := fun id n sz cs hid h => ⟨n, sz, cs, by rwa [List.getElem?_append_left hid] at h, .inr ⟨rfl, rfl⟩⟩, role := fun _ _ => rfl, frame := fun _ _ _ => rfl, os := rfl, out := rfl }
  refine ⟨G, { rel := ⟨hR.rel.sex, hR.rel.roleLt, fun id x hx => ?_⟩, later := hR.later.trans L, base := hR.base, size := hR.size, slots := fun i => (hR.slots i).mono L, defers := hR.defers, marks := fun id hid => Nat.lt_of_lt_of_le (hR.marks id hid) L.len }⟩
  have hx : (s.heap ++ List.replicate h .gone)[id]? = some x := hx
  by_cases hi : id < s.heap.length
  ·rw [List.getElem?_append_left hi] at hx
   exact (hR.rel.ab id x hx).mono hR.rel L hi (fun b _ => rfl) (fun _ _ _ h => h) rfl
  ·rw [List.getElem?_append_right (by omega)] at hx
   have := List.mem_of_getElem? hx
   rw [List.mem_replicate] at this
   rw [this.2]; exact .gone
theorem Ev {X : Cx} {id : Nat} {Q : Exit → St → Prop} {s : St} (m3 : Bool) (h : Nat) (hm : X.P.follows .mixedOrders = true) (hd : C6 X.nt ops.toList = true) (hc : Fa m3 ops = true)
  (hh : Ef X m3 s.heap.length (FO m3 h s).heap.length ops 0 ops.toList [] (fun acc s => CE m3 ops acc = true ∧ Q .normal s) (FO m3 h s)) : AWP X (.region id ops true) Q s := fun bs w G a hR => by
 obtain ⟨G', hR'⟩ := T1 (X := X) m3 h s bs w G a hR
 refine Vp (s := FO m3 h s) hm hd hc (n0 := s.heap.length) (by rw [← hR.base]; exact hR.later.len) (fun d => (hR.slots d).lows) (fun k y hy => ?_) (fun m hmk => hR.marks m hmk) rfl hh bs w G' a hR'
 cases m3 with
 | false => exact (hR.rel.ab k y hy).lows
 | true =>
  have hy : (s.heap ++ List.replicate h .gone)[k]? = some y := hy
  by_cases hi : k < s.heap.length
  ·rw [List.getElem?_append_left hi] at hy; exact (hR.rel.ab k y hy).lows
  ·rw [List.getElem?_append_right (by omega)] at hy
   have := List.mem_of_getElem? hy
   rw [List.mem_replicate] at this
   rw [this.2]; trivial
theorem Ef.monoR {X : Cx} {m3 : Bool} {n0 N0 : Nat} {all : Array Oper} {Q Q' : List BO → St → Prop} (hq : ∀ acc s, Q acc s → Q' acc s) : ∀ {os : List Oper} {k : Nat} {acc : List BO} {s : St}, Ef X m3 n0 N0 all k os acc Q s → Ef X m3 n0 N0 all k os acc Q' s
 | [], _, acc, s, h => hq acc s h
 | _ :: _, _, _, _, ⟨t, x, e, w, h1, h2, h3, h4⟩ => ⟨t, x, e, w, h1, h2, h3, Ef.monoR hq h4⟩
theorem Hv {X : Cx} {id : Nat} {Q : Exit → St → Prop} {s : St} (m3 : Bool) (h : Nat) (hm : X.P.follows .mixedOrders = true) (hd : C6 X.nt ops.toList = true) (hc : Fa m3 ops = true)
  (hh : Ef X m3 s.heap.length (FO m3 h s).heap.length ops 0 ops.toList [] (fun acc s => CC m3 ops acc = true ∧ Q .normal s) (FO m3 h s)) : AWP X (.region id ops true) Q s :=
 Ev m3 h hm hd hc (hh.monoR fun acc s ⟨h1, h2⟩ => ⟨by simp only [CE, h1, Bool.true_or], h2⟩)
end
end Go.Abs
