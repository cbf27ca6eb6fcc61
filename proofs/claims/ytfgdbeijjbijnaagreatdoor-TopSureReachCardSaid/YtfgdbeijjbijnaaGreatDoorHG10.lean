/- What one operation looks at and changes. -/
import Derived.Test.YtfgdbeijjbijnaaGreatDoorHG09
set_option linter.unusedSimpArgs false
set_option linter.unusedVariables false
namespace Go.Abs
open Go
set_option maxHeartbeats 4000000 in
theorem aGt {X : Tx} {H H' : List AB} {E : Operand → V} {op : Op} {c : Bool} {x : V} (hq : AQ op = true) (h : op1 X H E op = some (c, x, H')) (H2 : List AB) : op1 X H2 E op = some (c, x, H2) := by
 unfold op1 at h
 split at h
 all_goals first
  | (simp [AQ, Ax] at hq; done)
  | (simp only [op1]; (repeat' split at h) <;> first | (cases h; done) | (simp [AQ, Ax] at hq; done) | (simp_all [op1]; done))
def aF0 : C → Option Nat
 | .own id _ => some id
 | .vs id _ => some id
 | .vc id _ => some id
 | _ => none
def aEX : C → Bool
 | .ms _ _ _ _ => true
 | .vs _ _ => true
 | _ => false
def Bq (E : Operand → V) (op : Op) : Option Nat := match op with
 | .call { callee := .builtin .append, args := as, argTypes := _ } => match as.toList.map E with
  | [.c s, .c y] => match aF0 s, aEX y with
   | some id, false => some id
   | _, _ => none
  | _ => none
 | _ => none
theorem GG {E : Operand → V} {op : Op} {id : Nat} (h : Bq E op = some id) : Dm op = true := by
 unfold Bq at h
 split at h
 ·rfl
 ·cases h
theorem Kk {op : Op} (h : Dm op = true) : Ax op = true := by
 unfold Dm at h
 split at h
 ·rfl
 ·cases h
theorem Pu {op : Op} (h : Dm op = true) : AQ op = false := by
 unfold Dm at h
 split at h
 ·rfl
 ·cases h
theorem RV {op : Op} (h : Dm op = true) : CZ op = false ∧ Bb op = false ∧ Ex op = false := by
 unfold Dm at h
 split at h
 ·exact ⟨rfl, rfl, rfl⟩
 ·cases h
theorem Pv {H H2 : List AB} {sz : Nat} {y : C} (h : aEX y = false) : CG H sz y = CG H2 sz y := by
 cases y <;> first | rfl | cases h
theorem Pw {H H2 : List AB} {sz : Nat} {y : C} (h : aEX y = false) : Fe H sz y = Fe H2 sz y := by
 cases y <;> first | rfl | cases h
theorem Wa {sz k : Nat} {y : C} {new : List C} (h : Fe [] sz y = some (k, new)) (H : List AB) : Fe H sz y = some (k, new) := by
 cases y <;> first | exact h | (simp [Fe] at h)
theorem Px {sz : Nat} {y : C} {new : List (List D)} (h : CG [] sz y = some new) (H : List AB) : CG H sz y = some new := by
 cases y <;> first | exact h | (simp [CG] at h)
set_option maxHeartbeats 4000000 in
theorem Wb {X : Tx} {H H' : List AB} {E : Operand → V} {op : Op} {c : Bool} {x : V} {id : Nat} (ha : Bq E op = some id) (h : op1 X H E op = some (c, x, H')) :
  ∃ b, id < H.length ∧ H' = H.set id b ∧ ∀ H2 : List AB, H2[id]? = H[id]? → op1 X H2 E op = some (c, x, H2.set id b) := by
 unfold Bq at ha
 split at ha
 ·rename_i as ts
  split at ha
  ·rename_i s y he
   split at ha
   ·rename_i id' hs hy
    cases ha
    simp only [op1, he] at h ⊢
    generalize ts.toList = tl at h ⊢
    rcases tl with _ | ⟨t, _ | ⟨t2, _ | ⟨t3, tl⟩⟩⟩
    ·simp at h
    ·simp at h
    ·simp only at h ⊢
     cases h1 : X.tt t with
     | none => rw [h1] at h; simp at h
     | some i =>
     cases h2 : X.tt t2 with
     | none => rw [h1, h2] at h; simp at h
     | some i2 =>
     rw [h1, h2] at h
     simp only at h ⊢
     split at h
     ·rename_i e e2 hd hd2
      split at h
      ·rename_i j hj
       split at h
       ·rename_i id2 n hv
        obtain rfl := Pd hv
        cases hs
        split at h
        ·rename_i m sz cs k new hid hsrc
         cases h
         refine ⟨_, (List.getElem?_eq_some_iff.1 hid).1, rfl, fun H2 h2 => ?_⟩
         rw [Pw (H2 := H) hy, hsrc]
         simp only [h2, hid]
        ·cases h
       ·rename_i id2 n hv
        obtain rfl := Pe hv
        cases hs
        split at h
        ·rename_i m sz cs k new hid hsrc
         cases h
         refine ⟨_, (List.getElem?_eq_some_iff.1 hid).1, rfl, fun H2 h2 => ?_⟩
         rw [Pw (H2 := H) hy, hsrc]
         simp only [h2, hid]
        ·cases h
       ·rename_i hv
        obtain rfl := Pf hv
        cases hs
       ·split at h
        ·rename_i new hn
         split at h
         ·rename_i id2 rows _
          cases hs
          split at h
          ·rename_i n sz hid
           cases h
           refine ⟨_, (List.getElem?_eq_some_iff.1 hid).1, rfl, fun H2 h2 => ?_⟩
           rw [Pv (H2 := H) hy, hn]
           simp only [h2, hid]
          ·cases h
         ·cases hs
         ·cases h
        ·cases h
      ·cases h
     ·cases h
    ·simp at h
   ·cases ha
  ·cases ha
 ·cases ha
def BH (X : Tx) (E : Operand → V) (op : Op) : Dx :=
 if AQ op then .none else match op with
 | .load t x => match X.tt t, E x with
  | some i, .c (.ptr id off) => .win id off i.size
  | some _, .c (.vp id _ _) => .blk id
  | some _, .c (.gp _) => .all
  | _, _ => .none
 | .store _ a x => match E a with
  | .c (.ptr id off) => .win id off (E x).cs.length
  | .c (.vp id _ _) => .blk id
  | _ => .none
 | .lookup _ m _ _ => match E m with
  | .c (.mp id) => .blk id
  | _ => .none
 | .call { callee := .builtin .len, args := as, argTypes := _ } => match as.toList.map E with
  | [.c (.mp id)] => .blk id
  | _ => .none
 | op => match Bq E op with
  | some id => .blk id
  | none => .all
def BI (E : Operand → V) (op : Op) (H' : List AB) : Eff := match op with
 | .store _ a x => match E a with
  | .c (.ptr id off) => .patch id off (E x).cs
  | .c (.vp id _ _) => match H'[id]? with
   | some b => .upd id b
   | none => .no
  | _ => .no
 | op => match Bq E op with
  | some id => match H'[id]? with
   | some b => .upd id b
   | none => .no
  | none => if Ax op then .to H' else .no
theorem EW {E : Operand → V} {op : Op} {H' : List AB} (hs : Bb op = false) (ha : Bq E op = none) : BI E op H' = if Ax op then .to H' else .no := by
 cases op <;> first | (simp [Bb] at hs; done) | (simp only [BI, ha])
theorem FX {E : Operand → V} {op : Op} {H' : List AB} {id : Nat} (ha : Bq E op = some id) : BI E op H' = match H'[id]? with | some b => .upd id b | none => .no := by
 have hs := (RV (GG ha)).2.1
 cases op <;> first | (simp [Bb] at hs; done) | (simp only [BI, ha])
theorem Kl {X : Tx} {E : Operand → V} {op : Op} {id : Nat} (ha : Bq E op = some id) : BH X E op = .blk id := by
 have hq := Pu (GG ha)
 have h := ha
 unfold Bq at h
 split at h
 ·unfold BH
  rw [hq]
  simp only [Bool.false_eq_true, if_false, ha]
 ·cases h
theorem Of {E : Operand → V} {op : Op} (h : Ax op = false) : Bq E op = none := by
 cases ha : Bq E op with
 | none => rfl
 | some id => rw [Kk (GG ha)] at h; cases h
theorem Hn {op : Op} (h : AQ op = true) : Ax op = false := by
 cases op with
 | call c =>
  obtain ⟨callee, args, ts⟩ := c
  cases callee with
  | builtin b => cases b <;> simp [AQ, Ax] at h ⊢
  | _ => rfl
 | _ => simp [AQ, Ax] at h ⊢
theorem Km {m3 : Bool} {op : Op} (h : D4 m3 op = false) : Ax op = false := by
 simp only [D4, Bool.or_eq_false_iff] at h; exact h.1
theorem Wc {X : Tx} {H : List AB} {E : Operand → V} {op : Op} (h : D3 op = true) : op1 X H E op = none := by
 unfold D3 at h
 split at h
 ·simp [op1]
 ·cases h
theorem Ho {X : Tx} {E : Operand → V} {op : Op} {H H' : List AB} {c : Bool} {x : V} (m3 : Bool) (hm : m3 = true → CZ op = false ∧ (Dm op = true → (Bq E op).isSome = true)) (h : op1 X H E op = some (c, x, H')) : Hl m3 op (BI E op H') (BH X E op) := by
 have quiet : Ax op = false → BI E op H' = .no := fun hl => by
  have hs : Bb op = false := by cases op <;> first | rfl | (simp [Ax] at hl; done)
  rw [EW hs (Of hl), hl]; rfl
 refine ⟨fun hq => ⟨quiet (Hn hq), by simp [BH, hq]⟩, fun hl => quiet (Km hl), fun hs => ?_, fun _ => ?_⟩
 ·cases ha : Bq E op with
  | some id =>
   rw [FX ha, Kl ha]
   split
   ·exact .inr ⟨rfl, rfl⟩
   ·exact .inl rfl
  | none =>
   have hst : Bb op = true := by
    simp only [Cw, Bool.or_eq_true, Bool.and_eq_true] at hs
    rcases hs with hs | ⟨h1, (h2 | h2) | h2⟩
    ·exact hs
    ·rw [(hm h1).1] at h2; cases h2
    ·have := (hm h1).2 h2; rw [ha] at this; cases this
    ·rw [Wc h2] at h; cases h
   cases op <;> simp [Bb] at hst
   simp only [BI, BH]
   split
   ·exact .inr ⟨by simp [AQ, Ax, Eff.foot], rfl⟩
   ·split
    ·exact .inr ⟨by simp [AQ, Ax, Eff.foot], rfl⟩
    ·exact .inl rfl
   ·exact .inl rfl
 ·cases ha : Bq E op with
  | some id => rw [FX ha]; split <;> rfl
  | none =>
   cases hs : Bb op with
   | false => rw [EW hs ha]; split <;> rfl
   | true =>
    cases op <;> simp [Bb] at hs
    simp only [BI]
    split
    ·rfl
    ·split <;> rfl
    ·rfl
theorem aEY {i : TI} {cs cs' : List C} {off : Nat} (h3 : cs.length = cs'.length) (h4 : ∀ j, off ≤ j → j < off + i.size → cs[j]? = cs'[j]?) (hs : Bx i.desc = false → 0 < i.size) : mkV i cs off = mkV i cs' off := by
 unfold mkV
 cases ha : Bx i.desc with
 | true =>
  simp only [if_true]
  congr 1
  refine List.ext_getElem? fun j => ?_
  simp only [List.getElem?_take, List.getElem?_drop]
  split
  ·exact h4 _ (by omega) (by omega)
  ·rfl
 | false =>
  have := hs ha
  simp only [Bool.false_eq_true, if_false]
  rw [h4 off (Nat.le_refl _) (by omega)]
set_option maxHeartbeats 4000000 in
theorem UD {X : Tx} {H H' : List AB} {E : Operand → V} {op : Op} {c : Bool} {x : V} (hl : Ax op = false) (h : op1 X H E op = some (c, x, H')) : H' = H := by
 unfold op1 at h
 split at h
 all_goals first
  | (simp [Ax] at hl; done)
  | (repeat' split at h) <;> first | (cases h; rfl) | (cases h; done) | (simp [Ax] at hl; done) | (simp at h; done) | (simp at h; exact h.2.2.symm)
theorem RW {X : Tx} {E : Operand → V} {op : Op} (hq : AQ op = false) (hw : El false op = false) (ha : Bq E op = none) : BH X E op = .all := by
 unfold BH
 rw [hq]
 cases op with
 | call c =>
  obtain ⟨callee, args, ts⟩ := c
  cases callee with
  | builtin b => cases b <;> first | (simp [El, Ex, Cw, Bb] at hw; done) | (simp only [Bool.false_eq_true, if_false, ha]; done) | rfl
  | _ => first | (simp only [Bool.false_eq_true, if_false, ha]; done) | rfl
 | _ => first | (simp [El, Ex, Cw, Bb] at hw; done) | (simp only [Bool.false_eq_true, if_false, ha]; done) | rfl
theorem UE {E : Operand → V} {op : Op} {H' : List AB} (hw : Bb op = false) (ha : Bq E op = none) : BI E op H' = if Ax op then .to H' else .no := EW hw ha
theorem Kn {X : Tx} {H H' : List AB} {E : Operand → V} {op : Op} {c : Bool} {x : V} (h : op1 X H E op = some (c, x, H')) : (∀ H2, sim (BH X E op) H2 H → op1 X H2 E op = some (c, x, (BI E op H').app H2)) ∧ (BI E op H').app H = H' := by
 have key : ∀ H2, sim (BH X E op) H2 H → op1 X H2 E op = some (c, x, (BI E op H').app H2) := by
  intro H2 hs
  cases hq : AQ op with
  | true =>
   have e : BI E op H' = .no := (Ho false (fun h => by cases h) h).1 hq |>.1
   rw [e]
   exact aGt hq h H2
  | false =>
   cases ha : Bq E op with
   | some id =>
    rw [Kl ha] at hs
    obtain ⟨b, hlt, rfl, hk⟩ := Wb ha h
    rw [hk H2 hs, FX ha]
    simp [hlt, Eff.app]
   | none =>
   cases hw : El false op with
   | false =>
    rw [RW hq hw ha] at hs
    have e : H2 = H := hs
    subst e
    rw [h, UE (by simp [El, Cw] at hw; exact hw.2) ha]
    cases hl : Ax op with
    | true => rfl
    | false => rw [UD hl h]; rfl
   | true =>
   cases op with
   | load t a =>
    simp only [BH, hq, Bool.false_eq_true, if_false] at hs
    have e : BI E (.load t a) H' = .no := rfl
    rw [e]
    simp only [Eff.app]
    simp only [op1] at h ⊢
    split at h
    ·rename_i i id off ht hx
     simp only [ht, hx] at hs ⊢
     split at h
     ·rename_i cs hid
      cases h
      rcases hs with hs | ⟨ds, ds', h1, h2, h3, h4⟩
      ·rw [hs, hid]
      ·rw [hid] at h2
       cases h2
       simp only [h1, h3]
       rw [aEY h3 h4 (fun ha => by have := X.ok.one t i ht ha; omega)]
     ·cases h
    ·rename_i i id n off ht hx
     simp only [ht, hx] at hs ⊢
     have hs : H2[id]? = H[id]? := hs
     rw [hs]
     split at h
     ·rename_i m sz cs hid
      cases h
      simp only [hid]
     ·cases h
    ·rename_i i ds ht hx
     simp only [ht, hx] at hs ⊢
     cases h; rfl
    ·rename_i i g ht hx
     simp only [ht, hx] at hs ⊢
     have hs : H2 = H := hs
     subst hs
     split at h
     ·rename_i ds hg
      cases h
      rfl
     ·cases h
    ·cases h
   | store t a y =>
    simp only [BH, hq, Bool.false_eq_true, if_false] at hs
    simp only [op1] at h ⊢
    split at h
    ·rename_i i id off ht hx
     simp only [hx] at hs
     simp only [ht, hx, BI]
     split at h
     ·rename_i cs hid
      cases h
      rcases hs with hs | ⟨ds, ds', h1, h2, h3, h4⟩
      ·rw [hs, hid]
       simp [Eff.app, De, hs, hid]
      ·rw [hid] at h2
       cases h2
       simp only [h1, h3]
       simp [Eff.app, De, h1]
     ·cases h
    ·rename_i i id n off ht hx
     simp only [hx] at hs
     simp only [ht, hx, BI]
     have hs : H2[id]? = H[id]? := hs
     rw [hs]
     split at h
     ·rename_i m sz cs hid
      cases h
      have hlt := (List.getElem?_eq_some_iff.1 hid).1
      simp [hid, hlt, Eff.app]
     ·cases h
    ·cases h
   | lookup t m k ok =>
    have e : BI E (.lookup t m k ok) H' = .no := rfl
    rw [e]
    unfold BH at hs; rw [hq] at hs
    simp only [Bool.false_eq_true, if_false] at hs
    simp only [op1] at h ⊢
    split at h
    ·rename_i i id ht hx
     simp only [hx] at hs
     have hs : H2[id]? = H[id]? := hs
     simp only [ht, hx, hs]
     split at h
     ·rename_i kt et es hd hid
      split at h
      ·rename_i j o hj ho
       cases h
       first | rfl | (simp only [hd, hid, hj, ho]; rfl) | (simp only [hd, hid, hj, ho])
      ·cases h
     ·cases h
    ·cases h
   | call c =>
    obtain ⟨callee, args, ts⟩ := c
    cases callee with
    | builtin b =>
     cases b <;> first | (simp [El, Ex, Cw, Bb, CZ] at hw; done) | skip
     have e : BI E (.call { callee := .builtin .len, args := args, argTypes := ts }) H' = .no := rfl
     rw [e]
     unfold BH at hs; rw [hq] at hs
     simp only [Bool.false_eq_true, if_false] at hs
     simp only [op1] at h ⊢
     generalize ts.toList = tl at h ⊢
     generalize args.toList.map E = vl at h hs ⊢
     rcases tl with _ | ⟨t, _ | ⟨t2, tl⟩⟩ <;> rcases vl with _ | ⟨x1, _ | ⟨x2, vl⟩⟩ <;> try (simp at h; done)
     simp only at h ⊢
     split at h
     ·rename_i i hi
      split at h
      ·rename_i el cc hd
       split at h
       ·rename_i n hn; cases h; first | rfl | (simp only [hi, hd, hn]; rfl) | simp [hi, hd, hn, Eff.app]
       ·cases h
      ·rename_i n el hd; cases h; first | rfl | (simp only [hi, hd]; rfl) | simp [hi, hd, Eff.app]
      ·rename_i kt et id hd
       have hs : H2[id]? = H[id]? := hs
       split at h
       ·rename_i es hid; cases h; first | (simp only [hi, hd, hs, hid]; rfl) | simp [hi, hd, hs, hid, Eff.app]
       ·cases h
      ·cases h
     ·cases h
    | value f => simp [op1] at h
    | _ => simp [El, Ex, Cw, Bb, CZ] at hw
   | _ => simp [El, Ex, Cw, Bb] at hw
 refine ⟨key, ?_⟩
 have := key H (Hk _ _)
 rw [h] at this
 injection this with this
 injection this with _ this
 injection this with _ this
 exact this.symm
theorem Ko (m3 : Bool) (op : Op) : Hl m3 op .no .none := ⟨fun _ => ⟨rfl, rfl⟩, fun _ => rfl, fun _ => .inl rfl, fun _ => rfl⟩
theorem Kp {E : Operand → V} {op : Op} {H' : List AB} : (BI E op H').hole = none := by
 cases ha : Bq E op with
 | some id => rw [FX ha]; split <;> rfl
 | none =>
  cases hs : Bb op with
  | false => rw [EW hs ha]; split <;> rfl
  | true =>
   cases op <;> simp [Bb] at hs
   simp only [BI]
   split
   ·rfl
   ·split <;> rfl
   ·rfl
def RX (X : Tx) (E : Operand → V) (op : Op) : Option (MkK × AB) := match op with
 | .alloc t => match X.tt t with
  | some i => some (.ptr, .cells i.zero.cs)
  | none => none
 | .box _ x => if (E x).solid then some (.ptr, .cells (E x).cs) else none
 | .makeSlice t l c => match X.tt t, E l, E c with
  | some i, .c (.d (.int _ n)), .c (.d (.int _ m)) => match i.desc with
   | .slice e => match X.tt e with
    | some j => if decide (0 ≤ n) && decide (n ≤ m) && decide ((j.bytes : Int) * m ≤ 140737488355328) && decide (m ≤ lim) then some (.ms n.toNat m.toNat, .cells (zc j.zero.cs m.toNat)) else none
    | none => none
   | _ => none
  | _, _, _ => none
 | .makeMap _ none => some (.mp, .mp [])
 | .call { callee := .builtin .append, args := as, argTypes := ts } => match ts.toList, as.toList.map E with
  | [t, t2], [.c (.full rows), .c y] => match X.tt t, X.tt t2 with
   | some i, some i2 => match i.desc, i2.desc with
    | .slice e, .slice _ => match X.tt e with
     | some j => match N1 X.vm (.full rows) with
      | .new => match Fe [] j.size y with
       | some (k, new) => if decide (0 < j.size) && decide ((k + k / 4 + 256) * j.bytes ≤ 281474976710656) && decide (k ≤ lim) then some (.vs k, .vec k j.size new) else none
       | none => none
      | .none => match CG [] j.size y with
       | some new => if decide (0 < j.size) && rows.all (fun r => r.length == j.size) && new.all (fun r => r.length == j.size) && decide ((rows.length + new.length + (rows.length + new.length) / 4 + 256) * j.bytes ≤ 281474976710656) && decide (rows.length + new.length ≤ lim)
        then some (.own (rows ++ new), .grow (rows.length + new.length) j.size) else none
       | none => none
      | _ => none
     | none => none
    | _, _ => none
   | _, _ => none
  | _, _ => none
 | _ => none
theorem MA {X : Tx} {E : Operand → V} {op : Op} {k : MkK} {b : AB} (h : RX X E op = some (k, b)) : (CZ op || Dm op) = true ∧ ∀ H, op1 X H E op = some (true, .c (k.at H.length), H ++ [b]) := by
 unfold RX at h
 split at h
 ·split at h
  ·rename_i i hi; cases h; exact ⟨rfl, fun H => by simp [op1, hi, MkK.at]⟩
  ·cases h
 ·split at h
  ·rename_i hs; cases h; exact ⟨rfl, fun H => by simp [op1, hs, MkK.at]⟩
  ·cases h
 ·split at h
  ·rename_i i k1 n k2 m hi h1 h2
   split at h
   ·rename_i e hd
    split at h
    ·rename_i j hj
     split at h
     ·rename_i hc; cases h; exact ⟨rfl, fun H => by simp only [op1, hi, h1, h2, hd, hj, hc, MkK.at]⟩
     ·cases h
    ·cases h
   ·cases h
  ·cases h
 ·cases h; exact ⟨rfl, fun H => by simp [op1, MkK.at]⟩
 ·rename_i as ts
  split at h
  ·rename_i t t2 rows y hts he
   split at h
   ·rename_i i i2 hi hi2
    split at h
    ·rename_i e e2 hd hd2
     split at h
     ·rename_i j hj
      split at h
      ·rename_i hv
       split at h
       ·rename_i k new hn
        split at h
        ·rename_i hc
         cases h
         refine ⟨rfl, fun H => ?_⟩
         simp only [op1, hts, he, hi, hi2, hd, hd2, hj, hv, Wa hn H, hc, MkK.at]
        ·cases h
       ·cases h
      ·rename_i hv
       split at h
       ·rename_i new hn
        split at h
        ·rename_i hc
         cases h
         refine ⟨rfl, fun H => ?_⟩
         simp only [op1, hts, he, hi, hi2, hd, hd2, hj, hv, Px hn H, hc, MkK.at]
        ·cases h
       ·cases h
      ·cases h
     ·cases h
    ·cases h
   ·cases h
  ·cases h
 ·cases h
def Kq (E : Operand → V) (op : Op) : Bool := CZ op || (Dm op && (Bq E op).isNone)
theorem MB {E : Operand → V} {op : Op} (h : Kq E op = false) : CZ op = false ∧ (Dm op = true → (Bq E op).isSome = true) := by
 simp only [Kq, Bool.or_eq_false_iff, Bool.and_eq_false_iff] at h
 refine ⟨h.1, fun ha => ?_⟩
 rcases h.2 with h2 | h2
 ·rw [ha] at h2; cases h2
 ·cases hx : Bq E op with
  | none => rw [hx] at h2; cases h2
  | some => rfl
theorem Py {m3 : Bool} {op : Op} {id : Nat} {b : AB} (hm3 : m3 = true) (h : (CZ op || Dm op) = true) : Hl m3 op (.put id b) (.blk id) := by
 have hl : Ax op = true := by
  simp only [Bool.or_eq_true] at h
  rcases h with h | h
  ·cases op <;> simp [CZ] at h <;> rfl
  ·exact Kk h
 have hq : AQ op = false := by
  cases hq : AQ op with
  | false => rfl
  | true => rw [Hn hq] at hl; cases hl
 exact ⟨fun h => (by rw [hq] at h; cases h), fun h => (by rw [Km h] at hl; cases hl), fun _ => .inr ⟨rfl, rfl⟩, fun h => (by rw [hm3] at h; cases h)⟩
theorem Pz {m3 : Bool} {op : Op} {id m : Nat} {bs : List AB} (hm3 : m3 = true) (h : D3 op = true) (hl : bs.length = m) : Hl m3 op (.puts id bs) (.blks id m) := by
 subst hl
 have hq : AQ op = false := by
  unfold D3 at h
  split at h
  ·rfl
  ·cases h
 exact ⟨fun h => (by rw [hq] at h; cases h), fun hl => (by simp [D4, hm3, h] at hl), fun _ => .inr ⟨rfl, rfl⟩, fun h => (by rw [hm3] at h; cases h)⟩
def AB.newB (id N0 : Nat) : AB → Bool
 | .cells cs => C.freeL id cs && C.lowL N0 cs
 | .mp [] => true
 | .grow _ _ => true
 | .vec _ _ cs => C.freeL id cs && C.lowL N0 cs
 | _ => false
theorem AB.newB_spec {id N0 : Nat} {b : AB} (h : b.newB id N0 = true) : b.freeP id ∧ b.lowP N0 := by
 cases b with
 | cells cs => simp only [AB.newB, Bool.and_eq_true] at h; exact h
 | vec _ _ cs => simp only [AB.newB, Bool.and_eq_true] at h; exact h
 | mp es =>
  cases es with
  | nil => exact ⟨fun e he => (by cases he), fun e he => (by cases he)⟩
  | cons => cases h
 | grow => exact ⟨trivial, trivial⟩
 | _ => cases h
def EX : List Oper → Nat
 | [] => 0
 | o :: os => EX os + (if CZ o.op || Dm o.op then 1 else 0)
def Kr (ops : Array Oper) : Bool := decide (1 ≤ EX ops.toList) && ops.toList.all fun o => !Ax o.op || Cw true o.op
def okX (nt : Nat) : Code → Bool
 | .seq x y => okX nt x && okX nt y
 | .block _ c => okX nt c
 | .loop c => okX nt c
 | .scope c => okX nt c
 | .cond _ x y => okX nt x && okX nt y
 | .region _ ops false => CV nt ops.toList
 | .region _ ops true => CV nt ops.toList && EV (Kr ops) ops
 | .rangeFunc _ _ a b => okX nt a && okX nt b
 | _ => true
end Go.Abs
