/- What one operation looks at and changes. -/
import Derived.Test.YtfgdbeijjbijnaaGreatDoorJG09
set_option linter.unusedSimpArgs false
set_option linter.unusedVariables false
namespace Go.Abs
open Go
set_option maxHeartbeats 4000000 in
theorem aFs {X : Tx} {H H' : List AB} {E : Operand → V} {op : Op} {c : Bool} {x : V} (hq : Bg op = true) (h : op1 X H E op = some (c, x, H')) (H2 : List AB) : op1 X H2 E op = some (c, x, H2) := by
 unfold op1 at h
 split at h
 all_goals first
  | (simp [Bg, AC] at hq; done)
  | (simp only [op1]; (repeat' split at h) <;> first | (cases h; done) | (simp [Bg, AC] at hq; done) | (simp_all [op1]; done))
def aE1 : C → Option Nat
 | .own id _ => some id
 | .vs id _ => some id
 | .vc id _ => some id
 | _ => none
def aD8 : C → Bool
 | .ms _ _ _ _ => true
 | .vs _ _ => true
 | _ => false
def BN (E : Operand → V) (op : Op) : Option Nat := match op with
 | .call { callee := .builtin .append, args := as, argTypes := _ } => match as.toList.map E with
  | [.c s, .c y] => match aE1 s, aD8 y with
   | some id, false => some id
   | _, _ => none
  | _ => none
 | _ => none
theorem GQ {E : Operand → V} {op : Op} {id : Nat} (h : BN E op = some id) : DL op = true := by
 unfold BN at h
 split at h
 ·rfl
 ·cases h
theorem Ky {op : Op} (h : DL op = true) : AC op = true := by
 unfold DL at h
 split at h
 ·rfl
 ·cases h
theorem Pb {op : Op} (h : DL op = true) : Bg op = false := by
 unfold DL at h
 split at h
 ·rfl
 ·cases h
theorem Rv {op : Op} (h : DL op = true) : Da op = false ∧ BA op = false ∧ EI op = false := by
 unfold DL at h
 split at h
 ·exact ⟨rfl, rfl, rfl⟩
 ·cases h
theorem Pc {H H2 : List AB} {sz : Nat} {y : C} (h : aD8 y = false) : C4 H sz y = C4 H2 sz y := by
 cases y <;> first | rfl | cases h
theorem Pd {H H2 : List AB} {sz : Nat} {y : C} (h : aD8 y = false) : Fz H sz y = Fz H2 sz y := by
 cases y <;> first | rfl | cases h
theorem Vq {sz k : Nat} {y : C} {new : List C} (h : Fz [] sz y = some (k, new)) (H : List AB) : Fz H sz y = some (k, new) := by
 cases y <;> first | exact h | (simp [Fz] at h)
theorem Pe {sz : Nat} {y : C} {new : List (List D)} (h : C4 [] sz y = some new) (H : List AB) : C4 H sz y = some new := by
 cases y <;> first | exact h | (simp [C4] at h)
set_option maxHeartbeats 4000000 in
theorem Vr {X : Tx} {H H' : List AB} {E : Operand → V} {op : Op} {c : Bool} {x : V} {id : Nat} (ha : BN E op = some id) (h : op1 X H E op = some (c, x, H')) :
  ∃ b, id < H.length ∧ H' = H.set id b ∧ ∀ H2 : List AB, H2[id]? = H[id]? → op1 X H2 E op = some (c, x, H2.set id b) := by
 unfold BN at ha
 split at ha
 ·rename_i as ts
  split at ha
  ·rename_i s y he
   split at ha
   ·rename_i id' hs hy
    cases ha
    simp only [op1, he] at h ⊢
    generalize ts.toList = tl at h ⊢
    rcases tl with _ | ⟨t, _ | ⟨t2, _ | ⟨t3, tl⟩⟩⟩
    ·simp at h
    ·simp at h
    ·simp only at h ⊢
     cases h1 : X.tt t with
     | none => rw [h1] at h; simp at h
     | some i =>
     cases h2 : X.tt t2 with
     | none => rw [h1, h2] at h; simp at h
     | some i2 =>
     rw [h1, h2] at h
     simp only at h ⊢
     split at h
     ·rename_i e e2 hd hd2
      split at h
      ·rename_i j hj
       split at h
       ·rename_i id2 n hv
        obtain rfl := OW hv
        cases hs
        split at h
        ·rename_i m sz cs k new hid hsrc
         cases h
         refine ⟨_, (List.getElem?_eq_some_iff.1 hid).1, rfl, fun H2 h2 => ?_⟩
         rw [Pd (H2 := H) hy, hsrc]
         simp only [h2, hid]
        ·cases h
       ·rename_i id2 n hv
        obtain rfl := OX hv
        cases hs
        split at h
        ·rename_i m sz cs k new hid hsrc
         cases h
         refine ⟨_, (List.getElem?_eq_some_iff.1 hid).1, rfl, fun H2 h2 => ?_⟩
         rw [Pd (H2 := H) hy, hsrc]
         simp only [h2, hid]
        ·cases h
       ·rename_i hv
        obtain rfl := OY hv
        cases hs
       ·split at h
        ·rename_i new hn
         split at h
         ·rename_i id2 rows _
          cases hs
          split at h
          ·rename_i n sz hid
           cases h
           refine ⟨_, (List.getElem?_eq_some_iff.1 hid).1, rfl, fun H2 h2 => ?_⟩
           rw [Pc (H2 := H) hy, hn]
           simp only [h2, hid]
          ·cases h
         ·cases hs
         ·cases h
        ·cases h
      ·cases h
     ·cases h
    ·simp at h
   ·cases ha
  ·cases ha
 ·cases ha
def B9 (X : Tx) (E : Operand → V) (op : Op) : DR :=
 if Bg op then .none else match op with
 | .load t x => match X.tt t, E x with
  | some i, .c (.ptr id off) => .win id off i.size
  | some _, .c (.vp id _ _) => .blk id
  | some _, .c (.gp _) => .all
  | _, _ => .none
 | .store _ a x => match E a with
  | .c (.ptr id off) => .win id off (E x).cs.length
  | .c (.vp id _ _) => .blk id
  | _ => .none
 | .lookup _ m _ _ => match E m with
  | .c (.mp id) => .blk id
  | _ => .none
 | .call { callee := .builtin .len, args := as, argTypes := _ } => match as.toList.map E with
  | [.c (.mp id)] => .blk id
  | _ => .none
 | op => match BN E op with
  | some id => .blk id
  | none => .all
def Ca (E : Operand → V) (op : Op) (H' : List AB) : Eff := match op with
 | .store _ a x => match E a with
  | .c (.ptr id off) => .patch id off (E x).cs
  | .c (.vp id _ _) => match H'[id]? with
   | some b => .upd id b
   | none => .no
  | _ => .no
 | op => match BN E op with
  | some id => match H'[id]? with
   | some b => .upd id b
   | none => .no
  | none => if AC op then .to H' else .no
theorem Fb {E : Operand → V} {op : Op} {H' : List AB} (hs : BA op = false) (ha : BN E op = none) : Ca E op H' = if AC op then .to H' else .no := by
 cases op <;> first | (simp [BA] at hs; done) | (simp only [Ca, ha])
theorem Gd {E : Operand → V} {op : Op} {H' : List AB} {id : Nat} (ha : BN E op = some id) : Ca E op H' = match H'[id]? with | some b => .upd id b | none => .no := by
 have hs := (Rv (GQ ha)).2.1
 cases op <;> first | (simp [BA] at hs; done) | (simp only [Ca, ha])
theorem Kz {X : Tx} {E : Operand → V} {op : Op} {id : Nat} (ha : BN E op = some id) : B9 X E op = .blk id := by
 have hq := Pb (GQ ha)
 have h := ha
 unfold BN at h
 split at h
 ·unfold B9
  rw [hq]
  simp only [Bool.false_eq_true, if_false, ha]
 ·cases h
theorem N4 {E : Operand → V} {op : Op} (h : AC op = false) : BN E op = none := by
 cases ha : BN E op with
 | none => rfl
 | some id => rw [Ky (GQ ha)] at h; cases h
theorem Hx {op : Op} (h : Bg op = true) : AC op = false := by
 cases op with
 | call c =>
  obtain ⟨callee, args, ts⟩ := c
  cases callee with
  | builtin b => cases b <;> simp [Bg, AC] at h ⊢
  | _ => rfl
 | _ => simp [Bg, AC] at h ⊢
theorem KA {m3 : Bool} {op : Op} (h : DX m3 op = false) : AC op = false := by
 simp only [DX, Bool.or_eq_false_iff] at h; exact h.1
theorem Vs {X : Tx} {H : List AB} {E : Operand → V} {op : Op} (h : Db op = true) : op1 X H E op = none := by
 unfold Db at h
 split at h
 ·simp [op1]
 ·cases h
theorem Hy {X : Tx} {E : Operand → V} {op : Op} {H H' : List AB} {c : Bool} {x : V} (m3 : Bool) (hm : m3 = true → Da op = false ∧ (DL op = true → (BN E op).isSome = true)) (h : op1 X H E op = some (c, x, H')) : Gu m3 op (Ca E op H') (B9 X E op) := by
 have quiet : AC op = false → Ca E op H' = .no := fun hl => by
  have hs : BA op = false := by cases op <;> first | rfl | (simp [AC] at hl; done)
  rw [Fb hs (N4 hl), hl]; rfl
 refine ⟨fun hq => ⟨quiet (Hx hq), by simp [B9, hq]⟩, fun hl => quiet (KA hl), fun hs => ?_, fun _ => ?_⟩
 ·cases ha : BN E op with
  | some id =>
   rw [Gd ha, Kz ha]
   split
   ·exact .inr ⟨rfl, rfl⟩
   ·exact .inl rfl
  | none =>
   have hst : BA op = true := by
    simp only [CT, Bool.or_eq_true, Bool.and_eq_true] at hs
    rcases hs with hs | ⟨h1, (h2 | h2) | h2⟩
    ·exact hs
    ·rw [(hm h1).1] at h2; cases h2
    ·have := (hm h1).2 h2; rw [ha] at this; cases this
    ·rw [Vs h2] at h; cases h
   cases op <;> simp [BA] at hst
   simp only [Ca, B9]
   split
   ·exact .inr ⟨by simp [Bg, AC, Eff.foot], rfl⟩
   ·split
    ·exact .inr ⟨by simp [Bg, AC, Eff.foot], rfl⟩
    ·exact .inl rfl
   ·exact .inl rfl
 ·cases ha : BN E op with
  | some id => rw [Gd ha]; split <;> rfl
  | none =>
   cases hs : BA op with
   | false => rw [Fb hs ha]; split <;> rfl
   | true =>
    cases op <;> simp [BA] at hs
    simp only [Ca]
    split
    ·rfl
    ·split <;> rfl
    ·rfl
theorem aD9 {i : TI} {cs cs' : List C} {off : Nat} (h3 : cs.length = cs'.length) (h4 : ∀ j, off ≤ j → j < off + i.size → cs[j]? = cs'[j]?) (hs : BS i.desc = false → 0 < i.size) : mkV i cs off = mkV i cs' off := by
 unfold mkV
 cases ha : BS i.desc with
 | true =>
  simp only [if_true]
  congr 1
  refine List.ext_getElem? fun j => ?_
  simp only [List.getElem?_take, List.getElem?_drop]
  split
  ·exact h4 _ (by omega) (by omega)
  ·rfl
 | false =>
  have := hs ha
  simp only [Bool.false_eq_true, if_false]
  rw [h4 off (Nat.le_refl _) (by omega)]
set_option maxHeartbeats 4000000 in
theorem T2 {X : Tx} {H H' : List AB} {E : Operand → V} {op : Op} {c : Bool} {x : V} (hl : AC op = false) (h : op1 X H E op = some (c, x, H')) : H' = H := by
 unfold op1 at h
 split at h
 all_goals first
  | (simp [AC] at hl; done)
  | (repeat' split at h) <;> first | (cases h; rfl) | (cases h; done) | (simp [AC] at hl; done) | (simp at h; done) | (simp at h; exact h.2.2.symm)
theorem Rw {X : Tx} {E : Operand → V} {op : Op} (hq : Bg op = false) (hw : Et false op = false) (ha : BN E op = none) : B9 X E op = .all := by
 unfold B9
 rw [hq]
 cases op with
 | call c =>
  obtain ⟨callee, args, ts⟩ := c
  cases callee with
  | builtin b => cases b <;> first | (simp [Et, EI, CT, BA] at hw; done) | (simp only [Bool.false_eq_true, if_false, ha]; done) | rfl
  | _ => first | (simp only [Bool.false_eq_true, if_false, ha]; done) | rfl
 | _ => first | (simp [Et, EI, CT, BA] at hw; done) | (simp only [Bool.false_eq_true, if_false, ha]; done) | rfl
theorem T3 {E : Operand → V} {op : Op} {H' : List AB} (hw : BA op = false) (ha : BN E op = none) : Ca E op H' = if AC op then .to H' else .no := Fb hw ha
theorem KB {X : Tx} {H H' : List AB} {E : Operand → V} {op : Op} {c : Bool} {x : V} (h : op1 X H E op = some (c, x, H')) : (∀ H2, sim (B9 X E op) H2 H → op1 X H2 E op = some (c, x, (Ca E op H').app H2)) ∧ (Ca E op H').app H = H' := by
 have key : ∀ H2, sim (B9 X E op) H2 H → op1 X H2 E op = some (c, x, (Ca E op H').app H2) := by
  intro H2 hs
  cases hq : Bg op with
  | true =>
   have e : Ca E op H' = .no := (Hy false (fun h => by cases h) h).1 hq |>.1
   rw [e]
   exact aFs hq h H2
  | false =>
   cases ha : BN E op with
   | some id =>
    rw [Kz ha] at hs
    obtain ⟨b, hlt, rfl, hk⟩ := Vr ha h
    rw [hk H2 hs, Gd ha]
    simp [hlt, Eff.app]
   | none =>
   cases hw : Et false op with
   | false =>
    rw [Rw hq hw ha] at hs
    have e : H2 = H := hs
    subst e
    rw [h, T3 (by simp [Et, CT] at hw; exact hw.2) ha]
    cases hl : AC op with
    | true => rfl
    | false => rw [T2 hl h]; rfl
   | true =>
   cases op with
   | load t a =>
    simp only [B9, hq, Bool.false_eq_true, if_false] at hs
    have e : Ca E (.load t a) H' = .no := rfl
    rw [e]
    simp only [Eff.app]
    simp only [op1] at h ⊢
    split at h
    ·rename_i i id off ht hx
     simp only [ht, hx] at hs ⊢
     split at h
     ·rename_i cs hid
      cases h
      rcases hs with hs | ⟨ds, ds', h1, h2, h3, h4⟩
      ·rw [hs, hid]
      ·rw [hid] at h2
       cases h2
       simp only [h1, h3]
       rw [aD9 h3 h4 (fun ha => by have := X.ok.one t i ht ha; omega)]
     ·cases h
    ·rename_i i id n off ht hx
     simp only [ht, hx] at hs ⊢
     have hs : H2[id]? = H[id]? := hs
     rw [hs]
     split at h
     ·rename_i m sz cs hid
      cases h
      simp only [hid]
     ·cases h
    ·rename_i i ds ht hx
     simp only [ht, hx] at hs ⊢
     cases h; rfl
    ·rename_i i g ht hx
     simp only [ht, hx] at hs ⊢
     have hs : H2 = H := hs
     subst hs
     split at h
     ·rename_i ds hg
      cases h
      rfl
     ·cases h
    ·cases h
   | store t a y =>
    simp only [B9, hq, Bool.false_eq_true, if_false] at hs
    simp only [op1] at h ⊢
    split at h
    ·rename_i i id off ht hx
     simp only [hx] at hs
     simp only [ht, hx, Ca]
     split at h
     ·rename_i cs hid
      cases h
      rcases hs with hs | ⟨ds, ds', h1, h2, h3, h4⟩
      ·rw [hs, hid]
       simp [Eff.app, Ds, hs, hid]
      ·rw [hid] at h2
       cases h2
       simp only [h1, h3]
       simp [Eff.app, Ds, h1]
     ·cases h
    ·rename_i i id n off ht hx
     simp only [hx] at hs
     simp only [ht, hx, Ca]
     have hs : H2[id]? = H[id]? := hs
     rw [hs]
     split at h
     ·rename_i m sz cs hid
      cases h
      have hlt := (List.getElem?_eq_some_iff.1 hid).1
      simp [hid, hlt, Eff.app]
     ·cases h
    ·cases h
   | lookup t m k ok =>
    have e : Ca E (.lookup t m k ok) H' = .no := rfl
    rw [e]
    unfold B9 at hs; rw [hq] at hs
    simp only [Bool.false_eq_true, if_false] at hs
    simp only [op1] at h ⊢
    split at h
    ·rename_i i id ht hx
     simp only [hx] at hs
     have hs : H2[id]? = H[id]? := hs
     simp only [ht, hx, hs]
     split at h
     ·rename_i kt et es hd hid
      split at h
      ·rename_i j o hj ho
       cases h
       first | rfl | (simp only [hd, hid, hj, ho]; rfl) | (simp only [hd, hid, hj, ho])
      ·cases h
     ·cases h
    ·cases h
   | call c =>
    obtain ⟨callee, args, ts⟩ := c
    cases callee with
    | builtin b =>
     cases b <;> first | (simp [Et, EI, CT, BA, Da] at hw; done) | skip
     have e : Ca E (.call { callee := .builtin .len, args := args, argTypes := ts }) H' = .no := rfl
     rw [e]
     unfold B9 at hs; rw [hq] at hs
     simp only [Bool.false_eq_true, if_false] at hs
     simp only [op1] at h ⊢
     generalize ts.toList = tl at h ⊢
     generalize args.toList.map E = vl at h hs ⊢
     rcases tl with _ | ⟨t, _ | ⟨t2, tl⟩⟩ <;> rcases vl with _ | ⟨x1, _ | ⟨x2, vl⟩⟩ <;> try (simp at h; done)
     simp only at h ⊢
     split at h
     ·rename_i i hi
      split at h
      ·rename_i el cc hd
       split at h
       ·rename_i n hn; cases h; first | rfl | (simp only [hi, hd, hn]; rfl) | simp [hi, hd, hn, Eff.app]
       ·cases h
      ·rename_i n el hd; cases h; first | rfl | (simp only [hi, hd]; rfl) | simp [hi, hd, Eff.app]
      ·rename_i kt et id hd
       have hs : H2[id]? = H[id]? := hs
       split at h
       ·rename_i es hid; cases h; first | (simp only [hi, hd, hs, hid]; rfl) | simp [hi, hd, hs, hid, Eff.app]
       ·cases h
      ·cases h
     ·cases h
    | value f => simp [op1] at h
    | _ => simp [Et, EI, CT, BA, Da] at hw
   | _ => simp [Et, EI, CT, BA] at hw
 refine ⟨key, ?_⟩
 have := key H (Hu _ _)
 rw [h] at this
 injection this with this
 injection this with _ this
 injection this with _ this
 exact this.symm
theorem KC (m3 : Bool) (op : Op) : Gu m3 op .no .none := ⟨fun _ => ⟨rfl, rfl⟩, fun _ => rfl, fun _ => .inl rfl, fun _ => rfl⟩
theorem KD {E : Operand → V} {op : Op} {H' : List AB} : (Ca E op H').hole = none := by
 cases ha : BN E op with
 | some id => rw [Gd ha]; split <;> rfl
 | none =>
  cases hs : BA op with
  | false => rw [Fb hs ha]; split <;> rfl
  | true =>
   cases op <;> simp [BA] at hs
   simp only [Ca]
   split
   ·rfl
   ·split <;> rfl
   ·rfl
def Rx (X : Tx) (E : Operand → V) (op : Op) : Option (MkK × AB) := match op with
 | .alloc t => match X.tt t with
  | some i => some (.ptr, .cells i.zero.cs)
  | none => none
 | .box _ x => if (E x).solid then some (.ptr, .cells (E x).cs) else none
 | .makeSlice t l c => match X.tt t, E l, E c with
  | some i, .c (.d (.int _ n)), .c (.d (.int _ m)) => match i.desc with
   | .slice e => match X.tt e with
    | some j => if decide (0 ≤ n) && decide (n ≤ m) && decide ((j.bytes : Int) * m ≤ 140737488355328) && decide (m ≤ lim) then some (.ms n.toNat m.toNat, .cells (zc j.zero.cs m.toNat)) else none
    | none => none
   | _ => none
  | _, _, _ => none
 | .makeMap _ none => some (.mp, .mp [])
 | .call { callee := .builtin .append, args := as, argTypes := ts } => match ts.toList, as.toList.map E with
  | [t, t2], [.c (.full rows), .c y] => match X.tt t, X.tt t2 with
   | some i, some i2 => match i.desc, i2.desc with
    | .slice e, .slice _ => match X.tt e with
     | some j => match NO X.vm (.full rows) with
      | .new => match Fz [] j.size y with
       | some (k, new) => if decide (0 < j.size) && decide ((k + k / 4 + 256) * j.bytes ≤ 281474976710656) && decide (k ≤ lim) then some (.vs k, .vec k j.size new) else none
       | none => none
      | .none => match C4 [] j.size y with
       | some new => if decide (0 < j.size) && rows.all (fun r => r.length == j.size) && new.all (fun r => r.length == j.size) && decide ((rows.length + new.length + (rows.length + new.length) / 4 + 256) * j.bytes ≤ 281474976710656) && decide (rows.length + new.length ≤ lim)
        then some (.own (rows ++ new), .grow (rows.length + new.length) j.size) else none
       | none => none
      | _ => none
     | none => none
    | _, _ => none
   | _, _ => none
  | _, _ => none
 | _ => none
theorem MH {X : Tx} {E : Operand → V} {op : Op} {k : MkK} {b : AB} (h : Rx X E op = some (k, b)) : (Da op || DL op) = true ∧ ∀ H, op1 X H E op = some (true, .c (k.at H.length), H ++ [b]) := by
 unfold Rx at h
 split at h
 ·split at h
  ·rename_i i hi; cases h; exact ⟨rfl, fun H => by simp [op1, hi, MkK.at]⟩
  ·cases h
 ·split at h
  ·rename_i hs; cases h; exact ⟨rfl, fun H => by simp [op1, hs, MkK.at]⟩
  ·cases h
 ·split at h
  ·rename_i i k1 n k2 m hi h1 h2
   split at h
   ·rename_i e hd
    split at h
    ·rename_i j hj
     split at h
     ·rename_i hc; cases h; exact ⟨rfl, fun H => by simp only [op1, hi, h1, h2, hd, hj, hc, MkK.at]⟩
     ·cases h
    ·cases h
   ·cases h
  ·cases h
 ·cases h; exact ⟨rfl, fun H => by simp [op1, MkK.at]⟩
 ·rename_i as ts
  split at h
  ·rename_i t t2 rows y hts he
   split at h
   ·rename_i i i2 hi hi2
    split at h
    ·rename_i e e2 hd hd2
     split at h
     ·rename_i j hj
      split at h
      ·rename_i hv
       split at h
       ·rename_i k new hn
        split at h
        ·rename_i hc
         cases h
         refine ⟨rfl, fun H => ?_⟩
         simp only [op1, hts, he, hi, hi2, hd, hd2, hj, hv, Vq hn H, hc, MkK.at]
        ·cases h
       ·cases h
      ·rename_i hv
       split at h
       ·rename_i new hn
        split at h
        ·rename_i hc
         cases h
         refine ⟨rfl, fun H => ?_⟩
         simp only [op1, hts, he, hi, hi2, hd, hd2, hj, hv, Pe hn H, hc, MkK.at]
        ·cases h
       ·cases h
      ·cases h
     ·cases h
    ·cases h
   ·cases h
  ·cases h
 ·cases h
def KE (E : Operand → V) (op : Op) : Bool := Da op || (DL op && (BN E op).isNone)
theorem MI {E : Operand → V} {op : Op} (h : KE E op = false) : Da op = false ∧ (DL op = true → (BN E op).isSome = true) := by
 simp only [KE, Bool.or_eq_false_iff, Bool.and_eq_false_iff] at h
 refine ⟨h.1, fun ha => ?_⟩
 rcases h.2 with h2 | h2
 ·rw [ha] at h2; cases h2
 ·cases hx : BN E op with
  | none => rw [hx] at h2; cases h2
  | some => rfl
theorem Pf {m3 : Bool} {op : Op} {id : Nat} {b : AB} (hm3 : m3 = true) (h : (Da op || DL op) = true) : Gu m3 op (.put id b) (.blk id) := by
 have hl : AC op = true := by
  simp only [Bool.or_eq_true] at h
  rcases h with h | h
  ·cases op <;> simp [Da] at h <;> rfl
  ·exact Ky h
 have hq : Bg op = false := by
  cases hq : Bg op with
  | false => rfl
  | true => rw [Hx hq] at hl; cases hl
 exact ⟨fun h => (by rw [hq] at h; cases h), fun h => (by rw [KA h] at hl; cases hl), fun _ => .inr ⟨rfl, rfl⟩, fun h => (by rw [hm3] at h; cases h)⟩
theorem Ry {m3 : Bool} {op : Op} {id : Nat} {b : AB} (hm3 : m3 = true) (h : Db op = true) : Gu m3 op (.put id b) (.blk id) := by
 have hq : Bg op = false := by
  unfold Db at h
  split at h
  ·rfl
  ·cases h
 exact ⟨fun h => (by rw [hq] at h; cases h), fun hl => (by simp [DX, hm3, h] at hl), fun _ => .inr ⟨rfl, rfl⟩, fun h => (by rw [hm3] at h; cases h)⟩
theorem Pg {m3 : Bool} {op : Op} {id m : Nat} {bs : List AB} (hm3 : m3 = true) (h : Db op = true) (hl : bs.length = m) : Gu m3 op (.puts id bs) (.blks id m) := by
 subst hl
 have hq : Bg op = false := by
  unfold Db at h
  split at h
  ·rfl
  ·cases h
 exact ⟨fun h => (by rw [hq] at h; cases h), fun hl => (by simp [DX, hm3, h] at hl), fun _ => .inr ⟨rfl, rfl⟩, fun h => (by rw [hm3] at h; cases h)⟩
def AB.newB (id N0 : Nat) : AB → Bool
 | .cells cs => C.freeL id cs && C.lowL N0 cs
 | .mp [] => true
 | .grow _ _ => true
 | .vec _ _ cs => C.freeL id cs && C.lowL N0 cs
 | _ => false
theorem AB.newB_spec {id N0 : Nat} {b : AB} (h : b.newB id N0 = true) : b.freeP id ∧ b.lowP N0 := by
 cases b with
 | cells cs => simp only [AB.newB, Bool.and_eq_true] at h; exact h
 | vec _ _ cs => simp only [AB.newB, Bool.and_eq_true] at h; exact h
 | mp es =>
  cases es with
  | nil => exact ⟨fun e he => (by cases he), fun e he => (by cases he)⟩
  | cons => cases h
 | grow => exact ⟨trivial, trivial⟩
 | _ => cases h
def Fc : List Oper → Nat
 | [] => 0
 | o :: os => Fc os + (if Da o.op || DL o.op then 1 else 0)
def KF (ops : Array Oper) : Bool := decide (1 ≤ Fc ops.toList) && ops.toList.all fun o => !AC o.op || CT true o.op
def okX (nt : Nat) : Code → Bool
 | .seq x y => okX nt x && okX nt y
 | .block _ c => okX nt c
 | .loop c => okX nt c
 | .scope c => okX nt c
 | .cond _ x y => okX nt x && okX nt y
 | .region _ ops false => C6 nt ops.toList
 | .region _ ops true => C6 nt ops.toList && Fa (KF ops) ops
 | .rangeFunc _ _ a b => okX nt a && okX nt b
 | _ => true
end Go.Abs
