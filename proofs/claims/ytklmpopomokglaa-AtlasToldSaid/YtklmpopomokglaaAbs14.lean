/- One operation's step, as a function on abstract states; it is right. -/
import Derived.Test.YtklmpopomokglaaAbsM
import Derived.Test.YtklmpopomokglaaAbs4
set_option linter.unusedSimpArgs false
set_option linter.unusedVariables false
namespace Go.Abs
open Go

def vIte (t : Bool) (a b : V) : V :=
  match a, b with
  | .c (.d (.bool x)), .c (.d (.bool y)) => B (bif t then x else y)
  | _, _ => if t then a else b

def consOf : List V → Option (List C)
  | [] => some []
  | .c x :: r => (consOf r).map (x :: ·)
  | _ => none

def bound (E : Operand → V) (a : Option Operand) (n : Int) : Option Int :=
  match a with
  | some x => match E x with
    | .c (.d (.int _ m)) => some m
    | _ => none
  | none => some n

def op1 (X : Tx) (H : List AB) (E : Operand → V) (op : Op) : Option (Bool × V × List AB) :=
  match op with
  | .move x | .assign x => some (true, E x, H)
  | .pick c a b => match E c with
    | .c (.d (.bool t)) => some (true, vIte t (E a) (E b), H)
    | _ => none
  | .alloc t => match X.tt t with
    | some i => some (true, .c (.ptr H.length 0), H ++ [.cells i.zero.cs])
    | none => none
  | .box _ x => some ((E x).solid, .c (.ptr H.length 0), H ++ [.cells (E x).cs])
  | .load t x => match X.tt t, E x with
    | some i, .c (.ptr id off) => match H[id]? with
      | some (.cells cs) => some (decide (off + i.size ≤ cs.length), mkV i cs off, H)
      | _ => none
    | some i, .c (.dp ds) => some (decide (i.size ≤ ds.length), mkV i (ds.map .d) 0, H)
    | _, _ => none
  | .store t a x => match X.tt t, E a with
    | some i, .c (.ptr id off) => match H[id]? with
      | some (.cells cs) => some ((E x).solid && decide ((E x).cs.length = i.size) && decide (off + i.size ≤ cs.length), .c .any, H.set id (.cells (setMany cs off (E x).cs)))
      | _ => none
    | _, _ => none
  | .nilCheck x => match E x with
    | .c (.ptr id off) => some (true, .c (.ptr id off), H)
    | .c (.dp ds) => some (true, .c (.dp ds), H)
    | .c (.fn (.func f) cs) => some (true, .c (.fn (.func f) cs), H)
    | _ => none
  | .binOp op t x y _ => match binV X op t (E x) (E y) with
    | some (c, z) => some (c, z, H)
    | none => none
  | .unOp u _ x => match u, E x with
    | .not, .c (.d (.bool b)) => some (true, B (!b), H)
    | .neg, .c (.d (.int k n)) => some (true, .c (.d (.int k (wr k (-n)))), H)
    | _, _ => none
  | .convert s t x => match X.tt s, X.tt t, E x with
    | some _, some j, .c (.d (.int _ n)) => match j.desc with
      | .int k => some (true, .c (.d (.int k (wr k n))), H)
      | _ => none
    | _, _, _ => none
  | .makeFunc f first caps => if first.isEmpty then match consOf (caps.toList.map E) with
    | some cs => some (true, .c (.fn f cs), H)
    | none => none
    else none
  | .makeMap _ none => some (true, .c (.mp H.length), H ++ [.mp []])
  | .makeSlice t l c => match X.tt t, E l, E c with
    | some i, .c (.d (.int _ n)), .c (.d (.int _ m)) => match i.desc with
      | .slice e => match X.tt e with
        | some j => some (decide (0 ≤ n) && decide (n ≤ m) && decide ((j.bytes : Int) * m ≤ 140737488355328) && decide (m ≤ lim), .c (.ms H.length 0 n.toNat m.toNat), H ++ [.cells (zc j.zero.cs m.toNat)])
        | none => none
      | _ => none
    | _, _, _ => none
  | .fieldAddr t x f => match X.tt t with
    | some i => match i.desc with
      | .struct fs => match fs[f]? with
        | some fd => match X.tt fd.type, E x with
          | some j, .c (.ptr id off) => some (!(j.size == 0), .c (.ptr id (off + fd.offset)), H)
          | some j, .c (.dp ds) => some (!(j.size == 0), .c (.dp (ds.drop fd.offset)), H)
          | _, _ => none
        | none => none
      | _ => none
    | none => none
  | .field t x f => match X.tt t with
    | some i => match i.desc with
      | .struct fs => match fs[f]? with
        | some fd => match X.tt fd.type, E x with
          | some j, .agg cs => some (decide (fd.offset + j.size ≤ cs.length), mkV j cs fd.offset, H)
          | _, _ => none
        | none => none
      | _ => none
    | none => none
  | .indexAddr t x y => match X.tt t, E y with
    | some i, .c (.d (.int _ n)) => match i.desc with
      | .array len e => match X.tt e, E x with
        | some j, .c (.ptr id off) => some (decide (0 ≤ n) && decide (n < len), .c (.ptr id (off + n.toNat * j.size)), H)
        | some j, .c (.dp ds) => some (decide (0 ≤ n) && decide (n < len), .c (.dp (ds.drop (n.toNat * j.size))), H)
        | _, _ => none
      | .slice e => match X.tt e, E x with
        | some j, .c (.ms id off len _) => some (decide (0 ≤ n) && decide (n < len), .c (.ptr id (off + n.toNat * j.size)), H)
        | some j, .c x => match rowsOf x with
          | some rows => some (decide (0 ≤ n) && decide (n < rows.length) && decide ((rows[n.toNat]?.getD []).length = j.size), .c (.dp (rows[n.toNat]?.getD [])), H)
          | none => none
        | _, _ => none
      | _ => none
    | _, _ => none
  | .index t x y => match X.tt t, E y with
    | some i, .c (.d (.int _ n)) => match i.desc with
      | .array len e => match X.tt e, E x with
        | some j, .agg cs => some (decide (0 ≤ n) && decide (n < len) && decide (n.toNat * j.size + j.size ≤ cs.length), mkV j cs (n.toNat * j.size), H)
        | _, _ => none
      | _ => none
    | _, _ => none
  | .extract x n => match E x with
    | .tup vs => match vs[n]? with
      | some v => some (true, v, H)
      | none => none
    | _ => none
  | .build t parts => match X.tt t with
    | some i => match i.desc with
      | .struct fs => match fillC (placeS X.tt fs) i.zero.cs (parts.toList.map fun p => (p.1, E p.2)) with
        | some cs => some (fs.toList.all (fun f => (X.tt f.type).isSome), .agg cs, H)
        | none => none
      | .array _ e => match X.tt e with
        | some j => match fillC (fun k => some (k * j.size, j.size)) i.zero.cs (parts.toList.map fun p => (p.1, E p.2)) with
          | some cs => some (true, .agg cs, H)
          | none => none
        | none => none
      | _ => none
    | none => none
  | .buildSlice t n parts => match X.tt t with
    | some i => match i.desc with
      | .slice e => match X.tt e with
        | some j => match fillC (fun k => some (k * j.size, j.size)) (zc j.zero.cs n) (parts.toList.map fun p => (p.1, E p.2)) with
          | some cs => match toDs cs with
            | some ds => some (decide (n * j.size ≤ 16777216) && decide (n ≤ lim), .c (.full (chunk j.size n ds)), H)
            | none => none
          | none => none
        | none => none
      | _ => none
    | none => none
  | .slice t x lo hi mx => match X.tt t with
    | some i => match i.desc with
      | .array n e => match X.tt e, lo, hi, mx, E x with
        | some _, none, none, none, .c (.ptr id off) => some (true, .c (.ms id off n n), H)
        | some j, lo, hi, mx, .c (.ptr id off) => match bound E lo 0, bound E hi n, bound E mx n with
          | some l, some h, some m => some (decide (0 ≤ l) && decide (l ≤ h) && decide (h ≤ m) && decide (m ≤ n) && (mx.isNone || hi.isSome), .c (cutMs j.size id off l.toNat h.toNat m.toNat), H)
          | _, _, _ => none
        | _, _, _, _, _ => none
      | .slice e => match X.tt e, E x with
        | some j, .c (.ms id off len cap) => match bound E lo 0, bound E hi len, bound E mx cap with
          | some l, some h, some m => some (decide (0 ≤ l) && decide (l ≤ h) && decide (h ≤ m) && decide (m ≤ cap) && (mx.isNone || hi.isSome), .c (cutMs j.size id off l.toNat h.toNat m.toNat), H)
          | _, _, _ => none
        | some j, .c x => match rowsOf x with
          | some rows =>
            match bound E lo 0, bound E hi rows.length with
            | some l, some h =>
              match mx with
              | none => some (decide (0 ≤ l) && decide (l ≤ h) && decide (h ≤ rows.length) && rows.all (fun r => r.length == j.size), .c (.d (.sl ((rows.take h.toNat).drop l.toNat))), H)
              | some b => match E b with
                | .c (.d (.int _ m)) => some (decide (0 ≤ l) && decide (l ≤ h) && decide (h ≤ rows.length) && decide (m = h) && hi.isSome && rows.all (fun r => r.length == j.size), .c (.full ((rows.take h.toNat).drop l.toNat)), H)
                | _ => none
            | _, _ => none
          | none => none
        | _, _ => none
      | _ => none
    | none => none
  | .lookup t m k ok => match X.tt t, E m with
    | some i, .c (.mp id) => match i.desc, H[id]? with
      | .map kt et, some (.mp es) => match X.tt et, findE (E k) es 0 with
        | some j, some o => some (keyOk X kt (E k), lookV ok j o, H)
        | _, _ => none
      | _, _ => none
    | _, _ => none
  | .mapUpdate t m k x => match X.tt t, E m with
    | some i, .c (.mp id) => match i.desc, H[id]? with
      | .map kt _, some (.mp es) => match findE (E k) es 0 with
        | some o => some (keyOk X kt (E k), .c .any, H.set id (.mp (updE (E k) (E x) es o)))
        | none => none
      | _, _ => none
    | _, _ => none
  | .call { callee := .builtin b, args := as, argTypes := ts } =>
    match b, ts.toList, as.toList.map E with
    | .len, [t], [x] => match X.tt t with
      | some i => match i.desc, x with
        | .slice _, .c c => match lenC c with
          | some n => some (true, I n, H)
          | none => none
        | .array n _, _ => some (true, I n, H)
        | .map _ _, .c (.mp id) => match H[id]? with
          | some (.mp es) => some (true, I es.length, H)
          | _ => none
        | _, _ => none
      | none => none
    | .min, _, vs => match intsOf vs with
      | some (k, m :: l) => some (true, .c (.d (.int k (minL m l))), H)
      | _ => none
    | .max, _, vs => match intsOf vs with
      | some (k, m :: l) => some (true, .c (.d (.int k (maxL m l))), H)
      | _ => none
    | .append, [t, t2], [.c s, .c y] => match X.tt t, X.tt t2 with
      | some i, some i2 => match i.desc, i2.desc with
        | .slice e, .slice _ => match X.tt e with
          | some j => match srcRows H j.size y with
           | some new =>
            match s with
            | .own id rows => match H[id]? with
              | some (.grow n sz) =>
                some (decide (n = rows.length) && decide (sz = j.size) && decide (0 < j.size) && rows.all (fun r => r.length == j.size) && new.all (fun r => r.length == j.size) && decide ((2 * (rows.length + new.length) + 193) * j.bytes ≤ 140737488355328) && decide (rows.length + new.length ≤ lim),
                  .c (.own id (rows ++ new)), H.set id (.grow (rows.length + new.length) j.size))
              | _ => none
            | .full rows =>
              some (decide (0 < j.size) && rows.all (fun r => r.length == j.size) && new.all (fun r => r.length == j.size) && decide ((2 * (rows.length + new.length) + 193) * j.bytes ≤ 140737488355328) && decide (rows.length + new.length ≤ lim),
                .c (.own H.length (rows ++ new)), H ++ [.grow (rows.length + new.length) j.size])
            | _ => none
           | none => none
          | none => none
        | _, _ => none
      | _, _ => none
    | .copy, [t, _], [.c (.ms id off len _), .c y] => match X.tt t, H[id]?, lenC y with
      | some i, some (.cells cs), some m => match i.desc with
        | .slice e => match X.tt e with
          | some j => match srcCells H j.size (Nat.min m len) y with
            | some cs' => some (decide (0 < j.size) && decide (off + Nat.min m len * j.size ≤ cs.length) && decide (cs'.length = Nat.min m len * j.size), I (Nat.min m len), H.set id (.cells (setMany cs off cs')))
            | none => none
          | none => none
        | _ => none
      | _, _, _ => none
    | .delete, [t, _], [.c (.mp id), k] => match X.tt t, H[id]? with
      | some i, some (.mp es) => match i.desc with
        | .map kt _ => match findE k es 0 with
          | some o => some (keyOk X kt k, .tup [], H.set id (.mp (delE es o)))
          | none => none
        | _ => none
      | _, _ => none
    | .clear, [t], [.c (.ms id off len _)] => match X.tt t, H[id]? with
      | some i, some (.cells cs) => match i.desc with
        | .slice e => match X.tt e with
          | some j => some (decide (len ≠ 0) && decide (off + len * j.size ≤ cs.length), .tup [], H.set id (.cells (setMany cs off (zc j.zero.cs len))))
          | none => none
        | _ => none
      | _, _ => none
    | _, _, _ => none
  | _ => none

end Go.Abs
