/- The executor, first part. -/
import GoSem.Decode
import GoSem.Elab.Main
import Derived.AtR
import Derived.OrdersHeld
import Derived.Laws.Tables
import Derived.Laws.MakeOwn
import Derived.Below
import Derived.Laws.Append
import Derived.Laws.CopyRow
import Derived.ArgAppend
import Derived.Laws.IdiomRangeMap
import Derived.Laws.AppendOwn
import Derived.RangeFuncLeaves
import Derived.RangeFuncRecord
set_option linter.all false
section
namespace Go.Ar
def BIG : Nat := 2 ^ 64
inductive AObj where
  | dead
  | exact (o : Obj)
  | row (c : List Value) (e : TypeId) (fz : Nat × Nat)
  | ro (c : List Value)
  | part (off : Nat) (c : List Value)
abbrev AHeap := List AObj
def get? (H : AHeap) (i : Nat) : Option AObj := H[i]?
def hset (H : AHeap) (i : Nat) (o : AObj) : AHeap := H.set i o
def plainB : Nat → Value → Bool
  | 0, _ => false
  | n + 1, v =>
    match v with
    | .bool _ | .int .. | .float .. | .complex .. | .string _ | .nilFunc | .nilIface => true
    | .pointer none | .map none | .chan none => true
    | .slice none _ k => Nat.ble (k + 1) BIG
    | .func (.func _) first captured => first.isEmpty && captured.isEmpty
    | .iface _ v => plainB n v
    | .agg cs => cs.toList.all (plainB n)
    | .tuple vs => vs.toList.all (plainB n)
    | _ => false
def plain (v : Value) : Bool := plainB 4 v
def pureOf (P : Program) {α : Type} : Sem α → Option α
  | .pure a => some a
  | .program k => pureOf P (k P)
  | .mark _ k => pureOf P k
  | _ => none
structure AFr where
  fn : FuncId
  tmps : Array Value
  todo : List Item
  defers : List Nat
  roundOf : Option Nat
inductive ARes where
  | val (v : Value) (H : AHeap)
  | call (f : FuncId) (args : Array Value) (H : AHeap)
  | round (l : Nat) (f : FuncId) (tmps : Array Value) (assign body : Code) (H : AHeap)
structure Cfg where
  g : Nat
  same : List FuncId
def noJunk : Value → Option Value
  | .chan (some _) => none
  | v => some v
def aev (G : Nat) (tmps : Array Value) : Operand → Option Value
  | .tmp t => noJunk (tmps.getD t undef)
  | .const v => if plain v then some v else none
  | .global g => if g < G then some (.pointer (some ⟨g, 0, none⟩)) else none
  | .func f => some (.func (.func f) #[] #[])
def ev (tmps : Array Value) : Operand → Value
  | .tmp t => tmps.getD t undef
  | .const v => v
  | .global g => .pointer (some ⟨g, 0, none⟩)
  | .func f => .func (.func f) #[] #[]
def knownCells (H : AHeap) (i : Nat) : Option (List Value) :=
  match get? H i with
  | some (.exact (.cells c _ _)) => some c.toList
  | some (.row c _ _) => some c
  | some (.ro c) => some c
  | _ => none
def aggB (P : Program) (t : TypeId) : Option Bool :=
  match P.underlying t with
  | some (.struct _) | some (.array _ _) => some true
  | some _ => some false
  | none => none
def sizeB (P : Program) (t : TypeId) : Option Nat := (P.info? t).map (·.size)
def zeroB (P : Program) (t : TypeId) : Option Value := (P.info? t).bind (·.zero)
def oneCellB : Value → Bool
  | .agg _ | .tuple _ => false
  | _ => true
def aLoad (P : Program) (t : TypeId) (a : Value) (H : AHeap) : Option Value :=
  match a with
  | .pointer (some ⟨i, off, none⟩) => do
    let cs ← knownCells H i
    if ← aggB P t then
      let n ← sizeB P t
      let l := (cs.drop off).take n
      if l.length == n then some (.agg l.toArray) else none
    else cs[off]?
  | _ => none
def writeAt (cs : List Value) (off : Nat) : List Value → List Value
  | [] => cs
  | v :: vs => writeAt (cs.set off v) (off + 1) vs
def setCells (H : AHeap) (i off : Nat) (vs : List Value) : Option AHeap :=
  match get? H i with
  | some (.exact (.cells c e fz)) =>
    if Nat.ble (off + vs.length) c.size && fz == (0, 0) then some (hset H i (.exact (.cells (writeAt c.toList off vs).toArray e fz))) else none
  | some (.row c e fz) =>
    if Nat.ble (off + vs.length) c.length && fz == (0, 0) then some (hset H i (.row (writeAt c off vs) e fz)) else none
  | _ => none
def aStore (P : Program) (t : TypeId) (a v : Value) (H : AHeap) : Option AHeap :=
  match a with
  | .pointer (some ⟨i, off, none⟩) => do
    let n ← sizeB P t
    let l := v.cells.toList
    if l.length == n && l.all oneCellB then setCells H i off l else none
  | _ => none
def push (H : AHeap) (o : AObj) : AHeap := H ++ [o]
def aNew (H : AHeap) (e : TypeId) (cells : Array Value) : AHeap := push H (.exact (.cells cells e (0, 0)))
def intB : Value → Option Int
  | .int _ n => some n
  | _ => none
def capOk (P : Program) (H : AHeap) (elem : TypeId) (i off cap : Nat) (h : Nat) : Bool :=
  if Nat.ble (cap + 1) BIG then Nat.ble h cap
  else match get? H i with
    | some (.row c e _) => off == 0 && cap == BIG + i && e == elem && P.cellsOf e != 0 && Nat.ble (h * P.cellsOf e) c.length
    | _ => false
def loOf : Option Value → Option Nat
  | none => some 0
  | some (.int _ n) => if 0 ≤ n then some n.toNat else none
  | _ => none
def hiOf : Option Value → Option (Option Nat)
  | none => some none
  | some (.int _ n) => if 0 ≤ n then some (some n.toNat) else none
  | _ => none
def aSlice (P : Program) (t : TypeId) (x : Value) (lo hi : Option Value) (H : AHeap) : Option Value :=
  match loOf lo, hiOf hi, P.underlying t, x with
  | some l, some h?, some (.slice elem), .slice (some ⟨i, off, none⟩) len cap =>
    match sizeB P elem with
    | some size =>
      let h := h?.getD len
      if Nat.ble l h && (h?.isNone || capOk P H elem i off cap h) then
        if l = 0 then some (.slice (some ⟨i, off, none⟩) h cap)
        else if Nat.ble (cap + 1) BIG && Nat.ble l cap then
          some (.slice (some (if cap = l then ⟨i, off, none⟩ else ⟨i, off + l * size, none⟩)) (h - l) (cap - l))
        else none
      else none
    | none => none
  | some l, some h?, some (.array n elem), .pointer (some ⟨i, off, none⟩) =>
    match sizeB P elem with
    | some size =>
      let h := h?.getD n
      if Nat.ble l h && Nat.ble h n && Nat.ble (n + 1) BIG then
        some (.slice (some (if n = l then ⟨i, off, none⟩ else ⟨i, off + l * size, none⟩)) (h - l) (n - l))
      else none
    | none => none
  | _, _, _, _ => none
def aSlice0 (P : Program) (t : TypeId) (x : Value) (lo hi mx : Option Value) : Option Value :=
  match P.underlying t, x, lo, hi, mx with
  | some (.slice elem), .slice (some ⟨i, off, none⟩) _ _, none, some (.int _ 0), some (.int _ 0) =>
    match P.info? elem with
    | some _ => some (.slice (some ⟨i, off, none⟩) 0 0)
    | none => none
  | _, _, _, _, _ => none
def firstCells (_P : Program) (H : AHeap) (size n : Nat) : Value → Option (List Value)
  | .slice (some ⟨i, off, none⟩) _ _ => do
    let cs ← knownCells H i
    let l := (cs.drop off).take (n * size)
    if l.length == n * size then some l else none
  | .slice none _ _ => some []
  | .string s => some ((s.extract 0 n).data.toList.map fun b => .int .u8 b.toNat)
  | _ => none
def aAppend (P : Program) (t xt : TypeId) (s x : Value) (H : AHeap) : Option (Value × AHeap) :=
  match P.underlying t, P.underlying xt, s, x with
  | some (.slice elem), some (.slice _), .slice base sLen sCap, .slice _ n _ =>
    match P.info? elem with
    | some it =>
      match it.zero, firstCells P H it.size n x with
      | some z, some new =>
        if z.cells.size == it.size && new.length == n * it.size && new.all oneCellB && Nat.ble ((sLen + n) * it.bytes) (2 ^ 40) && Nat.ble (sLen + n) (2 ^ 40) then
          match base with
          | none =>
            if sCap = 0 ∧ sLen = 0 then
              if n = 0 then some (.slice none 0 0, H)
              else some (.slice (some ⟨H.length, 0, none⟩) n (BIG + H.length), push H (.row new elem (0, 0)))
            else none
          | some ⟨i, off, none⟩ =>
            if Nat.ble (sCap + 1) BIG then
              if sLen + n ≤ sCap then
                if n * it.size = 0 then some (.slice base (sLen + n) sCap, H) else
                match setCells H i (off + sLen * it.size) new with
                | some H' => some (.slice base (sLen + n) sCap, H')
                | none => none
              else
                match firstCells P H it.size sLen s with
                | some old => if old.length == sLen * it.size then some (.slice (some ⟨H.length, 0, none⟩) (sLen + n) (BIG + H.length), push H (.row (old ++ new) elem (0, 0))) else none
                | none => none
            else
              match get? H i with
              | some (.row c e fz) =>
                if off == 0 && sCap == BIG + i && c.length == sLen * it.size && e == elem && fz == (0, 0) && it.size != 0 && n != 0 then
                  some (.slice (some ⟨H.length, 0, none⟩) (sLen + n) (BIG + H.length), push (hset H i .dead) (.row (c ++ new) elem (0, 0)))
                else none
              | _ => none
          | _ => none
        else none
      | _, _ => none
    | none => none
  | _, _, _, _ => none
def u8B : Value → Option UInt8
  | .int .u8 n => some n.toNat.toUInt8
  | _ => none
def bytesOf : List Value → ByteArray → Option ByteArray
  | [], acc => some acc
  | .int .u8 n :: vs, acc => bytesOf vs (acc.push n.toNat.toUInt8)
  | _ :: _, _ => none
def aBuild (P : Program) (t : TypeId) (parts : List (Nat × Value)) : Option Value :=
  match P.info? t with
  | some it =>
    match it.zero with
    | some z => if z.cells.toList.all plain then (P.built t parts).map .agg else none
    | none => none
  | none => none
def aBuildSlice (P : Program) (t : TypeId) (len : Nat) (parts : List (Nat × Value)) (H : AHeap) : Option (Value × AHeap) :=
  match P.underlying t with
  | some (.slice elem) =>
    match P.info? elem with
    | some it =>
      if len * it.size > 2 ^ 24 then none else
      match (if len * it.size = 0 then some #[] else it.zero.map (·.cells)) with
      | some zero =>
        if zero.toList.all plain && ((Array.range (len * it.size)).map (zero[· % zero.size]!)).toList.all plain then
          match Instr.fill (fun i => some (i * it.size, it.size)) ((Array.range (len * it.size)).map (zero[· % zero.size]!)) parts with
          | some cells => some (.slice (some ⟨H.length, 0, none⟩) len len, aNew H elem cells)
          | none => none
        else none
      | none => none
    | none => none
  | _ => none
def aField (P : Program) (s : TypeId) (x : Value) (f : Nat) : Option Value :=
  match P.underlying s, x with
  | some (.struct fields), .pointer (some ⟨i, off, none⟩) =>
    match fields[f]? with
    | some fd =>
      match sizeB P fd.type with
      | some n => if n = 0 then none else some (.pointer (some ⟨i, off + fd.offset, none⟩))
      | none => none
    | none => none
  | _, _ => none
def aIndex (P : Program) (t : TypeId) (x ix : Value) : Option Value :=
  match ix, P.underlying t, x with
  | .int _ i, some (.array len elem), .pointer (some ⟨b, off, none⟩) =>
    match sizeB P elem with
    | some n => if 0 ≤ i ∧ i < (len : Int) then some (.pointer (some ⟨b, off + i.toNat * n, none⟩)) else none
    | none => none
  | .int _ i, some (.slice elem), .slice (some ⟨b, off, none⟩) len _ =>
    match sizeB P elem with
    | some n => if 0 ≤ i ∧ i < (len : Int) then some (.pointer (some ⟨b, off + i.toNat * n, none⟩)) else none
    | none => none
  | _, _, _ => none
def aPart (P : Program) (t : TypeId) (cs : Array Value) (off : Nat) : Option Value :=
  match aggB P t with
  | some true => (sizeB P t).map fun n => .agg (cs.extract off (off + n))
  | some false => cs[off]?
  | none => none
def aFieldOf (P : Program) (t : TypeId) (x : Value) (f : Nat) : Option Value :=
  match P.underlying t, x with
  | some (.struct fields), .agg cs =>
    match fields[f]? with
    | some fd => aPart P fd.type cs fd.offset
    | none => none
  | _, _ => none
def aMap (H : AHeap) (m : Value) : Option (Option Nat × Array MapEntry × Nat) :=
  match m with
  | .map none => some (none, #[], 0)
  | .map (some r) =>
    match get? H r with
    | some (.exact (.map es clock)) => some (some r, es, clock)
    | _ => none
  | _ => none
def aFind (P : Program) (empty : Bool) (kt : TypeId) (key : Value) (es : Array MapEntry) : Option (Option (Nat × Value)) :=
  if plain key && es.toList.all (fun e => plain e.key) && (pureOf P (Instr.checkKey empty 10000 kt key)).isSome then
    pureOf P (Instr.findKey kt key es.toList)
  else none
def aLookup (P : Program) (t : TypeId) (m key : Value) (ok : Bool) (H : AHeap) : Option Value :=
  match P.underlying t, aMap H m with
  | some (.map kt elem), some (_, es, _) =>
    match aFind P es.isEmpty kt key es with
    | some (some (_, v)) => some (if ok then .tuple #[v, .bool true] else v)
    | some none =>
      match zeroB P elem with
      | some z => if plain z then some (if ok then .tuple #[z, .bool false] else z) else none
      | none => none
    | none => none
  | _, _ => none
def aMapUpdate (P : Program) (t : TypeId) (m key val : Value) (H : AHeap) : Option AHeap :=
  match P.underlying t, aMap H m with
  | some (.map kt _), some (some r, es, clock) =>
    match aFind P false kt key es with
    | some (some (i, _)) =>
      if Instr.sameBits 10000 (((es[i]?).map (·.key)).getD key) key then
        some (hset H r (.exact (.map (es.modify i fun e => { e with key, val }) clock)))
      else none
    | some none => some (hset H r (.exact (.map (es.push { key, val, born := clock }) (clock + 1))))
    | none => none
  | _, _ => none
def aMapEntry (P : Program) (t : TypeId) (m key : Value) (H : AHeap) : Option (Value × AHeap) :=
  match P.underlying t, aMap H m with
  | some (.map kt elem), some (some r, es, clock) =>
    match aFind P false kt key es, zeroB P elem with
    | some none, some z =>
      if plain z then some (.tuple #[z, goInt clock], hset H r (.exact (.map (es.push { key, val := z, born := clock }) (clock + 1)))) else none
    | _, _ => none
  | _, _ => none
def aEntryStore (m stamp val : Value) (H : AHeap) : Option AHeap :=
  match stamp, aMap H m with
  | .int _ born, some (some r, es, clock) =>
    match es.findIdx? (fun e => (e.born : Int) == born) with
    | some i => some (hset H r (.exact (.map (es.modify i fun e => { e with val }) clock)))
    | none => none
  | _, _ => none
def aRange (P : Program) (t : TypeId) (x : Value) (H : AHeap) : Option (Value × AHeap) :=
  match P.underlying t, x with
  | some .string, .string s => some (.pointer (some ⟨H.length, 0, none⟩), push H (.exact (.stringIter s 0)))
  | some (.map _ _), .map (some m) =>
    match get? H m with
    | some (.exact (.map _ clock)) => some (.pointer (some ⟨H.length, 0, none⟩), push H (.exact (.mapIter (some m) clock #[] clock)))
    | _ => none
  | _, _ => none
def aNextMap (m : Nat) (since : Nat) (seen : Array Nat) (last : Nat) (es : Array MapEntry) (clock : Nat) (r : Nat) (H : AHeap) : Option (Value × AHeap) :=
  if !seen.isEmpty && !es.isEmpty && es.all (·.born ≥ last) then none else
  let left := es.filter fun e => !seen.contains e.born
  if left.all (fun e => decide (e.born < since)) then
    match left.toList with
    | [] => some (.tuple #[.bool false], H)
    | [e] => some (.tuple #[.bool true, e.key, e.val], hset H r (.exact (.mapIter (some m) since (seen.push e.born) clock)))
    | _ => none
  else none
def aNext (it : Value) (isString : Bool) (H : AHeap) : Option (Value × AHeap) :=
  match it with
  | .pointer (some ⟨r, 0, none⟩) =>
    match get? H r, isString with
    | some (.exact (.stringIter s pos)), true =>
      if pos < s.size then
        some (.tuple #[.bool true, goInt pos, .int .i32 (Utf8.decode s pos).1], hset H r (.exact (.stringIter s (pos + (Utf8.decode s pos).2))))
      else some (.tuple #[.bool false], H)
    | some (.exact (.mapIter (some m) since seen last)), false =>
      match get? H m with
      | some (.exact (.map es clock)) => aNextMap m since seen last es clock r H
      | _ => none
    | _, _ => none
  | _ => none
def aEntry (it : Value) (H : AHeap) : Option Value :=
  match it with
  | .pointer (some ⟨r, 0, none⟩) =>
    match get? H r with
    | some (.exact (.mapIter (some m) _ seen stepped)) =>
      match get? H m with
      | some (.exact (.map es clock)) =>
        if clock != stepped then none else
        match seen.back? with
        | some stamp => (es.find? (·.born == stamp)).map fun e => .tuple #[e.key, e.val]
        | none => none
      | _ => none
    | _ => none
  | _ => none
def aMakeSlice (P : Program) (t : TypeId) (len cap : Value) (H : AHeap) : Option (Value × AHeap) :=
  match P.underlying t, len, cap with
  | some (.slice elem), .int _ l, .int _ c =>
    match P.info? elem with
    | some info =>
      match info.zero with
      | some z =>
        if 0 ≤ l ∧ l ≤ c ∧ (info.bytes : Int) * c ≤ 65536 ∧ c ≤ 65536 then
          let cells := madeCells z.cells (c.toNat * info.size)
          if cells.toList.all plain then some (.slice (some ⟨H.length, 0, none⟩) l.toNat c.toNat, aNew H elem cells) else none
        else none
      | none => none
    | none => none
  | _, _, _ => none
def aEqNil (P : Program) (t : TypeId) (x y : Value) : Option Bool :=
  match P.underlying t, x, y with
  | some (.pointer _), .pointer (some _), .pointer none => some false
  | some (.pointer _), .pointer none, .pointer (some _) => some false
  | some (.slice _), .slice (some _) _ _, .slice none _ _ => some false
  | some (.slice _), .slice none _ _, .slice (some _) _ _ => some false
  | some (.map _ _), .map (some _), .map none => some false
  | some (.map _ _), .map none, .map (some _) => some false
  | some (.func _ _ _), .nilFunc, .func _ _ _ => some false
  | some (.func _ _ _), .func _ _ _, .nilFunc => some false
  | some (.pointer e), .pointer (some a), .pointer (some b) => if a == b && (sizeB P e).any (· != 0) && a.spot.isNone then some true else none
  | _, _, _ => none
def aConvert (P : Program) (src dst : TypeId) (x : Value) (H : AHeap) : Option Value :=
  match P.underlying src, P.underlying dst, x with
  | some (.slice e), some .string, .slice (some ⟨i, off, none⟩) len _ =>
    match P.underlying e with
    | some (.int .u8) => do
      let cs ← knownCells H i
      let l := (cs.drop off).take len
      if l.length == len then (bytesOf l .empty).map .string else none
    | _ => none
  | _, _, _ => none
def aUnsafe (P : Program) (src dst : TypeId) (x : Value) (H : AHeap) : Bool :=
  match P.underlying src, P.underlying dst, x with
  | some (.pointer t), some .unsafePointer, .pointer (some ⟨i, off, none⟩) =>
    match get? H i, sizeB P t with
    | some (.exact (.cells c _ _)), some n => n != 0 && Nat.ble (off + 1) c.size
    | _, _ => false
  | some .unsafePointer, some (.pointer u), .pointer (some ⟨i, off, none⟩) =>
    match get? H i, sizeB P u with
    | some (.exact (.cells c e _)), some n => n != 0 && liesAt P P.depth e (c.size / P.cellsOf e) off u 1
    | _, _ => false
  | _, _, _ => false
def mapOpt {α β : Type} (f : α → Option β) : List α → Option (List β)
  | [] => some []
  | a :: l => match f a with | some b => (match mapOpt f l with | some bs => some (b :: bs) | none => none) | none => none
def notSelect : Op → Bool
  | .select .. => false
  | _ => true
def aPure (P : Program) (G : Cfg) (tmps : Array Value) (o : Oper) : Option Value :=
  if notSelect o.op && o.op.operands.toList.all (fun x => match aev G.g tmps x with | some v => plain v | none => false) then
    match pureOf P (execOp (ev tmps) o) with
    | some (.value v) => if plain v then some v else none
    | _ => none
  else none
def aCallee (fv : Value) (args : Array Value) : Option (Sum (FuncId × Array Value) (Nat × Array Value)) :=
  match fv with
  | .func (.func f) first captured => some (.inl (f, first ++ args ++ captured))
  | .func (.yield l) first captured => if first.isEmpty && captured.isEmpty then some (.inr (l, args)) else none
  | _ => none
def okFunc (P : Program) (f : FuncId) : Bool :=
  match P.funcs[f]? with
  | some fn => fn.body.isSome && !(fn.name == "runtime.NumGoroutine")
  | none => false
def orPure (r : Option Value) (d : Option Value) : Option Value := match r with | some v => some v | none => d
def optEv (e : Operand → Option Value) : Option Operand → Option (Option Value)
  | none => some none
  | some x => (e x).map some
def nilChecked : Value → Option Value
  | .pointer (some a) => some (.pointer (some a))
  | .func (.func f) a b => some (.func (.func f) a b)
  | .func (.yield f) a b => some (.func (.yield f) a b)
  | _ => none
def tupleAt (i : Nat) : Value → Option Value
  | .tuple vs => vs[i]?
  | _ => none
def boolOf : Value → Option Bool
  | .bool b => some b
  | _ => none
def aLen (P : Program) (argTypes : Array TypeId) (args : List Value) (H : AHeap) : Option Value :=
  match argTypes[0]?, args with
  | some t, [x] =>
    match P.underlying t, x with
    | some (.slice _), .slice _ n _ => some (goInt n)
    | some (.map _ _), .map (some r) =>
      match get? H r with
      | some (.exact (.map es _)) => some (goInt es.size)
      | _ => none
    | some (.array n _), _ => some (goInt n)
    | some (.pointer a), _ => match P.underlying a with | some (.array n _) => some (goInt n) | _ => none
    | _, _ => none
  | _, _ => none
def aQuiet (P : Program) (G : Cfg) (tmps : Array Value) (o : Oper) (H : AHeap) : Option Value :=
  let e := aev G.g tmps
  match o.op with
  | .move x | .assign x => e x
  | .pick c a b => ((e c).bind boolOf).bind fun t => e (if t then a else b)
  | .build t parts => orPure (aPure P G tmps o) ((mapOpt (fun (p : Nat × Operand) => (e p.2).map fun v => (p.1, v)) parts.toList).bind (aBuild P t))
  | .load t a => (e a).bind fun a => aLoad P t a H
  | .nilCheck x => (e x).bind nilChecked
  | .fieldAddr s x f => (e x).bind fun x => aField P s x f
  | .indexAddr t x ix => (e x).bind fun x => (e ix).bind fun ix => aIndex P t x ix
  | .extract x i => (e x).bind (tupleAt i)
  | .field t x f => (e x).bind fun x => aFieldOf P t x f
  | .makeFunc (.func f) first captured => (mapOpt e first.toList).bind fun a => (mapOpt e captured.toList).map fun b => .func (.func f) a.toArray b.toArray
  | .lookup t m k ok => (e m).bind fun m => (e k).bind fun k => aLookup P t m k ok H
  | .entry it => (e it).bind fun it => aEntry it H
  | .slice t x lo hi mx =>
    orPure (aPure P G tmps o) ((e x).bind fun xv => (optEv e lo).bind fun lo => (optEv e hi).bind fun hi => (optEv e mx).bind fun mx =>
      match mx with
      | none => aSlice P t xv lo hi H
      | some m => aSlice0 P t xv lo hi (some m))
  | .binOp op t x y _ =>
    orPure (aPure P G tmps o) ((e x).bind fun x => (e y).bind fun y => (aEqNil P t x y).bind fun b =>
      match op with
      | .eql => some (.bool b)
      | .neq => some (.bool !b)
      | _ => none)
  | .convert src dst x =>
    orPure (aPure P G tmps o) ((e x).bind fun v => orPure (aConvert P src dst v H) (if aUnsafe P src dst v H then some v else none))
  | .call { callee := .builtin .len, args, argTypes } => orPure (aPure P G tmps o) ((mapOpt e args.toList).bind fun vs => aLen P argTypes vs H)
  | .unOp .. | .index .. => aPure P G tmps o
  | _ => none
def aBuiltin (P : Program) (b : Builtin) (argTypes : Array TypeId) (args : List Value) (H : AHeap) : Option (Value × AHeap) :=
  match b, args with
  | .append, [s, x] =>
    match argTypes[0]?, argTypes[1]? with
    | some t, some xt => aAppend P t xt s x H
    | _, _ => none
  | .delete, [m, k] =>
    match argTypes[0]? with
    | some t =>
      match P.underlying t with
      | some (.map kt _) =>
        match aMap H m with
        | some (some r, es, clock) =>
          match aFind P es.isEmpty kt k es with
          | some none => some (.tuple #[], hset H r (.exact (.map es clock)))
          | _ => none
        | _ => none
      | _ => none
    | none => none
  | .unsafeSliceData, [.slice (some ⟨i, off, none⟩) _ c] =>
    if Nat.ble (c + 1) BIG then (if c = 0 then none else some (.pointer (some ⟨i, off, none⟩), H))
    else match get? H (c - BIG) with
      | some (.row l _ _) => if l.length = 0 then none else some (.pointer (some ⟨i, off, none⟩), H)
      | _ => none
  | .unsafeString, [.pointer (some ⟨i, off, none⟩), .int _ n] =>
    match argTypes[0]? with
    | some pt =>
      match P.underlying pt, get? H i with
      | some (.pointer u), some (.row c e fz) =>
        if 0 < n && off == 0 && n.toNat == c.length && fz == (0, 0) && P.cellsOf e == 1 && P.underlyingId e == P.underlyingId u && decide (n ≤ IntKind.i64.max) then
          match bytesOf c .empty with
          | some s => some (.string s, hset H i (.row c e (0, n.toNat)))
          | none => none
        else none
      | _, _ => none
    | none => none
  | _, _ => none
def aLoud (P : Program) (G : Cfg) (tmps : Array Value) (o : Oper) (H : AHeap) : Option (Value × AHeap) :=
  let e := aev G.g tmps
  let unit (r : Option AHeap) : Option (Value × AHeap) := r.map fun H => (undef, H)
  match o.op with
  | .alloc t => (zeroB P t).bind fun z => if plain z then some (.pointer (some ⟨H.length, 0, none⟩), aNew H t z.cells) else none
  | .box t x => (e x).map fun v => (.pointer (some ⟨H.length, 0, none⟩), aNew H t v.cells)
  | .buildSlice t len parts => if Nat.ble (len + 1) BIG then (mapOpt (fun (p : Nat × Operand) => (e p.2).map fun v => (p.1, v)) parts.toList).bind fun ps => aBuildSlice P t len ps H else none
  | .store t a v => (e a).bind fun a => (e v).bind fun v => unit (aStore P t a v H)
  | .makeMap _ none => some (.map (some H.length), push H (.exact (.map #[] 0)))
  | .makeSlice t l c => (e l).bind fun l => (e c).bind fun c => aMakeSlice P t l c H
  | .mapUpdate t m k v => (e m).bind fun m => (e k).bind fun k => (e v).bind fun v => unit (aMapUpdate P t m k v H)
  | .mapEntry t m k => (e m).bind fun m => (e k).bind fun k => aMapEntry P t m k H
  | .entryStore _ m s v => (e m).bind fun m => (e s).bind fun s => (e v).bind fun v => unit (aEntryStore m s v H)
  | .range t x => (e x).bind fun x => aRange P t x H
  | .next it b => (e it).bind fun it => aNext it b H
  | .call { callee := .builtin b, args, argTypes } =>
    match (mapOpt e args.toList).bind fun vs => aBuiltin P b argTypes vs H with
    | some r => some r
    | none => (aPure P G tmps o).map fun v => (v, H)
  | _ => none
def aCallOp (P : Program) (G : Cfg) (tmps : Array Value) (o : Oper) (f : Operand) (args : Array Operand) (H : AHeap) : Option ARes :=
  let e := aev G.g tmps
  (e f).bind fun fv => (mapOpt e args.toList).bind fun vs => (aCallee fv vs.toArray).bind fun
    | .inl (g, vs) =>
      if okFunc P g then some (.call g vs H)
      else if G.same.contains g then (match vs.toList with | [v] => some (.val v H) | _ => none)
      else (aPure P G tmps o).map fun v => .val v H
    | .inr (l, vs) =>
      match get? H l with
      | some (.exact (.loop r)) =>
        if vs.size = r.params.size then
          some (.round l r.fn ((r.params.zip vs).foldl (fun tmps (t, a) => tmps.setIfInBounds t a) r.tmps) r.assign r.body H)
        else none
      | _ => none
def quietOp : Op → Bool
  | .move _ | .assign _ | .pick .. | .load .. | .nilCheck _ | .binOp .. | .unOp .. | .convert .. | .fieldAddr .. | .field .. | .indexAddr .. | .index .. | .extract .. | .build .. | .makeFunc .. | .slice .. | .lookup .. | .entry _ => true
  | .call { callee := .builtin .len, .. } => true
  | _ => false
def aLoudOp (P : Program) (G : Cfg) (tmps : Array Value) (o : Oper) (H : AHeap) : Option ARes :=
  match o.op with
  | .call { callee := .value f, args, argTypes := _ } => aCallOp P G tmps o f args H
  | _ => (aLoud P G tmps o H).map fun r => .val r.1 r.2
def aOp (P : Program) (G : Cfg) (tmps : Array Value) (o : Oper) (H : AHeap) : Option ARes :=
  if quietOp o.op then (aQuiet P G tmps o H).map fun v => .val v H else aLoudOp P G tmps o H
def enter (P : Program) (f : FuncId) (args : Array Value) : Option AFr :=
  match P.funcs[f]? with
  | some fn =>
    match fn.body with
    | some c => some { fn := f, tmps := args ++ Array.replicate (fn.ntmps - args.size) undef, todo := [.code c], defers := [], roundOf := none }
    | none => none
  | none => none
def getLoop (H : AHeap) (l : Nat) : Option Loop :=
  match get? H l with
  | some (.exact (.loop r)) => some r
  | _ => none
def aResult (P : Program) (tmps : Array Value) (H : AHeap) : ResultVar → Option Value
  | .tmp t => noJunk (tmps.getD t undef)
  | .cell a t => aLoad P t (tmps.getD a undef) H
def oneOf : List Value → Value
  | [v] => v
  | vs => .tuple vs.toArray
def aResults (P : Program) (fn : Func) (tmps : Array Value) (H : AHeap) : Option Value := (mapOpt (aResult P tmps H) fn.results.toList).map oneOf
def aUnmark (H : AHeap) : List Nat → Option AHeap
  | [] => some H
  | r :: rs =>
    match get? H r with
    | some (.exact (.deferred (some []))) => aUnmark (hset H r (.exact (.deferred none))) rs
    | _ => none
def isRet : Option Code → Bool
  | none => true
  | some .ret => true
  | _ => false
def aLeave (P : Program) (fr : AFr) (jump : Option Code) (H : AHeap) : Option (Value × AHeap) :=
  match fr.roundOf with
  | none =>
    if isRet jump then
      (aUnmark H fr.defers).bind fun H => (P.funcs[fr.fn]?).bind fun fn => (aResults P fn fr.tmps H).map fun v => (v, H)
    else none
  | some l =>
    match fr.defers with
    | [] => (getLoop H l).bind fun r =>
      some (.bool jump.isNone, hset H l (.exact (.loop { r with state := if jump.isNone then .ready else .done, pending := jump })))
    | _ => none
def putT (tmps : Array Value) (dst : Option Tmp) (v : Value) : Array Value :=
  match dst with
  | some d => tmps.setIfInBounds d v
  | none => tmps
structure Taken where
  i : Nat
  o : Oper
  tmps : Array Value
  v : Value
def waits : Nat → Array Oper → Nat → Nat → Bool
  | 0, _, _, _ => false
  | n + 1, ops, j, i =>
    match ops[j]? with
    | some o => o.after.toList.any fun e => Region.binds .any e && (e.on == i || waits n ops e.on i)
    | none => false
def loud (ops : Array Oper) (j : Nat) : Bool :=
  match ops[j]? with
  | some o => !quietOp o.op
  | none => false
def pend (ops : Array Oper) (i : Nat) (listed : Array Bool) : Bool :=
  (List.range ops.size).all fun j => !(listed.getD j false) || !loud ops j || !waits 6 ops j i
def sameFn : Fn → Fn → Bool
  | .func f, .func g => f == g
  | .yield f, .yield g => f == g
  | _, _ => false
def allSame (f : Value → Value → Bool) : List Value → List Value → Bool
  | [], [] => true
  | x :: xs, y :: ys => f x y && allSame f xs ys
  | _, _ => false
def sameV : Nat → Value → Value → Bool
  | 0, _, _ => false
  | n + 1, v, u =>
    match v, u with
    | .bool a, .bool b => a == b
    | .int k a, .int j b => decide (k = j) && decide (a = b)
    | .string a, .string b => decide (a = b)
    | .pointer a, .pointer b => decide (a = b)
    | .slice a n c, .slice b m d => decide (a = b) && n == m && c == d
    | .map a, .map b => decide (a = b)
    | .func fn a b, .func gn c d => sameFn fn gn && allSame (sameV n) a.toList c.toList && allSame (sameV n) b.toList d.toList
    | .nilFunc, .nilFunc | .nilIface, .nilIface => true
    | .agg a, .agg b => allSame (sameV n) a.toList b.toList
    | .tuple a, .tuple b => allSame (sameV n) a.toList b.toList
    | _, _ => false
def again (P : Program) (G : Cfg) (q : Taken) (H : AHeap) : Bool :=
  match aQuiet P G q.tmps q.o H with
  | some v => sameV 4 v q.v
  | none => false
mutual
def aRun (P : Program) (G : Cfg) : Nat → AFr → AHeap → Option (Value × AHeap)
  | 0, _, _ => none
  | n + 1, fr, H =>
    match fr.todo with
    | [] => aLeave P fr none H
    | .code .ret :: _ => aLeave P fr (some .ret) H
    | .code .skip :: k | .code (.label _) :: k | .inBlock _ :: k | .inScope _ :: k => aRun P G n { fr with todo := k } H
    | .code (.seq a b) :: k => aRun P G n { fr with todo := .code a :: .code b :: k } H
    | .code (.cond c thn els) :: k =>
      match aev G.g fr.tmps c with
      | some (.bool true) => aRun P G n { fr with todo := .code thn :: k } H
      | some (.bool false) => aRun P G n { fr with todo := .code els :: k } H
      | _ => none
    | .code (.block id body) :: k => aRun P G n { fr with todo := .code body :: .inBlock id :: k } H
    | .code (.loop body) :: k | .inLoop body :: k => aRun P G n { fr with todo := .code body :: .inLoop body :: k } H
    | .code (.scope body) :: k => aRun P G n { fr with todo := .code body :: .inScope body :: k } H
    | .code (.exit id) :: k =>
      match exitTo id k with
      | some k' => aRun P G n { fr with todo := k' } H
      | none => aLeave P fr (some (.exit id)) H
    | .code (.goto l) :: k =>
      match gotoIn l k with
      | some k' => aRun P G n { fr with todo := k' } H
      | none => none
    | .code (.rangeFunc f params assign body) :: k =>
      match fr.roundOf, aev G.g fr.tmps f with
      | none, some (.func (.func g) first captured) =>
        if okFunc P g then
          let D := H.length
          let L := H.length + 1
          let H1 := push (push H (.exact (.deferred (some [])))) (.exact (.loop { state := .ready, pending := none, fn := fr.fn, tmps := fr.tmps, params, assign, body, defers := D }))
          match enter P g (first ++ #[.func (.yield L) #[] #[]] ++ captured) with
          | some fr' =>
            match aRun P G n fr' H1 with
            | some (_, H2) =>
              match getLoop H2 L with
              | some r =>
                if r.state == .busy then none else
                aRun P G n { fr with todo := (r.pending.map Item.code).toList ++ k, defers := D :: fr.defers } (hset H2 L (.exact (.loop { r with state := .exhausted })))
              | none => none
            | none => none
          | none => none
        else none
      | _, _ => none
    | .beginRound :: k =>
      match fr.roundOf with
      | some l =>
        match getLoop H l with
        | some r =>
          if r.state == .ready then
            aRun P G n { fr with todo := k } (hset H l (.exact (.loop { r with state := .busy })))
          else none
        | none => none
      | none => none
    | .code (.region _ ops false) :: k => aRun P G n { fr with todo := .inRegion ops (List.range ops.size) :: k } H
    | .code (.region _ ops true) :: k =>
      match fr.roundOf with
      | none =>
        if Region.noSelect ops then
          match aAny P G n ops ops.size (Array.replicate ops.size false) [] fr.tmps H with
          | some (tmps, H) => aRun P G n { fr with tmps, todo := k } H
          | none => none
        else none
      | some _ => none
    | .inRegion _ [] :: k => aRun P G n { fr with todo := k } H
    | .inRegion ops (i :: rest) :: k =>
      match ops[i]? with
      | some o =>
        if Region.wanted o (yielded ops fr.tmps) then
          match aOper P G n fr.tmps o H with
          | some (v, H) => aRun P G n { fr with tmps := putT fr.tmps o.dst v, todo := .inRegion ops rest :: k } H
          | none => none
        else aRun P G n { fr with tmps := putT fr.tmps o.dst undef, todo := .inRegion ops rest :: k } H
      | none => none
    | _ => none
  termination_by structural n => n
def aOper (P : Program) (G : Cfg) : Nat → Array Value → Oper → AHeap → Option (Value × AHeap)
  | 0, _, _, _ => none
  | n + 1, tmps, o, H =>
    match aOp P G tmps o H with
    | some (.val v H) => some (v, H)
    | some (.call f args H) =>
      match enter P f args with
      | some fr => aRun P G n fr H
      | none => none
    | some (.round l f tmps assign body H) => aRun P G n { fn := f, tmps, todo := [.code assign, .beginRound, .code body], defers := [], roundOf := some l } H
    | none => none
  termination_by structural n => n
def aAny (P : Program) (G : Cfg) : Nat → Array Oper → Nat → Array Bool → List Taken → Array Value → AHeap → Option (Array Value × AHeap)
  | 0, _, _, _, _, _, _ => none
  | n + 1, ops, left, listed, taken, tmps, H =>
    let ready := Region.ready .any ops listed
    match ready.find? (fun i => match ops[i]? with | some o => quietOp o.op && Region.free .any ops listed i | none => false) with
    | some i =>
      match ops[i]?, left with
      | some o, left + 1 =>
        if Region.wanted o (yielded ops tmps) then
          match aQuiet P G tmps o H with
          | some v => aAny P G n ops left (listed.setIfInBounds i true) (⟨i, o, tmps, v⟩ :: taken) (putT tmps o.dst v) H
          | none => none
        else aAny P G n ops left (listed.setIfInBounds i true) taken (putT tmps o.dst undef) H
      | _, _ => none
    | none =>
      match ready with
      | [] => some (tmps, H)
      | [j] =>
        match ops[j]?, left with
        | some o, left + 1 =>
          if Region.wanted o (yielded ops tmps) && !quietOp o.op then
            match (match aOp P G tmps o H with
              | some (.val v H2) => some (v, H2)
              | some (.call f args H2) =>
                match enter P f args with
                | some fr => aRun P G n fr H2
                | none => none
              | _ => none) with
            | some (v, H3) =>
              if taken.all (fun q => !pend ops q.i (listed.setIfInBounds j true) || again P G q H3) then
                aAny P G n ops left (listed.setIfInBounds j true) taken (putT tmps o.dst v) H3
              else none
            | none => none
          else none
        | _, _ => none
      | _ => none
  termination_by structural n => n
end
end Go.Ar
end
section
namespace Go.Ar
open Go.RowKit
structure Rho where
  blk : Nat → Option Nat
  cap : Nat → Option Nat
def CapR (ρ : Rho) (k c : Nat) : Prop := (k < BIG ∧ c = k) ∨ (BIG ≤ k ∧ ρ.cap (k - BIG) = some c)
def FnR (ρ : Rho) : Fn → Fn → Prop
  | .func f, g => g = .func f
  | .yield l, g => ∃ m, ρ.blk l = some m ∧ g = .yield m
  | _, _ => False
inductive VR (ρ : Rho) : Value → Value → Prop
  | bool (b) : VR ρ (.bool b) (.bool b)
  | int (k n) : VR ρ (.int k n) (.int k n)
  | float (k b) : VR ρ (.float k b) (.float k b)
  | complex (k a b) : VR ρ (.complex k a b) (.complex k a b)
  | string (s) : VR ρ (.string s) (.string s)
  | nilPtr : VR ρ (.pointer none) (.pointer none)
  | ptr (i b off sp) (h : ρ.blk i = some b) : VR ρ (.pointer (some ⟨i, off, sp⟩)) (.pointer (some ⟨b, off, sp⟩))
  | nilSlice (n k c) (h : CapR ρ k c) : VR ρ (.slice none n k) (.slice none n c)
  | slice (i b off sp n k c) (h : ρ.blk i = some b) (hc : CapR ρ k c) : VR ρ (.slice (some ⟨i, off, sp⟩) n k) (.slice (some ⟨b, off, sp⟩) n c)
  | nilMap : VR ρ (.map none) (.map none)
  | map (i b) (h : ρ.blk i = some b) : VR ρ (.map (some i)) (.map (some b))
  | nilChan : VR ρ (.chan none) (.chan none)
  | func (fn gn : Fn) (a a' c c' : Array Value) (hf : FnR ρ fn gn) (hs : a.size = a'.size) (h : ∀ (i : Nat) (v v' : Value), a[i]? = some v → a'[i]? = some v' → VR ρ v v')
      (hs2 : c.size = c'.size) (h2 : ∀ (i : Nat) (v v' : Value), c[i]? = some v → c'[i]? = some v' → VR ρ v v') : VR ρ (.func fn a c) (.func gn a' c')
  | nilFunc : VR ρ .nilFunc .nilFunc
  | nilIface : VR ρ .nilIface .nilIface
  | iface (t v v') (h : VR ρ v v') : VR ρ (.iface t v) (.iface t v')
  | agg (a a' : Array Value) (hs : a.size = a'.size) (h : ∀ (i : Nat) (v v' : Value), a[i]? = some v → a'[i]? = some v' → VR ρ v v') : VR ρ (.agg a) (.agg a')
  | tuple (a a' : Array Value) (hs : a.size = a'.size) (h : ∀ (i : Nat) (v v' : Value), a[i]? = some v → a'[i]? = some v' → VR ρ v v') : VR ρ (.tuple a) (.tuple a')
def LR (ρ : Rho) (l l' : List Value) : Prop := l.length = l'.length ∧ ∀ (i : Nat) (v v' : Value), l[i]? = some v → l'[i]? = some v' → VR ρ v v'
def AR (ρ : Rho) (a a' : Array Value) : Prop := a.size = a'.size ∧ ∀ (i : Nat) (v v' : Value), a[i]? = some v → a'[i]? = some v' → VR ρ v v'
theorem AR.toList {ρ : Rho} {a a' : Array Value} : AR ρ a a' ↔ LR ρ a.toList a'.toList := by
  simp [AR, LR]
theorem AR.ofList {ρ : Rho} {l l' : List Value} (h : LR ρ l l') : AR ρ l.toArray l'.toArray := by
  simpa [AR, LR] using h
theorem VR.agg' {ρ : Rho} {a a' : Array Value} (h : AR ρ a a') : VR ρ (.agg a) (.agg a') := .agg _ _ h.1 h.2
theorem VR.tuple' {ρ : Rho} {a a' : Array Value} (h : AR ρ a a') : VR ρ (.tuple a) (.tuple a') := .tuple _ _ h.1 h.2
theorem VR.func' {ρ : Rho} {fn gn : Fn} {a a' c c' : Array Value} (hf : FnR ρ fn gn) (h : AR ρ a a') (h2 : AR ρ c c') : VR ρ (.func fn a c) (.func gn a' c') := .func _ _ _ _ _ _ hf h.1 h.2 h2.1 h2.2
structure Ext (ρ ρ' : Rho) : Prop where
  blk : ∀ i b, ρ.blk i = some b → ρ'.blk i = some b
  cap : ∀ i c, ρ.cap i = some c → ρ'.cap i = some c
theorem Ext.refl (ρ : Rho) : Ext ρ ρ := ⟨fun _ _ h => h, fun _ _ h => h⟩
theorem Ext.trans {a b c : Rho} (h : Ext a b) (k : Ext b c) : Ext a c := ⟨fun i x hx => k.blk i x (h.blk i x hx), fun i x hx => k.cap i x (h.cap i x hx)⟩
theorem CapR.mono {ρ ρ' : Rho} (h : Ext ρ ρ') {k c : Nat} (hc : CapR ρ k c) : CapR ρ' k c := hc.imp id (fun ⟨a, b⟩ => ⟨a, h.cap _ _ b⟩)
theorem FnR.mono {ρ ρ' : Rho} (h : Ext ρ ρ') {f g : Fn} (hc : FnR ρ f g) : FnR ρ' f g := by
  cases f <;> simp only [FnR] at * <;> first | exact hc | (obtain ⟨m, hm, e⟩ := hc; exact ⟨m, h.blk _ _ hm, e⟩)
theorem VR.mono {ρ ρ' : Rho} (h : Ext ρ ρ') {v v' : Value} (hv : VR ρ v v') : VR ρ' v v' := by
  induction hv with
  | bool b => exact .bool b
  | int k n => exact .int k n
  | float k b => exact .float k b
  | complex k a b => exact .complex k a b
  | string s => exact .string s
  | nilPtr => exact .nilPtr
  | ptr i b off sp hb => exact .ptr i b off sp (h.blk _ _ hb)
  | nilSlice n k c hc => exact .nilSlice n k c (hc.mono h)
  | slice i b off sp n k c hb hc => exact .slice i b off sp n k c (h.blk _ _ hb) (hc.mono h)
  | nilMap => exact .nilMap
  | map i b hb => exact .map i b (h.blk _ _ hb)
  | nilChan => exact .nilChan
  | func fn gn a a' c c' hf hs _ hs2 _ ih ih2 => exact .func fn gn a a' c c' (hf.mono h) hs ih hs2 ih2
  | nilFunc => exact .nilFunc
  | nilIface => exact .nilIface
  | iface t v v' _ ih => exact .iface t v v' ih
  | agg a a' hs _ ih => exact .agg a a' hs ih
  | tuple a a' hs _ ih => exact .tuple a a' hs ih
theorem LR.mono {ρ ρ' : Rho} (h : Ext ρ ρ') {l l' : List Value} (hl : LR ρ l l') : LR ρ' l l' := ⟨hl.1, fun i v v' a b => (hl.2 i v v' a b).mono h⟩
theorem AR.mono {ρ ρ' : Rho} (h : Ext ρ ρ') {l l' : Array Value} (hl : AR ρ l l') : AR ρ' l l' := ⟨hl.1, fun i v v' a b => (hl.2 i v v' a b).mono h⟩
section lists
variable {ρ : Rho}
theorem LR.nil : LR ρ [] [] := ⟨rfl, fun i v v' h => by simp at h⟩
theorem LR.cons {v v' : Value} {l l' : List Value} (h : VR ρ v v') (hl : LR ρ l l') : LR ρ (v :: l) (v' :: l') := by
  refine ⟨by simp [hl.1], fun i x x' hx hx' => ?_⟩
  cases i with
  | zero => simp at hx hx'; subst hx; subst hx'; exact h
  | succ i => exact hl.2 i x x' (by simpa using hx) (by simpa using hx')
theorem LR.head {v v' : Value} {l l' : List Value} (h : LR ρ (v :: l) (v' :: l')) : VR ρ v v' := h.2 0 v v' rfl rfl
theorem LR.tail {v v' : Value} {l l' : List Value} (h : LR ρ (v :: l) (v' :: l')) : LR ρ l l' :=
  ⟨by simpa using h.1, fun i x x' a b => h.2 (i + 1) x x' (by simpa using a) (by simpa using b)⟩
theorem LR.nil_left {l' : List Value} (h : LR ρ [] l') : l' = [] := by
  have := h.1; simp at this; exact List.length_eq_zero_iff.1 this.symm
theorem LR.cons_left {v : Value} {l l' : List Value} (h : LR ρ (v :: l) l') : ∃ v' k, l' = v' :: k ∧ VR ρ v v' ∧ LR ρ l k := by
  cases l' with
  | nil => have := h.1; simp at this
  | cons v' k => exact ⟨v', k, rfl, h.head, h.tail⟩
theorem LR.get {l l' : List Value} (h : LR ρ l l') {i : Nat} {v : Value} (hv : l[i]? = some v) : ∃ v', l'[i]? = some v' ∧ VR ρ v v' := by
  have hi : i < l.length := (List.getElem?_eq_some_iff.1 hv).1
  have hi' : i < l'.length := by rw [← h.1]; exact hi
  exact ⟨l'[i], List.getElem?_eq_getElem hi', h.2 i v _ hv (List.getElem?_eq_getElem hi')⟩
theorem AR.get {l l' : Array Value} (h : AR ρ l l') {i : Nat} {v : Value} (hv : l[i]? = some v) : ∃ v', l'[i]? = some v' ∧ VR ρ v v' := by
  have := LR.get (AR.toList.1 h) (i := i) (v := v) (by simpa using hv)
  simpa using this
theorem LR.append {l l' k k' : List Value} (h : LR ρ l l') (h2 : LR ρ k k') : LR ρ (l ++ k) (l' ++ k') := by
  induction l generalizing l' with
  | nil => rw [h.nil_left]; exact h2
  | cons v l ih => obtain ⟨v', m, rfl, hv, hm⟩ := h.cons_left; exact .cons hv (ih hm)
theorem AR.append {l l' k k' : Array Value} (h : AR ρ l l') (h2 : AR ρ k k') : AR ρ (l ++ k) (l' ++ k') := by
  rw [AR.toList] at *; simpa using h.append h2
theorem LR.drop {l l' : List Value} (h : LR ρ l l') (n : Nat) : LR ρ (l.drop n) (l'.drop n) :=
  ⟨by simp [h.1], fun i v v' a b => h.2 (n + i) v v' (by simpa using a) (by simpa using b)⟩
theorem LR.take {l l' : List Value} (h : LR ρ l l') (n : Nat) : LR ρ (l.take n) (l'.take n) := by
  refine ⟨by simp [h.1], fun i v v' a b => ?_⟩
  rw [List.getElem?_take] at a b
  split at a
  · rename_i hi; simp only [hi, if_true] at b; exact h.2 i v v' a b
  · cases a
theorem LR.set {l l' : List Value} (h : LR ρ l l') (n : Nat) {v v' : Value} (hv : VR ρ v v') : LR ρ (l.set n v) (l'.set n v') := by
  refine ⟨by simp [h.1], fun i x x' a b => ?_⟩
  rw [List.getElem?_set] at a b
  split at a
  · rename_i hi; subst hi
    rw [h.1] at a
    split at a
    · rename_i hn; simp only [hn, if_true] at b; cases a; cases b; exact hv
    · cases a
  · rename_i hi; simp only [hi, if_false] at b; exact h.2 i x x' a b
theorem AR.setIfInBounds {l l' : Array Value} (h : AR ρ l l') (n : Nat) {v v' : Value} (hv : VR ρ v v') : AR ρ (l.setIfInBounds n v) (l'.setIfInBounds n v') := by
  rw [AR.toList] at *; simpa using h.set n hv
theorem LR.replicate (n : Nat) {v v' : Value} (hv : VR ρ v v') : LR ρ (List.replicate n v) (List.replicate n v') := by
  induction n with
  | zero => exact .nil
  | succ n ih => exact .cons hv ih
def notBool : Value → Prop
  | .bool _ => False
  | _ => True
def TMR (ρ : Rho) (a a' : Array Value) : Prop := a.size = a'.size ∧ ∀ (i : Nat) (v v' : Value), a[i]? = some v → a'[i]? = some v' → (∃ c, v = .chan (some c) ∧ notBool v') ∨ VR ρ v v'
theorem AR.tmr {ρ : Rho} {a a' : Array Value} (h : AR ρ a a') : TMR ρ a a' := ⟨h.1, fun i v v' x y => .inr (h.2 i v v' x y)⟩
theorem TMR.mono {ρ ρ' : Rho} (h : Ext ρ ρ') {l l' : Array Value} (hl : TMR ρ l l') : TMR ρ' l l' := ⟨hl.1, fun i v v' a b => (hl.2 i v v' a b).imp id (·.mono h)⟩
theorem TMR.setIfInBounds {ρ : Rho} {l l' : Array Value} (h : TMR ρ l l') (n : Nat) {v v' : Value} (hv : VR ρ v v') : TMR ρ (l.setIfInBounds n v) (l'.setIfInBounds n v') := by
  refine ⟨by simp [h.1], fun i u u' a b => ?_⟩
  rw [Array.getElem?_setIfInBounds] at a b
  by_cases hi : n = i
  · subst hi
    rw [if_pos rfl] at a b
    split at a
    · split at b
      · cases a; cases b; exact .inr hv
      · cases b
    · cases a
  · rw [if_neg hi] at a b
    exact h.2 i u u' a b
theorem TMR.get {ρ : Rho} {l l' : Array Value} (h : TMR ρ l l') {i : Nat} {v : Value} (hv : l[i]? = some v) : ∃ v', l'[i]? = some v' ∧ ((∃ c, v = .chan (some c) ∧ notBool v') ∨ VR ρ v v') := by
  have hi := (Array.getElem?_eq_some_iff.1 hv).1
  have hi' : i < l'.size := h.1 ▸ hi
  exact ⟨_, Array.getElem?_eq_getElem hi', h.2 i v _ hv (Array.getElem?_eq_getElem hi')⟩
theorem noJunk_eq {v u : Value} (h : noJunk v = some u) : u = v := by
  unfold noJunk at h
  split at h
  · cases h
  · cases h; rfl
theorem AR.replicate (n : Nat) {v v' : Value} (hv : VR ρ v v') : AR ρ (Array.replicate n v) (Array.replicate n v') := by
  rw [AR.toList]; simpa using LR.replicate n hv
theorem LR.writeAt {vs vs' : List Value} (h : LR ρ vs vs') : ∀ {l l' : List Value} (off : Nat), LR ρ l l' → LR ρ (writeAt l off vs) (writeAt l' off vs') := by
  induction vs generalizing vs' with
  | nil => intro l l' off hl; rw [h.nil_left]; exact hl
  | cons v vs ih => intro l l' off hl; obtain ⟨v', m, rfl, hv, hm⟩ := h.cons_left; exact ih hm _ (hl.set off hv)
theorem VR.undef : VR ρ undef undef := .tuple _ _ rfl (fun i v v' h => by simp [Go.undef] at h)
theorem TMR.getD {ρ : Rho} {l l' : Array Value} (h : TMR ρ l l') (i : Nat) {u : Value} (hu : noJunk (l.getD i Go.undef) = some u) : VR ρ u (l'.getD i Go.undef) := by
  obtain rfl := noJunk_eq hu
  rcases Nat.lt_or_ge i l.size with hi | hi
  · have hi' : i < l'.size := h.1 ▸ hi
    have := h.2 i _ _ (Array.getElem?_eq_getElem hi) (Array.getElem?_eq_getElem hi')
    simp only [Array.getD_eq_getD_getElem?, Array.getElem?_eq_getElem hi, Array.getElem?_eq_getElem hi', Option.getD_some] at hu ⊢
    rcases this with ⟨c, hc, _⟩ | h
    · rw [hc] at hu; cases hu
    · exact h
  · have hi' : l'.size ≤ i := h.1 ▸ hi
    simp only [Array.getD_eq_getD_getElem?, Array.getElem?_eq_none hi, Array.getElem?_eq_none hi', Option.getD_none]
    exact VR.undef
theorem AR.getD {l l' : Array Value} (h : AR ρ l l') (i : Nat) : VR ρ (l.getD i Go.undef) (l'.getD i Go.undef) := by
  simp only [Array.getD_eq_getD_getElem?]
  cases hv : l[i]? with
  | some v => obtain ⟨v', e, hvv⟩ := h.get hv; simp [e, hvv]
  | none =>
    have : l'[i]? = none := by
      rw [Array.getElem?_eq_none_iff] at *; rw [← h.1]; exact hv
    simp [this]; exact VR.undef
end lists
theorem all_mem {α : Type} {f : α → Bool} {l : List α} (h : l.all f = true) {i : Nat} {v : α} (hv : l[i]? = some v) : f v = true :=
  List.all_eq_true.1 h v (List.mem_of_getElem? hv)
theorem plainB_VR {ρ : Rho} : ∀ (n : Nat) (v : Value), plainB n v = true → VR ρ v v := by
  intro n
  induction n with
  | zero => intro v h; simp [plainB] at h
  | succ n ih =>
    intro v h
    cases v with
    | bool b => exact .bool b
    | int k m => exact .int k m
    | float k b => exact .float k b
    | complex k a b => exact .complex k a b
    | string s => exact .string s
    | pointer a => cases a with
      | none => exact .nilPtr
      | some a => simp [plainB] at h
    | slice a m k => cases a with
      | none =>
        refine .nilSlice m k k (.inl ⟨?_, rfl⟩)
        have h' : Nat.ble (k + 1) BIG = true := h
        exact Nat.le_of_ble_eq_true h'
      | some a => simp [plainB] at h
    | map r => cases r with
      | none => exact .nilMap
      | some a => simp [plainB] at h
    | chan r => cases r with
      | none => exact .nilChan
      | some a => simp [plainB] at h
    | func fn a c =>
      cases fn <;> simp [plainB] at h
      obtain ⟨rfl, rfl⟩ := h
      exact .func _ _ _ _ _ _ rfl rfl (fun i v v' h => by simp at h) rfl (fun i v v' h => by simp at h)
    | nilFunc => exact .nilFunc
    | nilIface => exact .nilIface
    | iface t v => exact .iface t v v (ih v h)
    | agg cs =>
      have h' : cs.toList.all (plainB n) = true := h
      refine .agg _ _ rfl fun i v v' a b => ?_
      rw [a] at b; cases b
      exact ih v (all_mem h' (i := i) (by simpa using a))
    | tuple cs =>
      have h' : cs.toList.all (plainB n) = true := h
      refine .tuple _ _ rfl fun i v v' a b => ?_
      rw [a] at b; cases b
      exact ih v (all_mem h' (i := i) (by simpa using a))
theorem plain_VR {ρ : Rho} {v : Value} (h : plain v = true) : VR ρ v v := plainB_VR 4 v h
theorem FnR.fn {ρ : Rho} {f g g' : Fn} (h : FnR ρ f g) (h' : FnR ρ f g') : g = g' := by
  cases f <;> simp only [FnR] at *
  · rw [h, h']
  · obtain ⟨m, hm, rfl⟩ := h; obtain ⟨m', hm', rfl⟩ := h'; rw [hm] at hm'; cases hm'; rfl
theorem CapR.fn {ρ : Rho} {k c c' : Nat} (h : CapR ρ k c) (h' : CapR ρ k c') : c = c' := by
  rcases h with ⟨h, rfl⟩ | ⟨h, e⟩ <;> rcases h' with ⟨h', rfl⟩ | ⟨h', e'⟩
  · rfl
  · omega
  · omega
  · rw [e] at e'; cases e'; rfl
theorem array_ext_of {ρ : Rho} {a a' a'' : Array Value} (hs : a.size = a'.size) (hs' : a.size = a''.size)
    (h : ∀ (i : Nat) (v v' : Value), a[i]? = some v → a'[i]? = some v' → ∀ v'', VR ρ v v'' → v' = v'')
    (h' : ∀ (i : Nat) (v v' : Value), a[i]? = some v → a''[i]? = some v' → VR ρ v v') : a' = a'' := by
  refine Array.ext (by omega) fun i hi hi' => ?_
  have e : a[i]? = some a[i] := Array.getElem?_eq_getElem (by omega)
  exact h i a[i] a'[i] e (Array.getElem?_eq_getElem hi) a''[i] (h' i a[i] a''[i] e (Array.getElem?_eq_getElem hi'))
theorem VR.fn {ρ : Rho} {v v' : Value} (h : VR ρ v v') : ∀ v'', VR ρ v v'' → v' = v'' := by
  induction h with
  | ptr i b off sp hb => intro v'' h; cases h with | ptr _ b' _ _ hb' => rw [hb] at hb'; cases hb'; rfl
  | nilSlice n k c hc => intro v'' h; cases h with | nilSlice _ _ c' hc' => rw [hc.fn hc']
  | slice i b off sp n k c hb hc => intro v'' h; cases h with | slice _ b' _ _ _ _ c' hb' hc' => rw [hb] at hb'; cases hb'; rw [hc.fn hc']
  | map i b hb => intro v'' h; cases h with | map _ b' hb' => rw [hb] at hb'; cases hb'; rfl
  | func fn gn a a' c c' hf hs _ hs2 _ ih ih2 =>
    intro v'' h
    cases h with
    | func _ gn' _ a'' _ c'' hf' hs' h' hs2' h2' =>
      rw [hf.fn hf', array_ext_of hs hs' ih h', array_ext_of hs2 hs2' ih2 h2']
  | iface t v v' _ ih => intro v'' h; cases h with | iface _ _ v3 h3 => rw [ih v3 h3]
  | agg a a' hs _ ih => intro v'' h; cases h with | agg _ a'' hs' h' => rw [array_ext_of hs hs' ih h']
  | tuple a a' hs _ ih => intro v'' h; cases h with | tuple _ a'' hs' h' => rw [array_ext_of hs hs' ih h']
  | _ => intro v'' h; cases h; rfl
theorem plain_eq {ρ : Rho} {v v' : Value} (h : plain v = true) (hv : VR ρ v v') : v' = v := hv.fn v (plain_VR h)
def ER (ρ : Rho) (e e' : MapEntry) : Prop := VR ρ e.key e'.key ∧ VR ρ e.val e'.val ∧ e.born = e'.born
inductive OR (ρ : Rho) : Obj → Obj → Prop
  | cells (c c' : Array Value) (e : TypeId) (fz : Nat × Nat) (h : AR ρ c c') : OR ρ (.cells c e fz) (.cells c' e fz)
  | map (es es' : Array MapEntry) (clock : Nat) (hs : es.size = es'.size) (h : ∀ (i : Nat) (e e' : MapEntry), es[i]? = some e → es'[i]? = some e' → ER ρ e e') : OR ρ (.map es clock) (.map es' clock)
  | stringIter (s p) : OR ρ (.stringIter s p) (.stringIter s p)
  | mapIter (i b since seen stepped) (h : ρ.blk i = some b) : OR ρ (.mapIter (some i) since seen stepped) (.mapIter (some b) since seen stepped)
  | loop (l l' : Loop) (h1 : l.state = l'.state) (h2 : l.pending = l'.pending) (h3 : l.fn = l'.fn) (h4 : TMR ρ l.tmps l'.tmps) (h5 : l.params = l'.params) (h6 : l.assign = l'.assign) (h7 : l.body = l'.body) (h8 : ρ.blk l.defers = some l'.defers) : OR ρ (.loop l) (.loop l')
  | deferred0 : OR ρ (.deferred (some [])) (.deferred (some []))
  | deferred1 : OR ρ (.deferred none) (.deferred none)
theorem OR.mono {ρ ρ' : Rho} (h : Ext ρ ρ') {o o' : Obj} (ho : OR ρ o o') : OR ρ' o o' := by
  cases ho with
  | cells c c' e fz hc => exact .cells _ _ _ _ (hc.mono h)
  | map es es' clock hs he => exact .map _ _ _ hs fun i e e' a b => let ⟨x, y, z⟩ := he i e e' a b; ⟨x.mono h, y.mono h, z⟩
  | stringIter s p => exact .stringIter s p
  | mapIter i b since seen stepped hb => exact .mapIter _ _ _ _ _ (h.blk _ _ hb)
  | loop l l' h1 h2 h3 h4 h5 h6 h7 h8 => exact .loop _ _ h1 h2 h3 (h4.mono h) h5 h6 h7 (h.blk _ _ h8)
  | deferred0 => exact .deferred0
  | deferred1 => exact .deferred1
def ObjSat (P : Program) (ρ : Rho) (i : Nat) : AObj → Obj → Prop
  | .dead, _ => True
  | .exact o, o' => OR ρ o o'
  | .row c e fz, o' => ∃ c' rest k, o' = .cells (c' ++ rest).toArray e fz ∧ LR ρ c c' ∧ ρ.cap i = some k ∧ (c' ++ rest).length = k * P.cellsOf e ∧ k < 2 ^ 63
  | .ro c, o' => ∃ c' rest e fz, o' = .cells (c' ++ rest).toArray e fz ∧ LR ρ c c'
  | .part off c, o' => ∃ c', LR ρ c c' ∧ ∀ (j : Nat) (v : Value), c'[j]? = some v → ∃ cs e fz, o' = .cells cs e fz ∧ cs[off + j]? = some v
theorem ObjSat.mono {P : Program} {ρ ρ' : Rho} (h : Ext ρ ρ') {i : Nat} {o : AObj} {o' : Obj} (ho : ObjSat P ρ i o o') : ObjSat P ρ' i o o' := by
  cases o with
  | dead => trivial
  | exact o => exact OR.mono h ho
  | row c e fz => obtain ⟨c', rest, k, e1, hl, hk, hs⟩ := ho; exact ⟨c', rest, k, e1, hl.mono h, h.cap _ _ hk, hs⟩
  | ro c => obtain ⟨c', rest, e, fz, e1, hl⟩ := ho; exact ⟨c', rest, e, fz, e1, hl.mono h⟩
  | part off c => obtain ⟨c', hl, h2⟩ := ho; exact ⟨c', hl.mono h, h2⟩
def isLive : AObj → Bool
  | .dead => false
  | .part _ c => !c.isEmpty
  | _ => true
def isOwn : AObj → Bool
  | .dead => false
  | .ro _ => false
  | .part .. => false
  | _ => true
theorem isLive_of_own {o : AObj} (h : isOwn o = true) : isLive o = true := by cases o <;> first | rfl | cases h
structure Sat (P : Program) (g : Nat) (ρ : Rho) (H : AHeap) (w : World) : Prop where
  dom : ∀ i b, ρ.blk i = some b → i < H.length
  cdom : ∀ i c, ρ.cap i = some c → i < H.length
  glob : ∀ i, i < g → ρ.blk i = some i
  obj : ∀ i o, H[i]? = some o → isLive o = true → ∃ b o', ρ.blk i = some b ∧ w.heap[b]? = some o' ∧ ObjSat P ρ i o o'
  inj : ∀ i j b oi oj, H[i]? = some oi → H[j]? = some oj → isOwn oi = true → isLive oj = true → ρ.blk i = some b → ρ.blk j = some b → i = j
theorem Sat.lt {P : Program} {g : Nat} {ρ : Rho} {H : AHeap} {w : World} (h : Sat P g ρ H w) {i b : Nat} {o : AObj} (hi : H[i]? = some o) (hl : isLive o = true) (hb : ρ.blk i = some b) : b < w.heap.size := by
  obtain ⟨b2, o', hb2, ho, _⟩ := h.obj i o hi hl
  rw [hb] at hb2; cases hb2
  exact (Array.getElem?_eq_some_iff.1 ho).1
def Foot (ρ : Rho) (H : AHeap) (w : World) (b : Nat) : Prop := w.heap.size ≤ b ∨ ∃ i o, H[i]? = some o ∧ isOwn o = true ∧ ρ.blk i = some b
structure Stp (P : Program) (g : Nat) (ρ : Rho) (H : AHeap) (w : World) (ρ1 : Rho) (H1 : AHeap) (w1 : World) : Prop where
  ext : Ext ρ ρ1
  sat : Sat P g ρ1 H1 w1
  len : H.length ≤ H1.length
  foot : ∀ b, Foot ρ1 H1 w1 b → Foot ρ H w b
  keep : ∀ b, ¬ Foot ρ H w b → w1.heap[b]? = w.heap[b]?
  size : w.heap.size ≤ w1.heap.size
  os : w1.os = w.os
  tape : w1.tape = w.tape
  output : w1.output = w.output
theorem Stp.refl {P : Program} {g : Nat} {ρ : Rho} {H : AHeap} {w : World} (h : Sat P g ρ H w) : Stp P g ρ H w ρ H w :=
  ⟨.refl _, h, Nat.le_refl _, fun _ h => h, fun _ _ => rfl, Nat.le_refl _, rfl, rfl, rfl⟩
theorem Stp.trans {P : Program} {g : Nat} {ρ ρ1 ρ2 : Rho} {H H1 H2 : AHeap} {w w1 w2 : World} (h : Stp P g ρ H w ρ1 H1 w1) (k : Stp P g ρ1 H1 w1 ρ2 H2 w2) : Stp P g ρ H w ρ2 H2 w2 :=
  ⟨h.ext.trans k.ext, k.sat, Nat.le_trans h.len k.len, fun b hb => h.foot b (k.foot b hb), fun b hb => (k.keep b fun hf => hb (h.foot b hf)).trans (h.keep b hb),
   Nat.le_trans h.size k.size, k.os.trans h.os, k.tape.trans h.tape, k.output.trans h.output⟩
section steps
variable {P : Program} {g : Nat} {ρ : Rho} {H : AHeap} {w : World}
theorem Stp.same (h : Sat P g ρ H w) {w1 : World} (hh : w1.heap = w.heap) (ho : w1.os = w.os) (ht : w1.tape = w.tape) (hout : w1.output = w.output) : Stp P g ρ H w ρ H w1 := by
  refine ⟨.refl _, ⟨h.dom, h.cdom, h.glob, fun i o a b => by rw [hh]; exact h.obj i o a b, h.inj⟩, Nat.le_refl _, ?_, fun b _ => by rw [hh], by rw [hh]; exact Nat.le_refl _, ho, ht, hout⟩
  intro b hb
  unfold Foot at *; rw [hh] at hb; exact hb
def Rho.add (ρ : Rho) (i b : Nat) : Rho := { ρ with blk := fun j => if j = i then some b else ρ.blk j }
def Rho.addCap (ρ : Rho) (i c : Nat) : Rho := { ρ with cap := fun j => if j = i then some c else ρ.cap j }
theorem ext_add {i b : Nat} (hn : ρ.blk i = none) : Ext ρ (ρ.add i b) :=
  ⟨fun j x hx => by
    show (if j = i then some b else ρ.blk j) = some x
    split
    · rename_i e; subst e; rw [hn] at hx; cases hx
    · exact hx, fun _ _ h => h⟩
theorem ext_addCap {i b : Nat} (hn : ρ.cap i = none) : Ext ρ (ρ.addCap i b) :=
  ⟨fun _ _ h => h, fun j x hx => by
    show (if j = i then some b else ρ.cap j) = some x
    split
    · rename_i e; subst e; rw [hn] at hx; cases hx
    · exact hx⟩
theorem Sat.blk_none (h : Sat P g ρ H w) {i : Nat} (hi : H.length ≤ i) : ρ.blk i = none := by
  cases hb : ρ.blk i with
  | none => rfl
  | some b => have := h.dom i b hb; omega
theorem Sat.cap_none (h : Sat P g ρ H w) {i : Nat} (hi : H.length ≤ i) : ρ.cap i = none := by
  cases hb : ρ.cap i with
  | none => rfl
  | some b => have := h.cdom i b hb; omega
theorem Rho.add_self {i b : Nat} : (ρ.add i b).blk i = some b := by simp [Rho.add]
theorem Rho.addCap_self {i b : Nat} : (ρ.addCap i b).cap i = some b := by simp [Rho.addCap]
theorem heap_alloc_lt (w : World) (o : Obj) {k : Nat} (h : k < w.heap.size) : (w.alloc o).heap[k]? = w.heap[k]? := Below.heap_alloc w o k h
theorem heap_alloc_eq (w : World) (o : Obj) : (w.alloc o).heap[w.heap.size]? = some o := by
  show (w.heap.push o)[w.heap.size]? = _
  simp
theorem Stp.alloc (h : Sat P g ρ H w) {o o' : Obj} (ho : OR (ρ.add H.length w.heap.size) o o') :
    Stp P g ρ H w (ρ.add H.length w.heap.size) (push H (.exact o)) (w.alloc o') := by
  have hx : Ext ρ (ρ.add H.length w.heap.size) := ext_add (h.blk_none (Nat.le_refl _))
  have hsz : (w.alloc o').heap.size = w.heap.size + 1 := by simp
  have hblk : ∀ i b, (ρ.add H.length w.heap.size).blk i = some b → (i = H.length ∧ b = w.heap.size) ∨ (i < H.length ∧ ρ.blk i = some b) := by
    intro i b hb
    by_cases e : i = H.length
    · subst e; rw [Rho.add_self] at hb; cases hb; exact .inl ⟨rfl, rfl⟩
    · have : ρ.blk i = some b := by simpa [Rho.add, e] using hb
      exact .inr ⟨h.dom i b this, this⟩
  have hget : ∀ i x, (push H (.exact o))[i]? = some x → (i = H.length ∧ x = .exact o) ∨ (i < H.length ∧ H[i]? = some x) := by
    intro i x hx
    unfold push at hx
    rw [List.getElem?_append] at hx
    split at hx
    · rename_i hi; exact .inr ⟨hi, hx⟩
    · rename_i hi
      have hi2 : i - H.length < 1 := by
        have := (List.getElem?_eq_some_iff.1 hx).1; simpa using this
      have e : i = H.length := by omega
      subst e; simp at hx; exact .inl ⟨rfl, hx.symm⟩
  refine ⟨hx, ⟨?_, ?_, fun i hi => hx.blk _ _ (h.glob i hi), ?_, ?_⟩, by simp [push], ?_, ?_, by rw [hsz]; omega, rfl, rfl, rfl⟩
  · intro i b hb
    rcases hblk i b hb with ⟨rfl, rfl⟩ | ⟨hi, _⟩
    · simp [push]
    · simp [push]; omega
  · intro i c hc; have := h.cdom i c hc; simp [push]; omega
  · intro i x hx' hl
    rcases hget i x hx' with ⟨rfl, rfl⟩ | ⟨hi, hi'⟩
    · exact ⟨w.heap.size, o', Rho.add_self, heap_alloc_eq w o', ho⟩
    · obtain ⟨b, o2, hb, ho2, hs⟩ := h.obj i x hi' hl
      exact ⟨b, o2, hx.blk _ _ hb, by rw [heap_alloc_lt w o' (h.lt hi' hl hb)]; exact ho2, hs.mono hx⟩
  · intro i j b oi oj hi hj li lj hbi hbj
    rcases hget i oi hi with ⟨rfl, rfl⟩ | ⟨hi1, hi2⟩ <;> rcases hget j oj hj with ⟨rfl, rfl⟩ | ⟨hj1, hj2⟩
    · rfl
    · rcases hblk _ _ hbi with ⟨_, rfl⟩ | ⟨hx1, _⟩
      · rcases hblk _ _ hbj with ⟨e, _⟩ | ⟨_, hx3⟩
        · omega
        · have := h.lt hj2 lj hx3; omega
      · omega
    · rcases hblk _ _ hbj with ⟨_, rfl⟩ | ⟨hx1, _⟩
      · rcases hblk _ _ hbi with ⟨e, _⟩ | ⟨_, hx3⟩
        · omega
        · have := h.lt hi2 (isLive_of_own li) hx3; omega
      · omega
    · rcases hblk _ _ hbi with ⟨e, _⟩ | ⟨_, h3⟩
      · omega
      · rcases hblk _ _ hbj with ⟨e, _⟩ | ⟨_, h4⟩
        · omega
        · exact h.inj i j b oi oj hi2 hj2 li lj h3 h4
  · intro b hb
    rcases hb with hb | ⟨i, x, hi, hl, hbi⟩
    · rw [hsz] at hb; exact .inl (by omega)
    · rcases hblk i b hbi with ⟨rfl, rfl⟩ | ⟨hi1, hb1⟩
      · exact .inl (Nat.le_refl _)
      · rcases hget i x hi with ⟨e, _⟩ | ⟨_, h2⟩
        · omega
        · exact .inr ⟨i, x, h2, hl, hb1⟩
  · intro b hb
    have : b < w.heap.size := by
      rcases Nat.lt_or_ge b w.heap.size with h1 | h1
      · exact h1
      · exact absurd (.inl h1) hb
    exact heap_alloc_lt w o' this
theorem Stp.upd (h : Sat P g ρ H w) {i b : Nat} {old new : AObj} {o' : Obj} {w1 : World} (hi : H[i]? = some old) (hl : isOwn old = true) (hb : ρ.blk i = some b)
    (hsz : w1.heap.size = w.heap.size) (h1 : w1.heap[b]? = some o') (h2 : ∀ k, k ≠ b → w1.heap[k]? = w.heap[k]?) (hs : ObjSat P ρ i new o')
    (ho : w1.os = w.os) (ht : w1.tape = w.tape) (hout : w1.output = w.output) : Stp P g ρ H w ρ (hset H i new) w1 := by
  have hil : i < H.length := (List.getElem?_eq_some_iff.1 hi).1
  have hget : ∀ j x, (hset H i new)[j]? = some x → (j = i ∧ x = new) ∨ (j ≠ i ∧ H[j]? = some x) := by
    intro j x hx
    unfold hset at hx
    rw [List.getElem?_set] at hx
    split at hx
    · rename_i e; subst e; simp [hil] at hx; exact .inl ⟨rfl, hx.symm⟩
    · rename_i e; exact .inr ⟨fun e' => e e'.symm, hx⟩
  refine ⟨.refl _, ⟨fun j c hc => ?_, fun j c hc => by simpa [hset] using h.cdom j c hc, h.glob, ?_, ?_⟩, by simp [hset], ?_, ?_, by rw [hsz]; exact Nat.le_refl _, ho, ht, hout⟩
  · have := h.dom j c hc; simpa [hset] using this
  · intro j x hx lx
    rcases hget j x hx with ⟨rfl, rfl⟩ | ⟨hj, hj2⟩
    · exact ⟨b, o', hb, h1, hs⟩
    · obtain ⟨c, o2, hc, ho2, hs2⟩ := h.obj j x hj2 lx
      refine ⟨c, o2, hc, ?_, hs2⟩
      rw [h2 c (fun e => ?_)]; exact ho2
      subst e; exact hj (h.inj i j c old x hi hj2 hl lx hb hc).symm
  · intro j k c oj ok hj hk lj lk hbj hbk
    rcases hget j oj hj with ⟨rfl, rfl⟩ | ⟨hj1, hj2⟩ <;> rcases hget k ok hk with ⟨rfl, rfl⟩ | ⟨hk1, hk2⟩
    · rfl
    · exact h.inj _ _ c old ok hi hk2 hl lk hbj hbk
    · exact h.inj _ _ c oj old hj2 hi lj (isLive_of_own hl) hbj hbk
    · exact h.inj _ _ c oj ok hj2 hk2 lj lk hbj hbk
  · intro c hc
    rcases hc with hc | ⟨j, x, hj, lx, hbj⟩
    · rw [hsz] at hc; exact .inl hc
    · rcases hget j x hj with ⟨rfl, rfl⟩ | ⟨hj1, hj2⟩
      · exact .inr ⟨j, old, hi, hl, hbj⟩
      · exact .inr ⟨j, x, hj2, lx, hbj⟩
  · intro c hc
    exact h2 c fun e => hc (by subst e; exact .inr ⟨i, old, hi, hl, hb⟩)
theorem Sat.kill (h : Sat P g ρ H w) (i : Nat) : Sat P g ρ (hset H i .dead) w := by
  have hget : ∀ j x, (hset H i .dead)[j]? = some x → isLive x = true → j ≠ i ∧ H[j]? = some x := by
    intro j x hx lx
    unfold hset at hx
    rw [List.getElem?_set] at hx
    split at hx
    · rename_i e; subst e
      split at hx
      · cases hx; cases lx
      · cases hx
    · rename_i e; exact ⟨fun e' => e e'.symm, hx⟩
  refine ⟨fun j c hc => by have := h.dom j c hc; simpa [hset] using this, fun j c hc => by simpa [hset] using h.cdom j c hc, h.glob, ?_, ?_⟩
  · intro j x hx lx; obtain ⟨_, hx2⟩ := hget j x hx lx; exact h.obj j x hx2 lx
  · intro j k c oj ok hj hk lj lk; exact h.inj j k c oj ok (hget j oj hj (isLive_of_own lj)).2 (hget k ok hk lk).2 lj lk
end steps
end Go.Ar
end
section
namespace Go.Ar
open Go.RowKit
section
variable {P : Program} {g : Nat} {ρ : Rho} {H : AHeap} {w : World}
theorem pureOf_run {α : Type} (s : Sem α) : ∀ (a : α), pureOf P s = some a → ∀ w : World, s.run P w = .ok a w := by
  induction s with
  | pure a => intro b h w; simp [pureOf] at h; subst h; rfl
  | program k ih => intro b h w; exact ih P b h w
  | mark m k ih => intro b h w; exact ih b h w
  | _ => intro b h; simp [pureOf] at h
theorem ev_act (a : Act) : a.eval = ev a.tmps := funext fun x => by cases x <;> rfl
theorem aev_VR {tmps tmps' : Array Value} (hs : Sat P g ρ H w) (ht : TMR ρ tmps tmps') {x : Operand} {v : Value} (h : aev g tmps x = some v) : VR ρ v (ev tmps' x) := by
  cases x with
  | tmp t => simp only [aev] at h; exact ht.getD t h
  | const c =>
    simp only [aev] at h
    split at h
    · cases h; exact plain_VR ‹_›
    · cases h
  | global i =>
    simp only [aev] at h
    split at h
    · cases h; exact .ptr i i 0 none (hs.glob i ‹_›)
    · cases h
  | func f =>
    simp only [aev, Option.some.injEq] at h; subst h
    exact .func _ _ _ _ _ _ rfl rfl (fun i v v' h => by simp at h) rfl (fun i v v' h => by simp at h)
theorem aPure_run {C : Cfg} {tmps tmps' : Array Value} (hg : C.g = g) (hs : Sat P g ρ H w) (ht : TMR ρ tmps tmps') {o : Oper} {v : Value} (h : aPure P C tmps o = some v) :
    plain v = true ∧ ∀ w : World, (execOp (ev tmps') o).run P w = .ok (.value v) w := by
  subst hg
  unfold aPure at h
  split at h
  case isFalse => cases h
  case isTrue hc =>
    simp only [Bool.and_eq_true] at hc
    obtain ⟨hsel, hall⟩ := hc
    have hcongr : execOp (ev tmps') o = execOp (ev tmps) o := by
      refine execOp_congr o (fun cs b e => by rw [e] at hsel; cases hsel) fun x hx => ?_
      have hx' := List.all_eq_true.1 hall x (by simpa using hx)
      cases hv : aev C.g tmps x with
      | none => simp [hv] at hx'
      | some u =>
        simp only [hv] at hx'
        have h1 := plain_eq hx' (aev_VR hs ht hv)
        rw [h1]
        cases x with
        | tmp t => simp only [aev] at hv; exact noJunk_eq hv
        | const c => simp only [aev] at hv; split at hv <;> cases hv; rfl
        | global i => simp only [aev] at hv; split at hv <;> cases hv; rfl
        | func f => simp only [aev, Option.some.injEq] at hv; exact hv.symm
    cases hp : pureOf P (execOp (ev tmps) o) with
    | none => simp [hp] at h
    | some n =>
      simp only [hp] at h
      cases n <;> try (simp at h; done)
      case value u =>
        simp only at h
        split at h
        · cases h; exact ⟨‹_›, fun w => by rw [hcongr]; exact pureOf_run _ _ hp w⟩
        · cases h
theorem known {i b : Nat} {cs : List Value} (hs : Sat P g ρ H w) (hk : knownCells H i = some cs) (hb : ρ.blk i = some b) :
    ∃ cs' more e fz, LR ρ cs cs' ∧ w.heap[b]? = some (.cells (cs' ++ more).toArray e fz) := by
  unfold knownCells get? at hk
  cases hi : H[i]? with
  | none => simp [hi] at hk
  | some o =>
    simp only [hi] at hk
    have hl : isLive o = true := by cases o <;> simp_all [isLive]
    obtain ⟨b2, o2, hb2, ho2, hob⟩ := hs.obj i o hi hl
    rw [hb] at hb2; cases hb2
    cases o with
    | dead => simp [isLive] at hl
    | part off c => simp at hk
    | exact x =>
      cases x <;> try (simp at hk; done)
      case cells c e fz =>
        simp only [Option.some.injEq] at hk; subst hk
        have hob' : OR ρ (.cells c e fz) o2 := hob
        cases hob' with
        | cells _ c' _ _ hc => exact ⟨c'.toList, [], e, fz, AR.toList.1 hc, by simpa using ho2⟩
    | row c e fz =>
      simp only [Option.some.injEq] at hk; subst hk
      obtain ⟨c', rest, k, rfl, hl2, _⟩ := hob
      exact ⟨c', rest, e, fz, hl2, ho2⟩
    | ro c =>
      simp only [Option.some.injEq] at hk; subst hk
      obtain ⟨c', rest, e, fz, rfl, hl2⟩ := hob
      exact ⟨c', rest, e, fz, hl2, ho2⟩
theorem known_cell {i b : Nat} {cs : List Value} (hs : Sat P g ρ H w) (hk : knownCells H i = some cs) (hb : ρ.blk i = some b) :
    ∃ cs', LR ρ cs cs' ∧ ∀ (j : Nat) (x : Value), cs'[j]? = some x → w.cell? ⟨b, j, none⟩ = some x := by
  obtain ⟨cs', more, e, fz, hl, hh⟩ := known hs hk hb
  refine ⟨cs', hl, fun j x hx => ?_⟩
  have hj := (List.getElem?_eq_some_iff.1 hx).1
  simp [World.cell?, hh, List.getElem?_append_left hj, hx]
theorem add_none (b off n : Nat) : Addr.add ⟨b, off, none⟩ n = ⟨b, off + n, none⟩ := by
  unfold Addr.add; split <;> simp_all
theorem agg_run {t : TypeId} {b : Bool} (h : aggB P t = some b) (w : World) : (isAgg t).run P w = .ok b w := by
  unfold aggB at h
  cases hu : P.underlying t with
  | none => simp [hu] at h
  | some d =>
    have hr : (underlying t).run P w = .ok d w := by simp [underlying, hu]
    unfold isAgg
    rw [Sem.run_bind, hr]
    cases d <;> simp_all [Result.andThen]
theorem size_run {t : TypeId} {n : Nat} (h : sizeB P t = some n) (w : World) : (sizeOf t).run P w = .ok n w := by
  unfold sizeB at h
  cases hu : P.info? t with
  | none => simp [hu] at h
  | some d => simp [hu] at h; subst h; simp [sizeOf, typeInfo, hu, Result.andThen]
theorem size_cellsOf {t : TypeId} {n : Nat} (h : sizeB P t = some n) : P.cellsOf t = n := by
  unfold sizeB at h
  cases hu : P.info? t with
  | none => simp [hu] at h
  | some d => simp [hu] at h; subst h; simp [Program.cellsOf, hu]
theorem aLoad_run {t : TypeId} {a a' v : Value} (hs : Sat P g ρ H w) (ha : VR ρ a a') (h : aLoad P t a H = some v) : ∃ v', VR ρ v v' ∧ (Instr.loadAt t a').run P w = .ok v' w := by
  unfold aLoad at h
  split at h
  case h_2 => cases h
  case h_1 i off =>
    cases ha with
    | ptr _ b _ _ hb =>
      simp only [Option.bind_eq_bind, Option.bind_eq_some_iff] at h
      obtain ⟨cs, hk, ag, hag, h⟩ := h
      obtain ⟨cs', hl, hc⟩ := known_cell hs hk hb
      have hrun : (Instr.loadAt t (.pointer (some ⟨b, off, none⟩))).run P w = (loadVar t ⟨b, off, none⟩).run P w := by simp [Instr.loadAt, Instr.sureAddr]
      rw [hrun]; unfold loadVar
      rw [Sem.run_bind, agg_run hag]
      cases ag with
      | false =>
        simp only [Bool.false_eq_true, if_false] at h
        obtain ⟨v', hv', hvv⟩ := hl.get h
        refine ⟨v', hvv, ?_⟩
        simp [Result.andThen, hc off v' hv']
      | true =>
        simp only [if_true, Option.bind_eq_some_iff] at h
        obtain ⟨n, hn, h⟩ := h
        split at h
        case isFalse => cases h
        case isTrue hlen =>
          cases h
          have hlen' : ((cs.drop off).take n).length = n := by simpa using hlen
          have hl2 : LR ρ ((cs.drop off).take n) ((cs'.drop off).take n) := (hl.drop off).take n
          refine ⟨.agg ((cs'.drop off).take n).toArray, .agg' (.ofList hl2), ?_⟩
          have hlen2 : ((cs'.drop off).take n).length = n := by rw [← hl2.1]; exact hlen'
          have hlc := run_loadCells_list (P := P) w ⟨b, off, none⟩ ((cs'.drop off).take n) (fun j x hx => by
            rw [add_none]
            refine hc _ x ?_
            rw [List.getElem?_take] at hx
            split at hx
            · simpa using hx
            · cases hx)
          rw [hlen2] at hlc
          simp only [Result.andThen_ok, if_true, Sem.run_bind, size_run hn, Sem.run_map, hlc]
          rfl
    | _ => cases h
theorem writeAt_eq (cs : List Value) : ∀ (vs : List Value) (off : Nat) (cs : List Value), off + vs.length ≤ cs.length → writeAt cs off vs = cs.take off ++ vs ++ cs.drop (off + vs.length) := by
  intro vs
  induction vs with
  | nil => intro off cs _; simp [writeAt]
  | cons v vs ih =>
    intro off cs h
    simp only [List.length_cons] at h
    rw [writeAt, ih (off + 1) (cs.set off v) (by simp; omega)]
    have e1 : (cs.set off v).take (off + 1) = cs.take off ++ [v] := by
      rw [List.take_succ, List.take_set_of_le (Nat.le_refl _), List.getElem?_set_self (by omega)]; rfl
    have e2 : (cs.set off v).drop (off + 1 + vs.length) = cs.drop (off + (v :: vs).length) := by
      rw [List.drop_set_of_lt (by omega)]; congr 1; simp; omega
    rw [e1, e2]; simp
theorem oneCell_eq {v : Value} : oneCellB v = v.oneCell' := by cases v <;> rfl
theorem VR.oneCell {v v' : Value} (h : VR ρ v v') : oneCellB v' = oneCellB v := by cases h <;> rfl
theorem LR.oneCell {l l' : List Value} (h : LR ρ l l') (ha : l.all oneCellB = true) : ∀ v ∈ l', v.oneCell' = true := by
  induction l generalizing l' with
  | nil => rw [h.nil_left]; simp
  | cons v l ih =>
    obtain ⟨v', k, rfl, hv, hk⟩ := h.cons_left
    simp only [List.all_cons, Bool.and_eq_true] at ha
    intro x hx
    rcases List.mem_cons.1 hx with rfl | hx
    · rw [← oneCell_eq, hv.oneCell]; exact ha.1
    · exact ih hk ha.2 x hx
theorem VR.cells {v v' : Value} (h : VR ρ v v') : AR ρ v.cells v'.cells := by
  cases h with
  | agg a a' hs h => exact ⟨hs, h⟩
  | _ =>
    refine ⟨rfl, fun i x x' hx hx' => ?_⟩
    cases i with
    | zero => simp [Value.cells] at hx hx'; subst hx; subst hx'; constructor <;> assumption
    | succ i => simp [Value.cells] at hx
theorem setRow_size (w : World) (b : Nat) (cs : Array Value) : (w.setRow b cs).heap.size = w.heap.size := by simp [World.setRow]
theorem setRow_other (w : World) (b : Nat) (cs : Array Value) {k : Nat} (h : k ≠ b) : (w.setRow b cs).heap[k]? = w.heap[k]? := by
  simp only [World.setRow, Array.getElem?_modify]; rw [if_neg (by omega)]
theorem setCells_run {i b off : Nat} {vs vs' : List Value} {H1 : AHeap} (hs : Sat P g ρ H w) (hb : ρ.blk i = some b) (hv : LR ρ vs vs') (ho : vs.all oneCellB = true) (h : setCells H i off vs = some H1) :
    ∃ w1, (storeCells ⟨b, off, none⟩ vs' 0).run P w = .ok () w1 ∧ Stp P g ρ H w ρ H1 w1 := by
  unfold setCells get? at h
  have h1 := hv.oneCell ho
  cases hi : H[i]? with
  | none => simp [hi] at h
  | some o =>
    simp only [hi] at h
    have hl : isLive o = true := by cases o <;> simp_all [isLive]
    obtain ⟨b2, o2, hb2, ho2, hob⟩ := hs.obj i o hi hl
    rw [hb] at hb2; cases hb2
    cases o with
    | dead => simp [isLive] at hl
    | ro c => simp at h
    | part off c => simp at h
    | exact x =>
      cases x <;> try (simp at h; done)
      case cells c e fz =>
        simp only at h
        split at h
        case isFalse => cases h
        case isTrue hc =>
          simp only [Bool.and_eq_true, beq_iff_eq] at hc
          obtain ⟨hle, rfl⟩ := hc
          have hle' := Nat.le_of_ble_eq_true hle
          cases h
          have hob' : OR ρ (.cells c e (0, 0)) o2 := hob
          cases hob' with
          | cells _ c' _ _ hcc =>
            have hr := run_storeCells_at (P := P) b off e vs' 0 c' w ho2 (by rw [← hv.1, ← hcc.1]; simpa using hle') h1
            refine ⟨_, hr, ?_⟩
            have hlen : off + vs'.length ≤ c'.toList.length := by rw [← hv.1]; simpa [← hcc.1] using hle'
            refine Stp.upd hs hi hl hb (setRow_size _ _ _) (setRow_heap w b c' _ e _ ho2) (fun k hk => setRow_other _ _ _ hk) ?_ rfl rfl rfl
            refine OR.cells _ _ _ _ (AR.ofList ?_)
            have := LR.writeAt hv off (AR.toList.1 hcc)
            rw [writeAt_eq [] vs' off c'.toList hlen] at this
            simpa using this
    | row c e fz =>
      simp only at h
      split at h
      case isFalse => cases h
      case isTrue hc =>
        simp only [Bool.and_eq_true, beq_iff_eq] at hc
        obtain ⟨hle, rfl⟩ := hc
        have hle' := Nat.le_of_ble_eq_true hle
        cases h
        obtain ⟨c', rest, k, rfl, hcc, hk, hsz, hk2⟩ := hob
        have hlen : off + vs'.length ≤ c'.length := by rw [← hv.1, ← hcc.1]; exact hle'
        have hr := run_storeCells_at (P := P) b off e vs' 0 (c' ++ rest).toArray w ho2 (by simp; omega) h1
        refine ⟨_, hr, ?_⟩
        refine Stp.upd hs hi hl hb (setRow_size _ _ _) (setRow_heap w b _ _ e _ ho2) (fun k hk => setRow_other _ _ _ hk) ?_ rfl rfl rfl
        refine ⟨c'.take off ++ vs' ++ c'.drop (off + vs'.length), rest, k, ?_, ?_, hk, ?_, hk2⟩
        · simp only [Nat.add_zero]
          rw [List.take_append_of_le_length (by omega), List.drop_append_of_le_length (by omega)]
          simp
        · have := LR.writeAt hv off hcc
          rwa [writeAt_eq [] vs' off c' hlen] at this
        · simp at hsz ⊢; omega
theorem aStore_run {t : TypeId} {a a' v v' : Value} {H1 : AHeap} (hs : Sat P g ρ H w) (ha : VR ρ a a') (hv : VR ρ v v') (h : aStore P t a v H = some H1) :
    ∃ w1, (Instr.storeAt t a' v').run P w = .ok () w1 ∧ Stp P g ρ H w ρ H1 w1 := by
  unfold aStore at h
  split at h
  case h_2 => cases h
  case h_1 i off =>
    cases ha with
    | ptr _ b _ _ hb =>
      simp only [Option.bind_eq_bind, Option.bind_eq_some_iff] at h
      obtain ⟨n, hn, h⟩ := h
      split at h
      case isFalse => cases h
      case isTrue hc =>
        simp only [Bool.and_eq_true, beq_iff_eq] at hc
        obtain ⟨w1, hr, hst⟩ := setCells_run (P := P) hs hb (AR.toList.1 hv.cells) hc.2 h
        refine ⟨w1, ?_, hst⟩
        have hsz : v'.cells.size = n := by have := hc.1; have h2 := hv.cells.1; simp at this; omega
        simp [Instr.storeAt, Instr.sureAddr, storeVar, size_run hn, hsz, hr]
    | _ => cases h
end
end Go.Ar
end
section
namespace Go.Ar
open Go.RowKit
section
variable {P : Program} {g : Nat} {ρ : Rho} {H : AHeap} {w : World}
theorem aField_run {s : TypeId} {x x' v : Value} {f : Nat} (hx : VR ρ x x') (h : aField P s x f = some v) : ∃ v', VR ρ v v' ∧ ∀ w : World, (Instr.fieldAt s x' f).run P w = .ok v' w := by
  unfold aField at h
  split at h
  case h_2 => cases h
  case h_1 fields i off hu =>
    cases hx with
    | ptr _ b _ _ hb =>
      cases hf : fields[f]? with
      | none => simp [hf] at h
      | some fd =>
        cases hn : sizeB P fd.type with
        | none => simp [hf, hn] at h
        | some n =>
          simp only [hf, hn] at h
          split at h
          · cases h
          · rename_i hn0
            cases h
            refine ⟨_, .ptr i b _ none hb, fun w => ?_⟩
            simp [Instr.fieldAt, run_underlying hu, hf, Instr.sureAddr, fieldPlace, size_run hn, hn0, add_none]
    | _ => cases h
theorem aIndex_run {t : TypeId} {x x' ix ix' v : Value} (hx : VR ρ x x') (hi : VR ρ ix ix') (h : aIndex P t x ix = some v) :
    ∃ v', VR ρ v v' ∧ ∀ w : World, (Instr.indexAt t x' ix').run P w = .ok v' w := by
  unfold aIndex at h
  split at h
  case h_3 => cases h
  case h_1 k i len elem b off hu =>
    cases hi with
    | int =>
      cases hx with
      | ptr _ b' _ _ hb =>
        cases hn : sizeB P elem with
        | none => simp [hn] at h
        | some n =>
          simp only [hn] at h
          split at h
          case isFalse => cases h
          case isTrue hc =>
            cases h
            refine ⟨_, .ptr _ b' _ none hb, fun w => ?_⟩
            simp [Instr.indexAt, run_underlying hu, asIntOf, Instr.sureAddr, size_run hn, hc.1, hc.2, add_none]
  case h_2 k i elem b off len cap hu =>
    cases hi with
    | int =>
      cases hx with
      | slice _ b' _ _ _ _ _ hb _ =>
        cases hn : sizeB P elem with
        | none => simp [hn] at h
        | some n =>
          simp only [hn] at h
          split at h
          case isFalse => cases h
          case isTrue hc =>
            cases h
            refine ⟨_, .ptr _ b' _ none hb, fun w => ?_⟩
            simp [Instr.indexAt, run_underlying hu, asIntOf, size_run hn, hc.1, hc.2, add_none]
theorem CapR.lit {k c : Nat} (h : CapR ρ k c) (hk : k < BIG) : c = k := by
  rcases h with ⟨_, e⟩ | ⟨h, _⟩
  · exact e
  · omega
theorem CapR.sym {k c : Nat} (h : CapR ρ k c) (hk : ¬ k < BIG) : ρ.cap (k - BIG) = some c := by
  rcases h with ⟨h, _⟩ | ⟨_, e⟩
  · omega
  · exact e
theorem lt_of_ble {a b : Nat} (h : Nat.ble (a + 1) b = true) : a < b := Nat.le_of_ble_eq_true h
theorem capOk_le {elem : TypeId} {i off cap c h b : Nat} (hs : Sat P g ρ H w) (hb : ρ.blk i = some b) (hc : CapR ρ cap c) (hok : capOk P H elem i off cap h = true) : h ≤ c := by
  unfold capOk at hok
  split at hok
  · rename_i hlt
    rw [hc.lit (lt_of_ble hlt)]; exact Nat.le_of_ble_eq_true hok
  · rename_i hlt
    have hbig : ¬ cap < BIG := fun h => hlt (Nat.ble_eq_true_of_le h)
    split at hok
    case h_2 => cases hok
    case h_1 c2 e fz hg =>
      simp only [Bool.and_eq_true, beq_iff_eq, bne_iff_ne, ne_eq] at hok
      obtain ⟨⟨⟨⟨rfl, rfl⟩, rfl⟩, hne⟩, hle⟩ := hok
      have hle' := Nat.le_of_ble_eq_true hle
      obtain ⟨b2, o2, _, _, c', rest, k, rfl, hl, hk, hsz, _⟩ := hs.obj i _ hg rfl
      have hck : ρ.cap i = some c := by have := hc.sym hbig; simpa using this
      rw [hk] at hck; cases hck
      have h1 : c2.length ≤ c * P.cellsOf e := by rw [← hsz, hl.1]; simp
      exact Nat.le_of_mul_le_mul_right (Nat.le_trans hle' h1) (by omega)
theorem bound_run (k : IntKind) {n y : Nat} (h : n ≤ y) (code : BoundsCode) {m : Int} (hm0 : 0 ≤ m) (hm : m.toNat = n) (w : World) : (Instr.sliceBound (.int k m) y code).run P w = .ok n w := by
  have h2 : m ≤ (y : Int) := by omega
  simp [Instr.sliceBound, asIntOf, hm0, h2, hm]
def OptVR (ρ : Rho) (a b : Option Value) : Prop := match a, b with | none, none => True | some a, some b => VR ρ a b | _, _ => False
theorem lo_cases {lo lo' : Option Value} (hlo : OptVR ρ lo lo') {l : Nat} (h : loOf lo = some l) : (lo' = none ∧ l = 0) ∨ ∃ k m, lo' = some (.int k m) ∧ 0 ≤ m ∧ m.toNat = l := by
  cases lo with
  | none => cases lo' with
    | none => simp [loOf] at h; exact .inl ⟨rfl, h.symm⟩
    | some _ => exact hlo.elim
  | some v =>
    cases lo' with
    | none => exact hlo.elim
    | some v' =>
      have hv : VR ρ v v' := hlo
      unfold loOf at h
      split at h
      · rename_i e; cases e
      · rename_i k n e
        cases e
        split at h
        · rename_i hn; cases h; cases hv; exact .inr ⟨k, n, rfl, hn, rfl⟩
        · cases h
      · cases h
theorem hi_cases {hi hi' : Option Value} (hhi : OptVR ρ hi hi') {q : Option Nat} (h : hiOf hi = some q) : (hi' = none ∧ q = none) ∨ ∃ k m, hi' = some (.int k m) ∧ 0 ≤ m ∧ q = some m.toNat := by
  cases hi with
  | none => cases hi' with
    | none => simp [hiOf] at h; exact .inl ⟨rfl, h.symm⟩
    | some _ => exact hhi.elim
  | some v =>
    cases hi' with
    | none => exact hhi.elim
    | some v' =>
      have hv : VR ρ v v' := hhi
      unfold hiOf at h
      split at h
      · rename_i e; cases e
      · rename_i k n e
        cases e
        split at h
        · rename_i hn; cases h; cases hv; exact .inr ⟨k, n, rfl, hn, rfl⟩
        · cases h
      · cases h
theorem aSlice_run {t : TypeId} {x x' v : Value} {lo lo' hi hi' : Option Value} (hs : Sat P g ρ H w) (hx : VR ρ x x') (hlo : OptVR ρ lo lo') (hhi : OptVR ρ hi hi')
    (h : aSlice P t x lo hi H = some v) : ∃ v', VR ρ v v' ∧ (Instr.sliceAt t x' lo' hi' none).run P w = .ok v' w := by
  unfold aSlice at h
  split at h
  case h_3 => cases h
  case h_1 l hq elem i off len cap hl hh hu =>
    cases hx with
    | slice _ b _ _ _ _ c hb hc =>
      cases hn : sizeB P elem with
      | none => simp [hn] at h
      | some size =>
        simp only [hn] at h
        split at h
        case isFalse => cases h
        case isTrue hcond =>
          simp only [Bool.and_eq_true, Bool.or_eq_true] at hcond
          obtain ⟨hle, hcap⟩ := hcond
          have hle' := Nat.le_of_ble_eq_true hle
          have hrun : (Instr.sliceAt t (.slice (some ⟨b, off, none⟩) len c) lo' hi' none).run P w =
              .ok (.slice (if c = l then some ⟨b, off, none⟩ else (some (⟨b, off, none⟩ : Addr)).map (·.add (l * size))) (hq.getD len - l) (c - l)) w := by
            rcases lo_cases hlo hl with ⟨rfl, rfl⟩ | ⟨kl, ml, rfl, hl0, hl1⟩ <;> rcases hi_cases hhi hh with ⟨rfl, rfl⟩ | ⟨kh, mh, rfl, hh0, rfl⟩
            · simp [Instr.sliceAt, run_underlying hu, Instr.slice, Instr.sliceBounds, size_run hn]
            · have hb1 := fun w0 => bound_run (P := P) kh (capOk_le hs hb hc (by simpa using hcap)) .sliceAcap hh0 rfl w0
              simp [Instr.sliceAt, run_underlying hu, Instr.slice, Instr.sliceBounds, size_run hn, hb1]
            · have hb2 := fun w0 => bound_run (P := P) kl hle' .sliceB hl0 hl1 w0
              simp only [Option.getD_none] at hb2
              simp [Instr.sliceAt, run_underlying hu, Instr.slice, Instr.sliceBounds, size_run hn, hb2]
            · have hb1 := fun w0 => bound_run (P := P) kh (capOk_le hs hb hc (by simpa using hcap)) .sliceAcap hh0 rfl w0
              have hb2 := fun w0 => bound_run (P := P) kl hle' .sliceB hl0 hl1 w0
              simp only [Option.getD_some] at hb2
              simp [Instr.sliceAt, run_underlying hu, Instr.slice, Instr.sliceBounds, size_run hn, hb1, hb2]
          rw [hrun]
          split at h
          · rename_i hl0
            cases h
            subst hl0
            refine ⟨_, ?_, rfl⟩
            have : (if c = 0 then some (⟨b, off, none⟩ : Addr) else (some (⟨b, off, none⟩ : Addr)).map (·.add (0 * size))) = some ⟨b, off, none⟩ := by
              split <;> simp [add_none]
            rw [this]
            exact .slice i b off none _ cap c hb hc
          · split at h
            case isFalse => cases h
            case isTrue hc2 =>
              simp only [Bool.and_eq_true] at hc2
              cases h
              have hcl := hc.lit (lt_of_ble hc2.1)
              subst hcl
              refine ⟨_, ?_, rfl⟩
              have hcr : CapR ρ (c - l) (c - l) := .inl ⟨by have := lt_of_ble hc2.1; omega, rfl⟩
              by_cases e : c = l
              · simp only [e, if_true]
                rw [e] at hcr
                exact .slice i b off none _ _ _ hb hcr
              · simp only [e, if_false, Option.map_some, add_none]
                exact .slice i b _ none _ _ _ hb hcr
  case h_2 l hq n elem i off hl hh hu =>
    cases hx with
    | ptr _ b _ _ hb =>
      cases hn : sizeB P elem with
      | none => simp [hn] at h
      | some size =>
        simp only [hn] at h
        split at h
        case isFalse => cases h
        case isTrue hcond =>
          simp only [Bool.and_eq_true] at hcond
          obtain ⟨⟨hle, hhn⟩, hbig⟩ := hcond
          have hle' := Nat.le_of_ble_eq_true hle
          have hhn' := Nat.le_of_ble_eq_true hhn
          cases h
          have hrun : (Instr.sliceAt t (.pointer (some ⟨b, off, none⟩)) lo' hi' none).run P w =
              .ok (.slice (some (if n = l then ⟨b, off, none⟩ else (⟨b, off, none⟩ : Addr).add (l * size))) (hq.getD n - l) (n - l)) w := by
            rcases lo_cases hlo hl with ⟨rfl, rfl⟩ | ⟨kl, ml, rfl, hl0, hl1⟩ <;> rcases hi_cases hhi hh with ⟨rfl, rfl⟩ | ⟨kh, mh, rfl, hh0, rfl⟩
            · simp [Instr.sliceAt, run_underlying hu, Instr.sureAddr, Instr.sliceBounds, size_run hn]
            · have hb1 := fun w0 => bound_run (P := P) kh (by simpa using hhn') .sliceAlen hh0 rfl w0
              simp [Instr.sliceAt, run_underlying hu, Instr.sureAddr, Instr.sliceBounds, size_run hn, hb1]
            · have hb2 := fun w0 => bound_run (P := P) kl hle' .sliceB hl0 hl1 w0
              simp only [Option.getD_none] at hb2
              simp [Instr.sliceAt, run_underlying hu, Instr.sureAddr, Instr.sliceBounds, size_run hn, hb2]
            · have hb1 := fun w0 => bound_run (P := P) kh (by simpa using hhn') .sliceAlen hh0 rfl w0
              have hb2 := fun w0 => bound_run (P := P) kl hle' .sliceB hl0 hl1 w0
              simp only [Option.getD_some] at hb2
              simp [Instr.sliceAt, run_underlying hu, Instr.sureAddr, Instr.sliceBounds, size_run hn, hb1, hb2]
          rw [hrun]
          refine ⟨_, ?_, rfl⟩
          have hcr : CapR ρ (n - l) (n - l) := .inl ⟨by have := lt_of_ble hbig; omega, rfl⟩
          by_cases e : n = l
          · simp only [e, if_true]
            rw [e] at hcr
            exact .slice i b off none _ _ _ hb hcr
          · simp only [e, if_false, add_none]
            exact .slice i b _ none _ _ _ hb hcr
    | _ => cases hu
theorem aSlice0_run {t : TypeId} {x x' v : Value} {lo lo' hi hi' mx mx' : Option Value} (hx : VR ρ x x') (hlo : OptVR ρ lo lo') (hhi : OptVR ρ hi hi') (hmx : OptVR ρ mx mx')
    (h : aSlice0 P t x lo hi mx = some v) : ∃ v', VR ρ v v' ∧ ∀ w : World, (Instr.sliceAt t x' lo' hi' mx').run P w = .ok v' w := by
  unfold aSlice0 at h
  split at h
  case h_2 => cases h
  case h_1 elem i off len cap k1 k2 hu =>
    split at h
    case h_2 => cases h
    case h_1 it hn =>
      cases h
      cases hx with
      | slice _ b _ _ _ _ c hb hc =>
        cases lo' with
        | some _ => exact hlo.elim
        | none =>
          cases hi' with
          | none => exact hhi.elim
          | some hv =>
            cases mx' with
            | none => exact hmx.elim
            | some mv =>
              have h1 : VR ρ (.int k1 0) hv := hhi
              have h2 : VR ρ (.int k2 0) mv := hmx
              cases h1; cases h2
              refine ⟨_, .slice i b off none 0 0 0 hb (.inl ⟨by decide, rfl⟩), fun w => ?_⟩
              simp [Instr.sliceAt, run_underlying hu, Instr.slice, Instr.sliceBounds, Instr.sliceBound, asIntOf, sizeOf, typeInfo, hn]
theorem AR.extract {a a' : Array Value} (h : AR ρ a a') (i j : Nat) : AR ρ (a.extract i j) (a'.extract i j) := by
  rw [AR.toList] at *
  simp only [Array.toList_extract, List.extract_eq_take_drop]
  exact (h.drop i).take _
theorem aPart_run {t : TypeId} {cs cs' : Array Value} {off : Nat} {v : Value} (hc : AR ρ cs cs') (h : aPart P t cs off = some v) : ∃ v', VR ρ v v' ∧ ∀ w : World, (part t cs' off).run P w = .ok v' w := by
  unfold aPart at h
  split at h
  case h_1 hag =>
    simp only [Option.map_eq_some_iff] at h
    obtain ⟨n, hn, rfl⟩ := h
    exact ⟨_, .agg' (hc.extract off (off + n)), fun w => by simp [part, agg_run hag, size_run hn]⟩
  case h_2 hag =>
    obtain ⟨v', hv', hvv⟩ := hc.get h
    exact ⟨v', hvv, fun w => by simp [part, agg_run hag, hv']⟩
  case h_3 => cases h
theorem aFieldOf_run {t : TypeId} {x x' v : Value} {f : Nat} (hx : VR ρ x x') (h : aFieldOf P t x f = some v) : ∃ v', VR ρ v v' ∧ ∀ w : World, (Instr.field t x' f).run P w = .ok v' w := by
  unfold aFieldOf at h
  split at h
  case h_2 => cases h
  case h_1 fields cs hu =>
    cases hx with
    | agg _ cs' hs hc =>
      cases hf : fields[f]? with
      | none => simp [hf] at h
      | some fd =>
        simp only [hf] at h
        obtain ⟨v', hv, hr⟩ := aPart_run (P := P) (ρ := ρ) ⟨hs, hc⟩ h
        exact ⟨v', hv, fun w => by simp [Instr.field, run_underlying hu, hf, asAgg, hr]⟩
end
end Go.Ar
end
section
namespace Go.Ar
open Go.RowKit
section
variable {P : Program} {g : Nat} {ρ : Rho} {H : AHeap} {w : World}
theorem LR.plain {l : List Value} (h : l.all plain = true) : LR ρ l l :=
  ⟨rfl, fun i v v' a b => by rw [a] at b; cases b; exact plain_VR (all_mem h a)⟩
theorem AR.plain {a : Array Value} (h : a.toList.all Ar.plain = true) : AR ρ a a := AR.toList.2 (LR.plain h)
def PR (ρ : Rho) (l l' : List (Nat × Value)) : Prop := l.length = l'.length ∧ ∀ (i : Nat) (p p' : Nat × Value), l[i]? = some p → l'[i]? = some p' → p.1 = p'.1 ∧ VR ρ p.2 p'.2
theorem PR.nil_left {l' : List (Nat × Value)} (h : PR ρ [] l') : l' = [] := by have := h.1; simp at this; exact List.length_eq_zero_iff.1 this.symm
theorem PR.cons_left {p : Nat × Value} {l l' : List (Nat × Value)} (h : PR ρ (p :: l) l') : ∃ p' k, l' = p' :: k ∧ p.1 = p'.1 ∧ VR ρ p.2 p'.2 ∧ PR ρ l k := by
  cases l' with
  | nil => have := h.1; simp at this
  | cons p' k =>
    obtain ⟨a, b⟩ := h.2 0 p p' rfl rfl
    exact ⟨p', k, rfl, a, b, by have := h.1; simpa using this, fun i q q' x y => h.2 (i + 1) q q' (by simpa using x) (by simpa using y)⟩
theorem foldl_set_rel (off : Nat) : ∀ (l l' : List (Value × Nat)) (c c' : Array Value), l.length = l'.length → (∀ (i : Nat) (p p' : Value × Nat), l[i]? = some p → l'[i]? = some p' → p.2 = p'.2 ∧ VR ρ p.1 p'.1) → AR ρ c c' →
    AR ρ (l.foldl (fun cs p => cs.setIfInBounds (off + p.2) p.1) c) (l'.foldl (fun cs p => cs.setIfInBounds (off + p.2) p.1) c')
  | [], [], _, _, _, _, h => h
  | [], _ :: _, _, _, hl, _, _ => by simp at hl
  | _ :: _, [], _, _, hl, _, _ => by simp at hl
  | p :: l, p' :: l', c, c', hl, hp, h => by
    obtain ⟨h1, h2⟩ := hp 0 p p' rfl rfl
    simp only [List.foldl_cons]
    rw [h1]
    exact foldl_set_rel off l l' _ _ (by simpa using hl) (fun i q q' a b => hp (i + 1) q q' (by simpa using a) (by simpa using b)) (h.setIfInBounds _ h2)
theorem fill_rel (place : Nat → Option (Nat × Nat)) : ∀ (l l' : List (Nat × Value)) (c c' r : Array Value), PR ρ l l' → AR ρ c c' → Instr.fill place c l = some r → ∃ r', Instr.fill place c' l' = some r' ∧ AR ρ r r' := by
  intro l
  induction l with
  | nil => intro l' c c' r hp hc h; rw [hp.nil_left]; simp [Instr.fill] at h; subst h; exact ⟨c', rfl, hc⟩
  | cons p l ih =>
    intro l' c c' r hp hc h
    obtain ⟨p', k, rfl, e, hv, hk⟩ := hp.cons_left
    obtain ⟨i, v⟩ := p
    obtain ⟨i', v'⟩ := p'
    simp only at e hv; subst e
    simp only [Instr.fill] at h ⊢
    cases hpl : place i with
    | none => simp [hpl] at h
    | some os =>
      obtain ⟨off, size⟩ := os
      simp only [hpl] at h ⊢
      have hcs := hv.cells
      rw [hcs.1, hc.1] at h
      split at h
      · cases h
      · rename_i hcond
        rw [if_neg hcond]
        refine ih k _ _ r hk ?_ h
        simp only [← Array.foldl_toList]
        refine foldl_set_rel off _ _ c c' (by simp [hcs.1]) (fun j q q' a b => ?_) hc
        rw [Array.getElem?_toList, Array.getElem?_zipIdx] at a b
        simp only [Option.map_eq_some_iff] at a b
        obtain ⟨x, hx, rfl⟩ := a
        obtain ⟨y, hy, rfl⟩ := b
        exact ⟨rfl, hcs.2 j x y hx hy⟩
theorem aBuild_run {t : TypeId} {parts parts' : List (Nat × Value)} {v : Value} (hp : PR ρ parts parts') (h : aBuild P t parts = some v) :
    ∃ v', VR ρ v v' ∧ ∀ w : World, (Instr.build t parts'.toArray).run P w = .ok v' w := by
  unfold aBuild at h
  split at h
  case h_2 => cases h
  case h_1 it hit =>
    split at h
    case h_2 => cases h
    case h_1 z hz =>
      split at h
      case isFalse => cases h
      case isTrue hpl =>
        simp only [Option.map_eq_some_iff] at h
        obtain ⟨cells, hb, rfl⟩ := h
        have hz' : AR ρ z.cells z.cells := AR.plain hpl
        have : ∃ cells', P.built t parts' = some cells' ∧ AR ρ cells cells' := by
          unfold Program.built at hb ⊢
          rw [hit] at hb ⊢
          cases hu : P.underlying t with
          | none => simp [hu] at hb
          | some d =>
            cases d <;> simp only [hu, hz] at hb ⊢ <;> try (cases hb; done)
            case array n e =>
              cases hie : P.info? e with
              | none => simp [hie] at hb
              | some ie =>
                simp only [hie] at hb ⊢
                exact fill_rel _ _ _ _ _ _ hp hz' hb
            case struct fields =>
              cases hpl2 : fields.toList.mapM (fun f => (P.info? f.type).map fun i => (f.offset, i.size)) with
              | none => simp [hpl2] at hb
              | some places =>
                simp only [hpl2] at hb ⊢
                exact fill_rel _ _ _ _ _ _ hp hz' hb
        obtain ⟨cells', hb', hr⟩ := this
        exact ⟨_, .agg' hr, fun w => run_build w t parts'.toArray cells' (by simpa using hb')⟩
theorem OR.newCells {c c' : Array Value} {e : TypeId} (i b : Nat) (hn : ρ.blk i = none) (h : AR ρ c c') : OR (ρ.add i b) (.cells c e (0, 0)) (.cells c' e (0, 0)) :=
  .cells _ _ _ _ (h.mono (ext_add hn))
def Made (P : Program) (g : Nat) (ρ : Rho) (H : AHeap) (w : World) (v : Value) (H1 : AHeap) (r : Result Value) : Prop :=
  ∃ ρ1 v' w1, r = .ok v' w1 ∧ Stp P g ρ H w ρ1 H1 w1 ∧ VR ρ1 v v'
theorem aNew_made (hs : Sat P g ρ H w) {e : TypeId} {c c' : Array Value} (h : AR ρ c c') :
    Stp P g ρ H w (ρ.add H.length w.heap.size) (aNew H e c) (w.alloc (.cells c' e)) :=
  Stp.alloc hs (OR.newCells _ _ (hs.blk_none (Nat.le_refl _)) h)
theorem aBuildSlice_run {t : TypeId} {len : Nat} {parts parts' : List (Nat × Value)} {v : Value} {H1 : AHeap} (hs : Sat P g ρ H w) (hp : PR ρ parts parts') (hlen : len < BIG)
    (h : aBuildSlice P t len parts H = some (v, H1)) : Made P g ρ H w v H1 ((Instr.buildSlice t len parts'.toArray).run P w) := by
  unfold aBuildSlice at h
  split at h
  case h_2 => cases h
  case h_1 elem hu =>
    split at h
    case h_2 => cases h
    case h_1 it hit =>
      split at h
      case isTrue => cases h
      case isFalse hsmall =>
        split at h
        case h_2 => cases h
        case h_1 zero hzero =>
          split at h
          case isFalse => cases h
          case isTrue hpl =>
            simp only [Bool.and_eq_true] at hpl
            split at h
            case h_2 => cases h
            case h_1 cells hf =>
              cases h
              obtain ⟨cells', hf', hr⟩ := fill_rel (ρ := ρ) _ _ _ _ _ _ hp (AR.plain hpl.2) hf
              refine ⟨_, _, _, ?_, aNew_made hs hr, .slice _ _ 0 none len len len (Rho.add_self) (.inl ⟨hlen, rfl⟩)⟩
              by_cases h0 : len * it.size = 0
              · simp only [h0, if_true, Option.some.injEq] at hzero
                subst hzero
                have hsm : ¬ 2 ^ 24 < len * it.size := hsmall
                simp only [Instr.buildSlice, Sem.run_bind, run_underlying hu, Result.andThen_ok, sizeOf, typeInfo, run_program, hit, Sem.run_pure, gt_iff_lt, if_neg hsm, if_pos h0, hf', newRow, run_newObj]
                rfl
              · simp only [h0, if_false, Option.map_eq_some_iff] at hzero
                obtain ⟨z, hz, rfl⟩ := hzero
                have hsm : ¬ 2 ^ 24 < len * it.size := hsmall
                simp only [Instr.buildSlice, Sem.run_bind, run_underlying hu, Result.andThen_ok, sizeOf, typeInfo, run_program, hit, Sem.run_pure, gt_iff_lt, if_neg hsm, if_neg h0, zeroValue, hz, hf', newRow, run_newObj]
                rfl
theorem get_live {i b : Nat} {x : Obj} (hs : Sat P g ρ H w) (hg : get? H i = some (.exact x)) (hb : ρ.blk i = some b) : ∃ o', w.heap[b]? = some o' ∧ OR ρ x o' := by
  obtain ⟨b2, o2, hb2, ho2, hob⟩ := hs.obj i _ hg rfl
  rw [hb] at hb2; cases hb2
  exact ⟨o2, ho2, hob⟩
def EsR (ρ : Rho) (es es' : Array MapEntry) : Prop := es.size = es'.size ∧ ∀ (i : Nat) (e e' : MapEntry), es[i]? = some e → es'[i]? = some e' → ER ρ e e'
theorem aMap_some {m m' : Value} {r : Nat} {es : Array MapEntry} {clock : Nat} (hs : Sat P g ρ H w) (hm : VR ρ m m') (h : aMap H m = some (some r, es, clock)) :
    m = .map (some r) ∧ get? H r = some (.exact (.map es clock)) ∧ ∃ b es', ρ.blk r = some b ∧ m' = .map (some b) ∧ w.heap[b]? = some (.map es' clock) ∧ EsR ρ es es' := by
  unfold aMap at h
  split at h
  · cases h
  · split at h
    · rename_i hg
      cases h
      cases hm with
      | map _ b hb =>
        obtain ⟨o', ho, hor⟩ := get_live hs hg hb
        cases hor with
        | map _ es' _ hs' he => exact ⟨rfl, hg, b, es', hb, rfl, ho, hs', he⟩
    · cases h
  · cases h
theorem aMap_none {m m' : Value} {es : Array MapEntry} {clock : Nat} (hm : VR ρ m m') (h : aMap H m = some (none, es, clock)) : m' = .map none ∧ es = #[] := by
  unfold aMap at h
  split at h
  · cases h; cases hm; exact ⟨rfl, rfl⟩
  · split at h
    · cases h
    · cases h
  · cases h
theorem pureOf_bind {α β : Type} (s : Sem α) (f : α → Sem β) : pureOf P (s >>= f) = (pureOf P s).bind fun a => pureOf P (f a) := by
  show pureOf P (s.bind f) = _
  induction s with
  | pure a => rfl
  | program k ih => exact ih P
  | mark m k ih => exact ih
  | _ => rfl
def ELR (ρ : Rho) (l l' : List MapEntry) : Prop := l.length = l'.length ∧ ∀ (i : Nat) (e e' : MapEntry), l[i]? = some e → l'[i]? = some e' → ER ρ e e'
theorem EsR.toList {es es' : Array MapEntry} : EsR ρ es es' ↔ ELR ρ es.toList es'.toList := by simp [EsR, ELR]
theorem ELR.nil_left {l' : List MapEntry} (h : ELR ρ [] l') : l' = [] := by have := h.1; simp at this; exact List.length_eq_zero_iff.1 this.symm
theorem ELR.cons_left {e : MapEntry} {l l' : List MapEntry} (h : ELR ρ (e :: l) l') : ∃ e' k, l' = e' :: k ∧ ER ρ e e' ∧ ELR ρ l k := by
  cases l' with
  | nil => have := h.1; simp at this
  | cons e' k => exact ⟨e', k, rfl, h.2 0 e e' rfl rfl, by have := h.1; simpa using this, fun i q q' x y => h.2 (i + 1) q q' (by simpa using x) (by simpa using y)⟩
def FoundR (ρ : Rho) : Option (Nat × Value) → Option (Nat × Value) → Prop
  | none, none => True
  | some (i, v), some (j, u) => i = j ∧ VR ρ v u
  | _, _ => False
theorem findNow_rel (kind : TypeDesc) (k : Value) : ∀ (l l' : List MapEntry) (i : Nat), ELR ρ l l' → l.all (fun e => plain e.key) = true →
    (match Instr.findNow kind k l i, Instr.findNow kind k l' i with | none, none => True | some a, some b => FoundR ρ a b | _, _ => False) := by
  intro l
  induction l with
  | nil => intro l' i h _; rw [h.nil_left]; simp [Instr.findNow, FoundR]
  | cons e l ih =>
    intro l' i h hp
    obtain ⟨e', m, rfl, he, hm⟩ := h.cons_left
    simp only [List.all_cons, Bool.and_eq_true] at hp
    have hk : e'.key = e.key := plain_eq hp.1 he.1
    simp only [Instr.findNow, hk]
    cases Instr.sameNow kind k e.key with
    | none => trivial
    | some b =>
      cases b with
      | true => exact ⟨rfl, he.2.1⟩
      | false => exact ih m (i + 1) hm hp.2
theorem findAsking_rel (kt : TypeId) (k : Value) : ∀ (l l' : List MapEntry) (i : Nat) (r : Option (Nat × Value)), ELR ρ l l' → l.all (fun e => plain e.key) = true → pureOf P (Instr.findAsking kt k l i) = some r →
    ∃ r', FoundR ρ r r' ∧ ∀ w : World, (Instr.findAsking kt k l' i).run P w = .ok r' w := by
  intro l
  induction l with
  | nil => intro l' i r h _ hr; rw [h.nil_left]; simp [Instr.findAsking] at hr; cases hr; exact ⟨none, trivial, fun w => rfl⟩
  | cons e l ih =>
    intro l' i r h hp hr
    obtain ⟨e', m, rfl, he, hm⟩ := h.cons_left
    simp only [List.all_cons, Bool.and_eq_true] at hp
    have hk : e'.key = e.key := plain_eq hp.1 he.1
    simp only [Instr.findAsking] at hr ⊢
    rw [pureOf_bind] at hr
    cases hq : pureOf P (Op.equal kt k e.key) with
    | none => simp [hq] at hr
    | some b =>
      simp only [hq, Option.bind_some] at hr
      have hrun := pureOf_run _ _ hq
      cases b with
      | true =>
        simp only [if_true] at hr
        cases hr
        exact ⟨some (i, e'.val), ⟨rfl, he.2.1⟩, fun w => by rw [Sem.run_bind, hk, hrun]; rfl⟩
      | false =>
        simp only [Bool.false_eq_true, if_false] at hr
        obtain ⟨r', hr1, hr2⟩ := ih m (i + 1) r hm hp.2 hr
        exact ⟨r', hr1, fun w => by rw [Sem.run_bind, hk, hrun]; simpa using hr2 w⟩
theorem findKey_rel {kt : TypeId} {k : Value} {l l' : List MapEntry} {r : Option (Nat × Value)} (h : ELR ρ l l') (hp : l.all (fun e => plain e.key) = true) (hr : pureOf P (Instr.findKey kt k l) = some r) :
    ∃ r', FoundR ρ r r' ∧ ∀ w : World, (Instr.findKey kt k l').run P w = .ok r' w := by
  unfold Instr.findKey at hr ⊢
  rw [pureOf_bind] at hr
  cases hu : pureOf P (underlying kt) with
  | none => simp [hu] at hr
  | some d =>
    simp only [hu, Option.bind_some] at hr
    have hur := pureOf_run _ _ hu
    have hnow := findNow_rel (ρ := ρ) d k l l' 0 h hp
    cases h1 : Instr.findNow d k l 0 with
    | some a =>
      cases h2 : Instr.findNow d k l' 0 with
      | none => rw [h1, h2] at hnow; exact hnow.elim
      | some b =>
        rw [h1, h2] at hnow
        simp only [h1] at hr
        cases hr
        exact ⟨b, hnow, fun w => by rw [Sem.run_bind, hur]; simp [h2]⟩
    | none =>
      cases h2 : Instr.findNow d k l' 0 with
      | some b => rw [h1, h2] at hnow; exact hnow.elim
      | none =>
        simp only [h1] at hr
        obtain ⟨r', hr1, hr2⟩ := findAsking_rel (P := P) kt k l l' 0 r h hp hr
        exact ⟨r', hr1, fun w => by rw [Sem.run_bind, hur]; simpa [h2] using hr2 w⟩
theorem aFind_rel {empty : Bool} {kt : TypeId} {key : Value} {es es' : Array MapEntry} {r : Option (Nat × Value)} (he : EsR ρ es es') (h : aFind P empty kt key es = some r) :
    plain key = true ∧ (∀ w : World, (Instr.checkKey empty 10000 kt key).run P w = .ok () w) ∧ ∃ r', FoundR ρ r r' ∧ ∀ w : World, (Instr.findKey kt key es'.toList).run P w = .ok r' w := by
  unfold aFind at h
  split at h
  case isFalse => cases h
  case isTrue hc =>
    simp only [Bool.and_eq_true] at hc
    obtain ⟨⟨hk, hes⟩, hck⟩ := hc
    refine ⟨hk, ?_, findKey_rel (EsR.toList.1 he) hes h⟩
    cases hp : pureOf P (Instr.checkKey empty 10000 kt key) with
    | none => simp [hp] at hck
    | some u => exact pureOf_run _ _ hp
def notCells : Obj → Bool
  | .cells .. => false
  | _ => true
theorem getObj_run {b : Nat} {o : Obj} (h : w.heap[b]? = some o) (hn : notCells o = true) : (getObj b).run P w = .ok o w := by
  simp only [getObj, Sem.run, h]
  cases o <;> first | rfl | (simp [notCells] at hn)
theorem setObj_run {b : Nat} {o : Obj} (h : w.heap[b]? = some o) (hn : notCells o = true) (o' : Obj) : (setObj b o').run P w = .ok () { w with heap := w.heap.setIfInBounds b o' } := by
  simp only [setObj, Sem.run, h]
  cases o <;> first | rfl | (simp [notCells] at hn)
theorem aLookup_run {t : TypeId} {m m' k k' v : Value} {ok : Bool} (hs : Sat P g ρ H w) (hm : VR ρ m m') (hk : VR ρ k k') (h : aLookup P t m k ok H = some v) :
    ∃ v', VR ρ v v' ∧ (Instr.lookup t m' k' ok).run P w = .ok v' w := by
  unfold aLookup at h
  split at h
  case h_2 => cases h
  case h_1 kt elem q es cl hu hq =>
    cases hf : aFind P es.isEmpty kt k es with
    | none => simp [hf] at h
    | some r =>
      have hes : ∃ es', EsR ρ es es' ∧ ((m' = .map none ∧ es' = #[]) ∨ ∃ b c, m' = .map (some b) ∧ w.heap[b]? = some (.map es' c)) := by
        cases q with
        | none =>
          obtain ⟨rfl, rfl⟩ := aMap_none hm hq
          exact ⟨#[], ⟨rfl, fun i e e' h => by simp at h⟩, .inl ⟨rfl, rfl⟩⟩
        | some r =>
          obtain ⟨_, _, b, es', hb, rfl, ho, he⟩ := aMap_some hs hm hq
          exact ⟨es', he, .inr ⟨b, cl, rfl, ho⟩⟩
      obtain ⟨es', he, hcase⟩ := hes
      have hemp : es'.isEmpty = es.isEmpty := by simp [Array.isEmpty, he.1]
      obtain ⟨hpk, hck, r', hr, hfr⟩ := aFind_rel (P := P) he hf
      have hkk := plain_eq hpk hk
      subst hkk
      have step : (Instr.lookup t m' k' ok).run P w = ((do
          let (v, ok2) ← match r' with
            | some (_, v) => pure (v, true)
            | none => do pure (← zeroValue elem, false)
          pure (if ok then .tuple #[v, .bool ok2] else v) : Sem Value)).run P w := by
        rcases hcase with ⟨rfl, rfl⟩ | ⟨b, c, rfl, ho⟩
        · simp only [← hemp] at hck
          simp only [Instr.lookup, Sem.run_bind, run_underlying hu, Result.andThen_ok, Sem.run_pure, hck, hfr]
          rcases r' with _ | ⟨_, _⟩ <;> rfl
        · simp only [Instr.lookup, Sem.run_bind, run_underlying hu, Result.andThen_ok, Sem.run_pure, getObj_run ho rfl, hemp, hck, hfr]
          rcases r' with _ | ⟨_, _⟩ <;> rfl
      rw [step]
      cases r with
      | none =>
        cases r' with
        | some _ => exact hr.elim
        | none =>
          simp only [hf] at h
          split at h
          case h_2 => cases h
          case h_1 z hz =>
            split at h
            case isFalse => cases h
            case isTrue hpz =>
              cases h
              unfold zeroB at hz
              cases hi : P.info? elem with
              | none => simp [hi] at hz
              | some it =>
                simp [hi] at hz
                refine ⟨if ok then .tuple #[z, .bool false] else z, ?_, by simp [zeroValue, typeInfo, hi, hz]⟩
                cases ok
                · exact plain_VR hpz
                · exact .tuple' (AR.toList.2 (.cons (plain_VR hpz) (.cons (.bool _) .nil)))
      | some iv =>
        obtain ⟨i, v0⟩ := iv
        cases r' with
        | none => exact hr.elim
        | some jv =>
          obtain ⟨j, v1⟩ := jv
          obtain ⟨_, hv⟩ := hr
          simp only [hf] at h
          cases h
          refine ⟨if ok then .tuple #[v1, .bool true] else v1, ?_, by simp⟩
          cases ok
          · exact hv
          · exact .tuple' (AR.toList.2 (.cons hv (.cons (.bool _) .nil)))
theorem setMap_stp {r b : Nat} {es es2 es' es2' : Array MapEntry} {clock clock2 : Nat} (hs : Sat P g ρ H w) (hg : get? H r = some (.exact (.map es clock))) (hb : ρ.blk r = some b) (ho : w.heap[b]? = some (.map es' clock)) (he : EsR ρ es2 es2') :
    (setObj b (.map es2' clock2)).run P w = .ok () { w with heap := w.heap.setIfInBounds b (.map es2' clock2) } ∧
    Stp P g ρ H w ρ (hset H r (.exact (.map es2 clock2))) { w with heap := w.heap.setIfInBounds b (.map es2' clock2) } := by
  have hlt : b < w.heap.size := hs.lt hg rfl hb
  refine ⟨setObj_run ho rfl _, Stp.upd hs hg rfl hb (by simp) (by simp [hlt]) (fun k hk => ?_) (OR.map _ _ _ he.1 he.2) rfl rfl rfl⟩
  simp [Ne.symm hk]
theorem EsR.modify {es es' : Array MapEntry} (h : EsR ρ es es') (i : Nat) {f f' : MapEntry → MapEntry} (hf : ∀ e e', ER ρ e e' → ER ρ (f e) (f' e')) : EsR ρ (es.modify i f) (es'.modify i f') := by
  refine ⟨by simp [h.1], fun j e e' a b => ?_⟩
  rw [Array.getElem?_modify] at a b
  split at a
  · rename_i hij
    simp only [hij, if_true, Option.map_eq_some_iff] at a b
    obtain ⟨x, hx, rfl⟩ := a
    obtain ⟨y, hy, rfl⟩ := b
    exact hf _ _ (h.2 j x y hx hy)
  · rename_i hij
    simp only [hij, if_false] at b
    exact h.2 j e e' a b
theorem EsR.push {es es' : Array MapEntry} (h : EsR ρ es es') {e e' : MapEntry} (he : ER ρ e e') : EsR ρ (es.push e) (es'.push e') := by
  refine ⟨by simp [h.1], fun j x x' a b => ?_⟩
  rw [Array.getElem?_push] at a b
  rw [h.1] at a
  split at a
  · rename_i hj; simp only [hj, if_true] at b; cases a; cases b; exact he
  · rename_i hj; simp only [hj, if_false] at b; exact h.2 j x x' a b
theorem key_at {es es' : Array MapEntry} {key : Value} (he : EsR ρ es es') (hp : es.toList.all (fun e => plain e.key) = true) (i : Nat) : ((es'[i]?).map (·.key)).getD key = ((es[i]?).map (·.key)).getD key := by
  cases hi : es[i]? with
  | some e =>
    have hl := Array.getElem?_eq_some_iff.1 hi
    obtain ⟨hlt, _⟩ := hl
    have h' : es'[i]? = some (es'[i]'(by rw [← he.1]; exact hlt)) := Array.getElem?_eq_getElem _
    have := he.2 i _ _ hi h'
    rw [h']
    simp only [Option.map_some, Option.getD_some]
    exact plain_eq (all_mem hp (i := i) (by simpa using hi)) this.1
  | none =>
    have : es'[i]? = none := by rw [Array.getElem?_eq_none_iff] at *; rw [← he.1]; exact hi
    simp [this]
theorem aMapUpdate_run {t : TypeId} {m m' k k' v v' : Value} {H1 : AHeap} (hs : Sat P g ρ H w) (hm : VR ρ m m') (hk : VR ρ k k') (hv : VR ρ v v') (h : aMapUpdate P t m k v H = some H1) :
    ∃ w1, (Instr.mapUpdate t m' k' v').run P w = .ok () w1 ∧ Stp P g ρ H w ρ H1 w1 := by
  unfold aMapUpdate at h
  split at h
  case h_2 => cases h
  case h_1 kt et r es clock hu hq =>
    obtain ⟨_, hg, b, es', hb, rfl, ho, he⟩ := aMap_some hs hm hq
    cases hf : aFind P false kt k es with
    | none => simp [hf] at h
    | some fr =>
      obtain ⟨hpk, hck, r', hr, hfr⟩ := aFind_rel (P := P) he hf
      have hes : es.toList.all (fun e => plain e.key) = true := by
        unfold aFind at hf
        split at hf
        · rename_i hc; simp only [Bool.and_eq_true] at hc; exact hc.1.2
        · cases hf
      have hkk := plain_eq hpk hk
      subst hkk
      simp only [hf] at h
      cases fr with
      | none =>
        cases r' with
        | some _ => exact hr.elim
        | none =>
          cases h
          obtain ⟨h1, h2⟩ := setMap_stp (P := P) (clock2 := clock + 1) hs hg hb ho (he.push (e := { key := k', val := v, born := clock }) (e' := { key := k', val := v', born := clock }) ⟨hk, hv, rfl⟩)
          exact ⟨_, by simp only [Instr.mapUpdate, Sem.run_bind, run_underlying hu, Result.andThen_ok, getObj_run ho rfl, hck, hfr]; exact h1, h2⟩
      | some iv =>
        obtain ⟨i, v0⟩ := iv
        cases r' with
        | none => exact hr.elim
        | some jv =>
          obtain ⟨j, v1⟩ := jv
          obtain ⟨rfl, _⟩ := hr
          simp only at h
          split at h
          case isFalse => cases h
          case isTrue hsb =>
            cases h
            obtain ⟨h1, h2⟩ := setMap_stp (P := P) (clock2 := clock) hs hg hb ho (he.modify i (f := fun e => { e with key := k', val := v }) (f' := fun e => { e with key := k', val := v' }) (fun e e' x => ⟨hk, hv, x.2.2⟩))
            refine ⟨_, ?_, h2⟩
            simp only [Instr.mapUpdate, Sem.run_bind, run_underlying hu, Result.andThen_ok, getObj_run ho rfl, hck, hfr]
            rw [key_at he hes, Instr.keyThatStays, if_pos hsb]
            exact h1
theorem aMapEntry_run {t : TypeId} {m m' k k' v : Value} {H1 : AHeap} (hs : Sat P g ρ H w) (hm : VR ρ m m') (hk : VR ρ k k') (h : aMapEntry P t m k H = some (v, H1)) :
    Made P g ρ H w v H1 ((Instr.mapEntry t m' k').run P w) := by
  unfold aMapEntry at h
  split at h
  case h_2 => cases h
  case h_1 kt et r es clock hu hq =>
    obtain ⟨_, hg, b, es', hb, rfl, ho, he⟩ := aMap_some hs hm hq
    split at h
    case h_2 => cases h
    case h_1 z hf hz =>
      obtain ⟨hpk, hck, r', hr, hfr⟩ := aFind_rel (P := P) he hf
      have hkk := plain_eq hpk hk
      subst hkk
      split at h
      case isFalse => cases h
      case isTrue hpz =>
        cases h
        cases r' with
        | some _ => exact hr.elim
        | none =>
          obtain ⟨h1, h2⟩ := setMap_stp (P := P) (clock2 := clock + 1) hs hg hb ho (he.push (e := { key := k', val := z, born := clock }) (e' := { key := k', val := z, born := clock }) ⟨hk, plain_VR hpz, rfl⟩)
          refine ⟨ρ, .tuple #[z, goInt clock], _, ?_, h2, .tuple' (AR.toList.2 (.cons (plain_VR hpz) (.cons (.int _ _) .nil)))⟩
          unfold zeroB at hz
          cases hi : P.info? et with
          | none => simp [hi] at hz
          | some it =>
            simp [hi] at hz
            simp only [Instr.mapEntry, Sem.run_bind, run_underlying hu, Result.andThen_ok, getObj_run ho rfl, hck, hfr, zeroValue, typeInfo, run_program, hi, Sem.run_pure, hz, h1]
theorem findIdx_congr {es es' : Array MapEntry} (he : EsR ρ es es') (n : Int) : es'.findIdx? (fun e => (e.born : Int) == n) = es.findIdx? (fun e => (e.born : Int) == n) := by
  rw [EsR.toList] at he
  have e1 : es = es.toList.toArray := by simp
  have e2 : es' = es'.toList.toArray := by simp
  rw [e1, e2, List.findIdx?_toArray, List.findIdx?_toArray]
  clear e1 e2
  generalize es.toList = l at he ⊢
  generalize es'.toList = l' at he ⊢
  induction l generalizing l' with
  | nil => rw [he.nil_left]
  | cons e l ih =>
    obtain ⟨e', k, rfl, h1, h2⟩ := he.cons_left
    simp only [List.findIdx?_cons, ← h1.2.2, ih k h2]
theorem aEntryStore_run {t : TypeId} {m m' s s' v v' : Value} {H1 : AHeap} (hs : Sat P g ρ H w) (hm : VR ρ m m') (hst : VR ρ s s') (hv : VR ρ v v') (h : aEntryStore m s v H = some H1) :
    ∃ w1, (Instr.entryStore t m' s' v').run P w = .ok () w1 ∧ Stp P g ρ H w ρ H1 w1 := by
  unfold aEntryStore at h
  split at h
  case h_2 => cases h
  case h_1 k born r es clock hq =>
    obtain ⟨_, hg, b, es', hb, rfl, ho, he⟩ := aMap_some hs hm hq
    cases hst
    split at h
    case h_2 => cases h
    case h_1 i hi =>
      cases h
      obtain ⟨h1, h2⟩ := setMap_stp (P := P) (clock2 := clock) hs hg hb ho (he.modify i (f := fun e => { e with val := v }) (f' := fun e => { e with val := v' }) (fun e e' x => ⟨x.1, hv, x.2.2⟩))
      refine ⟨_, ?_, h2⟩
      simp only [Instr.entryStore, Sem.run_bind, getObj_run ho rfl, Result.andThen_ok, asInt, asIntOf, Sem.run_pure, findIdx_congr he, hi]
      exact h1
theorem aRange_run {t : TypeId} {x x' v : Value} {H1 : AHeap} (hs : Sat P g ρ H w) (hx : VR ρ x x') (h : aRange P t x H = some (v, H1)) : Made P g ρ H w v H1 ((Instr.range t x').run P w) := by
  unfold aRange at h
  split at h
  case h_3 => cases h
  case h_1 s hu =>
    cases h; cases hx
    refine ⟨_, _, _, ?_, Stp.alloc hs (.stringIter s 0), .ptr _ _ 0 none Rho.add_self⟩
    simp [Instr.range, run_underlying hu]
  case h_2 a b m hu =>
    split at h
    case h_2 => cases h
    case h_1 es clock hg =>
      cases h
      cases hx with
      | map _ bm hb =>
        obtain ⟨o', ho, hor⟩ := get_live hs hg hb
        cases hor with
        | map _ es' _ _ _ =>
          refine ⟨_, _, _, ?_, Stp.alloc hs (.mapIter m bm clock #[] clock ((ext_add (hs.blk_none (Nat.le_refl _))).blk _ _ hb)), .ptr _ _ 0 none Rho.add_self⟩
          simp [Instr.range, run_underlying hu, getObj_run ho rfl]
end
end Go.Ar
end
section
namespace Go.Ar
open Go.RowKit
section
variable {P : Program} {g : Nat} {ρ : Rho} {H : AHeap} {w : World}
theorem setObj_stp {r b : Nat} {x x2 o' o2' : Obj} (hs : Sat P g ρ H w) (hg : get? H r = some (.exact x)) (hb : ρ.blk r = some b) (ho : w.heap[b]? = some o') (hn : notCells o' = true) (h2 : OR ρ x2 o2') :
    (setObj b o2').run P w = .ok () { w with heap := w.heap.setIfInBounds b o2' } ∧ Stp P g ρ H w ρ (hset H r (.exact x2)) { w with heap := w.heap.setIfInBounds b o2' } := by
  have hlt : b < w.heap.size := hs.lt hg rfl hb
  refine ⟨setObj_run ho hn _, Stp.upd hs hg rfl hb (by simp) (by simp [hlt]) (fun k hk => ?_) h2 rfl rfl rfl⟩
  simp [Ne.symm hk]
theorem all_born {es es' : Array MapEntry} (he : EsR ρ es es') (f : Nat → Bool) : es'.all (fun e => f e.born) = es.all (fun e => f e.born) := by
  rw [EsR.toList] at he
  rw [← Array.all_toList, ← Array.all_toList]
  generalize es.toList = l at he ⊢
  generalize es'.toList = l' at he ⊢
  induction l generalizing l' with
  | nil => rw [he.nil_left]
  | cons e l ih =>
    obtain ⟨e', k, rfl, h1, h2⟩ := he.cons_left
    simp only [List.all_cons, ← h1.2.2, ih k h2]
theorem filter_born {es es' : Array MapEntry} (he : EsR ρ es es') (f : Nat → Bool) : EsR ρ (es.filter fun e => f e.born) (es'.filter fun e => f e.born) := by
  rw [EsR.toList] at he ⊢
  rw [Array.toList_filter, Array.toList_filter]
  generalize es.toList = l at he ⊢
  generalize es'.toList = l' at he ⊢
  induction l generalizing l' with
  | nil => rw [he.nil_left]; exact ⟨rfl, fun i e e' h => by simp at h⟩
  | cons e l ih =>
    obtain ⟨e', k, rfl, h1, h2⟩ := he.cons_left
    simp only [List.filter_cons, ← h1.2.2]
    have := ih k h2
    split
    · refine ⟨by simp [this.1], fun i x x' a b => ?_⟩
      cases i with
      | zero => simp at a b; subst a; subst b; exact h1
      | succ i => exact this.2 i x x' (by simpa using a) (by simpa using b)
    · exact this
theorem find_born {es es' : Array MapEntry} (he : EsR ρ es es') (n : Nat) {e : MapEntry} (h : es.find? (·.born == n) = some e) : ∃ e', es'.find? (·.born == n) = some e' ∧ ER ρ e e' := by
  rw [EsR.toList] at he
  rw [← Array.find?_toList] at h ⊢
  generalize es.toList = l at he h
  generalize es'.toList = l' at he ⊢
  induction l generalizing l' with
  | nil => simp at h
  | cons x l ih =>
    obtain ⟨x', k, rfl, h1, h2⟩ := he.cons_left
    simp only [List.find?_cons, ← h1.2.2] at h ⊢
    split at h
    · cases h; exact ⟨x', rfl, h1⟩
    · exact ih h k h2
theorem EsR.isEmpty {es es' : Array MapEntry} (he : EsR ρ es es') : es'.isEmpty = es.isEmpty := by simp [Array.isEmpty, he.1]
theorem aNext_run {it it' v : Value} {isS : Bool} {H1 : AHeap} (ty : TypeId) (hs : Sat P g ρ H w) (hi : VR ρ it it') (h : aNext it isS H = some (v, H1)) :
    Made P g ρ H w v H1 ((Instr.next it' isS ty).run P w) := by
  unfold aNext at h
  split at h
  case h_2 => cases h
  case h_1 r =>
    cases hi with
    | ptr _ b _ _ hb =>
      split at h
      case h_3 => cases h
      case h_1 s pos hg =>
        obtain ⟨o', ho, hor⟩ := get_live hs hg hb
        cases hor
        have hlt : b < w.heap.size := hs.lt hg rfl hb
        split at h
        · rename_i hp
          cases h
          obtain ⟨h1, h2⟩ := setObj_stp (P := P) hs hg hb ho rfl (.stringIter s (pos + (Utf8.decode s pos).2))
          refine ⟨ρ, _, _, ?_, h2, .tuple' (AR.toList.2 (.cons (.bool _) (.cons (.int _ _) (.cons (.int _ _) .nil))))⟩
          simp only [Instr.next, Sem.run_bind, getObj_run ho rfl, Result.andThen_ok, if_pos hp, h1, Sem.run_pure]
          rfl
        · rename_i hp
          cases h
          refine ⟨ρ, _, _, ?_, .refl hs, .tuple' (AR.toList.2 (.cons (.bool _) .nil))⟩
          simp only [Instr.next, Sem.run_bind, getObj_run ho rfl, Result.andThen_ok, if_neg hp, Sem.run_pure]
      case h_2 m since seen last hg =>
        split at h
        case h_2 => cases h
        case h_1 es clock hg2 =>
          obtain ⟨o', ho, hor⟩ := get_live hs hg hb
          cases hor with
          | mapIter _ bm _ _ _ hbm =>
            obtain ⟨o2, ho2, hor2⟩ := get_live hs hg2 hbm
            cases hor2 with
            | map _ es' _ hs' he' =>
              have he : EsR ρ es es' := ⟨hs', he'⟩
              unfold aNextMap at h
              split at h
              case isTrue => cases h
              case isFalse hcond =>
                have hfil : EsR ρ (es.filter fun e => !seen.contains e.born) (es'.filter fun e => !seen.contains e.born) := filter_born he (fun n => !seen.contains n)
                simp only at h
                split at h
                case isFalse => cases h
                case isTrue hold =>
                  have hold' : (es'.filter fun e => !seen.contains e.born).all (fun e => decide (e.born < since)) = true := by rw [all_born hfil (fun n => decide (n < since))]; exact hold
                  have hcond' : ¬ ((!seen.isEmpty && !es'.isEmpty && es'.all (fun e => decide (e.born ≥ last))) = true) := by
                    rw [he.isEmpty, all_born he (fun n => decide (n ≥ last))]; exact hcond
                  generalize hL : (es.filter fun e => !seen.contains e.born) = L at h hfil hold
                  generalize hL' : (es'.filter fun e => !seen.contains e.born) = L' at hfil hold'
                  have e1 : L'.filter (fun x => decide (x.born < since)) = L' := Array.filter_eq_self.2 (fun x hx => by
                    have := (Array.all_eq_true_iff_forall_mem.1 hold') x hx; exact this)
                  have e2 : L'.filter (fun x => decide (x.born ≥ since)) = #[] := by
                    rw [Array.filter_eq_empty_iff]
                    intro x hx
                    have := (Array.all_eq_true_iff_forall_mem.1 hold') x hx
                    simp at this ⊢; omega
                  split at h
                  case h_3 => cases h
                  case h_1 hnil =>
                    cases h
                    have : L' = #[] := by
                      have h1 := hfil.1
                      have h2 : L.size = 0 := by rw [← Array.length_toList, hnil]; rfl
                      exact Array.eq_empty_of_size_eq_zero (by omega)
                    subst this
                    refine ⟨ρ, _, _, ?_, .refl hs, .tuple' (AR.toList.2 (.cons (.bool _) .nil))⟩
                    simp only [Instr.next, Sem.run_bind, getObj_run ho rfl, getObj_run ho2 rfl, Result.andThen_ok, if_neg hcond', hL', e1, e2]
                    simp [Question.forced]
                  case h_2 e hone =>
                    cases h
                    have hx : ∃ e', L' = #[e'] ∧ ER ρ e e' := by
                      have h1 := hfil
                      rw [EsR.toList, hone] at h1
                      obtain ⟨e', k, hk, hee, hk2⟩ := h1.cons_left
                      rw [hk2.nil_left] at hk
                      exact ⟨e', by apply Array.ext'; simpa using hk, hee⟩
                    obtain ⟨e', rfl, hee⟩ := hx
                    obtain ⟨h1, h2⟩ := setObj_stp (P := P) hs hg hb ho rfl (OR.mapIter m bm since (seen.push e.born) clock hbm)
                    refine ⟨ρ, .tuple #[.bool true, e'.key, e'.val], _, ?_, h2, .tuple' (AR.toList.2 (.cons (.bool _) (.cons hee.1 (.cons hee.2.1 .nil))))⟩
                    simp only [Instr.next, Sem.run_bind, getObj_run ho rfl, getObj_run ho2 rfl, Result.andThen_ok, if_neg hcond', hL', e1, e2]
                    rw [hee.2.2] at h1 ⊢
                    simp [Question.forced, h1]
theorem aEntry_run {it it' v : Value} (hs : Sat P g ρ H w) (hi : VR ρ it it') (h : aEntry it H = some v) : ∃ v', VR ρ v v' ∧ (Instr.entry it').run P w = .ok v' w := by
  unfold aEntry at h
  split at h
  case h_2 => cases h
  case h_1 r =>
    cases hi with
    | ptr _ b _ _ hb =>
      split at h
      case h_2 => cases h
      case h_1 m since seen stepped hg =>
        split at h
        case h_2 => cases h
        case h_1 es clock hg2 =>
          obtain ⟨o', ho, hor⟩ := get_live hs hg hb
          cases hor with
          | mapIter _ bm _ _ _ hbm =>
            obtain ⟨o2, ho2, hor2⟩ := get_live hs hg2 hbm
            cases hor2 with
            | map _ es' _ hs' he' =>
              have he : EsR ρ es es' := ⟨hs', he'⟩
              split at h
              case isTrue => cases h
              case isFalse hcl =>
                split at h
                case h_2 => cases h
                case h_1 stamp hst =>
                  simp only [Option.map_eq_some_iff] at h
                  obtain ⟨e, hf, rfl⟩ := h
                  obtain ⟨e', hf', hee⟩ := find_born he stamp hf
                  refine ⟨.tuple #[e'.key, e'.val], .tuple' (AR.toList.2 (.cons hee.1 (.cons hee.2.1 .nil))), ?_⟩
                  have hcl' : clock = stepped := by simpa using hcl
                  simp [Instr.entry, getObj_run ho rfl, getObj_run ho2 rfl, hst, hcl', hf']
theorem aMakeSlice_run {t : TypeId} {l l' c c' v : Value} {H1 : AHeap} (hs : Sat P g ρ H w) (hl : VR ρ l l') (hc : VR ρ c c') (h : aMakeSlice P t l c H = some (v, H1)) :
    Made P g ρ H w v H1 ((Instr.makeSlice t l' c').run P w) := by
  unfold aMakeSlice at h
  split at h
  case h_2 => cases h
  case h_1 elem kl ln kc cn hu =>
    cases hl; cases hc
    split at h
    case h_2 => cases h
    case h_1 info hi =>
      split at h
      case h_2 => cases h
      case h_1 z hz =>
        split at h
        case isFalse => cases h
        case isTrue hc =>
          simp only at h
          split at h
          case isFalse => cases h
          case isTrue hpl =>
            cases h
            have hr := run_make (P := P) w t elem info z hu hi hz kl kc ln cn hc.1 hc.2.1 (by omega) (by omega)
            exact ⟨_, _, _, hr, aNew_made hs (AR.plain hpl), .slice _ _ 0 none _ _ _ Rho.add_self (.inl ⟨by unfold BIG; omega, rfl⟩)⟩
theorem bytesOf_load {b : Nat} : ∀ (l : List Value) (off : Nat) (acc s : ByteArray), bytesOf l acc = some s → (∀ (j : Nat) (x : Value), l[j]? = some x → w.cell? ⟨b, off + j, none⟩ = some x) →
    (loadBytes ⟨b, off, none⟩ acc l.length).run P w = .ok s w := by
  intro l
  induction l with
  | nil => intro off acc s h _; simp [bytesOf] at h; subst h; rfl
  | cons v l ih =>
    intro off acc s h hc
    cases v <;> try (simp [bytesOf] at h; done)
    case int k n =>
      cases k <;> try (simp [bytesOf] at h; done)
      case u8 =>
        simp only [bytesOf] at h
        have h0 := hc 0 _ rfl
        simp only [Nat.add_zero] at h0
        have := ih (off + 1) _ s h (fun j x hx => by have := hc (j + 1) x (by simpa using hx); rwa [show off + (j + 1) = off + 1 + j by omega] at this)
        simp only [List.length_cons, loadBytes, Sem.run_bind, run_load, h0, Result.andThen_ok, add_none, this]
theorem bytesOf_eq {l l' : List Value} (hl : LR ρ l l') {acc s : ByteArray} (h : bytesOf l acc = some s) : l' = l := by
  induction l generalizing l' acc with
  | nil => exact hl.nil_left
  | cons v l ih =>
    obtain ⟨v', k, rfl, hv, hk⟩ := hl.cons_left
    cases v <;> try (simp [bytesOf] at h; done)
    case int kk n =>
      cases kk <;> try (simp [bytesOf] at h; done)
      case u8 =>
        simp only [bytesOf] at h
        cases hv
        rw [ih hk h]
theorem bytesOf_loop (f : Value → ByteArray → Sem (ForInStep ByteArray)) (hf : ∀ n s, f (.int .u8 n) s = pure (.yield (s.push n.toNat.toUInt8))) : ∀ (l : List Value) (acc s : ByteArray), bytesOf l acc = some s →
    (forIn l acc f).run P w = .ok s w := by
  intro l
  induction l with
  | nil => intro acc s h; simp [bytesOf] at h; subst h; rfl
  | cons v l ih =>
    intro acc s h
    cases v <;> try (simp [bytesOf] at h; done)
    case int k n =>
      cases k <;> try (simp [bytesOf] at h; done)
      case u8 =>
        simp only [bytesOf] at h
        simp only [List.forIn_cons, hf, Sem.run_bind, Sem.run_pure, Result.andThen_ok]
        exact ih _ s h
theorem aConvert_run {src dst : TypeId} {x x' v : Value} (hs : Sat P g ρ H w) (hx : VR ρ x x') (h : aConvert P src dst x H = some v) : ∃ v', VR ρ v v' ∧ (convert src dst x').run P w = .ok v' w := by
  unfold aConvert at h
  split at h
  case h_2 => cases h
  case h_1 e i off len cap hu1 hu2 =>
    split at h
    case h_2 => cases h
    case h_1 hu3 =>
      cases hx with
      | slice _ b _ _ _ _ c hb _ =>
        simp only [Option.bind_eq_bind, Option.bind_eq_some_iff] at h
        obtain ⟨cs, hk, h⟩ := h
        split at h
        case isFalse => cases h
        case isTrue hlen =>
          simp only [Option.map_eq_some_iff] at h
          obtain ⟨s, hby, rfl⟩ := h
          obtain ⟨cs', hl, hc⟩ := known_cell hs hk hb
          have hl2 : LR ρ ((cs.drop off).take len) ((cs'.drop off).take len) := (hl.drop off).take len
          have he := bytesOf_eq hl2 hby
          have hlen2 : ((cs'.drop off).take len).length = len := by rw [← hl2.1]; simpa using hlen
          have hlc := run_loadCells_list (P := P) w ⟨b, off, none⟩ ((cs'.drop off).take len) (fun j x hx => by
            rw [add_none]
            refine hc _ x ?_
            rw [List.getElem?_take] at hx
            split at hx
            · simpa using hx
            · cases hx)
          rw [hlen2, he] at hlc
          refine ⟨.string s, .string s, ?_⟩
          simp only [convert, Sem.run_bind, run_underlying hu1, run_underlying hu2, run_underlying hu3, Result.andThen_ok, Conv.bytesToString, hlc, List.forIn_toArray]
          rw [bytesOf_loop _ (fun n s => rfl) _ _ _ hby]
          rfl
theorem aUnsafe_run {src dst : TypeId} {x x' : Value} (hs : Sat P g ρ H w) (hx : VR ρ x x') (h : aUnsafe P src dst x H = true) : (convert src dst x').run P w = .ok x' w := by
  unfold aUnsafe at h
  split at h
  case h_3 => cases h
  case h_1 t i off hu1 hu2 =>
    cases hx with
    | ptr _ b _ _ hb =>
      split at h
      case h_2 => cases h
      case h_1 c e fz n hg hn =>
        simp only [Bool.and_eq_true, bne_iff_ne, ne_eq] at h
        obtain ⟨hn0, hoff⟩ := h
        obtain ⟨o', ho, hor⟩ := get_live hs hg hb
        cases hor with
        | cells _ c' _ _ hc =>
          have hlt : off < c'.size := by rw [← hc.1]; exact lt_of_ble hoff
          have hsh : w.shape? b = some (e, c'.size) := by simp [World.shape?, ho]
          have hsz := fun w0 => size_run (P := P) hn w0
          have hnot : ¬ c'.size ≤ off := by omega
          simp [convert, run_underlying hu1, run_underlying hu2, Conv.unsafePointer, Conv.seenAt, viewAt, hsh, cellsIn, hsz, hn0, hnot]
  case h_2 u i off hu1 hu2 =>
    cases hx with
    | ptr _ b _ _ hb =>
      split at h
      case h_2 => cases h
      case h_1 c e fz n hg hn =>
        simp only [Bool.and_eq_true, bne_iff_ne, ne_eq] at h
        obtain ⟨hn0, hlies⟩ := h
        obtain ⟨o', ho, hor⟩ := get_live hs hg hb
        cases hor with
        | cells _ c' _ _ hc =>
          have hsh : w.shape? b = some (e, c'.size) := by simp [World.shape?, ho]
          have hsz := fun w0 => size_run (P := P) hn w0
          rw [hc.1] at hlies
          simp [convert, run_underlying hu1, run_underlying hu2, Conv.unsafePointer, Conv.seenAt, viewAt, hsh, hsz, hn0, variablesAt, hlies]
theorem aEqNil_run {t : TypeId} {x x' y y' : Value} {b : Bool} (hx : VR ρ x x') (hy : VR ρ y y') (h : aEqNil P t x y = some b) (w : World) : (Op.equal t x' y').run P w = .ok b w := by
  obtain ⟨d, hd⟩ : ∃ d, Op.maxDepth = d + 1 := ⟨9999, rfl⟩
  unfold Op.equal
  rw [hd]
  unfold aEqNil at h
  split at h <;> try (cases h; done)
  case h_9 hu =>
    rename_i e a b2
    cases hx with
    | ptr i c off sp hc =>
      cases hy with
      | ptr j c2 off2 sp2 hc2 =>
        split at h
        case isFalse => cases h
        case isTrue hcond =>
          cases h
          simp only [Bool.and_eq_true, beq_iff_eq, Addr.mk.injEq] at hcond
          obtain ⟨⟨⟨rfl, rfl, rfl⟩, hsz⟩, hsp⟩ := hcond
          rw [hc] at hc2; cases hc2
          cases hn : sizeB P e with
          | none => simp [hn] at hsz
          | some n =>
            have hn0 : n ≠ 0 := by simpa [hn] using hsz
            simp [Op.equalIn, run_underlying hu, size_run hn, hn0, sameAddr]
  all_goals (rename_i hu)
  all_goals (cases hx <;> cases hy <;> cases h)
  all_goals (simp [Op.equalIn, run_underlying hu])
end
end Go.Ar
end
section
namespace Go.Ar
open Go.RowKit
section
variable {P : Program} {g : Nat} {ρ : Rho} {H : AHeap} {w : World}
def Rho.put (ρ : Rho) (i b c : Nat) : Rho := (ρ.add i b).addCap i c
theorem ext_put {i b c : Nat} (hb : ρ.blk i = none) (hc : ρ.cap i = none) : Ext ρ (ρ.put i b c) := by
  have h1 : Ext ρ (ρ.add i b) := ext_add hb
  exact h1.trans (ext_addCap hc)
theorem put_blk {i b c j : Nat} : (ρ.put i b c).blk j = if j = i then some b else ρ.blk j := rfl
theorem put_cap {i b c j : Nat} : (ρ.put i b c).cap j = if j = i then some c else ρ.cap j := rfl
theorem push_get {x : AObj} {i : Nat} {y : AObj} (h : (push H x)[i]? = some y) : (i = H.length ∧ y = x) ∨ (i < H.length ∧ H[i]? = some y) := by
  unfold push at h
  rw [List.getElem?_append] at h
  split at h
  · rename_i hi; exact .inr ⟨hi, h⟩
  · rename_i hi
    have hi2 : i - H.length < 1 := by have := (List.getElem?_eq_some_iff.1 h).1; simpa using this
    have e : i = H.length := by omega
    subst e; simp at h; exact .inl ⟨rfl, h.symm⟩
theorem Stp.allocRow (h : Sat P g ρ H w) {x : AObj} {o' : Obj} {c : Nat} (hx : ObjSat P (ρ.put H.length w.heap.size c) H.length x o') :
    Stp P g ρ H w (ρ.put H.length w.heap.size c) (push H x) (w.alloc o') := by
  have hE : Ext ρ (ρ.put H.length w.heap.size c) := ext_put (h.blk_none (Nat.le_refl _)) (h.cap_none (Nat.le_refl _))
  have hsz : (w.alloc o').heap.size = w.heap.size + 1 := by simp
  have hblk : ∀ i b, (ρ.put H.length w.heap.size c).blk i = some b → (i = H.length ∧ b = w.heap.size) ∨ (i < H.length ∧ ρ.blk i = some b) := by
    intro i b hb
    rw [put_blk] at hb
    split at hb
    · cases hb; exact .inl ⟨‹_›, rfl⟩
    · exact .inr ⟨h.dom i b hb, hb⟩
  refine ⟨hE, ⟨?_, ?_, fun i hi => hE.blk _ _ (h.glob i hi), ?_, ?_⟩, by simp [push], ?_, ?_, by rw [hsz]; omega, rfl, rfl, rfl⟩
  · intro i b hb
    rcases hblk i b hb with ⟨rfl, rfl⟩ | ⟨hi, _⟩
    · simp [push]
    · simp [push]; omega
  · intro i k hk
    rw [put_cap] at hk
    split at hk
    · rename_i e; subst e; simp [push]
    · have := h.cdom i k hk; simp [push]; omega
  · intro i y hy hl
    rcases push_get hy with ⟨rfl, rfl⟩ | ⟨hi, hi'⟩
    · exact ⟨w.heap.size, o', by rw [put_blk]; simp, heap_alloc_eq w o', hx⟩
    · obtain ⟨b, o2, hb, ho2, hs⟩ := h.obj i y hi' hl
      exact ⟨b, o2, hE.blk _ _ hb, by rw [heap_alloc_lt w o' (h.lt hi' hl hb)]; exact ho2, hs.mono hE⟩
  · intro i j b oi oj hi hj li lj hbi hbj
    rcases push_get hi with ⟨rfl, rfl⟩ | ⟨hi1, hi2⟩ <;> rcases push_get hj with ⟨rfl, rfl⟩ | ⟨hj1, hj2⟩
    · rfl
    · rcases hblk _ _ hbi with ⟨_, rfl⟩ | ⟨hx1, _⟩
      · rcases hblk _ _ hbj with ⟨e, _⟩ | ⟨_, hx3⟩
        · omega
        · have := h.lt hj2 lj hx3; omega
      · omega
    · rcases hblk _ _ hbj with ⟨_, rfl⟩ | ⟨hx1, _⟩
      · rcases hblk _ _ hbi with ⟨e, _⟩ | ⟨_, hx3⟩
        · omega
        · have := h.lt hi2 (isLive_of_own li) hx3; omega
      · omega
    · rcases hblk _ _ hbi with ⟨e, _⟩ | ⟨_, h3⟩
      · omega
      · rcases hblk _ _ hbj with ⟨e, _⟩ | ⟨_, h4⟩
        · omega
        · exact h.inj i j b oi oj hi2 hj2 li lj h3 h4
  · intro b hb
    rcases hb with hb | ⟨i, y, hi, hl, hbi⟩
    · rw [hsz] at hb; exact .inl (by omega)
    · rcases hblk i b hbi with ⟨rfl, rfl⟩ | ⟨hi1, hb1⟩
      · exact .inl (Nat.le_refl _)
      · rcases push_get hi with ⟨e, _⟩ | ⟨_, h2⟩
        · omega
        · exact .inr ⟨i, y, h2, hl, hb1⟩
  · intro b hb
    have : b < w.heap.size := by
      rcases Nat.lt_or_ge b w.heap.size with h1 | h1
      · exact h1
      · exact absurd (.inl h1) hb
    exact heap_alloc_lt w o' this
theorem Stp.rename (h : Sat P g ρ H w) {i b c : Nat} {old x : AObj} {o' : Obj} (hi : H[i]? = some old) (hl : isOwn old = true) (hb : ρ.blk i = some b) (ho : w.heap[b]? = some o')
    (hx : ObjSat P (ρ.put H.length b c) H.length x o') : Stp P g ρ H w (ρ.put H.length b c) (push (hset H i .dead) x) w := by
  have hil : i < H.length := (List.getElem?_eq_some_iff.1 hi).1
  have hE : Ext ρ (ρ.put H.length b c) := ext_put (h.blk_none (Nat.le_refl _)) (h.cap_none (Nat.le_refl _))
  have hlen : (hset H i .dead).length = H.length := by simp [hset]
  have hblk : ∀ j k, (ρ.put H.length b c).blk j = some k → (j = H.length ∧ k = b) ∨ (j < H.length ∧ ρ.blk j = some k) := by
    intro j k hk
    rw [put_blk] at hk
    split at hk
    · cases hk; exact .inl ⟨‹_›, rfl⟩
    · exact .inr ⟨h.dom j k hk, hk⟩
  have hget : ∀ j y, (push (hset H i .dead) x)[j]? = some y → isLive y = true → (j = H.length ∧ y = x) ∨ (j < H.length ∧ j ≠ i ∧ H[j]? = some y) := by
    intro j y hy ly
    rcases push_get hy with ⟨e, e2⟩ | ⟨hj, hj2⟩
    · exact .inl ⟨by rw [e, hlen], e2⟩
    · refine .inr ⟨by rw [← hlen]; exact hj, ?_⟩
      unfold hset at hj2
      rw [List.getElem?_set] at hj2
      split at hj2
      · first
          | (cases hj2; cases ly; done)
          | (split at hj2
             · cases hj2; cases ly
             · cases hj2)
      · rename_i e; exact ⟨fun e' => e e'.symm, hj2⟩
  refine ⟨hE, ⟨?_, ?_, fun j hj => hE.blk _ _ (h.glob j hj), ?_, ?_⟩, by simp [push, hset], ?_, fun _ _ => rfl, Nat.le_refl _, rfl, rfl, rfl⟩
  · intro j k hk
    rcases hblk j k hk with ⟨rfl, rfl⟩ | ⟨hj, hk2⟩
    · simp [push, hset]
    · simp [push, hset]; omega
  · intro j k hk
    rw [put_cap] at hk
    split at hk
    · rename_i e; subst e; simp [push, hset]
    · have := h.cdom j k hk; simp [push, hset]; omega
  · intro j y hy ly
    rcases hget j y hy ly with ⟨rfl, rfl⟩ | ⟨hj, hji, hj2⟩
    · exact ⟨b, o', by rw [put_blk]; simp, ho, hx⟩
    · obtain ⟨k, o2, hk, ho2, hs⟩ := h.obj j y hj2 ly
      exact ⟨k, o2, hE.blk _ _ hk, ho2, hs.mono hE⟩
  · intro j k q oj ok hj hk lj lk hbj hbk
    rcases hget j oj hj (isLive_of_own lj) with ⟨rfl, rfl⟩ | ⟨hj1, hj2, hj3⟩ <;> rcases hget k ok hk lk with ⟨rfl, rfl⟩ | ⟨hk1, hk2, hk3⟩
    · rfl
    · rcases hblk _ _ hbj with ⟨_, rfl⟩ | ⟨h1, _⟩
      · rcases hblk _ _ hbk with ⟨e, _⟩ | ⟨_, h2⟩
        · omega
        · exact absurd (h.inj i k _ old ok hi hk3 hl lk hb h2).symm hk2
      · omega
    · rcases hblk _ _ hbk with ⟨_, rfl⟩ | ⟨h1, _⟩
      · rcases hblk _ _ hbj with ⟨e, _⟩ | ⟨_, h2⟩
        · omega
        · exact absurd (h.inj j i _ oj old hj3 hi lj (isLive_of_own hl) h2 hb) hj2
      · omega
    · rcases hblk _ _ hbj with ⟨e, _⟩ | ⟨_, h2⟩
      · omega
      · rcases hblk _ _ hbk with ⟨e, _⟩ | ⟨_, h4⟩
        · omega
        · exact h.inj j k q oj ok hj3 hk3 lj lk h2 h4
  · intro k hk
    rcases hk with hk | ⟨j, y, hj, ly, hbj⟩
    · exact .inl hk
    · rcases hget j y hj (isLive_of_own ly) with ⟨rfl, rfl⟩ | ⟨hj1, hj2, hj3⟩
      · rcases hblk _ _ hbj with ⟨_, rfl⟩ | ⟨h1, _⟩
        · exact .inr ⟨i, old, hi, hl, hb⟩
        · omega
      · rcases hblk _ _ hbj with ⟨e, _⟩ | ⟨_, h2⟩
        · omega
        · exact .inr ⟨j, y, hj3, ly, h2⟩
theorem firstCells_run {size n : Nat} {x x' : Value} {l : List Value} (hs : Sat P g ρ H w) (hx : VR ρ x x') (hsl : ∃ a m c, x = .slice a m c) (h : firstCells P H size n x = some l) (hlen : l.length = n * size) :
    ∃ l', LR ρ l l' ∧ (Builtin.firstCells size n x').run P w = .ok l'.toArray w := by
  obtain ⟨a, m, c, rfl⟩ := hsl
  cases hx with
  | nilSlice _ _ k hk =>
    simp [firstCells] at h; subst h
    exact ⟨[], .nil, by simp [Builtin.firstCells]⟩
  | slice i b off sp _ _ k hb hk =>
    cases sp with
    | some _ => simp [firstCells] at h
    | none =>
      simp only [firstCells, Option.bind_eq_bind, Option.bind_eq_some_iff] at h
      obtain ⟨cs, hkn, h⟩ := h
      split at h
      case isFalse => cases h
      case isTrue hl =>
        cases h
        obtain ⟨cs', hcs, hc⟩ := known_cell hs hkn hb
        have hl2 := (hcs.drop off).take (n * size)
        refine ⟨_, hl2, ?_⟩
        refine run_firstCells_some w size n ⟨b, off, none⟩ m k _ (by rw [← hl2.1]; exact hlen) (fun j u hu => ?_)
        rw [add_none]
        refine hc _ u ?_
        rw [List.getElem?_take] at hu
        split at hu
        · simpa using hu
        · cases hu
theorem append_fits {argTypes : Array TypeId} {ty t xt e : TypeId} {d : TypeId} {it : TypeInfo} {base : Option Addr} {sLen c n xc : Nat} {xb : Option Addr} {new : List Value} (h0 : argTypes[0]? = some t) (h1 : argTypes[1]? = some xt)
    (ht : P.underlying t = some (.slice e)) (hxt : P.underlying xt = some (.slice d)) (hi : P.info? e = some it)
    (hf : (Builtin.firstCells it.size n (.slice xb n xc)).run P w = .ok new.toArray w) (hroom : sLen + n ≤ c) :
    (Builtin.append_ argTypes ty #[.slice base sLen c, .slice xb n xc]).run P w =
      (match base with | some a => (storeCells (a.add (sLen * it.size)) new).run P w | none => .ok () w).andThen fun _ w' => .ok (.slice base (sLen + n) c) w' := by
  cases base with
  | none => simp [Builtin.append_, h0, h1, run_underlying ht, run_underlying hxt, sizeOf, typeInfo, hi, Builtin.lenOf, hroom, hf]
  | some a => simp [Builtin.append_, h0, h1, run_underlying ht, run_underlying hxt, sizeOf, typeInfo, hi, Builtin.lenOf, hroom, hf]
theorem append_grows {argTypes : Array TypeId} {ty t xt e : TypeId} {d : TypeId} {it : TypeInfo} {z : Value} {base : Option Addr} {sLen c n xc : Nat} {xb : Option Addr} {old new : List Value} (h0 : argTypes[0]? = some t) (h1 : argTypes[1]? = some xt)
    (ht : P.underlying t = some (.slice e)) (hxt : P.underlying xt = some (.slice d)) (hi : P.info? e = some it) (hz : it.zero = some z)
    (hfo : (Builtin.firstCells it.size sLen (.slice base sLen c)).run P w.drew = .ok old.toArray w.drew)
    (hf : (Builtin.firstCells it.size n (.slice xb n xc)).run P w.drew = .ok new.toArray w.drew) (hroom : c < sLen + n) (hb : (sLen + n) * it.bytes ≤ 2 ^ 40) (hb2 : sLen + n ≤ 2 ^ 40) :
    (Builtin.append_ argTypes ty #[.slice base sLen c, .slice xb n xc]).run P w =
      .ok (.slice (some ⟨w.heap.size, 0, none⟩) (sLen + n) (grownCap w (sLen + n) c e)) (w.drew.alloc (.cells (old.toArray ++ new.toArray ++ Builtin.zeroCells z.cells (grownCap w (sLen + n) c e - (sLen + n))) e)) := by
  have hn : ¬ (sLen + n ≤ c) := by omega
  have h63' : ¬ (9223372036854775807 < ((sLen : Int) + (n : Int))) := by omega
  have h48 := growslice_fits (bytes := it.bytes) hroom (by omega)
  have h48' : ¬ (281474976710656 < Builtin.nextslicecap (sLen + n) c * it.bytes) := by omega
  simp [Builtin.append_, h0, h1, run_underlying ht, run_underlying hxt, sizeOf, typeInfo, zeroValue, hi, hz, Builtin.lenOf, hn, h63', h48', Question.forced, hf, hfo, newRow, grownCap]
  congr 2
  apply Array.ext'
  simp
theorem Sat.drew (h : Sat P g ρ H w) : Sat P g ρ H w.drew := (Stp.same h (w1 := w.drew) rfl rfl rfl rfl).sat
theorem grow_made {v : Value} {argTypes : Array TypeId} {ty e : TypeId} {it : TypeInfo} {z : Value} {sLen n c : Nat} {old new old' new' : List Value} (hs : Sat P g ρ H w) (hi : P.info? e = some it) (hzs : z.cells.size = it.size)
    (ho : LR ρ old old') (hn : LR ρ new new') (hol : old.length = sLen * it.size) (hnl : new.length = n * it.size) (hb2 : sLen + n ≤ 2 ^ 40) {x' : Array Value}
    (hv : v = .slice (some ⟨H.length, 0, none⟩) (sLen + n) (BIG + H.length))
    (hr : (Builtin.append_ argTypes ty x').run P w = .ok (.slice (some ⟨w.heap.size, 0, none⟩) (sLen + n) (grownCap w (sLen + n) c e)) (w.drew.alloc (.cells (old'.toArray ++ new'.toArray ++ Builtin.zeroCells z.cells (grownCap w (sLen + n) c e - (sLen + n))) e))) :
    Made P g ρ H w v (push H (.row (old ++ new) e (0, 0))) ((Builtin.append_ argTypes ty x').run P w) := by
  subst hv
  have hge := grownCap_ge w (sLen + n) c e
  have hlt : grownCap w (sLen + n) c e < 2 ^ 63 := by
    have := grownCap_le_maxLen w (sLen + n) c e (by simp only [maxLen]; omega)
    simp only [maxLen] at this; omega
  have hcap : P.cellsOf e = it.size := by simp [Program.cellsOf, hi]
  have hst : Stp P g ρ H w.drew (ρ.put H.length w.heap.size (grownCap w (sLen + n) c e)) (push H (.row (old ++ new) e (0, 0))) (w.drew.alloc (.cells (old'.toArray ++ new'.toArray ++ Builtin.zeroCells z.cells (grownCap w (sLen + n) c e - (sLen + n))) e)) := by
    refine Stp.allocRow (w := w.drew) hs.drew (c := grownCap w (sLen + n) c e) ⟨old' ++ new', (Builtin.zeroCells z.cells (grownCap w (sLen + n) c e - (sLen + n))).toList, grownCap w (sLen + n) c e, ?_, ?_, ?_, ?_, hlt⟩
    · congr 1
      apply Array.ext'
      simp
    · exact (ho.append hn).mono (ext_put (hs.blk_none (Nat.le_refl _)) (hs.cap_none (Nat.le_refl _)))
    · rw [put_cap]; simp
    · rw [hcap]
      simp only [List.length_append, Array.length_toList, size_zeroCells, hzs, ← ho.1, ← hn.1, hol, hnl, ← Nat.add_mul]
      congr 1; omega
  refine ⟨_, _, _, hr, (Stp.same hs (w1 := w.drew) rfl rfl rfl rfl).trans hst, ?_⟩
  refine .slice _ _ 0 none _ _ _ (by rw [put_blk]; simp) (.inr ⟨Nat.le_add_right _ _, ?_⟩)
  rw [Nat.add_sub_cancel_left, put_cap]; simp
theorem aAppend_run {argTypes : Array TypeId} {ty t xt : TypeId} {s s' x x' v : Value} {H1 : AHeap} (hs : Sat P g ρ H w) (hsv : VR ρ s s') (hxv : VR ρ x x') (h0 : argTypes[0]? = some t) (h1 : argTypes[1]? = some xt)
    (h : aAppend P t xt s x H = some (v, H1)) : Made P g ρ H w v H1 ((Builtin.append_ argTypes ty #[s', x']).run P w) := by
  unfold aAppend at h
  split at h
  case h_2 => cases h
  case h_1 elem d base sLen sCap xb n xc hu hux =>
    split at h
    case h_2 => cases h
    case h_1 it hi =>
      split at h
      case h_2 => cases h
      case h_1 z new hz hfx =>
        split at h
        case isFalse => cases h
        case isTrue hc =>
          simp only [Bool.and_eq_true, beq_iff_eq] at hc
          obtain ⟨⟨⟨⟨hzs, hnl⟩, hone⟩, hby⟩, hln⟩ := hc
          have hby' := Nat.le_of_ble_eq_true hby
          have hln' := Nat.le_of_ble_eq_true hln
          obtain ⟨new', hnew, hfr⟩ := firstCells_run hs hxv ⟨_, _, _, rfl⟩ hfx hnl
          obtain ⟨new2, hnew2, hfr2⟩ := firstCells_run hs.drew hxv ⟨_, _, _, rfl⟩ hfx hnl
          have hx2 : ∃ xb' xc', x' = .slice xb' n xc' := by cases hxv <;> exact ⟨_, _, rfl⟩
          obtain ⟨xb', xc', rfl⟩ := hx2
          split at h
          case h_1 =>
            split at h
            case isFalse => cases h
            case isTrue hz0 =>
              obtain ⟨rfl, rfl⟩ := hz0
              cases hsv with
              | nilSlice _ _ c' hc' =>
                have hc0 := hc'.lit (by decide); subst hc0
                split at h
                · rename_i hn0
                  subst hn0
                  cases h
                  have hr := append_fits (P := P) (w := w) (ty := ty) (base := none) (sLen := 0) (c := 0) h0 h1 hu hux hi hfr (Nat.le_refl _)
                  exact ⟨ρ, _, _, hr, .refl hs, .nilSlice 0 0 0 hc'⟩
                · rename_i hn0
                  cases h
                  have hfo : (Builtin.firstCells it.size 0 (.slice none 0 0)).run P w.drew = .ok ([] : List Value).toArray w.drew := by simp [Builtin.firstCells]
                  have hr := append_grows (P := P) (w := w) (ty := ty) h0 h1 hu hux hi hz hfo hfr2 (by omega) hby' hln'
                  exact grow_made (old := []) (sLen := 0) hs hi hzs .nil hnew2 (by simp) hnl hln' (by simp) hr
          case h_3 => cases h
          case h_2 i off =>
            cases hsv with
            | slice _ b _ _ _ _ c' hb hc' =>
              split at h
              case isTrue hlit =>
                have hcl := hc'.lit (lt_of_ble hlit); subst hcl
                split at h
                case isTrue hroom =>
                  have hr := append_fits (P := P) (w := w) (ty := ty) (base := some ⟨b, off, none⟩) (sLen := sLen) (c := c') h0 h1 hu hux hi hfr hroom
                  split at h
                  · rename_i hn0
                    cases h
                    have : new' = [] := by have h3 := hnew.1; rw [hnl, hn0] at h3; exact List.length_eq_zero_iff.1 h3.symm
                    subst this
                    refine ⟨ρ, _, _, ?_, .refl hs, .slice i b off none _ _ _ hb hc'⟩
                    rw [hr]; rfl
                  · split at h
                    case h_2 => cases h
                    case h_1 H' hset' =>
                      cases h
                      obtain ⟨w1, hst, hstp⟩ := setCells_run (P := P) hs hb hnew hone hset'
                      refine ⟨ρ, _, w1, ?_, hstp, .slice i b off none _ _ _ hb hc'⟩
                      rw [hr]
                      simp only [add_none, hst, Result.andThen_ok]
                case isFalse hroom =>
                  split at h
                  case h_2 => cases h
                  case h_1 old hfo =>
                    split at h
                    case isFalse => cases h
                    case isTrue hol =>
                      have hol' : old.length = sLen * it.size := by simpa using hol
                      cases h
                      have hsv2 : VR ρ (.slice (some ⟨i, off, none⟩) sLen c') (.slice (some ⟨b, off, none⟩) sLen c') := .slice i b off none _ _ _ hb hc'
                      obtain ⟨old', hold, hor⟩ := firstCells_run hs.drew hsv2 ⟨_, _, _, rfl⟩ hfo hol'
                      have hr := append_grows (P := P) (w := w) (ty := ty) h0 h1 hu hux hi hz hor hfr2 (by omega) hby' hln'
                      exact grow_made hs hi hzs hold hnew2 hol' hnl hln' rfl hr
              case isFalse hlit =>
                have hbig : ¬ sCap < BIG := fun h => hlit (Nat.ble_eq_true_of_le h)
                split at h
                case h_2 => cases h
                case h_1 c e fz hg =>
                  split at h
                  case isFalse => cases h
                  case isTrue hcond =>
                    simp only [Bool.and_eq_true, beq_iff_eq, bne_iff_ne, ne_eq] at hcond
                    obtain ⟨⟨⟨⟨⟨⟨rfl, rfl⟩, hcl⟩, rfl⟩, rfl⟩, hsz0⟩, hn0⟩ := hcond
                    cases h
                    obtain ⟨b2, o2, hb2, ho2, cc', rest, k, rfl, hl, hk, hsz, hk63⟩ := hs.obj i _ hg rfl
                    rw [hb] at hb2; cases hb2
                    have hck : ρ.cap i = some c' := by have := hc'.sym hbig; simpa using this
                    rw [hk] at hck; cases hck
                    have hcap : P.cellsOf e = it.size := by simp [Program.cellsOf, hi]
                    rw [hcap] at hsz
                    have hkn : knownCells H i = some c := by unfold knownCells; rw [hg]
                    by_cases hroom : sLen + n ≤ c'
                    ·
                      have hr := append_fits (P := P) (w := w) (ty := ty) (base := some ⟨b, 0, none⟩) (sLen := sLen) (c := c') h0 h1 hu hux hi hfr hroom
                      have hfit : sLen * it.size + new'.length ≤ (cc' ++ rest).length := by
                        rw [hsz, ← hnew.1, hnl, ← Nat.add_mul]; exact Nat.mul_le_mul_right _ hroom
                      have hstc := run_storeCells_at (P := P) b (sLen * it.size) e new' 0 (cc' ++ rest).toArray w ho2 (by simpa using hfit) (hnew.oneCell hone)
                      simp only [Nat.add_zero] at hstc
                      have hcc : cc'.length = sLen * it.size := by rw [← hl.1, hcl]
                      have hcells : ((cc' ++ rest).toArray.toList.take (sLen * it.size) ++ new' ++ (cc' ++ rest).toArray.toList.drop (sLen * it.size + new'.length)) = cc' ++ new' ++ rest.drop new'.length := by
                        simp only [List.toList_toArray]
                        rw [← hcc, List.take_left, List.drop_append, List.drop_eq_nil_of_le (by omega)]
                        simp
                      have hsz2 : (cc' ++ new' ++ rest.drop new'.length).length = c' * P.cellsOf e := by
                        rw [hcap, ← hsz]
                        have := hfit
                        simp only [List.length_append, List.length_drop] at this ⊢
                        omega
                      have hs1 : Stp P g ρ H w ρ (hset H i (.row (c ++ new) e (0, 0))) (w.setRow b ((cc' ++ rest).toArray.toList.take (sLen * it.size) ++ new' ++ (cc' ++ rest).toArray.toList.drop (sLen * it.size + new'.length)).toArray) := by
                        refine Stp.upd hs hg rfl hb (setRow_size _ _ _) (setRow_heap w b _ _ e _ ho2) (fun k hk => setRow_other _ _ _ hk) ?_ rfl rfl rfl
                        rw [hcells]
                        exact ⟨cc' ++ new', rest.drop new'.length, c', rfl, hl.append hnew, hk, hsz2, hk63⟩
                      have hil : i < H.length := (List.getElem?_eq_some_iff.1 hg).1
                      have hg1 : (hset H i (.row (c ++ new) e (0, 0)))[i]? = some (.row (c ++ new) e (0, 0)) := by simp [hset, hil]
                      have hlen1 : (hset H i (.row (c ++ new) e (0, 0))).length = H.length := by simp [hset]
                      have hs2 := Stp.rename (P := P) hs1.sat (x := .row (c ++ new) e (0, 0)) (c := c') hg1 rfl hb (setRow_heap w b _ _ e _ ho2) (by
                        rw [hcells]
                        refine ⟨cc' ++ new', rest.drop new'.length, c', rfl, (hl.append hnew).mono (ext_put (hs1.sat.blk_none (Nat.le_refl _)) (hs1.sat.cap_none (Nat.le_refl _))), ?_, hsz2, hk63⟩
                        rw [put_cap]; simp)
                      rw [hlen1] at hs2
                      have hH : push (hset (hset H i (.row (c ++ new) e (0, 0))) i .dead) (.row (c ++ new) e (0, 0)) = push (hset H i .dead) (.row (c ++ new) e (0, 0)) := by simp [hset]
                      rw [hH] at hs2
                      refine ⟨_, .slice (some ⟨b, 0, none⟩) (sLen + n) c', _, ?_, hs1.trans hs2, ?_⟩
                      · rw [hr]
                        simp only [add_none, Nat.zero_add, hstc, Result.andThen_ok]
                      · refine .slice _ _ 0 none _ _ _ (by rw [put_blk]; simp) (.inr ⟨Nat.le_add_right _ _, ?_⟩)
                        rw [Nat.add_sub_cancel_left, put_cap]; simp
                    ·
                      have hfo : firstCells P H it.size sLen (.slice (some ⟨i, 0, none⟩) sLen (BIG + i)) = some c := by
                        simp [firstCells, hkn, ← hcl]
                      have hsv2 : VR ρ (.slice (some ⟨i, 0, none⟩) sLen (BIG + i)) (.slice (some ⟨b, 0, none⟩) sLen c') := .slice i b 0 none _ _ _ hb hc'
                      obtain ⟨old', hold, hor⟩ := firstCells_run hs.drew hsv2 ⟨_, _, _, rfl⟩ hfo hcl
                      have hr := append_grows (P := P) (w := w) (ty := ty) h0 h1 hu hux hi hz hor hfr2 (by omega) hby' hln'
                      have hlen1 : (hset H i .dead).length = H.length := by simp [hset]
                      have hm := grow_made (H := hset H i .dead) (hs.kill i) hi hzs hold hnew2 hcl hnl hln' rfl hr
                      rw [hlen1] at hm
                      obtain ⟨ρ1, v', w1, e1, hst, hv⟩ := hm
                      refine ⟨ρ1, v', w1, e1, ?_, hv⟩
                      have hkill : ∀ k, Foot ρ (hset H i .dead) w k → Foot ρ H w k := by
                        intro k hk
                        rcases hk with hk | ⟨j, y, hj, ly, hbj⟩
                        · exact .inl hk
                        · refine .inr ⟨j, y, ?_, ly, hbj⟩
                          unfold hset at hj
                          rw [List.getElem?_set] at hj
                          split at hj
                          · split at hj
                            · cases hj; cases ly
                            · cases hj
                          · exact hj
                      exact ⟨hst.ext, hst.sat, by have := hst.len; rw [hlen1] at this; exact this, fun k hk => hkill k (hst.foot k hk), fun k hk => hst.keep k (fun hf => hk (hkill k hf)), hst.size, hst.os, hst.tape, hst.output⟩
end
end Go.Ar
end
section
namespace Go.Ar
open Go.RowKit
section
variable {P : Program} {g : Nat} {ρ : Rho} {H : AHeap} {w : World} {C : Cfg} {tmps tmps' : Array Value}
theorem mapOpt_LR (hs : Sat P C.g ρ H w) (ht : TMR ρ tmps tmps') : ∀ (l : List Operand) (vs : List Value), mapOpt (aev C.g tmps) l = some vs → LR ρ vs (l.map (ev tmps')) := by
  intro l
  induction l with
  | nil => intro vs h; simp [mapOpt] at h; subst h; exact .nil
  | cons x l ih =>
    intro vs h
    simp only [mapOpt] at h
    cases hx : aev C.g tmps x with
    | none => simp [hx] at h
    | some v =>
      cases hl : mapOpt (aev C.g tmps) l with
      | none => simp [hx, hl] at h
      | some r =>
        simp only [hx, hl, Option.some.injEq] at h
        subst h
        exact .cons (aev_VR hs ht hx) (ih r hl)
theorem mapOpt_PR (hs : Sat P C.g ρ H w) (ht : TMR ρ tmps tmps') : ∀ (l : List (Nat × Operand)) (ps : List (Nat × Value)), mapOpt (fun (p : Nat × Operand) => (aev C.g tmps p.2).map fun v => (p.1, v)) l = some ps →
    PR ρ ps (l.map fun p => (p.1, ev tmps' p.2)) := by
  intro l
  induction l with
  | nil => intro vs h; simp [mapOpt] at h; subst h; exact ⟨rfl, fun i p p' h => by simp at h⟩
  | cons x l ih =>
    intro vs h
    simp only [mapOpt] at h
    cases hx : aev C.g tmps x.2 with
    | none => simp [hx] at h
    | some v =>
      cases hl : mapOpt (fun (p : Nat × Operand) => (aev C.g tmps p.2).map fun v => (p.1, v)) l with
      | none => simp [hx, hl] at h
      | some r =>
        simp only [hx, hl, Option.map_some, Option.some.injEq] at h
        subst h
        have := ih r hl
        refine ⟨by simp [this.1], fun i p p' a b => ?_⟩
        cases i with
        | zero => simp at a b; subst a; subst b; exact ⟨rfl, aev_VR hs ht hx⟩
        | succ i => exact this.2 i p p' (by simpa using a) (by simpa using b)
theorem optEv_R (hs : Sat P C.g ρ H w) (ht : TMR ρ tmps tmps') {x : Option Operand} {v : Option Value} (h : optEv (aev C.g tmps) x = some v) : OptVR ρ v (x.map (ev tmps')) := by
  cases x with
  | none => simp [optEv] at h; subst h; trivial
  | some x =>
    simp only [optEv, Option.map_eq_some_iff] at h
    obtain ⟨u, hu, rfl⟩ := h
    exact aev_VR hs ht hu
theorem orPure_some {r d : Option Value} {v : Value} (h : orPure r d = some v) : r = some v ∨ d = some v := by
  cases r with
  | none => exact .inr h
  | some u => exact .inl h
theorem eqNil_op {t : TypeId} {x x' y y' : Value} {b : Bool} (hx : VR ρ x x') (hy : VR ρ y y') (h : aEqNil P t x y = some b) (ox oy : Operand) (w : World) :
    ((do eqGuard .eql t ox oy x' y'; binOp .eql t x' y' : Sem Value)).run P w = .ok (.bool b) w ∧ ((do eqGuard .neq t ox oy x' y'; binOp .neq t x' y' : Sem Value)).run P w = .ok (.bool !b) w := by
  have heq := aEqNil_run hx hy h w
  unfold aEqNil at h
  split at h <;> try (cases h; done)
  all_goals (cases hx <;> cases hy)
  all_goals (simp [eqGuard, binOp, heq])
theorem aLen_run {argTypes : Array TypeId} {ty : TypeId} {l l' : List Value} {v : Value} (hs : Sat P g ρ H w) (hl : LR ρ l l') (h : aLen P argTypes l H = some v) :
    ∃ v', VR ρ v v' ∧ (Builtin.len_ argTypes ty l'.toArray).run P w = .ok v' w := by
  unfold aLen at h
  split at h
  case h_2 => cases h
  case h_1 t x ht =>
    obtain ⟨x', k, rfl, hx, hk⟩ := hl.cons_left
    rw [hk.nil_left]
    split at h
    · rename_i hu
      cases h
      cases hx with
      | nilSlice => exact ⟨_, .int _ _, by simp [goInt, Builtin.len_, ht, run_underlying hu]⟩
      | slice => exact ⟨_, .int _ _, by simp [goInt, Builtin.len_, ht, run_underlying hu]⟩
    · rename_i hu
      split at h
      · rename_i hg
        cases h
        cases hx with
        | map _ b hb =>
          obtain ⟨o', ho, hor⟩ := get_live hs hg hb
          cases hor with
          | map _ es' _ hsz _ => exact ⟨_, .int _ _, by simp [goInt, Builtin.len_, ht, run_underlying hu, getObj_run ho rfl, hsz]⟩
      · cases h
    · rename_i n e hu
      cases h
      refine ⟨_, .int _ _, ?_⟩
      cases x' <;> simp [goInt, Builtin.len_, ht, run_underlying hu]
    · rename_i a hu
      split at h
      · rename_i n e hu2
        cases h
        refine ⟨_, .int _ _, ?_⟩
        cases x' <;> simp [goInt, Builtin.len_, ht, run_underlying hu, run_underlying hu2]
      · cases h
    · cases h
theorem vv {s : Sem Value} {v : Value} {w w1 : World} (h : s.run P w = .ok v w1) : ((do pure (.value (← s)) : Sem Next)).run P w = .ok (.value v) w1 := by
  rw [Sem.run_bind, h]; rfl
theorem uu {s : Sem Unit} {w w1 : World} (h : s.run P w = .ok () w1) : ((do s; pure .skip : Sem Next)).run P w = .ok .skip w1 := by
  rw [Sem.run_bind, h]; rfl
theorem aQuiet_run (hs : Sat P C.g ρ H w) (ht : TMR ρ tmps tmps') {o : Oper} {v : Value} (h : aQuiet P C tmps o H = some v) :
    ∃ v', VR ρ v v' ∧ (execOp (ev tmps') o).run P w = .ok (.value v') w := by
  have hpure : ∀ v, aPure P C tmps o = some v → ∃ v', VR ρ v v' ∧ (execOp (ev tmps') o).run P w = .ok (.value v') w := fun v h => by
    obtain ⟨h1, h2⟩ := aPure_run rfl hs ht h; exact ⟨v, plain_VR h1, h2 w⟩
  obtain ⟨dst, op, type, pos, after, guard⟩ := o
  cases op <;> simp only [aQuiet] at h <;> try (cases h; done)
  case move x => exact ⟨_, aev_VR hs ht h, rfl⟩
  case assign x => exact ⟨_, aev_VR hs ht h, rfl⟩
  case pick c a b =>
    simp only [Option.bind_eq_some_iff] at h
    obtain ⟨t, ⟨cv, hc, hb⟩, h⟩ := h
    have hcv := aev_VR hs ht hc
    cases cv <;> simp only [boolOf] at hb <;> try (cases hb; done)
    case bool b2 =>
      cases hb
      generalize hq : ev tmps' c = q at hcv
      cases hcv
      refine ⟨_, aev_VR hs ht h, ?_⟩
      simp only [execOp, hq, asBool, Sem.run_bind, Sem.run_pure, Result.andThen_ok]
      cases t <;> rfl
  case build t parts =>
    rcases orPure_some h with h | h
    · exact hpure v h
    · simp only [Option.bind_eq_some_iff] at h
      obtain ⟨ps, hps, h⟩ := h
      obtain ⟨v', hv, hr⟩ := aBuild_run (mapOpt_PR hs ht _ _ hps) h
      refine ⟨v', hv, ?_⟩
      simp only [execOp]
      refine vv ?_
      have e : (parts.map fun x => (x.1, ev tmps' x.2)) = (parts.toList.map fun p => (p.1, ev tmps' p.2)).toArray := by apply Array.ext'; simp
      rw [e]; exact hr w
  case load t a =>
    simp only [Option.bind_eq_some_iff] at h
    obtain ⟨av, ha, h⟩ := h
    obtain ⟨v', hv, hr⟩ := aLoad_run hs (aev_VR hs ht ha) h
    exact ⟨v', hv, vv hr⟩
  case nilCheck x =>
    simp only [Option.bind_eq_some_iff] at h
    obtain ⟨xv, hx, h⟩ := h
    have hxv := aev_VR hs ht hx
    unfold nilChecked at h
    split at h
    · cases h
      generalize hq : ev tmps' x = q at hxv
      cases hxv with
      | ptr i b off sp hb => exact ⟨_, .ptr i b off sp hb, by simp only [execOp, hq]; rfl⟩
    · cases h
      generalize hq : ev tmps' x = q at hxv
      cases hxv with
      | func _ gn _ a' _ c' hf h1 h2 h3 h4 =>
        have hg : gn = .func _ := hf
        subst hg
        exact ⟨_, .func _ _ _ a' _ c' hf h1 h2 h3 h4, by simp only [execOp, hq]; rfl⟩
    · cases h
      generalize hq : ev tmps' x = q at hxv
      cases hxv with
      | func _ gn _ a' _ c' hf h1 h2 h3 h4 =>
        obtain ⟨m, hm, rfl⟩ := hf
        exact ⟨_, .func _ _ _ a' _ c' (show FnR ρ _ _ from ⟨m, hm, rfl⟩) h1 h2 h3 h4, by simp only [execOp, hq]; rfl⟩
    · cases h
  case fieldAddr s x f =>
    simp only [Option.bind_eq_some_iff] at h
    obtain ⟨xv, hx, h⟩ := h
    obtain ⟨v', hv, hr⟩ := aField_run (P := P) (aev_VR hs ht hx) h
    exact ⟨v', hv, vv (hr w)⟩
  case indexAddr t x ix =>
    simp only [Option.bind_eq_some_iff] at h
    obtain ⟨xv, hx, iv, hi, h⟩ := h
    obtain ⟨v', hv, hr⟩ := aIndex_run (P := P) (aev_VR hs ht hx) (aev_VR hs ht hi) h
    exact ⟨v', hv, vv (hr w)⟩
  case extract x i =>
    simp only [Option.bind_eq_some_iff] at h
    obtain ⟨xv, hx, h⟩ := h
    have hxv := aev_VR hs ht hx
    cases xv <;> simp only [tupleAt] at h <;> try (cases h; done)
    case tuple vs =>
      generalize hq : ev tmps' x = q at hxv
      cases hxv with
      | tuple _ a' h1 h2 =>
        obtain ⟨v', hv', hvv⟩ := AR.get (ρ := ρ) ⟨h1, h2⟩ h
        exact ⟨v', hvv, by simp [execOp, hq, Instr.extract, hv']⟩
  case field t x f =>
    simp only [Option.bind_eq_some_iff] at h
    obtain ⟨xv, hx, h⟩ := h
    obtain ⟨v', hv, hr⟩ := aFieldOf_run (P := P) (aev_VR hs ht hx) h
    exact ⟨v', hv, vv (hr w)⟩
  case makeFunc fn first captured =>
    cases fn <;> simp only at h <;> try (cases h; done)
    case func f =>
      simp only [Option.bind_eq_some_iff, Option.map_eq_some_iff] at h
      obtain ⟨a, ha, b, hb, rfl⟩ := h
      have h1 := mapOpt_LR hs ht _ _ ha
      have h2 := mapOpt_LR hs ht _ _ hb
      have e1 : first.map (ev tmps') = (first.toList.map (ev tmps')).toArray := by apply Array.ext'; simp
      have e2 : captured.map (ev tmps') = (captured.toList.map (ev tmps')).toArray := by apply Array.ext'; simp
      refine ⟨.func (.func f) (first.map (ev tmps')) (captured.map (ev tmps')), ?_, by simp [execOp, Instr.makeFunc]⟩
      rw [e1, e2]
      exact .func' rfl (.ofList h1) (.ofList h2)
  case lookup t m k ok =>
    simp only [Option.bind_eq_some_iff] at h
    obtain ⟨mv, hm, kv, hk, h⟩ := h
    obtain ⟨v', hv, hr⟩ := aLookup_run (P := P) hs (aev_VR hs ht hm) (aev_VR hs ht hk) h
    exact ⟨v', hv, vv hr⟩
  case entry it =>
    simp only [Option.bind_eq_some_iff] at h
    obtain ⟨iv, hi, h⟩ := h
    obtain ⟨v', hv, hr⟩ := aEntry_run (P := P) hs (aev_VR hs ht hi) h
    exact ⟨v', hv, vv hr⟩
  case slice t x lo hi mx =>
    rcases orPure_some h with h | h
    · exact hpure v h
    · simp only [Option.bind_eq_some_iff] at h
      obtain ⟨xv, hx, l, hl, hh, hhi, m, hm, hq⟩ := h
      have h1 := optEv_R hs ht hl
      have h2 := optEv_R hs ht hhi
      have h3 := optEv_R hs ht hm
      cases m with
      | none =>
        cases mx with
        | some _ => exact h3.elim
        | none =>
          obtain ⟨v', hv, hr⟩ := aSlice_run (P := P) hs (aev_VR hs ht hx) h1 h2 hq
          exact ⟨v', hv, vv hr⟩
      | some m =>
        obtain ⟨v', hv, hr⟩ := aSlice0_run (P := P) (aev_VR hs ht hx) h1 h2 h3 hq
        exact ⟨v', hv, vv (hr w)⟩
  case binOp op t x y yt =>
    rcases orPure_some h with h | h
    · exact hpure v h
    · simp only [Option.bind_eq_some_iff] at h
      obtain ⟨xv, hx, yv, hy, b, hb, h⟩ := h
      have h1 := eqNil_op (P := P) (aev_VR hs ht hx) (aev_VR hs ht hy) hb x y w
      cases op <;> simp only at h <;> try (cases h; done)
      case eql => cases h; exact ⟨_, .bool _, vv h1.1⟩
      case neq => cases h; exact ⟨_, .bool _, vv h1.2⟩
  case convert src dst x =>
    rcases orPure_some h with h | h
    · exact hpure v h
    · simp only [Option.bind_eq_some_iff] at h
      obtain ⟨xv, hx, h⟩ := h
      rcases orPure_some h with h | h
      · obtain ⟨v', hv, hr⟩ := aConvert_run (P := P) hs (aev_VR hs ht hx) h
        exact ⟨v', hv, vv hr⟩
      · split at h
        · rename_i hu
          cases h
          exact ⟨_, aev_VR hs ht hx, vv (aUnsafe_run (P := P) hs (aev_VR hs ht hx) hu)⟩
        · cases h
  case unOp => exact hpure v h
  case index => exact hpure v h
  case call c =>
    obtain ⟨callee, args, argTypes⟩ := c
    cases callee <;> try (cases h; done)
    case builtin b =>
      cases b <;> try (cases h; done)
      case len =>
        rcases orPure_some h with h | h
        · exact hpure v h
        · simp only [Option.bind_eq_some_iff] at h
          obtain ⟨vs, hvs, h⟩ := h
          obtain ⟨v', hv, hr⟩ := aLen_run (P := P) (ty := type) hs (mapOpt_LR hs ht _ _ hvs) h
          refine ⟨v', hv, ?_⟩
          have e1 : args.map (ev tmps') = (args.toList.map (ev tmps')).toArray := by apply Array.ext'; simp
          simp only [execOp, resolve, Sem.run_bind, Sem.run_pure, Result.andThen_ok, invoke, builtin, e1, hr]
end
end Go.Ar
end
section
namespace Go.Ar
open Go.RowKit
section
variable {P : Program} {g : Nat} {ρ : Rho} {H : AHeap} {w : World} {C : Cfg} {tmps tmps' : Array Value}
def Vals (P : Program) (g : Nat) (ρ : Rho) (H : AHeap) (w : World) (v : Value) (H1 : AHeap) (r : Result Next) : Prop :=
  ∃ ρ1 v' w1, Stp P g ρ H w ρ1 H1 w1 ∧ VR ρ1 v v' ∧ (r = .ok (.value v') w1 ∨ (r = .ok .skip w1 ∧ v' = undef))
theorem Made.vals {s : Sem Value} {v : Value} {H1 : AHeap} (h : Made P g ρ H w v H1 (s.run P w)) : Vals P g ρ H w v H1 (((do pure (.value (← s)) : Sem Next)).run P w) := by
  obtain ⟨ρ1, v', w1, e, hst, hv⟩ := h
  exact ⟨ρ1, v', w1, hst, hv, .inl (vv e)⟩
theorem unit_vals {s : Sem Unit} {H1 : AHeap} (h : ∃ w1, s.run P w = .ok () w1 ∧ Stp P g ρ H w ρ H1 w1) : Vals P g ρ H w undef H1 ((do s; pure .skip : Sem Next).run P w) := by
  obtain ⟨w1, e, hst⟩ := h
  exact ⟨ρ, undef, w1, hst, VR.undef, .inr ⟨uu e, rfl⟩⟩
theorem freeze_size (w : World) (a : Addr) (n : Nat) : (w.freeze a n).heap.size = w.heap.size := by
  unfold World.freeze; split
  · rfl
  · simp
theorem freeze_other (w : World) (a : Addr) (n : Nat) {k : Nat} (h : k ≠ a.block) : (w.freeze a n).heap[k]? = w.heap[k]? := by
  unfold World.freeze; split
  · rfl
  · simp only [Array.getElem?_modify]; rw [if_neg (by omega)]
theorem freeze_os (w : World) (a : Addr) (n : Nat) : (w.freeze a n).os = w.os ∧ (w.freeze a n).tape = w.tape ∧ (w.freeze a n).output = w.output := by
  unfold World.freeze; split <;> exact ⟨rfl, rfl, rfl⟩
theorem sameLayout_id {e u : TypeId} (h : (P.underlyingId e == P.underlyingId u) = true) : ∀ (d : Nat), 0 < d → sameLayout P d e u = true := by
  intro d hd
  cases d with
  | zero => omega
  | succ d => simp [sameLayout, h]
theorem liesAt_row {e u : TypeId} {count n : Nat} (h : (P.underlyingId e == P.underlyingId u) = true) (hc : P.cellsOf e = 1) (hn : n ≤ count) : liesAt P P.depth e count 0 u n = true := by
  obtain ⟨d, hd⟩ : ∃ d, P.depth = d + 1 := ⟨P.depth - 1, by unfold Program.depth; omega⟩
  rw [hd]
  have h1 : rowAt P (sameLayout P P.depth · u) P.depth e count 0 n = true := by
    rw [hd]
    have hs := sameLayout_id h (d + 1) (by omega)
    simp [rowAt, hc, hn, hs]
  simp [liesAt, h1]
theorem sliceData_run (argTypes : Array TypeId) (ty : TypeId) (a : Addr) (n c : Nat) (h : c ≠ 0) (w : World) : (Builtin.unsafeSliceData_ argTypes ty #[.slice (some a) n c]).run P w = .ok (.pointer (some a)) w := by
  have e : Builtin.unsafeSliceData_ argTypes ty #[.slice (some a) n c] = (if c ≠ 0 then (pure (.pointer (some a)) : Sem Value) else (do
    if (← viewAt a.block).isSome then pure (.pointer (some a)) else pure (.pointer (some ⟨← newObj (.view a (← elemOf ty)), 0, none⟩)))) := rfl
  rw [e, if_pos h]; rfl
theorem unsafeString_eq (argTypes : Array TypeId) (ty : TypeId) (a : Addr) (k : IntKind) (n : Int) : Builtin.unsafeString_ argTypes ty #[.pointer (some a), .int k n] = (do
    let n ← asInt (.int k n)
    let some pt := argTypes[0]? | stuck "unsafe.String: no argument types"
    if n < 0 then runtimePanic (.error "unsafe.String: len out of range")
    if n > IntKind.i64.max then unsupported (.unsafePointer "String: a length above the largest int")
    if n = 0 then pure (.string .empty)
    else if ← variablesAt a (← elemOf pt) n.toNat then do
      let s ← loadBytes a .empty n.toNat
      freeze a n.toNat
      pure (.string s)
    else unsupported (.unsafePointer "String: not so many bytes at ptr") : Sem Value) := rfl
theorem aBuiltin_run {b : Builtin} {argTypes : Array TypeId} {ty : TypeId} {cs : Array Bool} {l l' : List Value} {v : Value} {H1 : AHeap} (hs : Sat P g ρ H w) (hl : LR ρ l l') (h : aBuiltin P b argTypes l H = some (v, H1)) :
    Vals P g ρ H w v H1 ((builtin b argTypes ty cs l'.toArray).run P w) := by
  unfold aBuiltin at h
  split at h
  case h_5 => cases h
  case h_1 s x =>
    obtain ⟨s', k, rfl, hsv, hk⟩ := hl.cons_left
    obtain ⟨x', k2, rfl, hxv, hk2⟩ := hk.cons_left
    rw [hk2.nil_left]
    split at h
    case h_2 => cases h
    case h_1 t xt h0 h1 => exact (aAppend_run (ty := ty) hs hsv hxv h0 h1 h).vals
  case h_2 m k =>
    obtain ⟨m', q, rfl, hm, hk⟩ := hl.cons_left
    obtain ⟨k', k2, rfl, hkv, hk2⟩ := hk.cons_left
    rw [hk2.nil_left]
    split at h
    case h_2 => cases h
    case h_1 t h0 =>
      split at h
      case h_2 => cases h
      case h_1 kt el hu =>
        split at h
        case h_2 => cases h
        case h_1 r es clock hq =>
          obtain ⟨_, hg, b2, es', hb, rfl, ho, he⟩ := aMap_some hs hm hq
          split at h
          case h_2 => cases h
          case h_1 hf =>
            cases h
            obtain ⟨hpk, hck, r', hr, hfr⟩ := aFind_rel (P := P) he hf
            have hkk := plain_eq hpk hkv
            subst hkk
            cases r' with
            | some _ => exact hr.elim
            | none =>
              obtain ⟨h1, h2⟩ := setMap_stp (P := P) (clock2 := clock) hs hg hb ho he
              refine ⟨ρ, _, _, h2, VR.undef, .inl (vv ?_)⟩
              rw [← he.isEmpty] at hck
              simp only [Builtin.delete_, List.getElem?_toArray, List.getElem?_cons_zero, List.getElem?_cons_succ, h0, Sem.run_bind, run_underlying hu, Result.andThen_ok, getObj_run ho rfl, hck, hfr, h1]
              rfl
  case h_3 i off n c =>
    obtain ⟨s', k, rfl, hsv, hk⟩ := hl.cons_left
    rw [hk.nil_left]
    cases hsv with
    | slice _ b2 _ _ _ _ c' hb hc =>
      have hc0 : c' ≠ 0 ∧ v = .pointer (some ⟨i, off, none⟩) ∧ H1 = H := by
        split at h
        · rename_i hlt
          rw [hc.lit (lt_of_ble hlt)]
          split at h
          · cases h
          · rename_i h0; cases h; exact ⟨h0, rfl, rfl⟩
        · rename_i hlt
          have hbig : ¬ c < BIG := fun h => hlt (Nat.ble_eq_true_of_le h)
          split at h
          case h_2 => cases h
          case h_1 l e fz hg =>
            split at h
            · cases h
            · rename_i h0
              cases h
              obtain ⟨b3, o2, _, _, cc, rest, k, rfl, hll, hkc, hsz, _⟩ := hs.obj _ _ hg rfl
              have h3 := hc.sym hbig
              rw [hkc] at h3; cases h3
              refine ⟨fun e0 => ?_, rfl, rfl⟩
              subst e0
              have := hll.1
              simp at hsz
              apply h0; rw [this, hsz.1]; rfl
      obtain ⟨h0, rfl, rfl⟩ := hc0
      refine ⟨ρ, _, w, .refl hs, .ptr i b2 off none hb, .inl ?_⟩
      exact vv (sliceData_run argTypes ty ⟨b2, off, none⟩ n c' h0 w)
  case h_4 i off ki n =>
    obtain ⟨s', k, rfl, hsv, hk⟩ := hl.cons_left
    obtain ⟨n', k2, rfl, hnv, hk2⟩ := hk.cons_left
    rw [hk2.nil_left]
    cases hnv
    cases hsv with
    | ptr _ b2 _ _ hb =>
      split at h
      case h_2 => cases h
      case h_1 pt h0 =>
        split at h
        case h_2 => cases h
        case h_1 u c e fz hu hg =>
          split at h
          case isFalse => cases h
          case isTrue hc =>
            simp only [Bool.and_eq_true, decide_eq_true_eq, beq_iff_eq] at hc
            obtain ⟨⟨⟨⟨⟨⟨hn0, rfl⟩, hnl⟩, rfl⟩, hc1⟩, hid⟩, hmax⟩ := hc
            split at h
            case h_2 => cases h
            case h_1 s hby =>
              cases h
              obtain ⟨b3, o2, hb3, ho2, cc, rest, k, rfl, hll, hkc, hsz, hk63⟩ := hs.obj _ _ hg rfl
              rw [hb] at hb3; cases hb3
              have hcc := bytesOf_eq hll hby
              subst hcc
              have hsh : w.shape? b2 = some (e, (cc ++ rest).length) := by simp [World.shape?, ho2]
              have hlies := liesAt_row (P := P) (e := e) (u := u) (count := (cc ++ rest).length / P.cellsOf e) (n := n.toNat) (by simpa using hid) hc1 (by rw [hc1, hnl]; simp)
              have hload := bytesOf_load (P := P) (w := w) (b := b2) cc 0 .empty s hby (fun j x hx => by
                have hj := (List.getElem?_eq_some_iff.1 hx).1
                simp [World.cell?, ho2, List.getElem?_append_left hj, hx])
              have hne : n ≠ 0 := by omega
              have hnn : ¬ n < 0 := by omega
              have hmx : ¬ n > IntKind.i64.max := by omega
              rw [← hnl] at hload
              have hfz : (w.freeze ⟨b2, 0, none⟩ n.toNat).heap[b2]? = some (.cells (cc ++ rest).toArray e (0, n.toNat)) := by
                have : n.toNat ≠ 0 := by omega
                simp [World.freeze, this, Array.getElem?_modify, ho2]
              have hst : Stp P g ρ H w ρ (hset H i (.row cc e (0, n.toNat))) (w.freeze ⟨b2, 0, none⟩ n.toNat) := by
                refine Stp.upd hs hg rfl hb (freeze_size _ _ _) hfz (fun k hk => freeze_other _ _ _ hk) ⟨cc, rest, k, rfl, hll, hkc, hsz, hk63⟩ (freeze_os _ _ _).1 (freeze_os _ _ _).2.1 (freeze_os _ _ _).2.2
              refine ⟨ρ, .string s, _, hst, .string s, .inl (vv ?_)⟩
              have hel : ∀ w0 : World, (elemOf pt).run P w0 = .ok u w0 := fun w0 => by simp [elemOf, run_underlying hu]
              have hva : (variablesAt ⟨b2, 0, none⟩ u n.toNat).run P w = .ok true w := by
                simp only [variablesAt, Sem.run_bind, run_program, Result.andThen_ok, run_shape, hsh, Sem.run_pure, hlies]
              rw [unsafeString_eq]
              simp only [asInt, asIntOf, Sem.run_bind, Sem.run_pure, Result.andThen_ok, h0, if_neg hnn, if_neg hmx, if_neg hne, hel, hva, if_true, hload, run_freeze]
theorem aLoud_run (hs : Sat P C.g ρ H w) (ht : TMR ρ tmps tmps') {o : Oper} {v : Value} {H1 : AHeap} (h : aLoud P C tmps o H = some (v, H1)) : Vals P C.g ρ H w v H1 ((execOp (ev tmps') o).run P w) := by
  obtain ⟨dst, op, type, pos, after, guard⟩ := o
  cases op <;> try (simp only [aLoud] at h; cases h; done)
  case alloc t =>
    simp only [aLoud] at h
    simp only [Option.bind_eq_some_iff] at h
    obtain ⟨z, hz, h⟩ := h
    split at h
    case isFalse => cases h
    case isTrue hp =>
      cases h
      have hzr : ∀ w0 : World, (zeroValue t).run P w0 = .ok z w0 := by
        intro w0
        unfold zeroB at hz
        cases hi : P.info? t with
        | none => simp [hi] at hz
        | some it => simp [hi] at hz; simp [zeroValue, typeInfo, hi, hz]
      have hc : AR ρ z.cells z.cells := (plain_VR hp).cells
      refine Made.vals (s := Instr.alloc t true (.tuple #[])) ⟨_, _, _, ?_, aNew_made hs hc, .ptr _ _ 0 none Rho.add_self⟩
      simp [Instr.alloc, hzr, newVar, newRow]
  case box t x =>
    simp only [aLoud] at h
    simp only [Option.map_eq_some_iff] at h
    obtain ⟨xv, hx, h⟩ := h
    cases h
    have hc := (aev_VR hs ht hx).cells
    refine Made.vals (s := Instr.box t (ev tmps' x)) ⟨_, _, _, ?_, aNew_made hs hc, .ptr _ _ 0 none Rho.add_self⟩
    simp [Instr.box, newVar, newRow]
  case buildSlice t len parts =>
    simp only [aLoud] at h
    split at h
    case isFalse => cases h
    case isTrue hlen =>
      simp only [Option.bind_eq_some_iff] at h
      obtain ⟨ps, hps, h⟩ := h
      have := aBuildSlice_run (P := P) hs (mapOpt_PR hs ht _ _ hps) (lt_of_ble hlen) h
      have e : (parts.map fun x => (x.1, ev tmps' x.2)) = (parts.toList.map fun p => (p.1, ev tmps' p.2)).toArray := by apply Array.ext'; simp
      rw [← e] at this
      exact this.vals
  case store t a x =>
    simp only [aLoud] at h
    simp only [Option.bind_eq_some_iff, Option.map_eq_some_iff] at h
    obtain ⟨av, ha, xv, hx, H2, h, e⟩ := h
    cases e
    exact unit_vals (aStore_run hs (aev_VR hs ht ha) (aev_VR hs ht hx) h)
  case makeMap t r =>
    simp only [aLoud] at h
    cases r with
    | some _ => simp at h
    | none =>
      cases h
      refine Made.vals (s := Instr.makeMap t none) ⟨_, _, _, rfl, Stp.alloc hs (.map #[] #[] 0 rfl (fun i e e' h => by simp at h)), .map _ _ Rho.add_self⟩
  case makeSlice t l c =>
    simp only [aLoud] at h
    simp only [Option.bind_eq_some_iff] at h
    obtain ⟨lv, hl, cv, hc, h⟩ := h
    exact (aMakeSlice_run hs (aev_VR hs ht hl) (aev_VR hs ht hc) h).vals
  case mapUpdate t m k x =>
    simp only [aLoud] at h
    simp only [Option.bind_eq_some_iff, Option.map_eq_some_iff] at h
    obtain ⟨mv, hm, kv, hk, xv, hx, H2, h, e⟩ := h
    cases e
    exact unit_vals (aMapUpdate_run hs (aev_VR hs ht hm) (aev_VR hs ht hk) (aev_VR hs ht hx) h)
  case mapEntry t m k =>
    simp only [aLoud] at h
    simp only [Option.bind_eq_some_iff] at h
    obtain ⟨mv, hm, kv, hk, h⟩ := h
    exact (aMapEntry_run hs (aev_VR hs ht hm) (aev_VR hs ht hk) h).vals
  case entryStore t m s x =>
    simp only [aLoud] at h
    simp only [Option.bind_eq_some_iff, Option.map_eq_some_iff] at h
    obtain ⟨mv, hm, kv, hk, xv, hx, H2, h, e⟩ := h
    cases e
    exact unit_vals (aEntryStore_run hs (aev_VR hs ht hm) (aev_VR hs ht hk) (aev_VR hs ht hx) h)
  case range t x =>
    simp only [aLoud] at h
    simp only [Option.bind_eq_some_iff] at h
    obtain ⟨xv, hx, h⟩ := h
    exact (aRange_run hs (aev_VR hs ht hx) h).vals
  case next it b =>
    simp only [aLoud] at h
    simp only [Option.bind_eq_some_iff] at h
    obtain ⟨iv, hi, h⟩ := h
    exact (aNext_run type hs (aev_VR hs ht hi) h).vals
  case call c =>
    obtain ⟨callee, args, argTypes⟩ := c
    cases callee <;> try (simp only [aLoud] at h; cases h; done)
    case builtin b =>
      simp only [aLoud] at h
      split at h
      · rename_i r hr
        cases h
        simp only [Option.bind_eq_some_iff] at hr
        obtain ⟨vs, hvs, hr⟩ := hr
        have e1 : args.map (ev tmps') = (args.toList.map (ev tmps')).toArray := by apply Array.ext'; simp
        have := aBuiltin_run (P := P) (ty := type) (cs := args.map fun | .const _ => true | _ => false) hs (mapOpt_LR hs ht _ _ hvs) hr
        simp only [execOp, resolve, Sem.run_bind, Sem.run_pure, Result.andThen_ok, invoke, e1]
        exact this
      · simp only [Option.map_eq_some_iff] at h
        obtain ⟨u, hu, e⟩ := h
        cases e
        obtain ⟨h1, h2⟩ := aPure_run rfl hs ht hu
        exact ⟨ρ, _, w, .refl hs, plain_VR h1, .inl (h2 w)⟩
def Same (P : Program) (l : List FuncId) : Prop := ∀ f ∈ l, ∀ (v : Value) (w : World), (callFunc f #[v]).run P w = .ok (.value v) w
theorem callFunc_run {f : FuncId} (h : okFunc P f = true) (args : Array Value) (w : World) : (callFunc f args).run P w = .ok (.enter f args) w := by
  unfold okFunc at h
  cases hf : P.funcs[f]? with
  | none => simp [hf] at h
  | some fn =>
    simp only [hf, Bool.and_eq_true] at h
    have h1 : (fn.name == "runtime.NumGoroutine") = false := by simpa using h.2
    have h2 : fn.body.isNone = false := by cases hb : fn.body with
      | none => simp [hb] at h
      | some _ => rfl
    simp only [callFunc, Sem.run_bind, run_program, Result.andThen_ok, hf, h1, h2, Bool.false_eq_true, if_false, Sem.run_pure]
theorem zip_fold (ps : List Tmp) : ∀ (l l' : List Value) (a a' : Array Value), LR ρ l l' → TMR ρ a a' →
    TMR ρ ((ps.zip l).foldl (fun tmps p => tmps.setIfInBounds p.1 p.2) a) ((ps.zip l').foldl (fun tmps p => tmps.setIfInBounds p.1 p.2) a') := by
  induction ps with
  | nil => intro l l' a a' _ h; simpa using h
  | cons t ps ih =>
    intro l l' a a' hl h
    cases l with
    | nil => rw [hl.nil_left]; simpa using h
    | cons v l =>
      obtain ⟨v', k, rfl, hv, hk⟩ := hl.cons_left
      simp only [List.zip_cons_cons, List.foldl_cons]
      exact ih l k _ _ hk (h.setIfInBounds t hv)
theorem aCallOp_run (hX : Same P C.same) (hs : Sat P C.g ρ H w) (ht : TMR ρ tmps tmps') {o : Oper} {f : Operand} {args : Array Operand} {argTypes : Array TypeId} (ho : o.op = .call { callee := .value f, args, argTypes }) {r : ARes}
    (h : aCallOp P C tmps o f args H = some r) :
    match r with
    | .val v H1 => H1 = H ∧ ∃ v', VR ρ v v' ∧ (execOp (ev tmps') o).run P w = .ok (.value v') w
    | .call g vs H1 => H1 = H ∧ okFunc P g = true ∧ ∃ vs', AR ρ vs vs' ∧ (execOp (ev tmps') o).run P w = .ok (.enter g vs') w
    | .round l fn ts assign body H1 => H1 = H ∧ ∃ l' ts', ρ.blk l = some l' ∧ TMR ρ ts ts' ∧ (execOp (ev tmps') o).run P w = .ok (.round l' fn ts' assign body) w := by
  simp only [aCallOp, Option.bind_eq_some_iff] at h
  obtain ⟨fv, hfv, vs, hvs, c, hc, h⟩ := h
  have hfr := aev_VR hs ht hfv
  have hvr := mapOpt_LR hs ht _ _ hvs
  have e1 : args.map (ev tmps') = (args.toList.map (ev tmps')).toArray := by apply Array.ext'; simp
  have hres : ∀ fn first captured, ev tmps' f = .func fn first captured → (execOp (ev tmps') o).run P w = (invoke (.fn fn captured) (first ++ (args.toList.map (ev tmps')).toArray)).run P w := by
    intro fn first captured he
    simp only [execOp, ho, resolve, he, Deferred.ofValue, Sem.run_bind, Sem.run_pure, Result.andThen_ok, e1]
  unfold aCallee at hc
  split at hc
  case h_3 => cases hc
  case h_1 gf first captured =>
    cases hc
    generalize hq : ev tmps' f = q at hfr
    cases hfr with
    | func _ gn _ a' _ c' hf h1 h2 h3 h4 =>
      have hg : gn = .func gf := hf
      subst hg
      have hrun := hres _ _ _ hq
      have hargs : AR ρ (first ++ vs.toArray ++ captured) (a' ++ (args.toList.map (ev tmps')).toArray ++ c') := (AR.append ⟨h1, h2⟩ (AR.ofList hvr)).append ⟨h3, h4⟩
      have hrun2 : (execOp (ev tmps') o).run P w = (callFunc gf (a' ++ (args.toList.map (ev tmps')).toArray ++ c')).run P w := by rw [hrun]; rfl
      simp only at h
      split at h
      · rename_i hok
        cases h
        exact ⟨rfl, hok, _, hargs, by rw [hrun2, callFunc_run hok]⟩
      · split at h
        · rename_i hin
          split at h
          case h_2 => cases h
          case h_1 v hv =>
            cases h
            have hl := AR.toList.1 hargs
            rw [hv] at hl
            obtain ⟨v', k, hk, hvv, hk2⟩ := hl.cons_left
            rw [hk2.nil_left] at hk
            have ha : (a' ++ (args.toList.map (ev tmps')).toArray ++ c') = #[v'] := by apply Array.ext'; rw [hk]
            refine ⟨rfl, v', hvv, ?_⟩
            rw [hrun2, ha]
            exact hX gf (by simpa using hin) v' w
        · simp only [Option.map_eq_some_iff] at h
          obtain ⟨u, hu, rfl⟩ := h
          obtain ⟨h1, h2⟩ := aPure_run rfl hs ht hu
          exact ⟨rfl, u, plain_VR h1, h2 w⟩
  case h_2 l first captured =>
    split at hc
    case isFalse => cases hc
    case isTrue hemp =>
      cases hc
      simp only [Bool.and_eq_true, Array.isEmpty_iff] at hemp
      obtain ⟨rfl, rfl⟩ := hemp
      generalize hq : ev tmps' f = q at hfr
      cases hfr with
      | func _ gn _ a' _ c' hf h1 h2 h3 h4 =>
        obtain ⟨l', hl', rfl⟩ := hf
        have ha' : a' = #[] := Array.eq_empty_of_size_eq_zero (by simpa using h1.symm)
        subst ha'
        have hrun := hres _ _ _ hq
        simp only at h
        split at h
        case h_2 => cases h
        case h_1 r hg =>
          split at h
          case isFalse => cases h
          case isTrue hsz =>
            cases h
            obtain ⟨o', ho', hor⟩ := get_live hs hg hl'
            cases hor with
            | loop _ r' g1 g2 g3 g4 g5 g6 g7 g8 =>
              have hsz' : (args.toList.map (ev tmps')).length = r'.params.size := by rw [← hvr.1, ← g5]; simpa using hsz
              refine ⟨rfl, l', (r'.params.zip (args.toList.map (ev tmps')).toArray).foldl (fun tmps p => tmps.setIfInBounds p.1 p.2) r'.tmps, hl', ?_, ?_⟩
              · rw [g5]
                simp only [← Array.foldl_toList, Array.toList_zip]
                exact zip_fold _ _ _ _ _ hvr g4
              · rw [hrun]
                have hne : ¬ ((#[] ++ (args.toList.map (ev tmps')).toArray : Array Value).size ≠ r'.params.size) := by simpa using hsz'
                simp only [invoke, Instr.yield, Instr.getLoop, Sem.run_bind, getObj_run ho' rfl, Result.andThen_ok, Sem.run_pure, if_neg hne]
                rw [g3, g6, g7]
                simp
end
end Go.Ar
end
section
namespace Go.Ar
open Go.RowKit
section
variable {P : Program} {ops : Array Oper} {Q : Exit → Act → World → Prop}
def wpAnyS (P : Program) (ops : Array Oper) (Q : Exit → Act → World → Prop) (S : Array Bool → World → Prop) : Nat → Array Bool → Act → World → Prop
  | 0, listed, a, w => Region.ready .any ops listed = [] ∧ Q .normal a w
  | n + 1, listed, a, w =>
    (Region.ready .any ops listed = [] → Q .normal a w) ∧
    ∀ i ∈ Region.ready .any ops listed, wpOp P ops Q i (fun a' w' => S (listed.setIfInBounds i true) w' ∧ wpAnyS P ops Q S n (listed.setIfInBounds i true) a' w') a w
theorem wpAny_of_S {S : Array Bool → World → Prop} : ∀ (n : Nat) (listed : Array Bool) (a : Act) (w : World), wpAnyS P ops Q S n listed a w → wpAny P .any ops Q n listed a w
  | 0, _, _, _, h => h
  | n + 1, _, _, _, h => ⟨h.1, fun i hi => wpOp_mono (fun a' w' h' => wpAny_of_S n _ a' w' h'.2) (h.2 i hi)⟩
theorem wpAnyS_mono {S S' : Array Bool → World → Prop} (hS : ∀ L w, S L w → S' L w) : ∀ (n : Nat) (listed : Array Bool) (a : Act) (w : World), wpAnyS P ops Q S n listed a w → wpAnyS P ops Q S' n listed a w
  | 0, _, _, _, h => h
  | n + 1, _, _, _, h => ⟨h.1, fun i hi => wpOp_mono (fun a' w' h' => ⟨hS _ _ h'.1, wpAnyS_mono hS n _ a' w' h'.2⟩) (h.2 i hi)⟩
def Closed (ops : Array Oper) (listed : Array Bool) : Prop := ∀ (j : Nat) (o : Oper), ops[j]? = some o → listed.getD j false = true → ∀ e ∈ o.after, Region.binds .any e = true → listed.getD e.on false = true
theorem Closed.set {listed : Array Bool} (h : Closed ops listed) {j : Nat} (hj : j ∈ Region.ready .any ops listed) : Closed ops (listed.setIfInBounds j true) := by
  intro k o ho hk e he hb
  by_cases hjk : j = k
  · subst hjk
    obtain ⟨_, o', ho', hall⟩ := mem_ready.1 hj
    rw [ho] at ho'; cases ho'
    exact getD_set_true (hall e he hb)
  · rw [getD_set_ne false hjk] at hk
    exact getD_set_true (h k o ho hk e he hb)
theorem waits_listed {listed : Array Bool} (h : Closed ops listed) : ∀ (n j i : Nat), listed.getD j false = true → waits n ops j i = true → listed.getD i false = true := by
  intro n
  induction n with
  | zero => intro j i _ hw; simp [waits] at hw
  | succ n ih =>
    intro j i hj hw
    simp only [waits] at hw
    cases ho : ops[j]? with
    | none => simp [ho] at hw
    | some o =>
      simp only [ho, List.any_eq_true, Bool.and_eq_true, Bool.or_eq_true, beq_iff_eq] at hw
      obtain ⟨e, he, hb, hw⟩ := hw
      have h1 := h j o ho hj e (by simpa using he) hb
      rcases hw with rfl | hw
      · exact h1
      · exact ih e.on i h1 hw
theorem pend_of_unlisted {listed : Array Bool} (h : Closed ops listed) {i : Nat} (hi : listed.getD i false = false) : pend ops i listed = true := by
  unfold pend
  rw [List.all_eq_true]
  intro j _
  cases hj : listed.getD j false with
  | false => simp
  | true =>
    cases hw : waits 6 ops j i with
    | false => simp
    | true => have := waits_listed h 6 j i hj hw; rw [hi] at this; cases this
theorem pend_set {listed : Array Bool} {i q : Nat} (hi : loud ops i = false) : pend ops q (listed.setIfInBounds i true) = pend ops q listed := by
  unfold pend
  congr 1
  funext j
  by_cases h : i = j
  · subst h; simp [hi]
  · rw [getD_set_ne false h]
theorem wpAnyS_first {i : Nat} {oi : Oper} {v : Value} {S0 : Array Bool → World → Prop} {Si : World → Prop} (hi : ops[i]? = some oi) (hquiet : loud ops i = false)
    (hsel : ∀ (j : Nat) (o : Oper) cs b, ops[j]? = some o → o.op ≠ .select cs b) (hQ : ∀ c a w, ¬ Q (.panic c) a w) (hS0 : ∀ L w, S0 (L.setIfInBounds i true) w ↔ S0 L w) :
    ∀ (fuel : Nat) (listed : Array Bool) (a : Act) (w : World), Closed ops listed →
      (∀ j oj, ops[j]? = some oj → j ≠ i → listed.getD j true = false → (∀ e ∈ oj.after, Region.binds .any e = true → e.on ≠ i) → oi.apart ops oj = true) →
      i ∈ Region.ready .any ops listed → YieldsIf P ops Si oi v a → Si w → S0 listed w →
      wpAnyS P ops Q (fun L w => (pend ops i L = true → Si w) ∧ S0 L w) fuel (listed.setIfInBounds i true) (a.put oi.dst v) w → wpAnyS P ops Q S0 (fuel + 1) listed a w := by
  intro fuel
  induction fuel with
  | zero =>
    intro listed a w hcl _ hr hy hSi hS H
    refine ⟨fun h => (by rw [h] at hr; cases hr), fun j hj => ?_⟩
    by_cases hji : j = i
    · subst hji; exact hy.wpOp hi hSi ⟨(hS0 _ _).2 hS, H⟩
    · have := ready_mono hj hji
      rw [H.1] at this
      cases this
  | succ fuel ih =>
    intro listed a w hcl hfree hr hy hSi hS H
    refine ⟨fun h => (by rw [h] at hr; cases hr), fun j hj => ?_⟩
    by_cases hji : j = i
    · subst hji; exact hy.wpOp hi hSi ⟨(hS0 _ _).2 hS, wpAnyS_mono (fun L w h => h.2) _ _ _ _ H⟩
    · have h1 := H.2 j (ready_mono hj hji)
      obtain ⟨hjun, oj, hoj, hall⟩ := mem_ready.1 hj
      have hnot : ∀ e ∈ oj.after, Region.binds .any e = true → e.on ≠ i := fun e he hb heq => by
        have h1 := hall e he hb
        have h0 := (mem_ready.1 hr).1
        rw [heq] at h1
        rcases Nat.lt_or_ge i listed.size with h' | h'
        · simp [h'] at h0 h1; rw [h0] at h1; cases h1
        · simp [Array.getElem?_eq_none h'] at h1
      have h2 := wpOp_putIf (S := Si) hoj (hfree j oj hoj hji hjun hnot) (fun cs b => hsel i oi cs b hi) (fun cs b => hsel j oj cs b hoj) (fun c a w h => absurd h (hQ _ _ _)) hy h1
      have hfree' : ∀ k ok, ops[k]? = some ok → k ≠ i → (listed.setIfInBounds j true).getD k true = false →
          (∀ e ∈ ok.after, Region.binds .any e = true → e.on ≠ i) → oi.apart ops ok = true := fun k ok hk hki hun hno => by
        refine hfree k ok hk hki ?_ hno
        by_cases hjk : j = k
        · subst hjk; exact hjun
        · rw [getD_set_ne true hjk] at hun; exact hun
      have hcl' := hcl.set hj
      have hiun : listed.getD i false = false := by
        have h0 := (mem_ready.1 hr).1
        rcases Nat.lt_or_ge i listed.size with h' | h'
        · simpa [h'] using h0
        · simp [Array.getElem?_eq_none h'] at h0
      have hiun' : (listed.setIfInBounds j true).getD i false = false := by rw [getD_set_ne false hji]; exact hiun
      refine wpOp_mono (fun a' w' h3 => ?_) h2
      obtain ⟨hy', ⟨hpi, hS0'⟩, hrest⟩ := h3
      have hcomm : (listed.setIfInBounds i true).setIfInBounds j true = (listed.setIfInBounds j true).setIfInBounds i true := Array.setIfInBounds_comm _ _ (Ne.symm hji)
      rw [hcomm] at hpi hS0' hrest
      have hSi' : Si w' := hpi (by rw [pend_set hquiet]; exact pend_of_unlisted hcl' hiun')
      have hS0'' : S0 (listed.setIfInBounds j true) w' := (hS0 _ _).1 hS0'
      exact ⟨hS0'', ih (listed.setIfInBounds j true) a' w' hcl' hfree' (ready_mono hr (Ne.symm hji)) hy' hSi' hS0'' hrest⟩
theorem wpAnyS_one {S : Array Bool → World → Prop} {j n : Nat} {listed : Array Bool} {a : Act} {w : World} (hr : Region.ready .any ops listed = [j])
    (h : wpOp P ops Q j (fun a' w' => S (listed.setIfInBounds j true) w' ∧ wpAnyS P ops Q S n (listed.setIfInBounds j true) a' w') a w) : wpAnyS P ops Q S (n + 1) listed a w :=
  ⟨fun h0 => (by rw [hr] at h0; cases h0), fun i hi => (by rw [hr] at hi; simp at hi; subst hi; exact h)⟩
theorem wpAnyS_done {S : Array Bool → World → Prop} {listed : Array Bool} {a : Act} {w : World} (hr : Region.ready .any ops listed = []) (h : Q .normal a w) : ∀ n, wpAnyS P ops Q S n listed a w
  | 0 => ⟨hr, h⟩
  | _ + 1 => ⟨fun _ => h, by rw [hr]; simp⟩
end
section
variable {P : Program} {ρ : Rho} {H : AHeap} {w : World} {C : Cfg}
theorem allSame_eq {f : Value → Value → Bool} (hf : ∀ a b, f a b = true → a = b) : ∀ (l k : List Value), allSame f l k = true → l = k := by
  intro l
  induction l with
  | nil => intro k h; cases k <;> simp_all [allSame]
  | cons x l ih =>
    intro k h
    cases k with
    | nil => simp [allSame] at h
    | cons y k =>
      simp only [allSame, Bool.and_eq_true] at h
      rw [hf x y h.1, ih k h.2]
theorem sameFn_eq {f g : Fn} (h : sameFn f g = true) : f = g := by
  cases f <;> cases g <;> simp [sameFn] at h <;> rw [h]
theorem sameV_eq : ∀ (n : Nat) (v u : Value), sameV n v u = true → v = u := by
  intro n
  induction n with
  | zero => intro v u h; simp [sameV] at h
  | succ n ih =>
    intro v u h
    have harr : ∀ (a b : Array Value), allSame (sameV n) a.toList b.toList = true → a = b := fun a b h => Array.ext' (allSame_eq ih _ _ h)
    cases v <;> cases u <;> simp only [sameV, Bool.and_eq_true, beq_iff_eq, decide_eq_true_eq] at h <;> try (cases h; done)
    case bool.bool => rw [h]
    case int.int => rw [h.1, h.2]
    case string.string => rw [h]
    case pointer.pointer => rw [h]
    case slice.slice => obtain ⟨⟨h1, h2⟩, h3⟩ := h; rw [h1, h2, h3]
    case map.map => rw [h]
    case func.func => obtain ⟨⟨h1, h2⟩, h3⟩ := h; rw [sameFn_eq h1, harr _ _ h2, harr _ _ h3]
    case nilFunc.nilFunc => rfl
    case nilIface.nilIface => rfl
    case agg.agg => rw [harr _ _ h]
    case tuple.tuple => rw [harr _ _ h]
structure PendC where
  i : Nat
  s : Sem Next
  v : Value
inductive TR (ops : Array Oper) (ρ : Rho) : List Taken → List PendC → Prop
  | nil : TR ops ρ [] []
  | cons (q : Taken) (c : PendC) (l : List Taken) (k : List PendC) (tmps' : Array Value) (hi : q.i = c.i) (ht : TMR ρ q.tmps tmps') (hs : c.s = execOp (ev tmps') q.o) (hv : VR ρ q.v c.v) (h : TR ops ρ l k) : TR ops ρ (q :: l) (c :: k)
theorem TR.mono {ops : Array Oper} {ρ ρ' : Rho} (hE : Ext ρ ρ') {l : List Taken} {k : List PendC} (h : TR ops ρ l k) : TR ops ρ' l k := by
  induction h with
  | nil => exact .nil
  | cons q c l k tmps' hi ht hs hv _ ih => exact .cons q c l k tmps' hi (ht.mono hE) hs (hv.mono hE) ih
def Still (P : Program) (ops : Array Oper) (L : List PendC) (listed : Array Bool) (w : World) : Prop := ∀ c ∈ L, pend ops c.i listed = true → c.s.run P w = .ok (.value c.v) w
theorem again_still {ops : Array Oper} {listed : Array Bool} (hs : Sat P C.g ρ H w) {l : List Taken} {k : List PendC} (h : TR ops ρ l k)
    (hall : l.all (fun q => !pend ops q.i listed || again P C q H) = true) : Still P ops k listed w := by
  induction h with
  | nil => intro c hc; cases hc
  | cons q c l k tmps' hi ht hq hv _ ih =>
    simp only [List.all_cons, Bool.and_eq_true, Bool.or_eq_true, Bool.not_eq_true'] at hall
    intro d hd hp
    rcases List.mem_cons.1 hd with rfl | hd
    · rcases hall.1 with h1 | h1
      · rw [hi, hp] at h1; cases h1
      · unfold again at h1
        split at h1
        case h_2 => cases h1
        case h_1 v hv2 =>
          have e := sameV_eq 4 _ _ h1
          subst e
          obtain ⟨v', hvv, hr⟩ := aQuiet_run hs ht hv2
          rw [hq, hr, hvv.fn _ hv]
    · exact ih (by simpa using hall.2) d hd hp
theorem yielded_eq {ops : Array Oper} {tmps tmps' : Array Value} (ht : TMR ρ tmps tmps') : yielded ops tmps' = yielded ops tmps := by
  funext j
  unfold yielded
  cases (ops[j]?).bind (·.dst) with
  | none => rfl
  | some d =>
    simp only [Option.bind_some]
    cases hv : tmps[d]? with
    | some v =>
      obtain ⟨v', hv', hvv⟩ := ht.get hv
      rw [hv']
      rcases hvv with ⟨c, rfl, hb⟩ | hvv
      · cases v' <;> first | rfl | exact hb.elim
      · cases hvv <;> rfl
    | none =>
      have : tmps'[d]? = none := by rw [Array.getElem?_eq_none_iff] at *; rw [← ht.1]; exact hv
      rw [this]
theorem put_tmps (a : Act) (dst : Option Tmp) (v : Value) : (a.put dst v).tmps = putT a.tmps dst v := by cases dst <;> rfl
theorem TMR.putT {tmps tmps' : Array Value} (ht : TMR ρ tmps tmps') (dst : Option Tmp) {v v' : Value} (hv : VR ρ v v') : TMR ρ (putT tmps dst v) (Ar.putT tmps' dst v') := by
  cases dst with
  | none => exact ht
  | some d => exact ht.setIfInBounds d hv
theorem put_defers (a : Act) (dst : Option Tmp) (v : Value) : (a.put dst v).defers = a.defers := by cases dst <;> rfl
def CallsTo (P : Program) (C : Cfg) (n : Nat) : Prop :=
  ∀ (f : FuncId) (args : Array Value) (fr : AFr) (H : AHeap) (v : Value) (H1 : AHeap), enter P f args = some fr → aRun P C n fr H = some (v, H1) →
    ∀ (ρ : Rho) (w : World) (args' : Array Value), Sat P C.g ρ H w → AR ρ args args' →
      Calls P f args' w fun e w1 => ∃ ρ1 v', e = .returned v' ∧ Stp P C.g ρ H w ρ1 H1 w1 ∧ VR ρ1 v v'
theorem find_ready {l : List Nat} {p : Nat → Bool} {i : Nat} (h : l.find? p = some i) : i ∈ l ∧ p i = true := ⟨List.mem_of_find?_eq_some h, List.find?_some h⟩
def AnyTo (P : Program) (C : Cfg) (n : Nat) : Prop :=
  ∀ (ops : Array Oper) (left : Nat) (listed : Array Bool) (taken : List Taken) (tmps : Array Value) (H : AHeap) (tmpsF : Array Value) (HF : AHeap),
    aAny P C n ops left listed taken tmps H = some (tmpsF, HF) → Region.noSelect ops = true → Closed ops listed →
    ∀ (ρ : Rho) (w : World) (a : Act) (L : List PendC) (Q : Exit → Act → World → Prop), Sat P C.g ρ H w → TMR ρ tmps a.tmps → TR ops ρ taken L → Still P ops L listed w →
      (∀ c a w, ¬ Q (.panic c) a w) →
      (∀ ρ1 a1 w1, Stp P C.g ρ H w ρ1 HF w1 → TMR ρ1 tmpsF a1.tmps → a1.defers = a.defers → Q .normal a1 w1) →
      wpAnyS P ops Q (Still P ops L) left listed a w
theorem any_step {n : Nat} (hX : Same P C.same) (hcall : CallsTo P C n) (ih : AnyTo P C n) : AnyTo P C (n + 1) := by
  intro ops left listed taken tmps H tmpsF HF h hns hcl ρ w a L Q hs ht hT hS hQ hpost
  have hsel := Region.noSelect_spec hns
  simp only [aAny] at h
  split at h
  case h_1 i hfind =>
    obtain ⟨hir, hp⟩ := find_ready hfind
    split at h
    case h_2 => cases h
    case h_1 o left ho =>
      simp only [ho, Bool.and_eq_true] at hp
      have hloud : loud ops i = false := by simp [loud, ho, hp.1]
      have hfree := Region.free_spec ho hp.2
      have hstillset : ∀ (L : List PendC) (Z : Array Bool) (w : World), Still P ops L (Z.setIfInBounds i true) w ↔ Still P ops L Z w := by
        intro L Z w
        unfold Still
        constructor
        · intro h c hc hpd; exact h c hc (by rw [pend_set hloud]; exact hpd)
        · intro h c hc hpd; exact h c hc (by rw [pend_set hloud] at hpd; exact hpd)
      split at h
      case isTrue hw =>
        split at h
        case h_2 => cases h
        case h_1 v hv =>
          obtain ⟨v', hvv, hrun⟩ := aQuiet_run hs ht hv
          have hrun' : (execOp a.eval o).run P w = .ok (.value v') w := by rw [ev_act]; exact hrun
          have hT' : TR ops ρ (⟨i, o, tmps, v⟩ :: taken) (⟨i, execOp (ev a.tmps) o, v'⟩ :: L) := .cons _ _ _ _ a.tmps rfl ht rfl hvv hT
          have hrec := ih ops left (listed.setIfInBounds i true) _ (putT tmps o.dst v) H tmpsF HF h hns (hcl.set hir) ρ w (a.put o.dst v') _ Q hs (by rw [put_tmps]; exact ht.putT _ hvv) hT'
            (by
              intro c hc hpd
              rcases List.mem_cons.1 hc with rfl | hc
              · exact hrun
              · exact (hstillset L listed w).2 hS c hc hpd) hQ
            (fun ρ1 a1 w1 h1 h2 h3 => hpost ρ1 a1 w1 h1 h2 (h3.trans (put_defers _ _ _)))
          refine wpAnyS_first (v := v') (Si := fun w => (execOp (ev a.tmps) o).run P w = .ok (.value v') w) ho hloud hsel hQ (hstillset L) left listed a w hcl hfree hir ?_ hrun hS ?_
          · refine .inl ⟨by rw [yielded_eq ht]; exact hw, fun w hw => by rw [ev_act]; exact hw⟩
          · refine wpAnyS_mono (fun Z w hZ => ⟨fun hpd => hZ _ (List.mem_cons_self ..) hpd, fun c hc hpd => hZ c (List.mem_cons_of_mem _ hc) hpd⟩) _ _ _ _ hrec
      case isFalse hw =>
        have hrec := ih ops left (listed.setIfInBounds i true) _ (putT tmps o.dst undef) H tmpsF HF h hns (hcl.set hir) ρ w (a.put o.dst undef) L Q hs (by rw [put_tmps]; exact ht.putT _ VR.undef) hT
          ((hstillset L listed w).2 hS) hQ (fun ρ1 a1 w1 h1 h2 h3 => hpost ρ1 a1 w1 h1 h2 (h3.trans (put_defers _ _ _)))
        refine wpAnyS_first (v := undef) (Si := fun _ => True) ho hloud hsel hQ (hstillset L) left listed a w hcl hfree hir ?_ trivial hS ?_
        · exact .inr ⟨by rw [yielded_eq ht]; simpa using hw, rfl⟩
        · exact wpAnyS_mono (fun Z w hZ => ⟨fun _ => trivial, hZ⟩) _ _ _ _ hrec
  case h_2 hfind =>
    split at h
    case h_3 => cases h
    case h_1 hr =>
      cases h
      exact wpAnyS_done hr (hpost ρ a w (.refl hs) ht rfl) _
    case h_2 j hr =>
      have hjr : j ∈ Region.ready .any ops listed := by rw [hr]; simp
      split at h
      case h_2 => cases h
      case h_1 o left ho =>
        split at h
        case isFalse => cases h
        case isTrue hw =>
          simp only [Bool.and_eq_true, Bool.not_eq_true'] at hw
          refine wpAnyS_one hr ?_
          have hwant : Region.wanted o (yielded ops a.tmps) = true := by rw [yielded_eq ht]; exact hw.1
          have next : ∀ (v : Value) (H3 : AHeap) (ρ1 : Rho) (v' : Value) (w1 : World), Stp P C.g ρ H w ρ1 H3 w1 → VR ρ1 v v' →
              taken.all (fun q => !pend ops q.i (listed.setIfInBounds j true) || again P C q H3) = true →
              aAny P C n ops left (listed.setIfInBounds j true) taken (putT tmps o.dst v) H3 = some (tmpsF, HF) →
              Still P ops L (listed.setIfInBounds j true) w1 ∧ wpAnyS P ops Q (Still P ops L) left (listed.setIfInBounds j true) (a.put o.dst v') w1 := by
            intro v H3 ρ1 v' w1 hst hvv hall h
            have hstill := again_still hst.sat (hT.mono hst.ext) hall
            refine ⟨hstill, ?_⟩
            refine ih ops left _ taken _ H3 tmpsF HF h hns (hcl.set hjr) ρ1 w1 _ L Q hst.sat (by rw [put_tmps]; exact (ht.mono hst.ext).putT _ hvv) (hT.mono hst.ext) hstill hQ ?_
            exact fun ρ2 a2 w2 h1 h2 h3 => hpost ρ2 a2 w2 (hst.trans h1) h2 (h3.trans (put_defers _ _ _))
          unfold wpOp
          simp only [ho, hwant, if_true]
          refine .inl ?_
          unfold Oper.wp
          rw [ev_act]
          split at h
          case h_2 => cases h
          case h_1 v H3 hres =>
            split at h
            case isFalse => cases h
            case isTrue hall =>
              have hop : aOp P C tmps o H = aLoudOp P C tmps o H := by
                unfold aOp; rw [if_neg (by rw [hw.2]; simp)]
              have hloudcase : ∀ H2, aLoud P C tmps o H = some (v, H2) → H2 = H3 → o.upon P a (fun a' w' => Still P ops L (listed.setIfInBounds j true) w' ∧ wpAnyS P ops Q (Still P ops L) left (listed.setIfInBounds j true) a' w') Q ((execOp (ev a.tmps) o).run P w) := by
                intro H2 hl e
                subst e
                obtain ⟨ρ1, v', w1, hst, hvv, hr⟩ := aLoud_run hs ht hl
                rcases hr with hr | ⟨hr, rfl⟩
                · rw [hr]; exact next v H2 ρ1 v' w1 hst hvv hall h
                · rw [hr]; exact next v H2 ρ1 _ w1 hst hvv hall h
              have hcallcase : ∀ f args argTypes, o.op = .call { callee := .value f, args, argTypes } → aOp P C tmps o H = aCallOp P C tmps o f args H →
                  o.upon P a (fun a' w' => Still P ops L (listed.setIfInBounds j true) w' ∧ wpAnyS P ops Q (Still P ops L) left (listed.setIfInBounds j true) a' w') Q ((execOp (ev a.tmps) o).run P w) := by
                intro f args argTypes hopc he
                rw [he] at hres
                cases hc : aCallOp P C tmps o f args H with
                | none => simp [hc] at hres
                | some r =>
                  have hrr := aCallOp_run hX hs ht hopc hc
                  rw [hc] at hres
                  cases r with
                  | val u H2 =>
                    cases hres
                    obtain ⟨rfl, v', hvv, hr⟩ := hrr
                    rw [hr]; exact next _ _ ρ v' w (.refl hs) hvv hall h
                  | call gf vs H2 =>
                    obtain ⟨rfl, hok, vs', hvs, hr⟩ := hrr
                    rw [hr]
                    simp only at hres
                    cases hen : enter P gf vs with
                    | none => simp [hen] at hres
                    | some fr =>
                      simp only [hen] at hres
                      have hcc := hcall gf vs fr _ v H3 hen hres ρ w vs' hs hvs
                      refine Calls.mono hcc ?_
                      rintro e w1 ⟨ρ1, v', rfl, hst, hvv⟩
                      exact next v H3 ρ1 v' w1 hst hvv hall h
                  | round => simp at hres
              obtain ⟨dst, op, type, pos, after, guard⟩ := o
              by_cases hcv : ∃ f args argTypes, op = .call { callee := .value f, args, argTypes }
              · obtain ⟨f, args, argTypes, rfl⟩ := hcv
                exact hcallcase f args argTypes rfl hop
              · have hl : aOp P C tmps ⟨dst, op, type, pos, after, guard⟩ H = (aLoud P C tmps ⟨dst, op, type, pos, after, guard⟩ H).map fun r => .val r.1 r.2 := by
                  rw [hop]
                  cases op <;> try rfl
                  case call c =>
                    obtain ⟨callee, args, argTypes⟩ := c
                    cases callee <;> try rfl
                    case value f => exact absurd ⟨f, args, argTypes, rfl⟩ hcv
                rw [hl] at hres
                cases hq : aLoud P C tmps ⟨dst, op, type, pos, after, guard⟩ H with
                | none => simp [hq] at hres
                | some r =>
                  obtain ⟨u, H2⟩ := r
                  simp only [hq, Option.map_some] at hres
                  cases hres
                  exact hloudcase _ hq rfl
end
end Go.Ar
end
section
namespace Go.Ar
open Go.RowKit
section
variable {P : Program} {ρ : Rho} {H : AHeap} {w : World} {C : Cfg}
inductive DR (ρ : Rho) : List Nat → List Deferred → Prop
  | nil : DR ρ [] []
  | cons (r b ds ds') (h : ρ.blk r = some b) (hd : DR ρ ds ds') : DR ρ (r :: ds) ({ target := .collected b, args := #[] } :: ds')
theorem DR.mono {ρ ρ' : Rho} (hE : Ext ρ ρ') {l : List Nat} {k : List Deferred} (h : DR ρ l k) : DR ρ' l k := by
  induction h with
  | nil => exact .nil
  | cons r b ds ds' h _ ih => exact .cons r b ds ds' (hE.blk _ _ h) ih
def RoR (ρ : Rho) : Option Nat → Option Nat → Prop
  | none, none => True
  | some l, some l' => ρ.blk l = some l'
  | _, _ => False
structure FrR (ρ : Rho) (fr : AFr) (b : Frame) (a : Act) : Prop where
  fn : b.fn = fr.fn
  kind : b.kind = .normal
  ro : RoR ρ fr.roundOf b.roundOf
  tmps : TMR ρ fr.tmps a.tmps
  defers : DR ρ fr.defers a.defers
theorem RoR.mono {ρ ρ' : Rho} (hE : Ext ρ ρ') {x y : Option Nat} (h : RoR ρ x y) : RoR ρ' x y := by
  cases x <;> cases y <;> simp only [RoR] at * <;> first | exact h | exact hE.blk _ _ h
theorem FrR.mono {ρ ρ' : Rho} (hE : Ext ρ ρ') {fr : AFr} {b : Frame} {a : Act} (h : FrR ρ fr b a) : FrR ρ' fr b a := ⟨h.fn, h.kind, h.ro.mono hE, h.tmps.mono hE, h.defers.mono hE⟩
def Ends (P : Program) (b : Frame) (m : Machine) (cs : List Frame) (v : Value) (w1 : World) : Prop :=
  (b.roundOf = none → ∃ fe, Steps P m (lone fe cs w1) ∧ fe.fn = b.fn ∧ fe.leaving P w1 (.returned v)) ∧
  (b.roundOf ≠ none → ∀ c cs', cs = c :: cs' → Steps P m (lone (c.finish v) cs' w1))
theorem Ends.of_steps {b : Frame} {m m' : Machine} {cs : List Frame} {v : Value} {w1 : World} (h : Steps P m m') (k : Ends P b m' cs v w1) : Ends P b m cs v w1 :=
  ⟨fun e => let ⟨fe, s, r⟩ := k.1 e; ⟨fe, h.trans s, r⟩, fun e c cs' hc => h.trans (k.2 e c cs' hc)⟩
def RunTo (P : Program) (C : Cfg) (n : Nat) : Prop :=
  ∀ (fr : AFr) (H : AHeap) (v : Value) (H1 : AHeap), aRun P C n fr H = some (v, H1) →
    ∀ (ρ : Rho) (w : World) (b : Frame) (a : Act), Sat P C.g ρ H w → FrR ρ fr b a → ∀ cs,
      ∃ ρ1 v' w1, Stp P C.g ρ H w ρ1 H1 w1 ∧ VR ρ1 v v' ∧ Ends P b (lone (b.atR a fr.todo) cs w) cs v' w1
theorem enter_run {f : FuncId} {args args' : Array Value} {fr : AFr} (h : enter P f args = some fr) (ha : AR ρ args args') :
    ∃ (b : Frame) (a : Act), Frame.enter P f args' .normal = b.atR a fr.todo ∧ FrR ρ fr b a ∧ b.roundOf = none ∧ b.fn = f := by
  unfold enter at h
  split at h
  case h_2 => cases h
  case h_1 fn hf =>
    split at h
    case h_2 => cases h
    case h_1 c hb =>
      cases h
      refine ⟨{ (default : Frame) with fn := f, kind := .normal }, { tmps := args' ++ Array.replicate (fn.ntmps - args'.size) undef, defers := [] }, ?_, ⟨rfl, rfl, trivial, ?_, .nil⟩, rfl, rfl⟩
      · simp [Frame.enter, Frame.atR, hf, hb]; rfl
      · rw [ha.1]; exact (ha.append (AR.replicate _ VR.undef)).tmr
theorem calls_of_run {n : Nat} (h : RunTo P C n) : CallsTo P C n := by
  intro f args fr H v H1 hen hrun ρ w args' hs ha cs
  obtain ⟨b, a, he, hfr, hro, hfn⟩ := enter_run hen ha
  obtain ⟨ρ1, v', w1, hst, hv, hend⟩ := h fr H v H1 hrun ρ w b a hs hfr cs
  obtain ⟨fe, hsteps, hfe, hleave⟩ := hend.1 hro
  exact ⟨.returned v', w1, fe, ⟨ρ1, v', rfl, hst, hv⟩, by rw [he]; exact hsteps, hfe.trans hfn, hleave⟩
def resOne (tmps : Array Value) : ResultVar → Sem Value
  | .tmp t => pure (tmps.getD t undef)
  | .cell a t => do loadVar t (← asAddr (tmps.getD a undef))
theorem results_eq (fn : Func) (tmps : Array Value) : results fn tmps = (do
    let vs ← fn.results.mapM (resOne tmps)
    pure (if h : vs.size = 1 then vs[0] else .tuple vs)) := by
  unfold results
  congr 2
theorem results_run {fn : Func} {tmps tmps' : Array Value} {v : Value} (hs : Sat P C.g ρ H w) (ht : TMR ρ tmps tmps') (h : aResults P fn tmps H = some v) : ∃ v', VR ρ v v' ∧ (results fn tmps').run P w = .ok v' w := by
  simp only [aResults, Option.map_eq_some_iff] at h
  obtain ⟨vs, hvs, rfl⟩ := h
  have key : ∀ (l : List ResultVar) (vs : List Value), mapOpt (aResult P tmps H) l = some vs → ∃ vs', LR ρ vs vs' ∧ (l.mapM (resOne tmps')).run P w = .ok vs' w := by
    intro l
    induction l with
    | nil => intro vs h; simp [mapOpt] at h; subst h; exact ⟨[], .nil, rfl⟩
    | cons r l ih =>
      intro vs h
      simp only [mapOpt] at h
      cases hr : aResult P tmps H r with
      | none => simp [hr] at h
      | some u =>
        cases hl : mapOpt (aResult P tmps H) l with
        | none => simp [hr, hl] at h
        | some us =>
          simp only [hr, hl, Option.some.injEq] at h
          subst h
          obtain ⟨us', hus, hrun⟩ := ih us hl
          cases r with
          | tmp t =>
            simp only [aResult] at hr
            refine ⟨_, .cons (ht.getD t hr) hus, ?_⟩
            simp only [List.mapM_cons, resOne, Sem.run_bind, Sem.run_pure, Result.andThen_ok, hrun]
          | cell a t =>
            simp only [aResult] at hr
            have hnj : noJunk (tmps.getD a undef) = some (tmps.getD a undef) := by
              unfold aLoad at hr
              split at hr
              case h_2 => cases hr
              case h_1 i off he => rw [he]; rfl
            obtain ⟨u', hu, hload⟩ := aLoad_run hs (ht.getD a hnj) hr
            refine ⟨_, .cons hu hus, ?_⟩
            have hl2 : (do loadVar t (← asAddr (tmps'.getD a undef)) : Sem Value).run P w = .ok u' w := by
              have hq := ht.getD a hnj
              unfold aLoad at hr
              split at hr
              case h_2 => cases hr
              case h_1 i off he =>
                rw [he] at hq
                generalize tmps'.getD a undef = q at hq hload
                cases hq with
                | ptr _ b _ _ hb =>
                  simp only [Instr.loadAt, Instr.sureAddr, Sem.run_bind, Sem.run_pure, Result.andThen_ok] at hload
                  simp only [asAddr, Sem.run_bind, Sem.run_pure, Result.andThen_ok, hload]
            simp only [List.mapM_cons, resOne, Sem.run_bind]
            simp only [Sem.run_bind] at hl2
            rw [hl2]
            simp only [Result.andThen_ok, hrun, Sem.run_pure]
  obtain ⟨vs', hl, hrun⟩ := key fn.results.toList vs hvs
  refine ⟨oneOf vs', ?_, ?_⟩
  · cases vs with
    | nil => rw [hl.nil_left]; exact .tuple' (AR.ofList .nil)
    | cons x l =>
      obtain ⟨x', k, rfl, hx, hk⟩ := hl.cons_left
      cases l with
      | nil => rw [hk.nil_left]; exact hx
      | cons y l =>
        obtain ⟨y', k2, rfl, hy, hk2⟩ := hk.cons_left
        exact .tuple' (AR.ofList (.cons hx (.cons hy hk2)))
  · rw [results_eq, Array.mapM_eq_mapM_toList]
    simp only [Sem.run_bind, Sem.run_map, hrun, Result.andThen_ok, Sem.run_pure]
    cases vs' with
    | nil => rfl
    | cons x l => cases l with
      | nil => rfl
      | cons y l => simp [oneOf]
theorem take_run {b : Nat} (h : w.heap[b]? = some (.deferred (some []))) : (Instr.takeDeferred b).run P w = .ok [] { w with heap := w.heap.setIfInBounds b (.deferred none) } := by
  simp only [Instr.takeDeferred, Sem.run_bind, getObj_run h rfl, Result.andThen_ok, setObj_run h rfl, Sem.run_pure]
theorem unmark_steps : ∀ (ds : List Nat) (ds' : List Deferred) (H H1 : AHeap) (ρ : Rho) (w : World) (fr : Frame) (cs : List Frame), aUnmark H ds = some H1 → Sat P C.g ρ H w → DR ρ ds ds' → fr.mode = .returning → fr.defers = ds' →
    ∃ w1, Stp P C.g ρ H w ρ H1 w1 ∧ Steps P (lone fr cs w) (lone { fr with defers := [] } cs w1) := by
  intro ds
  induction ds with
  | nil =>
    intro ds' H H1 ρ w fr cs h hs hd _ hf
    cases hd
    simp [aUnmark] at h
    subst h
    refine ⟨w, .refl hs, ?_⟩
    have : { fr with defers := [] } = fr := by rw [← hf]
    rw [this]; exact .refl _ _
  | cons r ds ih =>
    intro ds' H H1 ρ w fr cs h hs hd hm hf
    cases hd with
    | cons _ b _ ds2 hb hd2 =>
      simp only [aUnmark] at h
      split at h
      case h_2 => cases h
      case h_1 hg =>
        obtain ⟨o', ho, hor⟩ := get_live hs hg hb
        cases hor
        obtain ⟨_, hst⟩ := setObj_stp (P := P) hs hg hb ho rfl (OR.deferred1)
        have hstep := step_collected (P := P) (cs := cs) (w := w) (fr := fr) (by rw [hm]; intro h; cases h) hf rfl (take_run ho)
        obtain ⟨w1, hst2, hsteps⟩ := ih ds2 _ H1 ρ _ { fr with defers := ds2 } cs h hst.sat hd2 hm rfl
        exact ⟨w1, hst.trans hst2, .head hstep hsteps⟩
theorem endRound_run {l : Nat} {r : Loop} (h : w.heap[l]? = some (.loop r)) (j : Option Code) :
    (Instr.endRound l j).run P w = .ok (.bool j.isNone) { w with heap := w.heap.setIfInBounds l (.loop { r with state := if j.isNone then .ready else .done, pending := j }) } := by
  simp only [Instr.endRound, Instr.getLoop, Sem.run_bind, getObj_run h rfl, Result.andThen_ok, setObj_run h rfl, Sem.run_pure]
theorem leave_run {fr : AFr} {b : Frame} {a : Act} {jump : Option Code} {v : Value} {H1 : AHeap} {k : List Item} (hs : Sat P C.g ρ H w) (hf : FrR ρ fr b a) (h : aLeave P fr jump H = some (v, H1))
    (hk : (jump = none ∧ k = []) ∨ (∃ k', jump = some .ret ∧ k = .code .ret :: k') ∨ (∃ id k', jump = some (.exit id) ∧ exitTo id k' = none ∧ k = .code (.exit id) :: k')) (cs : List Frame) :
    ∃ ρ1 v' w1, Stp P C.g ρ H w ρ1 H1 w1 ∧ VR ρ1 v v' ∧ Ends P b (lone (b.atR a k) cs w) cs v' w1 := by
  unfold aLeave at h
  have hro := hf.ro
  split at h
  case h_1 hr =>
    rw [hr] at hro
    have hb : b.roundOf = none := by cases hbr : b.roundOf with
      | none => rfl
      | some _ => rw [hbr] at hro; exact hro.elim
    split at h
    case isFalse => cases h
    case isTrue hret =>
      simp only [Option.bind_eq_some_iff, Option.map_eq_some_iff] at h
      obtain ⟨H2, hun, fn, hfn, u, hres, e⟩ := h
      cases e
      have hstep : ∃ todo, Steps P (lone (b.atR a k) cs w) (lone { b.atR a todo with mode := .returning } cs w) := by
        rcases hk with ⟨rfl, rfl⟩ | ⟨k', rfl, rfl⟩ | ⟨id, k', rfl, _, rfl⟩
        · exact ⟨_, .one (stepR_end hb)⟩
        · exact ⟨_, .one (stepR_ret hb)⟩
        · simp [isRet] at hret
      obtain ⟨todo, hstep⟩ := hstep
      obtain ⟨w1, hst, hsteps⟩ := unmark_steps (C := C) fr.defers a.defers H H1 ρ w { b.atR a todo with mode := .returning } cs hun hs hf.defers rfl rfl
      obtain ⟨v', hv, hrun⟩ := results_run hst.sat (hf.tmps.mono hst.ext) hres
      refine ⟨ρ, v', w1, hst, hv, ⟨fun _ => ⟨_, hstep.trans hsteps, rfl, rfl, rfl, hf.kind, fn, ?_, hrun⟩, fun hne => absurd hb hne⟩⟩
      show P.funcs[b.fn]? = some fn
      rw [hf.fn]; exact hfn
  case h_2 l hr =>
    rw [hr] at hro
    split at h
    case h_2 => cases h
    case h_1 hd =>
      simp only [Option.bind_eq_some_iff] at h
      obtain ⟨r, hgl, e⟩ := h
      cases e
      cases hbr : b.roundOf with
      | none => rw [hbr] at hro; exact hro.elim
      | some l' =>
        rw [hbr] at hro
        have hl : ρ.blk l = some l' := hro
        unfold getLoop at hgl
        split at hgl
        case h_2 => cases hgl
        case h_1 r2 hg =>
          cases hgl
          obtain ⟨o', ho, hor⟩ := get_live hs hg hl
          cases hor with
          | loop _ r' g1 g2 g3 g4 g5 g6 g7 g8 =>
            have hrun := endRound_run (P := P) ho jump
            obtain ⟨_, hst⟩ := setObj_stp (P := P) hs hg hl ho rfl (x2 := .loop { r with state := if jump.isNone then .ready else .done, pending := jump }) (o2' := .loop { r' with state := if jump.isNone then .ready else .done, pending := jump }) (.loop _ _ rfl rfl g3 g4 g5 g6 g7 g8)
            refine ⟨ρ, _, _, hst, .bool _, ⟨fun e => (by rw [hbr] at e; cases e), fun _ c cs' hc => ?_⟩⟩
            subst hc
            rcases hk with ⟨rfl, rfl⟩ | ⟨k', rfl, rfl⟩ | ⟨id, k', rfl, hx, rfl⟩
            · exact .one (stepR_round_end hbr hf.kind hrun)
            · exact .one (stepR_round_ret hbr hf.kind hrun)
            · exact .one (stepR_round_exit hbr hf.kind hx hrun)
section ops
variable {b : Frame} {a : Act} {k : List Item} {cs : List Frame} {ops : Array Oper} {i : Nat} {rest : List Nat} {o : Oper}
theorem stepR_val {v : Value} {w' : World} (ho : ops[i]? = some o) (hw : Region.wanted o (yielded ops a.tmps) = true) (hnd : ∀ c, o.op ≠ .defer c)
    (hr : (execOp a.eval o).run P w = .ok (.value v) w' ∨ ((execOp a.eval o).run P w = .ok .skip w' ∧ v = undef)) :
    step P (lone (b.atR a (.inRegion ops (i :: rest) :: k)) cs w) = .next (lone (b.atR (a.put o.dst v) (.inRegion ops rest :: k)) cs w') := by
  have hfin : (b.atR a (.inRegion ops (i :: rest) :: k)).finish v = b.atR (a.put o.dst v) (.inRegion ops rest :: k) := by rw [Frame.finish_atR, ho]; rfl
  have hg := stepGR_op (P := P) (b := b) (a := a) (k := k) (cs := cs) (w := w) (rest := rest) ho hw
  rw [Oper.semAt_eq _ _ _ hnd] at hg
  rcases hr with hr | ⟨hr, rfl⟩
  · exact step_lone_go (by rw [hg, ← hfin]; simp [stepG.apply, hr])
  · exact step_lone_go (by rw [hg, ← hfin]; simp [stepG.apply, hr])
theorem stepR_call {f : FuncId} {args : Array Value} {w' : World} (ho : ops[i]? = some o) (hw : Region.wanted o (yielded ops a.tmps) = true) (hnd : ∀ c, o.op ≠ .defer c)
    (hr : (execOp a.eval o).run P w = .ok (.enter f args) w') :
    step P (lone (b.atR a (.inRegion ops (i :: rest) :: k)) cs w) = .next (lone (Frame.enter P f args .normal) (b.atR a (.inRegion ops (i :: rest) :: k) :: cs) w') := by
  have hg := stepGR_op (P := P) (b := b) (a := a) (k := k) (cs := cs) (w := w) (rest := rest) ho hw
  rw [Oper.semAt_eq _ _ _ hnd] at hg
  exact step_lone_go (by rw [hg]; simp [stepG.apply, hr, Frame.atR])
theorem stepR_round {l : Nat} {f : FuncId} {ts : Array Value} {assign body : Code} {w' : World} (ho : ops[i]? = some o) (hw : Region.wanted o (yielded ops a.tmps) = true) (hnd : ∀ c, o.op ≠ .defer c)
    (hr : (execOp a.eval o).run P w = .ok (.round l f ts assign body) w') :
    step P (lone (b.atR a (.inRegion ops (i :: rest) :: k)) cs w) = .next (lone (Frame.round l f ts assign body .normal) (b.atR a (.inRegion ops (i :: rest) :: k) :: cs) w') := by
  have hg := stepGR_op (P := P) (b := b) (a := a) (k := k) (cs := cs) (w := w) (rest := rest) ho hw
  rw [Oper.semAt_eq _ _ _ hnd] at hg
  exact step_lone_go (by rw [hg]; simp [stepG.apply, hr, Frame.atR])
def OperTo (P : Program) (C : Cfg) (n : Nat) : Prop :=
  ∀ (tmps : Array Value) (o : Oper) (H : AHeap) (v : Value) (H1 : AHeap), aOper P C n tmps o H = some (v, H1) →
    ∀ (ρ : Rho) (w : World) (b : Frame) (a : Act) (k : List Item) (cs : List Frame) (ops : Array Oper) (i : Nat) (rest : List Nat), Sat P C.g ρ H w → TMR ρ tmps a.tmps → ops[i]? = some o → Region.wanted o (yielded ops a.tmps) = true →
      ∃ ρ1 v' w1, Stp P C.g ρ H w ρ1 H1 w1 ∧ VR ρ1 v v' ∧ Steps P (lone (b.atR a (.inRegion ops (i :: rest) :: k)) cs w) (lone (b.atR (a.put o.dst v') (.inRegion ops rest :: k)) cs w1)
theorem oper_step {n : Nat} (hX : Same P C.same) (hrun : RunTo P C n) : OperTo P C (n + 1) := by
  intro tmps o H v H1 h ρ w b a k cs ops i rest hs ht ho hw
  simp only [aOper] at h
  have hfin : ∀ v, (b.atR a (.inRegion ops (i :: rest) :: k)).finish v = b.atR (a.put o.dst v) (.inRegion ops rest :: k) := fun v => by rw [Frame.finish_atR, ho]; rfl
  have hnd : ∀ c, o.op ≠ .defer c := by
    intro c e
    have : aOp P C tmps o H = none := by simp [aOp, e, quietOp, aLoudOp, aLoud]
    simp [this] at h
  by_cases hq : quietOp o.op = true
  · have hop : aOp P C tmps o H = (aQuiet P C tmps o H).map fun v => .val v H := by unfold aOp; rw [if_pos hq]
    rw [hop] at h
    cases hv : aQuiet P C tmps o H with
    | none => simp [hv] at h
    | some u =>
      simp only [hv, Option.map_some] at h
      cases h
      obtain ⟨v', hvv, hr⟩ := aQuiet_run hs ht hv
      exact ⟨ρ, v', w, .refl hs, hvv, .one (stepR_val ho hw hnd (.inl (by rw [ev_act]; exact hr)))⟩
  · have hop : aOp P C tmps o H = aLoudOp P C tmps o H := by unfold aOp; rw [if_neg hq]
    rw [hop] at h
    by_cases hcv : ∃ f args argTypes, o.op = .call { callee := .value f, args, argTypes }
    · obtain ⟨f, args, argTypes, hopc⟩ := hcv
      have he : aLoudOp P C tmps o H = aCallOp P C tmps o f args H := by
        obtain ⟨dst, op, type, pos, after, guard⟩ := o
        simp only at hopc; subst hopc; rfl
      rw [he] at h
      cases hc : aCallOp P C tmps o f args H with
      | none => simp [hc] at h
      | some r =>
        have hrr := aCallOp_run hX hs ht hopc hc
        rw [hc] at h
        cases r with
        | val u H2 =>
          cases h
          obtain ⟨rfl, v', hvv, hr⟩ := hrr
          exact ⟨ρ, v', w, .refl hs, hvv, .one (stepR_val ho hw hnd (.inl (by rw [ev_act]; exact hr)))⟩
        | call gf vs H2 =>
          obtain ⟨rfl, hok, vs', hvs, hr⟩ := hrr
          simp only at h
          cases hen : enter P gf vs with
          | none => simp [hen] at h
          | some fr =>
            simp only [hen] at h
            obtain ⟨b2, a2, he2, hfr, hro, hfn⟩ := enter_run hen hvs
            obtain ⟨ρ1, v', w1, hst, hv, hend⟩ := hrun fr _ v H1 h ρ w b2 a2 hs hfr (b.atR a (.inRegion ops (i :: rest) :: k) :: cs)
            obtain ⟨fe, hsteps, hfe, hleave⟩ := hend.1 hro
            refine ⟨ρ1, v', w1, hst, hv, ?_⟩
            refine .head (stepR_call ho hw hnd (by rw [ev_act]; exact hr)) ?_
            rw [he2]
            refine hsteps.trans (.one ?_)
            rw [← hfin]; exact step_leave_returned hleave
        | round l fn ts assign body H2 =>
          obtain ⟨rfl, l', ts', hl, hts, hr⟩ := hrr
          simp only at h
          have hfr : FrR ρ { fn := fn, tmps := ts, todo := [.code assign, .beginRound, .code body], defers := [], roundOf := some l } { (default : Frame) with fn := fn, kind := .normal, roundOf := some l' } { tmps := ts', defers := [] } :=
            ⟨rfl, rfl, hl, hts, .nil⟩
          obtain ⟨ρ1, v', w1, hst, hv, hend⟩ := hrun _ _ v H1 h ρ w _ _ hs hfr (b.atR a (.inRegion ops (i :: rest) :: k) :: cs)
          refine ⟨ρ1, v', w1, hst, hv, ?_⟩
          refine .head (stepR_round ho hw hnd (by rw [ev_act]; exact hr)) ?_
          have hb0 : Frame.round l' fn ts' assign body .normal = ({ (default : Frame) with fn := fn, kind := .normal, roundOf := some l' } : Frame).atR { tmps := ts', defers := [] } [.code assign, .beginRound, .code body] := by
            simp [Frame.round, Frame.atR]
          rw [hb0, ← hfin]
          exact hend.2 (by simp) _ _ rfl
    · have hl : aLoudOp P C tmps o H = (aLoud P C tmps o H).map fun r => .val r.1 r.2 := by
        obtain ⟨dst, op, type, pos, after, guard⟩ := o
        cases op <;> try rfl
        case call c =>
          obtain ⟨callee, args, argTypes⟩ := c
          cases callee <;> try rfl
          case value f => exact absurd ⟨f, args, argTypes, rfl⟩ hcv
      rw [hl] at h
      cases hv : aLoud P C tmps o H with
      | none => simp [hv] at h
      | some u =>
        obtain ⟨u, H2⟩ := u
        simp only [hv, Option.map_some] at h
        cases h
        obtain ⟨ρ1, v', w1, hst, hvv, hr⟩ := aLoud_run hs ht hv
        exact ⟨ρ1, v', w1, hst, hvv, .one (stepR_val ho hw hnd (by rw [ev_act]; exact hr))⟩
end ops
theorem replicate_closed (ops : Array Oper) (n : Nat) : Closed ops (Array.replicate n false) := by
  intro j o _ hj
  exfalso
  rcases Nat.lt_or_ge j n with h | h
  · simp [h] at hj
  · simp [Nat.not_lt.2 h] at hj
theorem run_step {n : Nat} (hm : P.follows .mixedOrders = true) (hrun : RunTo P C n) (hop : OperTo P C n) (hany : AnyTo P C n) : RunTo P C (n + 1) := by
  intro fr H v H1 h ρ w b a hs hf cs
  obtain ⟨fn, tmps, todo, defers, ro⟩ := fr
  have ctl : ∀ {t k' : List Item}, step P (lone (b.atR a t) cs w) = .next (lone (b.atR a k') cs w) → aRun P C n ⟨fn, tmps, k', defers, ro⟩ H = some (v, H1) →
      ∃ ρ1 v' w1, Stp P C.g ρ H w ρ1 H1 w1 ∧ VR ρ1 v v' ∧ Ends P b (lone (b.atR a t) cs w) cs v' w1 := by
    intro t k' hst h
    obtain ⟨ρ1, v', w1, h1, h2, h3⟩ := hrun ⟨fn, tmps, k', defers, ro⟩ H v H1 h ρ w b a hs ⟨hf.fn, hf.kind, hf.ro, hf.tmps, hf.defers⟩ cs
    exact ⟨ρ1, v', w1, h1, h2, h3.of_steps (.one hst)⟩
  cases todo with
  | nil => exact leave_run hs hf (by simpa [aRun] using h) (.inl ⟨rfl, rfl⟩) cs
  | cons it k =>
    cases it <;> try (simp [aRun] at h; done)
    case inBlock id => exact ctl stepR_inBlock (by simpa only [aRun] using h)
    case inLoop body => exact ctl stepR_inLoop (by simpa only [aRun] using h)
    case inScope body =>
      refine ctl ?_ (by simpa only [aRun] using h)
      exact step_lone_go (by simp [stepG, stepG.exec, Frame.atR])
    case beginRound =>
      simp only [aRun] at h
      split at h
      case h_2 => cases h
      case h_1 l =>
        split at h
        case h_2 => cases h
        case h_1 r hgl =>
          split at h
          case isFalse => cases h
          case isTrue hready =>
            have hro := hf.ro
            cases hbr : b.roundOf with
            | none => rw [hbr] at hro; exact hro.elim
            | some l' =>
              rw [hbr] at hro
              have hl : ρ.blk l = some l' := hro
              unfold getLoop at hgl
              split at hgl
              case h_2 => cases hgl
              case h_1 r2 hg =>
                cases hgl
                obtain ⟨o', ho, hor⟩ := get_live hs hg hl
                cases hor with
                | loop _ r' g1 g2 g3 g4 g5 g6 g7 g8 =>
                  have hst' : r'.state = .ready := by rw [← g1]; simpa using hready
                  obtain ⟨hrun1, hst⟩ := setObj_stp (P := P) hs hg hl ho rfl (x2 := .loop { r with state := .busy }) (o2' := .loop { r' with state := .busy }) (.loop _ _ rfl g2 g3 g4 g5 g6 g7 g8)
                  have hbr2 : (Instr.beginRound l').run P w = .ok () { w with heap := w.heap.setIfInBounds l' (.loop { r' with state := .busy }) } := by
                    simp only [Instr.beginRound, Instr.getLoop, Sem.run_bind, getObj_run ho rfl, Result.andThen_ok, Sem.run_pure, hrun1, hst']
                  obtain ⟨ρ1, v', w1, h1, h2, h3⟩ := hrun ⟨fn, tmps, k, defers, some l⟩ _ v H1 h ρ _ b a hst.sat ⟨hf.fn, hf.kind, hf.ro, hf.tmps, hf.defers⟩ cs
                  exact ⟨ρ1, v', w1, hst.trans h1, h2, h3.of_steps (.one (stepR_beginRound hbr hbr2))⟩
    case inRegion ops l =>
      cases l with
      | nil => exact ctl stepR_region_end (by simpa only [aRun] using h)
      | cons i rest =>
        simp only [aRun] at h
        split at h
        case h_2 => cases h
        case h_1 o ho =>
          split at h
          case isTrue hw =>
            split at h
            case h_2 => cases h
            case h_1 u H2 hu =>
              have hw' : Region.wanted o (yielded ops a.tmps) = true := by rw [yielded_eq hf.tmps]; exact hw
              obtain ⟨ρ1, u', w1, hst, huv, hsteps⟩ := hop tmps o H u H2 hu ρ w b a k cs ops i rest hs hf.tmps ho hw'
              obtain ⟨ρ2, v', w2, h1, h2, h3⟩ := hrun ⟨fn, putT tmps o.dst u, .inRegion ops rest :: k, defers, ro⟩ H2 v H1 h ρ1 w1 b (a.put o.dst u') hst.sat
                ⟨hf.fn, hf.kind, hf.ro.mono hst.ext, by rw [put_tmps]; exact (hf.tmps.mono hst.ext).putT _ huv, by rw [put_defers]; exact hf.defers.mono hst.ext⟩ cs
              exact ⟨ρ2, v', w2, hst.trans h1, h2, h3.of_steps hsteps⟩
          case isFalse hw =>
            have hstep := stepR_op_skip (P := P) (b := b) (a := a) (k := k) (cs := cs) (w := w) (ops := ops) (i := i) (rest := rest) (by
              rw [yielded_eq hf.tmps]; simp [ho]; simpa using hw)
            simp only [ho, Option.bind_some] at hstep
            obtain ⟨ρ2, v', w2, h1, h2, h3⟩ := hrun ⟨fn, putT tmps o.dst undef, .inRegion ops rest :: k, defers, ro⟩ H v H1 h ρ w b (a.put o.dst undef) hs
              ⟨hf.fn, hf.kind, hf.ro, by rw [put_tmps]; exact hf.tmps.putT _ VR.undef, by rw [put_defers]; exact hf.defers⟩ cs
            exact ⟨ρ2, v', w2, h1, h2, h3.of_steps (.one hstep)⟩
    case code c =>
      cases c <;> try (simp [aRun] at h; done)
      case skip => exact ctl stepR_skip (by simpa only [aRun] using h)
      case label l => exact ctl stepR_label (by simpa only [aRun] using h)
      case seq x y => exact ctl stepR_seq (by simpa only [aRun] using h)
      case block id body => exact ctl stepR_block (by simpa only [aRun] using h)
      case loop body => exact ctl stepR_loop (by simpa only [aRun] using h)
      case scope body =>
        refine ctl ?_ (by simpa only [aRun] using h)
        exact step_lone_go (by simp [stepG, stepG.exec, Frame.atR])
      case ret => exact leave_run hs hf (by simpa only [aRun] using h) (.inr (.inl ⟨k, rfl, rfl⟩)) cs
      case cond c x y =>
        simp only [aRun] at h
        split at h
        case h_3 => cases h
        case h_1 hc =>
          have hv := aev_VR hs hf.tmps hc
          generalize hq : ev a.tmps c = q at hv
          cases hv
          exact ctl (stepR_cond (t := true) (by rw [ev_act]; exact hq)) h
        case h_2 hc =>
          have hv := aev_VR hs hf.tmps hc
          generalize hq : ev a.tmps c = q at hv
          cases hv
          exact ctl (stepR_cond (t := false) (by rw [ev_act]; exact hq)) h
      case exit id =>
        simp only [aRun] at h
        split at h
        case h_1 k' hk => exact ctl (stepR_exit hk) h
        case h_2 hk => exact leave_run hs hf h (.inr (.inr ⟨id, k, rfl, hk, rfl⟩)) cs
      case goto l =>
        simp only [aRun] at h
        split at h
        case h_1 k' hk => exact ctl (stepR_goto hk) h
        case h_2 hk => cases h
      case region id ops draw =>
        cases draw with
        | false => exact ctl stepR_region (by simpa only [aRun] using h)
        | true =>
          simp only [aRun] at h
          split at h
          case h_2 => cases h
          case h_1 =>
            split at h
            case isFalse => cases h
            case isTrue hns =>
              split at h
              case h_2 => cases h
              case h_1 tmpsF HF hA =>
                have hro := hf.ro
                have hb : b.roundOf = none := by cases hbr : b.roundOf with
                  | none => rfl
                  | some _ => rw [hbr] at hro; exact hro.elim
                have hs0 : Stp P C.g ρ H w ρ H { w with drawn := w.drawn + 1 } := Stp.same hs rfl rfl rfl rfl
                have hwp : (Code.region id ops true).wp P (fun e a1 w1 => e = .normal ∧ ∃ ρ1, Stp P C.g ρ H w ρ1 HF w1 ∧ TMR ρ1 tmpsF a1.tmps ∧ a1.defers = a.defers) a w := by
                  refine wp_region_any hm (wpAny_of_S (S := Still P ops []) _ _ _ _ ?_)
                  refine hany ops ops.size _ [] tmps H tmpsF HF hA hns (replicate_closed _ _) ρ _ a [] _ hs0.sat hf.tmps .nil (fun c hc => by cases hc) (fun c a w h => by cases h.1) ?_
                  exact fun ρ1 a1 w1 h1 h2 h3 => ⟨rfl, ρ1, hs0.trans h1, h2, h3⟩
                obtain ⟨e, a1, w1, ⟨rfl, ρ1, hst, hta, hd⟩, harr⟩ := hwp b k cs
                have hsteps : Steps P (lone (b.atR a (.code (.region id ops true) :: k)) cs w) (lone (b.atR a1 k) cs w1) := by
                  rw [Frame.atR_of_none hb, Frame.atR_of_none hb]; exact harr
                obtain ⟨ρ2, v', w2, h1, h2, h3⟩ := hrun ⟨fn, tmpsF, k, defers, none⟩ HF v H1 h ρ1 w1 b a1 hst.sat
                  ⟨hf.fn, hf.kind, hf.ro.mono hst.ext, hta, by rw [hd]; exact hf.defers.mono hst.ext⟩ cs
                exact ⟨ρ2, v', w2, hst.trans h1, h2, h3.of_steps hsteps⟩
      case rangeFunc g params assign body =>
        simp only [aRun] at h
        split at h
        case h_2 => cases h
        case h_1 gf first captured hg =>
          split at h
          case isFalse => cases h
          case isTrue hok =>
            split at h
            case h_2 => cases h
            case h_1 fr' hen =>
              split at h
              case h_2 => cases h
              case h_1 u H2 hu =>
                split at h
                case h_2 => cases h
                case h_1 r hgl =>
                  split at h
                  case isTrue => cases h
                  case isFalse hbusy =>
                    have hro := hf.ro
                    have hb : b.roundOf = none := by cases hbr : b.roundOf with
                      | none => rfl
                      | some _ => rw [hbr] at hro; exact hro.elim
                    have hs1 := Stp.alloc (P := P) (g := C.g) hs (o := .deferred (some [])) (o' := .deferred (some [])) .deferred0
                    have hE1 := hs1.ext
                    have hD : (ρ.add H.length w.heap.size).blk H.length = some w.heap.size := Rho.add_self
                    have hH1 : (push H (.exact (.deferred (some [])))).length = H.length + 1 := by simp [push]
                    have hw1 : (w.alloc (.deferred (some []))).heap.size = w.heap.size + 1 := by simp
                    have hs2 := Stp.alloc (P := P) (g := C.g) hs1.sat (o := .loop { state := .ready, pending := none, fn := fn, tmps := tmps, params, assign, body, defers := H.length })
                      (o' := .loop { state := .ready, pending := none, fn := b.fn, tmps := a.tmps, params, assign, body, defers := w.heap.size }) (by
                        refine .loop _ _ rfl rfl hf.fn.symm ?_ rfl rfl rfl ?_
                        · exact hf.tmps.mono (hE1.trans (ext_add (hs1.sat.blk_none (Nat.le_refl _))))
                        · exact (ext_add (hs1.sat.blk_none (Nat.le_refl _))).blk _ _ hD)
                    rw [hH1, hw1] at hs2
                    have hs12 := hs1.trans hs2
                    obtain ⟨ρ2, hρ2⟩ : ∃ ρ2, ρ2 = (ρ.add H.length w.heap.size).add (H.length + 1) (w.heap.size + 1) := ⟨_, rfl⟩
                    rw [← hρ2] at hs12
                    have hL2 : ρ2.blk (H.length + 1) = some (w.heap.size + 1) := by rw [hρ2]; exact Rho.add_self
                    have hgv := (aev_VR hs hf.tmps hg)
                    generalize hq : ev a.tmps g = q at hgv
                    cases hgv with
                    | func _ gn _ first' _ captured' hfn h1 h2 h3 h4 =>
                      have hgn : gn = .func gf := hfn
                      subst hgn
                      have hargs : AR ρ2 (first ++ #[.func (.yield (H.length + 1)) #[] #[]] ++ captured) (first' ++ #[.func (.yield (w.heap.size + 1)) #[] #[]] ++ captured') := by
                        refine AR.append (AR.append (AR.mono hs12.ext ⟨h1, h2⟩) (AR.toList.2 (.cons ?_ .nil))) (AR.mono hs12.ext ⟨h3, h4⟩)
                        exact .func _ _ _ _ _ _ (show FnR ρ2 _ _ from ⟨_, hL2, rfl⟩) rfl (fun i v v' h => by simp at h) rfl (fun i v v' h => by simp at h)
                      obtain ⟨b2, a2, he2, hfr2, hro2, hfn2⟩ := enter_run hen hargs
                      have henter := stepR_rangeFunc (P := P) (b := b) (a := a) (k := k) (cs := cs) (w := w) (g := g) (ps := params) (assign := assign) (body := body)
                        (l := w.heap.size + 1) (mark := [{ target := .collected w.heap.size, args := #[] }])
                        (w₁ := (w.alloc (.deferred (some []))).alloc (.loop { state := .ready, pending := none, fn := b.fn, tmps := a.tmps, params, assign, body, defers := w.heap.size }))
                        (w₁' := (w.alloc (.deferred (some []))).alloc (.loop { state := .ready, pending := none, fn := b.fn, tmps := a.tmps, params, assign, body, defers := w.heap.size }))
                        (w₂ := (w.alloc (.deferred (some []))).alloc (.loop { state := .ready, pending := none, fn := b.fn, tmps := a.tmps, params, assign, body, defers := w.heap.size }))
                        (d := { target := .fn (.func gf) captured', args := first' ++ #[.func (.yield (w.heap.size + 1)) #[] #[]] }) (f := gf) (args := first' ++ #[.func (.yield (w.heap.size + 1)) #[] #[]] ++ captured')
                        (by rw [hb]; exact run_enterLoop_outer _ _ _ _ _) (by
                          have : a.eval g = .func (.func gf) first' captured' := by rw [ev_act]; exact hq
                          simp only [resolve, rangeCall, this, Deferred.ofValue]
                          simp [Act.eval]) (by simp only [invoke, callFunc_run hok])
                      obtain ⟨ρ3, u', w3, hst3, hu', hend⟩ := hrun fr' _ u H2 hu ρ2 _ b2 a2 hs12.sat hfr2 (b.atR { a with defers := [{ target := .collected w.heap.size, args := #[] }] ++ a.defers } (.inRangeFunc (w.heap.size + 1) :: k) :: cs)
                      obtain ⟨fe, hsteps, hfe, hleave⟩ := hend.1 hro2
                      have hL3 := hst3.ext.blk _ _ hL2
                      unfold getLoop at hgl
                      split at hgl
                      case h_2 => cases hgl
                      case h_1 r2 hg2 =>
                        cases hgl
                        obtain ⟨o', ho, hor⟩ := get_live hst3.sat hg2 hL3
                        cases hor with
                        | loop _ r' g1 g2 g3 g4 g5 g6 g7 g8 =>
                          have hbusy' : (r'.state == .busy) = false := by rw [← g1]; simpa using hbusy
                          obtain ⟨hrun1, hst4⟩ := setObj_stp (P := P) hst3.sat hg2 hL3 ho rfl (x2 := .loop { r with state := .exhausted }) (o2' := .loop { r' with state := .exhausted }) (.loop _ _ rfl g2 g3 g4 g5 g6 g7 g8)
                          have hendl : (Instr.endLoop (w.heap.size + 1)).run P w3 = .ok r'.pending { w3 with heap := w3.heap.setIfInBounds (w.heap.size + 1) (.loop { r' with state := .exhausted }) } := by
                            simp only [Instr.endLoop, Instr.getLoop, Sem.run_bind, getObj_run ho rfl, Result.andThen_ok, Sem.run_pure, hbusy', Bool.false_eq_true, if_false, hrun1]
                          have hall := hs12.trans (hst3.trans hst4)
                          obtain ⟨ρ5, v', w5, h5, h6, h7⟩ := hrun ⟨fn, tmps, (r.pending.map Item.code).toList ++ k, H.length :: defers, none⟩ _ v H1 h ρ3 _ b { a with defers := { target := .collected w.heap.size, args := #[] } :: a.defers } hst4.sat
                            ⟨hf.fn, hf.kind, hf.ro.mono hall.ext, hf.tmps.mono hall.ext, .cons _ _ _ _ ((hst3.ext.trans hst4.ext).blk _ _ (by rw [hρ2]; exact (ext_add (hs1.sat.blk_none (by rw [hH1]; exact Nat.le_refl _))).blk _ _ hD)) (hf.defers.mono hall.ext)⟩ cs
                          refine ⟨ρ5, v', w5, hall.trans h5, h6, h7.of_steps ?_⟩
                          refine .head henter ?_
                          rw [he2]
                          refine hsteps.trans (.head (step_leave_returned hleave) ?_)
                          rw [finish_atR_inRangeFunc]
                          have hlast := stepR_endRangeFunc (P := P) (b := b) (a := { a with defers := [{ target := .collected w.heap.size, args := #[] }] ++ a.defers }) (k := k) (cs := cs) hendl
                          rw [g2]
                          exact .one hlast
theorem run_sound (hm : P.follows .mixedOrders = true) (hX : Same P C.same) : ∀ n, RunTo P C n ∧ OperTo P C n ∧ AnyTo P C n := by
  intro n
  induction n with
  | zero =>
    refine ⟨?_, ?_, ?_⟩
    · intro fr H v H1 h; simp [aRun] at h
    · intro tmps o H v H1 h; simp [aOper] at h
    · intro ops left listed taken tmps H tmpsF HF h; simp [aAny] at h
  | succ n ih => exact ⟨run_step hm ih.1 ih.2.1 ih.2.2, oper_step hX ih.1, any_step hX (calls_of_run ih.1) ih.2.2⟩
def startH (known : List (Option (List Value))) : AHeap := known.map fun | some c => .ro c | none => .dead
def startRho (g : Nat) : Rho := { blk := fun i => if i < g then some i else none, cap := fun _ => none }
theorem start_sat {known : List (Option (List Value))} (hg : known.length = C.g)
    (hk : ∀ (i : Nat) (c : List Value), known[i]? = some (some c) → c ≠ [] ∧ c.all plain = true ∧ ∀ (j : Nat) (v : Value), c[j]? = some v → w.cell? ⟨i, j, none⟩ = some v) : Sat P C.g (startRho C.g) (startH known) w := by
  have hlen : (startH known).length = C.g := by simp [startH, hg]
  have hget : ∀ (i : Nat) (o : AObj), (startH known)[i]? = some o → isLive o = true → ∃ c, known[i]? = some (some c) ∧ o = .ro c := by
    intro i o h hl
    simp only [startH, List.getElem?_map, Option.map_eq_some_iff] at h
    obtain ⟨x, hx, rfl⟩ := h
    cases x with
    | none => cases hl
    | some c => exact ⟨c, hx, rfl⟩
  refine ⟨?_, fun i c h => (by cases h), fun i hi => (by simp [startRho, hi]), ?_, ?_⟩
  · intro i b h
    simp only [startRho] at h
    split at h
    · cases h; rw [hlen]; assumption
    · cases h
  · intro i o h hl
    obtain ⟨c, hc, rfl⟩ := hget i o h hl
    obtain ⟨hne, hpl, hcell⟩ := hk i c hc
    have hi : i < C.g := by rw [← hg]; exact (List.getElem?_eq_some_iff.1 hc).1
    have h0 : ∃ v, c[0]? = some v := by cases c with
      | nil => exact absurd rfl hne
      | cons v l => exact ⟨v, rfl⟩
    obtain ⟨v0, hv0⟩ := h0
    have hc0 := hcell 0 v0 hv0
    unfold World.cell? at hc0
    cases ho : w.heap[i]? with
    | none => simp [ho] at hc0
    | some o =>
      cases o <;> try (simp [ho] at hc0; done)
      case cells cs e fz =>
        refine ⟨i, _, by simp [startRho, hi], ho, cs.toList.take c.length, cs.toList.drop c.length, e, fz, by simp, ?_⟩
        have hall : ∀ (j : Nat) (v : Value), c[j]? = some v → cs.toList[j]? = some v := by
          intro j v hj
          have := hcell j v hj
          simpa [World.cell?, ho] using this
        have hle : c.length ≤ cs.toList.length := by
          rcases Nat.eq_zero_or_pos c.length with hz | hz
          · omega
          · have := hall (c.length - 1) _ (List.getElem?_eq_getElem (by omega))
            have := (List.getElem?_eq_some_iff.1 this).1
            omega
        have heq : cs.toList.take c.length = c := by
          apply List.ext_getElem?
          intro j
          rw [List.getElem?_take]
          split
          · rename_i hj
            rw [List.getElem?_eq_getElem hj]
            exact hall j _ (List.getElem?_eq_getElem hj)
          · rename_i hj
            rw [List.getElem?_eq_none (by omega)]
        rw [heq]
        exact LR.plain hpl
  · intro i j b oi oj hi hj li
    obtain ⟨c, _, rfl⟩ := hget i oi hi (isLive_of_own li)
    cases li
theorem calls_sound {known : List (Option (List Value))} {n : Nat} {f : FuncId} {args : Array Value} {fr : AFr} {v : Value} {H1 : AHeap} (hm : P.follows .mixedOrders = true) (hX : Same P C.same)
    (hen : enter P f args = some fr) (hrun : aRun P C n fr (startH known) = some (v, H1)) (hpa : args.toList.all plain = true) (hpv : plain v = true)
    (hg : known.length = C.g)
    (hk : ∀ (i : Nat) (c : List Value), known[i]? = some (some c) → c ≠ [] ∧ c.all plain = true ∧ ∀ (j : Nat) (v : Value), c[j]? = some v → w.cell? ⟨i, j, none⟩ = some v) :
    Calls P f args w fun e w1 => e = .returned v ∧ Below w.heap.size w w1 := by
  have hs := start_sat (P := P) (C := C) hg hk
  have hc := calls_of_run (run_sound (C := C) hm hX n).1 f args fr _ v H1 hen hrun _ w args hs (AR.plain hpa)
  refine Calls.mono hc ?_
  rintro e w1 ⟨ρ1, v', rfl, hst, hv⟩
  refine ⟨by rw [plain_eq hpv hv], ⟨hst.os, hst.tape, hst.output, hst.size, fun k hk' => hst.keep k ?_⟩⟩
  intro hfoot
  rcases hfoot with h | ⟨i, o, hi, ho, _⟩
  · omega
  · simp only [startH, List.getElem?_map, Option.map_eq_some_iff] at hi
    obtain ⟨x, hx, rfl⟩ := hi
    cases x <;> cases ho
end
end Go.Ar
end
