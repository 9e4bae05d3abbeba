/- The instructions that the abstract states are run by, and what each does. Conditions: none. -/
import Derived.Test.YtginjcpblgpcoaaLa
namespace Go.Proofs.Ytginjcpblgpcoaa

inductive AArg where
  | t (n : Nat) | k (v : Value) | g (n : Nat) | f (n : FuncId)

inductive EK where
  | b | i | s

inductive AI where
  | mov (x : AArg) | pick (c a b : AArg)
  | alloc (zero : List Value) | box (x : AArg)
  | load (isAgg : Bool) (size : Nat) (x : AArg) | store (size : Nat) (x v : AArg)
  | nilc (x : AArg) | bin (op : BinOp) (x y : AArg) | un (op : UnOp) (x : AArg)
  | binb (neg : Bool) (x y : AArg) | eqs (neg : Bool) (ks : List EK) (x y : AArg)
  | conv (k : IntKind) (x : AArg) | cvid (x : AArg) | cvbs (x : AArg)
  | addo (off : Nat) (x : AArg) | fld (isAgg : Bool) (size off : Nat) (x : AArg)
  | ixA (n size : Nat) (x i : AArg) | ixL (size : Nat) (x i : AArg) | ixS (x i : AArg)
  | slS (x : AArg) (lo hi : Option AArg) | slL (size : Nat) (x : AArg) (lo hi : Option AArg)
  | bslc (size len : Nat) (zero : List Value) (parts : List (Nat × AArg))
  | build (zero : List Value) (parts : List (Nat × Nat × AArg))
  | ext (x : AArg) (n : Nat) | lenS (x : AArg) | lenL (x : AArg) | lenA (n : Nat)
  | min2 (x y : AArg) | max2 (x y : AArg)
  | mkfn (f : FuncId) (caps : List AArg)
  | call (f : FuncId) (args : List AArg) | callv (x : AArg) (args : List AArg)
  | app (size bytes : Nat) (zero : List Value) (s x : AArg) | apps (s x : AArg)
  | mk (size bytes : Nat) (zero : List Value) (l c : AArg)
  | clr (size : Nat) (zero : List Value) (x : AArg)
  | isnil (p neg : Bool) (x : AArg)

structure AOp where
  dst : Option Nat
  ai : AI
  guard : Option (Nat × Bool)

abbrev Glob := Nat → Option (List DC)

abbrev rawC (v : Value) : Cel := .dc (.raw v)
abbrev rawV (v : Value) : AV := .one (.dc (.raw v))

def avOf : Value → AV
  | .agg cs => if cs.toList.all is1 then .agg (cs.toList.map rawC) else .junk
  | .tuple _ => .junk
  | v => rawV v

def evA (G : Glob) (sl : List AV) : AArg → AV
  | .t n => sl.getD n .junk
  | .k v => avOf v
  | .g n => match G n with | some cs => .one (.ref cs) | none => .junk
  | .f n => .one (.fn n [])

def asRaw : AV → Option Value
  | .one (.dc (.raw v)) => some v
  | _ => none
def asInt? : AV → Option Int
  | .one (.dc (.raw (.int _ n))) => some n
  | _ => none
def asBool? : AV → Option Bool
  | .one (.dc (.raw (.bool b))) => some b
  | _ => none
def asStr? : AV → Option ByteArray
  | .one (.dc (.raw (.string b))) => some b
  | _ => none

def cellsOf : AV → Option (List Cel)
  | .one c => some [c]
  | .agg cs => some cs
  | _ => none

def pack (isAgg : Bool) (cs : List Cel) : Option AV :=
  match isAgg, cs with
  | true, cs => some (.agg cs)
  | false, [c] => some (.one c)
  | _, _ => none

def eqR : EK → Value → Value → Option Bool
  | .b, .bool a, .bool b => some (a == b)
  | .i, .int j a, .int k b => if j = k then some (a == b) else none
  | .s, .string a, .string b => some (a.toList == b.toList)
  | _, _, _ => none

def eqCs : List EK → List Cel → List Cel → Option Bool
  | [], [], [] => some true
  | k :: ks, .dc (.raw a) :: as, .dc (.raw b) :: bs => (eqR k a b).bind fun x => (eqCs ks as bs).bind fun y => some (x && y)
  | _, _, _ => none

def intOp (op : BinOp) (k : IntKind) (a b : Int) : Option Value :=
  match op with
  | .add => some (.int k (k.wrap (a + b)))
  | .sub => some (.int k (k.wrap (a - b)))
  | .mul => some (.int k (k.wrap (a * b)))
  | .quo => if b = 0 then none else some (.int k (k.wrap (a.tdiv b)))
  | .rem => if b = 0 then none else some (.int k (a.tmod b))
  | .and => some (.int k (k.wrap (BitVec.ofInt k.bits a &&& BitVec.ofInt k.bits b).toNat))
  | .or => some (.int k (k.wrap (BitVec.ofInt k.bits a ||| BitVec.ofInt k.bits b).toNat))
  | .xor => some (.int k (k.wrap (BitVec.ofInt k.bits a ^^^ BitVec.ofInt k.bits b).toNat))
  | .andNot => some (.int k (k.wrap (BitVec.ofInt k.bits a &&& ~~~BitVec.ofInt k.bits b).toNat))
  | .eql => some (.bool (a == b))
  | .neq => some (.bool (a != b))
  | .lss => some (.bool (a < b))
  | .leq => some (.bool (a ≤ b))
  | .gtr => some (.bool (a > b))
  | .geq => some (.bool (a ≥ b))
  | _ => none

def strOp (op : BinOp) (a b : ByteArray) : Option Value :=
  match op with
  | .add => if a.size + b.size ≤ 9223372036854775807 then some (.string (a ++ b)) else none
  | .eql => some (.bool (a.toList == b.toList))
  | .neq => some (.bool !(a.toList == b.toList))
  | .lss => some (.bool (Op.bytesLess a.toList b.toList))
  | .leq => some (.bool (Op.bytesLess a.toList b.toList || a.toList == b.toList))
  | .gtr => some (.bool !(Op.bytesLess a.toList b.toList || a.toList == b.toList))
  | .geq => some (.bool !(Op.bytesLess a.toList b.toList))
  | _ => none

def binV (op : BinOp) (x y : AV) : Option AV :=
  match x, y with
  | .one (.dc (.raw (.int j a))), .one (.dc (.raw (.int k b))) =>
    match op with
    | .shl => if b < 0 then none else some (rawV (.int j (j.wrap (a * 2 ^ (min b.toNat j.bits)))))
    | .shr => if b < 0 then none else some (rawV (.int j (a.fdiv (2 ^ (min b.toNat j.bits)))))
    | op => if j = k then (intOp op j a b).map rawV else none
  | .one (.dc (.raw (.string a))), .one (.dc (.raw (.string b))) => (strOp op a b).map rawV
  | _, _ => none

def binbV (neg : Bool) (x y : AV) : Option AV :=
  match x, y with
  | .one (.dc (.raw (.bool a))), .one (.dc (.raw (.bool b))) => some (rawV (.bool (if neg then !(a == b) else a == b)))
  | _, _ => none

def eqsV (neg : Bool) (ks : List EK) (x y : AV) : Option AV :=
  match x, y with
  | .agg as, .agg bs => (eqCs ks as bs).map fun b => rawV (.bool (if neg then !b else b))
  | _, _ => none

def unV (op : UnOp) (x : AV) : Option AV :=
  match op, x with
  | .neg, .one (.dc (.raw (.int k n))) => some (rawV (.int k (k.wrap (0 - n))))
  | .not, .one (.dc (.raw (.bool b))) => some (rawV (.bool !b))
  | .xor, .one (.dc (.raw (.int k n))) => (intOp .xor k (if k.signed then -1 else k.max) n).map rawV
  | _, _ => none

def addoV (off : Nat) : AV → Option AV
  | .one (.ptr id o) => some (.one (.ptr id (o + off)))
  | .one (.ept id i s o) => some (.one (.ept id i s (o + off)))
  | .one (.ref cs) => some (.one (.ref (cs.drop off)))
  | _ => none

def hpGet (hp : List AObj) (id : Nat) : AObj := hp.getD id .dead

def loadV (hp : List AObj) (isAgg : Bool) (size : Nat) : AV → Option AV
  | .one (.ptr id o) =>
    match hpGet hp id with
    | .box cs => if o + size ≤ cs.length then pack isAgg ((cs.drop o).take size) else none
    | _ => none
  | .one (.ept id i s o) =>
    match hpGet hp id with
    | .arr _ s' es =>
      match es[i]? with
      | some e => if s = s' ∧ o + size ≤ e.length then pack isAgg (((e.drop o).take size).map .dc) else none
      | none => none
    | _ => none
  | .one (.ref cs) => if size ≤ cs.length then pack isAgg ((cs.take size).map .dc) else none
  | _ => none

def fldV (isAgg : Bool) (size off : Nat) : AV → Option AV
  | .agg cs => if off + size ≤ cs.length then pack isAgg ((cs.drop off).take size) else none
  | _ => none

def ixAV (n size : Nat) (x : AV) (i : Int) : Option AV :=
  if 0 ≤ i ∧ i < n then addoV (i.toNat * size) x else none

def ixLV (hp : List AObj) (size : Nat) (x : AV) (i : Int) : Option AV :=
  match x with
  | .one (.dc (.slc es)) =>
    if 0 ≤ i then
      match es[i.toNat]? with
      | some e => if e.length = size then some (.one (.ref e)) else none
      | none => none
    else none
  | .one (.bld id n) =>
    match hpGet hp id with
    | .arr _ s es => if 0 ≤ i ∧ i < n ∧ n ≤ es.length ∧ s = size then some (.one (.ept id i.toNat size 0)) else none
    | _ => none
  | .one (.bls id k n z) =>
    match hpGet hp id with
    | .arr _ s es => if 0 ≤ i ∧ i < n ∧ k + n ≤ es.length ∧ s = size ∧ z = size then some (.one (.ept id (k + i.toNat) size 0)) else none
    | _ => none
  | _ => none

def ixSV (x : AV) (i : Int) : Option AV :=
  match asStr? x with
  | some s => if 0 ≤ i then match s.data.toList[i.toNat]? with | some b => some (rawV (.int .u8 b.toNat)) | none => none else none
  | none => none

def bound (x : Option AV) (top dflt : Nat) : Option Nat :=
  match x with
  | none => some dflt
  | some v => match asInt? v with | some i => if 0 ≤ i ∧ i ≤ top then some i.toNat else none | none => none

def slSV (x : AV) (lo hi : Option AV) : Option AV :=
  (asStr? x).bind fun s => (bound hi s.size s.size).bind fun h => (bound lo h 0).bind fun l => some (rawV (.string (s.extract l h)))

def slLV (hp : List AObj) (size : Nat) (x : AV) (lo hi : Option AV) : Option AV :=
  match x with
  | .one (.dc (.slc es)) =>
    (bound hi es.length es.length).bind fun h => (bound lo h 0).bind fun l => if es.all (fun e => e.length = size) then some (.one (.dc (.slc ((es.take h).drop l)))) else none
  | .one (.dc (.raw (.slice none 0 0))) =>
    (bound hi 0 0).bind fun h => (bound lo h 0).bind fun _ => some x
  | .one (.bld id n) =>
    match hpGet hp id, lo with
    | .arr _ _ es, none => if n ≤ es.length then (bound hi n n).bind fun h => some (.one (.bld id h)) else none
    | .arr _ s es, some lo => if n ≤ es.length ∧ s = size then (bound hi n n).bind fun h => (bound (some lo) h 0).bind fun l => some (.one (if l = 0 then .bld id h else .bls id l (h - l) size)) else none
    | _, _ => none
  | .one (.bls id k n s) =>
    match hpGet hp id with
    | .arr _ s' es => if k + n ≤ es.length ∧ s' = size ∧ s = size then (bound hi n n).bind fun h => (bound lo h 0).bind fun l => some (.one (.bls id (k + l) (h - l) size)) else none
    | _ => none
  | _ => none

def lenLV : AV → Option AV
  | .one (.dc (.slc es)) => some (rawV (.int .i64 es.length))
  | .one (.dc (.raw (.slice _ n _))) => some (rawV (.int .i64 n))
  | .one (.bld _ n) => some (rawV (.int .i64 n))
  | .one (.bls _ _ n _) => some (rawV (.int .i64 n))
  | _ => none

def putAt (cs : List Cel) (off : Nat) (vs : List Cel) : List Cel := cs.take off ++ vs ++ cs.drop (off + vs.length)

def fillV (zero : List Cel) : List (Nat × Nat × AV) → Option (List Cel)
  | [] => some zero
  | (off, size, v) :: rest => (cellsOf v).bind fun vs => if vs.length = size ∧ off + size ≤ zero.length then fillV (putAt zero off vs) rest else none

def extV (x : AV) (n : Nat) : Option AV :=
  match x with
  | .tup l => match l[n]? with | some (.one c) => some (.one c) | some (.agg cs) => some (.agg cs) | none => none
  | _ => none

def minV (x y : AV) : Option AV :=
  match x, y with
  | .one (.dc (.raw (.int k a))), .one (.dc (.raw (.int _ b))) => some (rawV (.int k (if b < a then b else a)))
  | _, _ => none
def maxV (x y : AV) : Option AV :=
  match x, y with
  | .one (.dc (.raw (.int k a))), .one (.dc (.raw (.int _ b))) => some (rawV (.int k (if b > a then b else a)))
  | _, _ => none

def nilcV : AV → Option AV
  | .one (.ptr id o) => some (.one (.ptr id o))
  | .one (.ept id i s o) => some (.one (.ept id i s o))
  | .one (.ref cs) => some (.one (.ref cs))
  | _ => none

/-- is a slice nil? a pointer? of an empty slice it isn't known -/
def nilS : AV → Option Bool
  | .one (.dc (.raw (.slice none 0 0))) => some true
  | .one (.dc (.slc (_ :: _))) => some false
  | .one (.bld _ (_ + 1)) => some false
  | .one (.bls _ _ _ _) => some false
  | _ => none
def nilP : AV → Option Bool
  | .one (.dc (.raw (.pointer none))) => some true
  | .one (.ptr _ _) => some false
  | .one (.ept _ _ _ _) => some false
  | .one (.ref _) => some false
  | _ => none
def nilV (p neg : Bool) (v : AV) : Option AV := (bif p then nilP v else nilS v).map fun b => rawV (.bool (b != neg))

def pickV (c a b : AV) : Option AV :=
  match asBool? c with
  | some c => some (if c then a else b)
  | none => none

def toC : List DC → List Cel := List.map .dc
def dcs : List Cel → Option (List DC)
  | [] => some []
  | .dc d :: cs => (dcs cs).map (d :: ·)
  | _ => none

/-- the bytes of a slice of bytes -/
def bytesOf (es : List (List DC)) : Option (List UInt8) :=
  match es with
  | [] => some []
  | [.raw (.int .u8 n)] :: rest => (bytesOf rest).map (UInt8.ofNat n.toNat :: ·)
  | _ => none

def cvbsV (hp : List AObj) : AV → Option AV
  | .one (.dc (.slc es)) => (bytesOf es).map fun l => rawV (.string ⟨l.toArray⟩)
  | .one (.dc (.raw (.slice none _ _))) => some (rawV (.string ⟨#[]⟩))
  | .one (.bld id n) =>
    match hpGet hp id with
    | .arr _ _ es => if n ≤ es.length then (bytesOf (es.take n)).map fun l => rawV (.string ⟨l.toArray⟩) else none
    | _ => none
  | _ => none

def oneOf : AV → Option Cel
  | .one c => some c
  | _ => none

/-- what an instruction that changes nothing gives -/
def evP (G : Glob) (as : AS) : AI → Option AV
  | .mov x => some (evA G as.sl x)
  | .pick c a b => pickV (evA G as.sl c) (evA G as.sl a) (evA G as.sl b)
  | .load g s x => loadV as.hp g s (evA G as.sl x)
  | .nilc x => nilcV (evA G as.sl x)
  | .isnil p n x => nilV p n (evA G as.sl x)
  | .bin op x y => binV op (evA G as.sl x) (evA G as.sl y)
  | .binb n x y => binbV n (evA G as.sl x) (evA G as.sl y)
  | .eqs n ks x y => eqsV n ks (evA G as.sl x) (evA G as.sl y)
  | .un op x => unV op (evA G as.sl x)
  | .conv k x => (asInt? (evA G as.sl x)).map fun n => rawV (.int k (k.wrap n))
  | .cvid x => (asStr? (evA G as.sl x)).map fun s => rawV (.string s)
  | .cvbs x => cvbsV as.hp (evA G as.sl x)
  | .addo o x => addoV o (evA G as.sl x)
  | .fld g s o x => fldV g s o (evA G as.sl x)
  | .ixA n s x i => (asInt? (evA G as.sl i)).bind fun i => ixAV n s (evA G as.sl x) i
  | .ixL s x i => (asInt? (evA G as.sl i)).bind fun i => ixLV as.hp s (evA G as.sl x) i
  | .ixS x i => (asInt? (evA G as.sl i)).bind fun i => ixSV (evA G as.sl x) i
  | .slS x lo hi => slSV (evA G as.sl x) (lo.map (evA G as.sl)) (hi.map (evA G as.sl))
  | .slL s x lo hi => slLV as.hp s (evA G as.sl x) (lo.map (evA G as.sl)) (hi.map (evA G as.sl))
  | .build z ps => (fillV (z.map rawC) (ps.map fun (o, s, x) => (o, s, evA G as.sl x))).map .agg
  | .ext x n => extV (evA G as.sl x) n
  | .lenS x => (asStr? (evA G as.sl x)).map fun s => rawV (.int .i64 s.size)
  | .lenL x => lenLV (evA G as.sl x)
  | .lenA n => some (rawV (.int .i64 n))
  | .min2 x y => minV (evA G as.sl x) (evA G as.sl y)
  | .max2 x y => maxV (evA G as.sl x) (evA G as.sl y)
  | .mkfn f caps => (caps.mapM fun c => oneOf (evA G as.sl c)).map fun cs => .one (.fn f cs)
  | _ => none

def putS (sl : List AV) (dst : Option Nat) (v : AV) : List AV :=
  match dst with
  | some d => sl.set d v
  | none => sl

end Go.Proofs.Ytginjcpblgpcoaa
