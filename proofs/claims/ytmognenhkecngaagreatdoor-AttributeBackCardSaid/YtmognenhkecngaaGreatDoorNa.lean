/- Codes with hints, and an evaluator of them whose steps are equations. Conditions: none. -/
import Derived.Test.YtmognenhkecngaaGreatDoorMd
import Derived.Test.YtmognenhkecngaaGreatDoorLy
namespace Go.Proofs.YtmognenhkecngaaGreatDoor

/-- a hint: a nil slice in a slot, or in a cell of a box, becomes an array of one's own; such an array becomes data -/
inductive GH where
  | nil (d sz : Nat)
  | nilB (d j sz : Nat)
  | frz (d : Nat)

inductive HC where
  | skip | ret
  | exit (id : Nat)
  | region (ops : List AOp)
  | regR (L : List Nat) (ops : List AOp)
  | drawn (ops : List (Bool × AOp))
  | drawnF (prs : List (Nat × Nat)) (ops : List AOp)
  | seq (a b : HC)
  | cond (c : AArg) (a b : HC)
  | block (id : Nat) (a : HC)
  | loop (live : List Nat) (a : HC)
  | gh (g : GH) (a : HC)
  | bad

/-- without its hints -/
def HC.er : HC → ACode
  | .skip => .skip
  | .ret => .ret
  | .exit id => .exit id
  | .region ops => .region ops
  | .regR _ ops => .region ops
  | .drawn ops => .drawn ops
  | .drawnF prs ops => .drawnF prs ops
  | .seq a b => .seq a.er b.er
  | .cond c a b => .cond c a.er b.er
  | .block id a => .block id a.er
  | .loop _ a => .loop a.er
  | .gh _ a => a.er
  | .bad => .bad

/-- short names for printed codes -/
abbrev Oo (d : Nat) (ai : AI) : AOp := ⟨some d, ai, none⟩
abbrev On (ai : AI) : AOp := ⟨none, ai, none⟩
abbrev Og (g : Nat) (b : Bool) (d : Nat) (ai : AI) : AOp := ⟨some d, ai, some (g, b)⟩
abbrev Qo (x : AOp) : Bool × AOp := (true, x)
abbrev Qe (x : AOp) : Bool × AOp := (false, x)
abbrev Ki (n : Int) : AArg := .k (.int .i64 n)
abbrev Zi (n : Int) : Value := .int .i64 n

def ghN (d sz : Nat) (st : AS) : AV → AS
  | .one (.dc (.raw (.slice none 0 0))) => ⟨st.sl.set d (.one (.bld st.hp.length 0)), st.hp ++ [.arr 0 sz []]⟩
  | _ => st
def ghB2 (id j sz : Nat) (cs : List Cel) (st : AS) : Option Cel → AS
  | some (.dc (.raw (.slice none 0 0))) => ⟨st.sl, st.hp.set id (.box (cs.set j (.bld st.hp.length 0))) ++ [.arr 0 sz []]⟩
  | _ => st
def ghB1 (id j sz : Nat) (st : AS) : AObj → AS
  | .box cs => ghB2 id j sz cs st cs[j]?
  | _ => st
def ghB (j sz : Nat) (st : AS) : AV → AS
  | .one (.ptr id off) => ghB1 id (off + j) sz st (hpGet st.hp id)
  | _ => st
def ghE : GH → AS → AS
  | .nil d sz, st => ghN d sz st (st.sl.getD d .junk)
  | .nilB d j sz, st => ghB j sz st (st.sl.getD d .junk)
  | .frz d, st => frzIds (bldsOf (st.sl.getD d .junk)) st

def allLen (size : Nat) : List (List DC) → Bool
  | [] => true
  | e :: es => nq e.length size && allLen size es

/-- kill what names one array -/
def klC (id : Nat) : Cel → Cel
  | .dc d => .dc d
  | .ref cs => .ref cs
  | .mpc es => .mpc es
  | .junk => .junk
  | .ptr j o => bif nq j id then .junk else .ptr j o
  | .bld j n => bif nq j id then .junk else .bld j n
  | .ept j i s o => bif nq j id then .junk else .ept j i s o
  | .bls j i s o => bif nq j id then .junk else .bls j i s o
  | .fn f caps => killC (· == id) (.fn f caps)
def klCs (id : Nat) : List Cel → List Cel
  | [] => []
  | c :: cs => klC id c :: klCs id cs
def klV (id : Nat) : AV → AV
  | .one c => .one (klC id c)
  | .agg cs => .agg (klCs id cs)
  | .tup l => .tup (l.map (killT (· == id)))
  | .junk => .junk
def klS (id : Nat) : List AV → List AV
  | [] => []
  | v :: vs => klV id v :: klS id vs
def klO (id : Nat) : AObj → AObj
  | .box cs => .box (klCs id cs)
  | .arr c s es => .arr c s es
  | .dead => .dead
def klH (id : Nat) : List AObj → List AObj
  | [] => []
  | o :: os => klO id o :: klH id os

def apB (d : Option Nat) (size bytes : Nat) (st : AS) (id n : Nat) : AObj → Option (List (List DC)) → Option AS
  | .arr _ sz es, some news => if sz = size ∧ n ≤ es.length ∧ allLen size news = true ∧ (n + news.length) * bytes ≤ 140737488355328 then
      some ⟨putS (klS id st.sl) d (.one (.bld id (n + news.length))), (klH id st.hp).set id (.arr 0 size (es.take n ++ news))⟩ else none
  | _, _ => none
def apN (d : Option Nat) (size bytes : Nat) (st : AS) : Option (List (List DC)) → Option AS
  | some news => if allLen size news = true ∧ news.length * bytes ≤ 140737488355328 then
      some ⟨putS st.sl d (.one (.bld st.hp.length news.length)), klH st.hp.length st.hp ++ [.arr 0 size news]⟩ else none
  | none => none
def apZ (d : Option Nat) (size bytes : Nat) (st : AS) : AV → AV → Option AS
  | .one (.bld id n), x => apB d size bytes st id n (hpGet st.hp id) (srcV st.hp x)
  | .one (.dc (.raw (.slice none 0 0))), x => apN d size bytes st (srcV st.hp x)
  | _, _ => none

/-- does a value name no object but arrays? -/
def plainC : Cel → Bool
  | .ptr _ _ => false
  | .ept _ _ _ _ => false
  | .bls _ _ _ _ => false
  | .fn _ caps => caps.all capD
  | _ => true
def plainV : AV → Bool
  | .one c => plainC c
  | .agg cs => cs.all plainC
  | .tup _ => false
  | .junk => true
def plainAs (G : Glob) (sl : List AV) : List AArg → Bool
  | [] => true
  | x :: xs => plainV (evA G sl x) && plainAs G sl xs
def vwAs (G : Glob) (st : AS) : List AArg → List AV
  | [] => []
  | x :: xs => nzV (vwA st.hp (evA G st.sl x)) :: vwAs G st xs
def nzAs (G : Glob) (sl : List AV) : List AArg → List AV
  | [] => []
  | x :: xs => nzV (evA G sl x) :: nzAs G sl xs
def bldC : Cel → List Nat
  | .bld id _ => [id]
  | _ => []
def bldCs : List Cel → List Nat
  | [] => []
  | c :: cs => bldC c ++ bldCs cs
def bldV : AV → List Nat
  | .one c => bldC c
  | .agg cs => bldCs cs
  | _ => []
def bldAs (G : Glob) (sl : List AV) : List AArg → List Nat
  | [] => []
  | x :: xs => bldV (evA G sl x) ++ bldAs G sl xs

def nwK (d : Option Nat) (st : AS) : Option (AV × List AObj) → Option AS
  | some (av, os) => some ⟨putS st.sl d (renV (jmap [] st.hp.length) av), st.hp ++ os.map (renO (jmap [] st.hp.length))⟩
  | none => none
/-- a call of data alone -/
def dtK (call : CallT) (G : Glob) (d : Option Nat) (f : FuncId) (xs : List AArg) (st : AS) : Option AS :=
  bif (nzAs G st.sl xs).all (keepV fun _ => true) then nwK d st (call f (nzAs G st.sl xs) []) else none
/-- an object whose room is not told -/
def nrmB : AObj → Bool
  | .arr c _ _ => nq c 0
  | _ => true
def nrmL : List AObj → Bool
  | [] => true
  | o :: os => nrmB o && nrmL os
def dnK (d : Option Nat) (st : AS) : Option (AV × List AObj) → Option AS
  | some (av, os) => bif nrmL os then some ⟨putS st.sl d (renV (jmap [] st.hp.length) av), st.hp ++ os.map (renO (jmap [] st.hp.length))⟩ else none
  | none => none
/-- a call of data alone, in a region that draws its order -/
def dnZ (call : CallT) (G : Glob) (d : Option Nat) (f : FuncId) (xs : List AArg) (st : AS) : Option AS :=
  bif (nzAs G st.sl xs).all (keepV fun _ => true) then dnK d st (call f (nzAs G st.sl xs) []) else none
def vwK (call : CallT) (G : Glob) (d : Option Nat) (f : FuncId) (xs : List AArg) (st : AS) : Option (AV × List AObj) → Option AS
  | some (av, []) => bif rawA? av then some ⟨putS st.sl d av, st.hp⟩ else dtK call G d f xs (frzIds (bldAs G st.sl xs) st)
  | some (_, _ :: _) => dtK call G d f xs (frzIds (bldAs G st.sl xs) st)
  | none => none
def nzCall (call : CallT) : CallT := fun f a hp => call f (a.map nzV) hp
def clZ (call : CallT) (G : Glob) (d : Option Nat) (f : FuncId) (xs : List AArg) (st : AS) : Option AS :=
  bif plainAs G st.sl xs then vwK call G d f xs st (call f (vwAs G st xs) [])
  else evCall (nzCall call) d f (xs.map (evA G (frzIds (bldAs G st.sl xs) st).sl)) (frzIds (bldAs G st.sl xs) st)
def cvK (call : CallT) (G : Glob) (d : Option Nat) (xs : List AArg) (st : AS) : AV → Option AS
  | .one (.fn f caps) => evCall (nzCall call) d f (xs.map (evA G st.sl) ++ caps.map AV.one) st
  | _ => none
def cvZ (call : CallT) (G : Glob) (d : Option Nat) (x : AArg) (xs : List AArg) (st : AS) : Option AS :=
  cvK call G d xs (frzIds (bldAs G st.sl xs) st) (evA G (frzIds (bldAs G st.sl xs) st).sl x)

/-- is a literal the source of an append, or a call's argument? then it is data -/
def isT (t : Nat) : AArg → Bool
  | .t n => nq n t
  | _ => false
def anyT (t : Nat) : List AArg → Bool
  | [] => false
  | x :: xs => isT t x || anyT t xs
def usesL (t : Nat) : AI → Bool
  | .app _ _ _ _ x => isT t x
  | .call _ xs => anyT t xs
  | _ => false
def litL (t : Nat) : List AOp → Bool
  | [] => false
  | o :: l => usesL t o.ai || litL t l
def litU : Option Nat → List AOp → Bool
  | some t, l => litL t l
  | none, _ => false
def bldPs (G : Glob) (sl : List AV) : List (Nat × AArg) → List Nat
  | [] => []
  | (_, x) :: ps => bldV (evA G sl x) ++ bldPs G sl ps
def bsO (G : Glob) (st : AS) (d : Option Nat) (size len : Nat) (z : List Value) (ps : List (Nat × AArg)) : Option AS :=
  (fillV (zs z (len * size)) (ps.map fun (j, x) => (j * size, size, evA G st.sl x))).bind fun cs => (dcs cs).bind fun ds =>
      if ds.length = len * size then some ⟨putS st.sl d (.one (.bld st.hp.length len)), st.hp ++ [.arr 0 size (chunk size len ds)]⟩ else none
def bsZ (G : Glob) (st : AS) (d : Option Nat) (size len : Nat) (z : List Value) (ps : List (Nat × AArg)) : Bool → Option AS
  | true => bsX G (frzIds (bldPs G st.sl ps) st) d size len z ps
  | false => bsO G (frzIds (bldPs G st.sl ps) st) d size len z ps

def mkK (d : Option Nat) (size bytes : Nat) (zero : List Value) (st : AS) : Option Int → Option Int → Option AS
  | some (.ofNat n), some (.ofNat m) => if n ≤ m ∧ m * bytes ≤ 140737488355328 then some ⟨putS st.sl d (.one (.bld st.hp.length n)), st.hp ++ [.arr 0 size (List.replicate n (zero.map DC.raw))]⟩ else none
  | _, _ => none
def mkZ (G : Glob) (st : AS) (d : Option Nat) (size bytes : Nat) (zero : List Value) (l c : AArg) : Option AS := mkK d size bytes zero st (asInt? (evA G st.sl l)) (asInt? (evA G st.sl c))

/-- clear of a part of an array of one's own -/
def clrK (d : Option Nat) (st : AS) (id k n size : Nat) (zero : List Value) : AObj → Option AS
  | .arr _ s es => if s = size ∧ k + n ≤ es.length then some ⟨putS st.sl d (.tup []), st.hp.set id (.arr 0 size (clrE es k n (zero.map DC.raw)))⟩ else none
  | _ => none
def clrV (d : Option Nat) (size : Nat) (zero : List Value) (st : AS) : AV → Option AS
  | .one (.bls id k n s) => if s = size then clrK d st id k n size zero (hpGet st.hp id) else none
  | .one (.bld id n) => clrK d st id 0 n size zero (hpGet st.hp id)
  | _ => none
def clrZ (G : Glob) (st : AS) (d : Option Nat) (size : Nat) (zero : List Value) (x : AArg) : Option AS := clrV d size zero st (evA G st.sl x)

/-- copy of a string onto bytes in a box -/
def cpyK (d : Option Nat) (st : AS) (id lo n : Nat) (s : ByteArray) : AObj → Option AS
  | .box cs => if lo + n ≤ cs.length then some ⟨putS st.sl d (rawV (.int .i64 (min s.size n : Nat))), st.hp.set id (.box (putAt cs lo (bytesCel (s.data.toList.take n))))⟩ else none
  | _ => none
def cpyV (d : Option Nat) (st : AS) : AV → Option ByteArray → Option AS
  | .one (.bls id lo n z), some s => if z = 1 then cpyK d st id lo n s (hpGet st.hp id) else none
  | _, _ => none
def cpyZ (G : Glob) (st : AS) (d : Option Nat) (x y : AArg) : Option AS := cpyV d st (evA G st.sl x) (asStr? (evA G st.sl y))
def cvsK (d : Option Nat) (st : AS) : Option ByteArray → Option AS
  | some s => some ⟨putS st.sl d (.one (.dc (.slc (bytesD s)))), st.hp⟩
  | none => none
def cvsZ (G : Glob) (st : AS) (d : Option Nat) (x : AArg) : Option AS := cvsK d st (asStr? (evA G st.sl x))
/-- make of bytes in a box -/
def mbK (d : Option Nat) (size bytes : Nat) (st : AS) : List Value → Option Int → Option Int → Option AS
  | [v], some (.ofNat n), some (.ofNat m) => if size = 1 ∧ n ≤ m ∧ m * bytes ≤ 140737488355328 then some ⟨putS st.sl d (.one (.bls st.hp.length 0 n 1)), st.hp ++ [.box (List.replicate m (rawC v))]⟩ else none
  | _, _, _ => none

def stZ (call : CallT) (G : Glob) (st : AS) (l : List AOp) (d : Option Nat) : AI → Option AS
  | .call f xs => clZ call G d f xs st
  | .callv x xs => cvZ call G d x xs st
  | .app size bytes _ s x => apZ d size bytes st (evA G st.sl s) (evA G st.sl x)
  | .bslc size len z ps => bsZ G st d size len z ps (litU d l)
  | .apps _ _ => none
  | .mk size bytes z x y => mkZ G st d size bytes z x y
  | .clr size z x => clrZ G st d size z x
  | .cpys x y => cpyZ G st d x y
  | .cvsb x => cvsZ G st d x
  | ai => exY G st d ai
def guZ (call : CallT) (G : Glob) (st : AS) (l : List AOp) (d : Option Nat) (ai : AI) : Option Bool → Option AS
  | some true => stZ call G st l d ai
  | some false => some ⟨putS st.sl d (.tup []), st.hp⟩
  | none => none
def stO (call : CallT) (G : Glob) (st : AS) (l : List AOp) (d : Option Nat) (ai : AI) : Option (Nat × Bool) → Option AS
  | none => stZ call G st l d ai
  | some (g, b) => guZ call G st l d ai (gK b (evA G st.sl (.t g)))
def evR (call : CallT) (G : Glob) : List AOp → Option AS → Option AS
  | _, none => none
  | [], some st => some st
  | o :: l, some st => evR call G l (stO call G st l o.dst o.ai o.guard)

/-- calls that take arrays of one's own and may change them -/
def hasN : List Nat → Nat → Bool
  | [], _ => false
  | x :: L, n => nq n x || hasN L n
def isRef (L : List Nat) : AI → Option (Nat × Bool) → Bool
  | .call f _, none => hasN L f
  | .mk _ _ _ _ _, none => hasN L 0
  | _, _ => false
def refZ (call : CallT) (G : Glob) (st : AS) (d : Option Nat) : AI → Option AS
  | .call f xs => evCall (nzCall call) d f (xs.map (evA G st.sl)) st
  | .mk size bytes z x y => mbK d size bytes st z (asInt? (evA G st.sl x)) (asInt? (evA G st.sl y))
  | _ => none
def stR (call : CallT) (G : Glob) (st : AS) (l : List AOp) (d : Option Nat) (ai : AI) (g : Option (Nat × Bool)) : Bool → Option AS
  | true => refZ call G st d ai
  | false => stO call G st l d ai g
def evRR (call : CallT) (G : Glob) (L : List Nat) : List AOp → Option AS → Option AS
  | _, none => none
  | [], some st => some st
  | o :: l, some st => evRR call G L l (stR call G st l o.dst o.ai o.guard (isRef L o.ai o.guard))

/-- a quiet operation in a region that draws its order -/
def qcF (d : Option Nat) (st : AS) (v : AV) : Option AS := bif keepV (fun _ => true) v then some ⟨putS st.sl d v, st.hp⟩ else none
def qcK (d : Option Nat) (st : AS) : Option (AV × List AObj) → Option AS
  | some (av, []) => bif keepV (fun _ => true) av then some ⟨putS st.sl d av, st.hp⟩ else none
  | some (av, o :: os) => qcF d st (killV (fun id => decide (0 ≤ id)) ((frzIds (idsV av) ⟨[av], o :: os⟩).sl.getD 0 .junk))
  | none => none
def qtZ (call : CallT) (G : Glob) (st : AS) (d : Option Nat) : AI → Option AS
  | .call f xs => bif (nzAs G st.sl xs).all (keepV fun _ => true) then qcK d st (call f (nzAs G st.sl xs) []) else none
  | ai => putX st d (evX G st.sl (qhp ai st.hp) ai)
def dvK (call : CallT) (G : Glob) (d : Option Nat) (f : FuncId) (xs : List AArg) (st : AS) : Option (AV × List AObj) → Option AS
  | some (av, []) => bif rawA? av then some ⟨putS st.sl d av, st.hp⟩ else dnZ call G d f xs st
  | some (_, _ :: _) => dnZ call G d f xs st
  | none => none
def ldZ (call : CallT) (G : Glob) (st : AS) (d : Option Nat) : AI → Option AS
  | .call f xs => dvK call G d f xs st (call f (vwAs G st xs) [])
  | .callv x xs => cvZ call G d x xs st
  | .app size bytes _ s x => apZ d size bytes st (evA G st.sl s) (evA G st.sl x)
  | .bslc size len z ps => bsO G st d size len z ps
  | .mk size bytes z x y => mkZ G st d size bytes z x y
  | .clr size z x => clrZ G st d size z x
  | .cpys x y => cpyZ G st d x y
  | .cvsb x => cvsZ G st d x
  | .alloc z => exY G st d (.alloc z)
  | .box x => exY G st d (.box x)
  | .store size x v => exY G st d (.store size x v)
  | _ => none
def drZ (call : CallT) (G : Glob) (st : AS) (d : Option Nat) (ai : AI) : Bool → Option AS
  | true => qtZ call G st d ai
  | false => ldZ call G st d ai
def guD' (call : CallT) (G : Glob) (st : AS) (q : Bool) (d : Option Nat) (ai : AI) : Option Bool → Option AS
  | some true => drZ call G st d ai q
  | some false => some ⟨putS st.sl d (.tup []), st.hp⟩
  | none => none
def drO (call : CallT) (G : Glob) (st : AS) (q : Bool) (d : Option Nat) (ai : AI) : Option (Nat × Bool) → Option AS
  | none => drZ call G st d ai q
  | some (g, b) => guD' call G st q d ai (gK b (evA G st.sl (.t g)))
def evDr (call : CallT) (G : Glob) : List (Bool × AOp) → Option AS → Option AS
  | _, none => none
  | [], some st => some st
  | o :: l, some st => evDr call G l (drO call G st o.1 o.2.dst o.2.ai o.2.guard)

/-- operations in any order: what each writes and looks at is kept -/
def isAl : AI → Bool
  | .alloc _ => true
  | _ => false
def nAl : List AOp → Nat
  | [] => 0
  | o :: l => bif isAl o.ai then nAl l + 1 else nAl l
def deads : Nat → List AObj
  | 0 => []
  | n + 1 => .dead :: deads n
abbrev FP := List Nat × List Nat
def fpA (G : Glob) (sl : List AV) : List AArg → List Nat
  | [] => []
  | x :: xs => fpV (evA G sl x) ++ fpA G sl xs
def fvN (d : Option Nat) (r : Nat) (z : List Value) (st : AS) : Option AObj → Option (AS × FP)
  | some .dead => some (⟨putS st.sl d (.one (.ptr r 0)), st.hp.set r (.box (z.map rawC))⟩, [r], [])
  | _ => none
def fvT (size id off : Nat) (vs : List Cel) (st : AS) : Option AObj → Option (AS × FP)
  | some (.box cs) => if vs.length = size ∧ off + size ≤ cs.length then some (⟨st.sl, st.hp.set id (.box (putAt cs off vs))⟩, [id], [id]) else none
  | _ => none
def fvS (d : Option Nat) (size : Nat) (st : AS) : AV → Option (List Cel) → Option (AS × FP)
  | .one (.ptr id off), some vs => match d with
    | none => fvT size id off vs st st.hp[id]?
    | some _ => none
  | _, _ => none
def fvP (R : List Nat) : Option AS → Option (AS × FP)
  | some s => some (s, [], R)
  | none => none
def fvY2 (d : Option Nat) (id lo n : Nat) (bs : ByteArray) (st : AS) : Option AObj → Option (AS × FP)
  | some (.box cs) => if lo + n ≤ cs.length then some (⟨putS st.sl d (rawV (.int .i64 (min bs.size n : Nat))), st.hp.set id (.box (putAt cs lo (bytesCel (bs.data.toList.take n))))⟩, [id], [id]) else none
  | _ => none
def fvY (d : Option Nat) (st : AS) : AV → Option ByteArray → Option (AS × FP)
  | .one (.bls id lo n z), some bs => if z = 1 then fvY2 d id lo n bs st st.hp[id]? else none
  | _, _ => none
/-- a call that changes one box -/
def fvB2 (d : Option Nat) (id : Nat) (st : AS) : Option (AV × List AObj) → Option (AS × FP)
  | some (.tup [], [.box cs]) => bif keepL (fun _ => true) cs then some (⟨putS st.sl d (.tup []), st.hp.set id (.box cs)⟩, [id], [id]) else none
  | _ => none
def fvB (call : CallT) (d : Option Nat) (f : FuncId) (st : AS) (avs : List AV) (id : Nat) : Option AObj → Option (AS × FP)
  | some (.box cs) => bif keepL (fun _ => true) cs && avs.all (keepV (outJ [id])) then fvB2 d id st (nzCall call f (avs.map (renV (idxN [id]))) [.box cs]) else none
  | _ => none
def fvC (call : CallT) (G : Glob) (st : AS) (d : Option Nat) (f : FuncId) (xs : List AArg) : List Nat → Option (AS × FP)
  | [] => fvP [] (qtZ call G st d (.call f xs))
  | [id] => fvB call d f st (xs.map (evA G st.sl)) id st.hp[id]?
  | _ => none
def fvL : Nat → Option AS → Option (AS × FP)
  | 0, _ => none
  | _ + 1, s => fvP [] s
def fvA (call : CallT) (G : Glob) (st : AS) (d : Option Nat) (r : Nat) : AI → Option (AS × FP)
  | .alloc z => fvN d r z st st.hp[r]?
  | .store size x v => fvS d size st (evA G st.sl x) (cellsOf (evA G st.sl v))
  | .cpys x y => fvY d st (evA G st.sl x) (asStr? (evA G st.sl y))
  | .call f xs => fvC call G st d f xs ((xs.map (evA G st.sl)).flatMap idsV)
  | .bslc size len z ps => fvL len (bsX G st d size len z ps)
  | ai => bif ai.isPure then fvP (fpA G st.sl (argsAI ai)) (stZ call G st [] d ai) else none
def fvG (call : CallT) (G : Glob) (st : AS) (d : Option Nat) (r : Nat) (ai : AI) : Option Bool → Option (AS × FP)
  | some true => fvA call G st d r ai
  | some false => some (⟨putS st.sl d (.tup []), st.hp⟩, [], [])
  | none => none
def fvO (call : CallT) (G : Glob) (st : AS) (d : Option Nat) (r : Nat) (ai : AI) : Option (Nat × Bool) → Option (AS × FP)
  | none => fvA call G st d r ai
  | some (g, b) => fvG call G st d r ai (gK b (evA G st.sl (.t g)))
def hasM : List Nat → Nat → Bool
  | [], _ => false
  | x :: L, n => nq n x || hasM L n
def disM : List Nat → List Nat → Bool
  | [], _ => true
  | x :: a, b => !hasM b x && disM a b
def dsM : FP → FP → Bool
  | (w, r), (w', r') => disM w r' && (disM w w' && disM w' r)
def atF : List FP → Nat → FP
  | [], _ => ([], [])
  | f :: _, 0 => f
  | _ :: fs, n + 1 => atF fs n
def chkF : List (Nat × Nat) → List FP → Bool
  | [], _ => true
  | (p, q) :: prs, fs => dsM (atF fs p) (atF fs q) && chkF prs fs
def fvR (call : CallT) (G : Glob) (prs : List (Nat × Nat)) : List FP → Nat → List AOp → Option AS → Option AS
  | _, _, _, none => none
  | acc, _, [], some st => bif chkF prs acc then some st else none
  | acc, r, o :: l, some st => match fvO call G st o.dst r o.ai o.guard with
    | some (s, f) => fvR call G prs (acc ++ [f]) (bif isAl o.ai then r + 1 else r) l (some s)
    | none => none

/-- kill the objects behind a number, and slots that don't live -/
def ctC (m : Nat) : Cel → Cel
  | .dc d => .dc d
  | .ref cs => .ref cs
  | .mpc es => .mpc es
  | .junk => .junk
  | .ptr j o => if m ≤ j then .junk else .ptr j o
  | .bld j n => if m ≤ j then .junk else .bld j n
  | .ept j i s o => if m ≤ j then .junk else .ept j i s o
  | .bls j i s o => if m ≤ j then .junk else .bls j i s o
  | .fn f caps => killC (fun id => decide (m ≤ id)) (.fn f caps)
def ctCs (m : Nat) : List Cel → List Cel
  | [] => []
  | c :: cs => ctC m c :: ctCs m cs
def ctV (m : Nat) : AV → AV
  | .one c => .one (ctC m c)
  | .agg cs => .agg (ctCs m cs)
  | .tup l => .tup (l.map (killT fun id => decide (m ≤ id)))
  | .junk => .junk
def ctO (m : Nat) : AObj → AObj
  | .box cs => .box (ctCs m cs)
  | .arr c s es => .arr c s es
  | .dead => .dead
def ctH (m : Nat) : Nat → List AObj → List AObj
  | 0, _ => []
  | _ + 1, [] => []
  | n + 1, o :: os => ctO m o :: ctH m n os
/-- the slots that live: how many dead ones stand before each -/
def ctS (m : Nat) : List Nat → List AV → List AV
  | _, [] => []
  | [], _ :: xs => .junk :: ctS m [] xs
  | 0 :: L, x :: xs => ctV m x :: ctS m L xs
  | (n + 1) :: L, _ :: xs => .junk :: ctS m (n :: L) xs
def trimA (L : List Nat) (m : Nat) (st : AS) : AS := ⟨ctS m L st.sl, ctH m m st.hp⟩

def lpN (run : AS → Option (Exit × AS)) (L : List Nat) (m : Nat) : Nat → AS → Option (Exit × AS)
  | 0, _ => none
  | n + 1, st => match run st with
    | some (.normal, s) => lpN run L m n (trimA L m s)
    | r => r

open Classical in
noncomputable def lim {α : Type} (f : Nat → Option α) : Option α := if h : ∃ n r, f n = some r then f h.choose else none

noncomputable def loopE (run : AS → Option (Exit × AS)) (L : List Nat) (m : Nat) (st : AS) : Option (Exit × AS) := lim fun n => lpN run L m n st

def nrm : Option AS → Option (Exit × AS)
  | some s => some (.normal, s)
  | none => none
def blkE (id : Nat) (s : AS) : Exit → Option (Exit × AS)
  | .exit id' => if id' = id then some (.normal, s) else some (.exit id', s)
  | e => some (e, s)
def blkK (id : Nat) : Option (Exit × AS) → Option (Exit × AS)
  | some (e, s) => blkE id s e
  | none => none

noncomputable def EC (call : CallT) (G : Glob) : HC → AS → Option (Exit × AS)
  | .skip, st => some (.normal, st)
  | .ret, st => some (.ret, st)
  | .exit id, st => some (.exit id, st)
  | .region ops, st => nrm (evR call G ops (some st))
  | .regR L ops, st => nrm (evRR call G L ops (some st))
  | .drawn ops, st => nrm (evDr call G ops (some st))
  | .drawnF prs ops, st => nrm (fvR call G prs [] st.hp.length ops (some ⟨st.sl, st.hp ++ deads (nAl ops)⟩))
  | .seq a b, st => match EC call G a st with
    | some (.normal, s) => EC call G b s
    | r => r
  | .cond c a b, st => match asBool? (evA G st.sl c) with
    | some true => EC call G a st
    | some false => EC call G b st
    | none => none
  | .block id a, st => blkK id (EC call G a st)
  | .loop L a, st => loopE (EC call G a) L st.hp.length (trimA L st.hp.length st)
  | .gh g a, st => EC call G a (ghE g st)
  | .bad, _ => none

structure HF where
  code : HC
  rs : List RetV
  nt : Nat
  own : Bool
/-- the functions' codes, and contracts that were proved otherwise -/
structure HT where
  tab : FuncId → Option HF
  base : CallT

def retW (own : Bool) (n : Nat) (hp : List AObj) (v : AV) : AV × List AObj :=
  bif own then
    (bif keepV (fun id => decide (n ≤ id)) v && (hp.take n).all (keepO fun id => decide (n ≤ id)) then (nzV v, hp.take n) else (nzV v, hp))
  else (nzV (killV (fun id => decide (n ≤ id)) ((frzIds (idsV v) ⟨[v], hp⟩).sl.getD 0 .junk)), ((frzIds (idsV v) ⟨[v], hp⟩).hp.take n).map (killO fun id => decide (n ≤ id)))
def retK (own : Bool) (n : Nat) (hp : List AObj) : Option AV → Option (AV × List AObj)
  | some v => some (retW own n hp v)
  | none => none
def retZ (own : Bool) (rs : List RetV) (n : Nat) : Option (Exit × AS) → Option (AV × List AObj)
  | some (e, s) => if isEnd e = true ∧ n ≤ s.hp.length then retK own n s.hp (retV s rs) else none
  | none => none
noncomputable def funE (call : CallT) (G : Glob) (h : HF) (args : List AV) (hp : List AObj) : Option (AV × List AObj) :=
  retZ h.own h.rs hp.length (EC call G h.code ⟨args ++ junks (h.nt - args.length), hp⟩)
noncomputable def callN (G : Glob) (T : HT) : Nat → CallT
  | 0, _, _, _ => none
  | n + 1, f, args, hp => match T.tab f with
    | some h => funE (callN G T n) G h args hp
    | none => T.base f args hp
noncomputable def EV (G : Glob) (T : HT) : CallT := fun f args hp => lim fun n => callN G T n f args hp
end Go.Proofs.YtmognenhkecngaaGreatDoor
