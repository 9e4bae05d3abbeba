/- An interpreter of codes over abstract states: what it answers is a contract. Conditions: none. -/
import Derived.Test.YtginjcpblgpcoaaLs
namespace Go.Proofs.Ytginjcpblgpcoaa

def nocap : AObj → AObj
  | .arr _ s es => .arr 0 s es
  | o => o
def norm (s : AS) : AS := ⟨s.sl, s.hp.map nocap⟩

mutual
def idsC : Cel → List Nat
  | .ptr id _ => [id]
  | .bld id _ => [id]
  | .ept id _ _ _ => [id]
  | .bls id _ _ _ => [id]
  | .fn _ caps => idsL caps
  | _ => []
def idsL : List Cel → List Nat
  | [] => []
  | c :: cs => idsC c ++ idsL cs
end
def idsT : TV → List Nat
  | .one c => idsC c
  | .agg cs => idsL cs
def idsV : AV → List Nat
  | .one c => idsC c
  | .agg cs => idsL cs
  | .tup l => l.flatMap idsT
  | .junk => []
def idsO : AObj → List Nat
  | .box cs => idsL cs
  | _ => []
def keepT (p : Nat → Bool) : TV → Bool
  | .one c => c.keep p
  | .agg cs => keepL p cs
def keepV (p : Nat → Bool) : AV → Bool
  | .one c => c.keep p
  | .agg cs => keepL p cs
  | .tup l => l.all (keepT p)
  | .junk => true
def keepO (p : Nat → Bool) : AObj → Bool
  | .box cs => keepL p cs
  | _ => true

def toDCs : List Cel → Option (List DC)
  | [] => some []
  | .dc d :: r => (toDCs r).map (d :: ·)
  | _ => none
def chunks (size : Nat) : Nat → List DC → List (List DC)
  | 0, _ => []
  | n + 1, l => l.take size :: chunks size n (l.drop size)

def idxN : List Nat → Nat → Nat
  | [], _ => 0
  | j :: J, x => if x = j then 0 else idxN J x + 1
def reach (hp : List AObj) : Nat → List Nat → List Nat → List Nat
  | 0, _, J => J
  | _ + 1, [], J => J
  | n + 1, id :: todo, J => if J.contains id then reach hp n todo J else reach hp n (idsO (hpGet hp id) ++ todo) (J ++ [id])

def frzIds : List Nat → AS → AS
  | [], st => st
  | id :: r, st => match hpGet st.hp id with
    | .arr _ _ es => frzIds r ⟨st.sl.map fun v => killV (· == id) (frzV id es v), (st.hp.map fun o => killO (· == id) (frzO id es o)).set id .dead⟩
    | _ => frzIds r st

def bldsOf : AV → List Nat
  | .one (.bld id _) => [id]
  | _ => []

abbrev CallT := FuncId → List AV → List AObj → Option (AV × List AObj)

def outJ (J : List Nat) (id : Nat) : Bool := !J.contains id

def okJ (J : List Nat) (hp : List AObj) (avs : List AV) : Bool :=
  pairsOK (fun i j => i != j) J && J.all (fun j => decide (j < hp.length) && keepO (outJ J) (hpGet hp j)) && avs.all (keepV (outJ J))

/-- a call, with the objects that its arguments reach -/
def evCall (call : CallT) (dst : Option Nat) (f : FuncId) (avs : List AV) (st : AS) : Option AS :=
  let J := reach st.hp 2000 (avs.flatMap idsV) []
  if okJ J st.hp avs then (call f (avs.map (renV (idxN J))) (J.map fun j => renO (idxN J) (hpGet st.hp j))).map fun r => afterC J st dst r.1 r.2 else none

def evApp (dst : Option Nat) (size bytes : Nat) (s x : AV) (st : AS) : Option AS :=
  match s with
  | .one (.bld id n) =>
    match hpGet st.hp id with
    | .arr _ sz es =>
      (srcV st.hp x).bind fun news =>
        if sz = size ∧ n ≤ es.length ∧ (news.all fun e => decide (e.length = size)) = true ∧ (n + news.length) * bytes ≤ 140737488355328 then
          some ⟨putS (st.sl.map (killV (· == id))) dst (.one (.bld id (n + news.length))), (st.hp.map (killO (· == id))).set id (.arr 0 size (es.take n ++ news))⟩
        else none
    | _ => none
  | .one (.dc (.raw (.slice none 0 0))) =>
    (srcV st.hp x).bind fun news =>
      if (news.all fun e => decide (e.length = size)) = true ∧ news.length * bytes ≤ 140737488355328 then
        some ⟨putS st.sl dst (.one (.bld st.hp.length news.length)), st.hp.map (killO (· == st.hp.length)) ++ [.arr 0 size news]⟩
      else none
  | _ => none

def evStore (size : Nat) (x : AV) (vs : List Cel) (st : AS) : Option AS :=
  match x with
  | .one (.ptr id off) =>
    match hpGet st.hp id with
    | .box cs => if vs.length = size ∧ off + size ≤ cs.length then some ⟨st.sl, st.hp.set id (.box (putAt cs off vs))⟩ else none
    | _ => none
  | .one (.ept id i s off) =>
    match hpGet st.hp id with
    | .arr _ s' es =>
      (toDCs vs).bind fun ds => (es[i]?).bind fun e => if s' = s ∧ ds.length = size ∧ off + size ≤ e.length then some ⟨st.sl, st.hp.set id (.arr 0 s (es.set i (e.take off ++ ds ++ e.drop (off + size))))⟩ else none
    | _ => none
  | _ => none

def evI (G : Glob) (dst : Option Nat) (ai : AI) (st : AS) : Option AS :=
  match ai with
  | .alloc z => some ⟨putS st.sl dst (.one (.ptr st.hp.length 0)), st.hp ++ [.box (z.map rawC)]⟩
  | .box x => (cellsOf (evA G st.sl x)).map fun cs => ⟨putS st.sl dst (.one (.ptr st.hp.length 0)), st.hp ++ [.box cs]⟩
  | .store size x v => if dst = none then (cellsOf (evA G st.sl v)).bind fun vs => evStore size (evA G st.sl x) vs st else none
  | .bslc size len zero parts =>
    (fillV ((List.range (len * size)).map fun i => rawC (zero.getD (i % zero.length) undef)) (parts.map fun (j, x) => (j * size, size, evA G st.sl x))).bind fun cells =>
      (toDCs cells).bind fun ds => if ds.length = len * size then some ⟨putS st.sl dst (.one (.bld st.hp.length len)), st.hp ++ [.arr 0 size (chunks size len ds)]⟩ else none
  | .app size bytes _ s x => evApp dst size bytes (evA G st.sl s) (evA G st.sl x) st
  | _ => none

def evOp (call : CallT) (G : Glob) (o : AOp) (st : AS) : Option AS :=
  match o.ai with
  | .call f args => let st1 := frzIds (args.flatMap fun x => bldsOf (evA G st.sl x)) st; evCall call o.dst f (args.map (evA G st1.sl)) st1
  | .callv x args => let st1 := frzIds (args.flatMap fun x => bldsOf (evA G st.sl x)) st
    match evA G st1.sl x with
    | .one (.fn f caps) => evCall call o.dst f (args.map (evA G st1.sl) ++ caps.map AV.one) st1
    | _ => none
  | .bslc _ _ _ ps => evI G o.dst o.ai (frzIds (ps.flatMap fun p => bldsOf (evA G st.sl p.2)) st)
  | ai => evI G o.dst ai st

def wants (G : Glob) (st : AS) : Option (Nat × Bool) → Option Bool
  | none => some true
  | some (g, b) => match evA G st.sl (.t g) with
    | .tup [] => some false
    | v => (asBool? v).map fun c => c == b

/-- the same value, worked out before it is used -/
def fN {β : Type} (n : Nat) (k : Nat → β) : β := match n with | 0 => k 0 | m + 1 => k (Nat.succ m)
def fI {β : Type} (n : Int) (k : Int → β) : β := match n with | .ofNat m => fN m fun m => k (.ofNat m) | .negSucc m => fN m fun m => k (.negSucc m)
def fL {α β : Type} (f : α → (α → β) → β) : List α → (List α → β) → β
  | [], k => k []
  | x :: xs, k => f x fun y => fL f xs fun ys => k (y :: ys)
def fU {β : Type} (n : UInt8) (k : UInt8 → β) : β := fN n.toNat fun m => k (if m < 256 then UInt8.ofNat m else n)
def fB {β : Type} (s : ByteArray) (k : ByteArray → β) : β := match s with | ⟨⟨l⟩⟩ => fL (fun x k => k x) l fun l => k ⟨⟨l⟩⟩
def fVal {β : Type} (v : Value) (k : Value → β) : β := match v with
  | .int kd n => fI n fun n => k (.int kd n)
  | .bool true => k (.bool true)
  | .bool false => k (.bool false)
  | .string s => fB s fun s => k (.string s)
  | v => k v
def fD {β : Type} (d : DC) (k : DC → β) : β := match d with
  | .raw v => fVal v fun v => k (.raw v)
  | .slc es => fL (fL fun d k => match d with | .raw v => fVal v fun v => k (.raw v) | d => k d) es fun es => k (.slc es)
def fC {β : Type} (c : Cel) (k : Cel → β) : β := match c with
  | .dc d => fD d fun d => k (.dc d)
  | .ptr id o => fN id fun id => fN o fun o => k (.ptr id o)
  | .bld id n => fN id fun id => fN n fun n => k (.bld id n)
  | .ept id i s o => fN id fun id => fN i fun i => fN s fun s => fN o fun o => k (.ept id i s o)
  | .bls id i s o => fN id fun id => fN i fun i => fN s fun s => fN o fun o => k (.bls id i s o)
  | .ref cs => fL fD cs fun cs => k (.ref cs)
  | c => k c
def fT {β : Type} (c : TV) (k : TV → β) : β := match c with
  | .one c => fC c fun c => k (.one c)
  | .agg cs => fL fC cs fun cs => k (.agg cs)
def fV {β : Type} (c : AV) (k : AV → β) : β := match c with
  | .one c => fC c fun c => k (.one c)
  | .agg cs => fL fC cs fun cs => k (.agg cs)
  | .tup l => fL fT l fun l => k (.tup l)
  | .junk => k .junk
def fO {β : Type} (o : AObj) (k : AObj → β) : β := match o with
  | .box cs => fL fC cs fun cs => k (.box cs)
  | .arr c s es => fN c fun c => fN s fun s => fL (fL fD) es fun es => k (.arr c s es)
  | .dead => k .dead
/-- the value that an instruction puts, and then the slots -/
def fP {β : Type} (d : Option Nat) (v : AV) (s : AS) (k : AS → β) : β := fV v fun v => fL (fun x k => k x) (putS s.sl d v) fun sl => k ⟨sl, s.hp⟩
def fS {β : Type} (s : AS) (k : AS → β) : β := fL fV s.sl fun sl => fL fO s.hp fun hp => k ⟨sl, hp⟩

section
variable {β : Type}
theorem fN_eq (n : Nat) (k : Nat → β) : fN n k = k n := by cases n <;> rfl
theorem fI_eq (n : Int) (k : Int → β) : fI n k = k n := by cases n <;> simp [fI, fN_eq]
theorem fL_eq {α : Type} {f : α → (α → β) → β} (hf : ∀ x k, f x k = k x) : ∀ (l : List α) (k : List α → β), fL f l k = k l
  | [], _ => rfl
  | x :: xs, k => by simp only [fL, hf, fL_eq hf xs]
theorem fB_eq (s : ByteArray) (k : ByteArray → β) : fB s k = k s := by obtain ⟨⟨l⟩⟩ := s; simp only [fB]; rw [fL_eq (fun _ _ => rfl)]
theorem fVal_eq (v : Value) (k : Value → β) : fVal v k = k v := by unfold fVal; split <;> simp [fI_eq, fB_eq]
theorem fD_eq (d : DC) (k : DC → β) : fD d k = k d := by
  cases d with
  | raw v => simp [fD, fVal_eq]
  | slc es =>
    simp only [fD]
    rw [fL_eq]
    intro x k
    rw [fL_eq]
    intro d k
    split <;> simp [fVal_eq]
theorem fC_eq (c : Cel) (k : Cel → β) : fC c k = k c := by cases c <;> simp [fC, fN_eq, fD_eq, fL_eq]
theorem fT_eq (c : TV) (k : TV → β) : fT c k = k c := by cases c <;> simp [fT, fC_eq, fL_eq]
theorem fV_eq (c : AV) (k : AV → β) : fV c k = k c := by cases c <;> simp [fV, fC_eq, fT_eq, fL_eq]
theorem fO_eq (c : AObj) (k : AObj → β) : fO c k = k c := by cases c <;> simp [fO, fN_eq, fC_eq, fD_eq, fL_eq]
theorem fP_eq (d : Option Nat) (v : AV) (s : AS) (k : AS → β) : fP d v s k = k ⟨putS s.sl d v, s.hp⟩ := by simp only [fP, fV_eq]; rw [fL_eq (fun _ _ => rfl)]
theorem fS_eq (s : AS) (k : AS → β) : fS s k = k s := by simp [fS, fL_eq, fV_eq, fO_eq]
end

/-- the same as a wrap, where nothing wraps -/
def wrapF (k : IntKind) (n : Int) : Int := match k with
  | .i64 => if -9223372036854775808 ≤ n then (if n ≤ 9223372036854775807 then n else IntKind.i64.wrap n) else IntKind.i64.wrap n
  | k => k.wrap n
theorem wrapF_eq (k : IntKind) (n : Int) : wrapF k n = k.wrap n := by
  cases k <;> simp only [wrapF]
  split
  · split
    · exact (wrap64 ⟨by assumption, by assumption⟩).symm
    · rfl
  · rfl

/-- the same as an instruction's value, faster -/
def evF (G : Glob) (st : AS) (ai : AI) : Option AV :=
  match ai with
  | .bin .add x y => match evA G st.sl x, evA G st.sl y with
    | .one (.dc (.raw (.int .i64 a))), .one (.dc (.raw (.int .i64 b))) => some (rawV (.int .i64 (wrapF .i64 (a + b))))
    | _, _ => evP G st (.bin .add x y)
  | .bin .sub x y => match evA G st.sl x, evA G st.sl y with
    | .one (.dc (.raw (.int .i64 a))), .one (.dc (.raw (.int .i64 b))) => some (rawV (.int .i64 (wrapF .i64 (a - b))))
    | _, _ => evP G st (.bin .sub x y)
  | ai => evP G st ai

def evOps (call : CallT) (G : Glob) : List AOp → AS → Option AS
  | [], st => some st
  | o :: l, st => (wants G st o.guard).bind fun b =>
    if b then (if o.ai.isPure then (evF G st o.ai).bind fun v => fP o.dst v st fun st' => evOps call G l st' else (evOp call G o st).bind fun st' => fS st' fun st' => evOps call G l st')
    else fP o.dst (.tup []) st fun st' => evOps call G l st'

/-- a quiet operation's value -/
def evQ (call : CallT) (G : Glob) (o : AOp) (st : AS) : Option AV :=
  match o.ai with
  | .call f args =>
    if (args.map (evA G st.sl)).all (keepV fun _ => true) then (call f (args.map (evA G st.sl)) []).bind fun r =>
      let v := killV (fun id => decide (0 ≤ id)) ((frzIds (idsV r.1) ⟨[r.1], r.2⟩).sl.getD 0 .junk)
      if keepV (fun _ => true) v then some v else none
    else none
  | _ => none

def evD (call : CallT) (G : Glob) : List (Bool × AOp) → AS → Option AS
  | [], st => some st
  | (b, o) :: l, st => (wants G st o.guard).bind fun c =>
    if c then (if b then (if o.ai.isPure then evF G ⟨st.sl, qhp o.ai st.hp⟩ o.ai else evQ call G o st).bind fun v => fP o.dst v st fun st' => evD call G l st'
      else (match o.ai with
      | .call _ _ => (evQ call G o st).map fun v => (⟨putS st.sl o.dst v, st.hp⟩ : AS)
      | .callv _ _ => evOp call G o st
      | ai => evI G o.dst ai st).bind fun st' => fS st' fun st' => evD call G l st')
    else fP o.dst (.tup []) st fun st' => evD call G l st'

abbrev Tbl := FuncId → Option (ACode × List RetV × Nat)

def isEnd : Exit → Bool
  | .normal => true
  | .ret => true
  | _ => false

def callF (T : Tbl) (run : ACode → AS → Option (Exit × AS)) : CallT := fun f args hp =>
  match T f with
  | some (c, rs, nt) => (run c ⟨args ++ List.replicate (nt - args.length) .junk, hp⟩).bind fun r => if isEnd r.1 && decide (hp.length ≤ r.2.hp.length) then (retV r.2 rs).map fun av => if keepV (fun id => decide (hp.length ≤ id)) av && (r.2.hp.take hp.length).all (keepO fun id => decide (hp.length ≤ id)) then (av, r.2.hp.take hp.length) else (av, r.2.hp) else none
  | none => none

def evC (G : Glob) (T : Tbl) : Nat → ACode → AS → Option (Exit × AS)
  | 0, _, _ => none
  | n + 1, c, st =>
    match c with
    | .skip => some (.normal, st)
    | .ret => some (.ret, st)
    | .exit id => some (.exit id, st)
    | .region ops => (evOps (callF T (evC G T n)) G ops st).map fun s => (.normal, s)
    | .drawn ops => (evD (callF T (evC G T n)) G ops st).map fun s => (.normal, s)
    | .seq a b => (evC G T n a st).bind fun r => match r.1 with
      | .normal => evC G T n b r.2
      | e => some (e, r.2)
    | .cond c a b => (asBool? (evA G st.sl c)).bind fun t => if t then evC G T n a st else evC G T n b st
    | .block id a => (evC G T n a st).map fun r => match r.1 with
      | .exit id' => if id' = id then (.normal, r.2) else (.exit id', r.2)
      | e => (e, r.2)
    | .loop a => (evC G T n a st).bind fun r => match r.1 with
      | .normal => evC G T n (.loop a) r.2
      | e => some (e, r.2)

end Go.Proofs.Ytginjcpblgpcoaa
