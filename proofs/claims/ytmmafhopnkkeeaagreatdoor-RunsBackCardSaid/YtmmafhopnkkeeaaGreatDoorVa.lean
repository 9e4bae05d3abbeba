/- The mathematics of runs. Conditions: none. -/
import Derived.Test.YtmmafhopnkkeeaaGreatDoorNf
namespace Go.Proofs.YtmmafhopnkkeeaaGreatDoor
set_option linter.unusedSimpArgs false
set_option linter.unusedVariables false
set_option maxRecDepth 4000
abbrev rn (s n:Int):AV:=.agg [.dc (ci s),.dc (ci n)]
structure Run where
 s:Int
 n:Int
def Run.e (r:Run):List DC:=[ci r.s,ci r.n]
abbrev Run.v (r:Run):AV:=rn r.s r.n
abbrev runsV (l:List Run):AV:=vl (l.map Run.e)
def lenR (l:List Run):Int:=(l.map Run.n).sum
theorem lenR_take (l:List Run) (k:Nat) (hk:k < l.length):lenR (l.take (k+1))=lenR (l.take k)+l[k].n:=by
 rw [List.take_succ_eq_append_getElem hk]
 simp only [lenR,List.map_append,List.sum_append,List.map_cons,List.map_nil,List.sum_cons,List.sum_nil,Int.add_zero]
theorem lenR_bound (l:List Run) (hb:∀ r∈l,0≤r.n∧r.n≤5000):0≤lenR l∧lenR l≤5000 * l.length:=by
 induction l with
 | nil=>simp [lenR]
 | cons r l ih=>
  have h1:=hb r List.mem_cons_self
  have h2:=ih (fun r hr=>hb r (List.mem_cons_of_mem _ hr))
  have e1:lenR (r::l)=r.n+lenR l:=by simp [lenR]
  simp only [List.length_cons]
  omega
def rangeE (s n:Int):Int:=if s=-1 then (if 1≤n∧n≤4096 then 0 else 2) else if 0≤s∧s≤511 then (if 1≤n∧n≤512 - s then 0 else 2) else 2
def firstE:List Int→Int
 | []=>0
 | e::l=>if e=0 then firstE l else e
theorem firstE_drop (l:List Int) (k:Nat) (h:∀ j,j < k→l.getD j 0=0):firstE l=firstE (l.drop k):=by
 induction k generalizing l with
 | zero=>rfl
 | succ k ih=>
  cases l with
  | nil=>rfl
  | cons e l=>
   have h0:e=0:=by simpa using h 0 (by omega)
   subst h0
   simp only [firstE,if_true,List.drop_succ_cons]
   exact ih l (fun j hj=>by simpa using h (j+1) (by omega))
def ci1 (e:Int):List DC:=[ci e]
abbrev el (l:List Int):List (List DC):=l.map ci1
def joinsB (a b:Run):Bool:=(decide (a.s=-1)==decide (b.s=-1))&&(decide (a.s=-1)||decide (a.s+a.n=b.s))
def bC (b:Bool):Cel:=rawC (.bool b)
abbrev bx (U:List Bool):AObj:=.box (U.map bC)
def setR (U:List Bool) (s:Nat):Nat→List Bool
 | 0=>U
 | k+1=>(setR U s k).set (s+k) true
def freshR (U:List Bool) (s k:Nat):Bool:=(List.range k).all fun j=>!(U.getD (s+j) false)
theorem setR_len (U:List Bool) (s k:Nat):(setR U s k).length=U.length:=by
 induction k with
 | zero=>rfl
 | succ k ih=>simp [setR,ih]
theorem setR_get (U:List Bool) (s k j:Nat) (h:s+k≤j):(setR U s k)[j]?=U[j]?:=by
 induction k with
 | zero=>rfl
 | succ k ih=>
  simp only [setR]
  rw [List.getElem?_set_ne (by omega)]
  exact ih (by omega)
theorem freshR_succ (U:List Bool) (s k:Nat):freshR U s (k+1)=(freshR U s k&&!(U.getD (s+k) false)):=by
 simp [freshR,List.range_succ]
theorem box_load (U:List Bool) (k:Nat) (b:Bool) (h:U[k]?=some b):((U.map bC).drop k).take 1=[bC b]:=by
 have hlt:k < U.length:=lt_of_get h
 have hb:U[k]=b:=by rw [List.getElem?_eq_getElem hlt] at h;exact Option.some.inj h
 rw [← List.map_drop,List.drop_eq_getElem_cons hlt,List.map_cons,hb]
 rfl
theorem box_put (U:List Bool) (k:Nat) (b:Bool) (h:k < U.length):putAt (U.map bC) k [bC b]=(U.set k b).map bC:=by
 unfold putAt
 apply List.ext_getElem?
 intro i
 simp only [List.map_set]
 rw [List.set_eq_take_append_cons_drop]
 simp [h]
theorem killM (p:Nat→Bool) (U:List Bool):(U.map bC).map (killC p)=U.map bC:=by
 rw [List.map_map];congr 1
def Run.into (r:Run) (U:List Bool):List Bool:=if r.s=-1 then U else setR U r.s.toNat r.n.toNat
def Run.fresh (r:Run) (U:List Bool):Bool:=if r.s=-1 then true else freshR U r.s.toNat r.n.toNat
def U0:List Bool:=List.replicate 512 false
def stepE (p:Option Run) (U:List Bool) (r:Run):Int:=if rangeE r.s r.n≠0 then rangeE r.s r.n else if (p.any fun q=>joinsB q r)=true then 3 else if r.fresh U then 0 else 23
def chkL (all:List Run):List Run→Option Run→List Bool→Nat→Int × Int
 | [],_,_,_=>(0,if lenR all≤4096 then 0 else 8)
 | r::rest,p,U,i=>if stepE p U r≠0 then ((i:Int),stepE p U r) else chkL all rest (some r) (r.into U) (i+1)
def chk (l:List Run):Int × Int:=if (l.length:Int) > 64 then (0,8) else chkL l l none U0 0
theorem rangeE_ok {r:Run} (h:rangeE r.s r.n=0):(r.s=-1∧1≤r.n∧r.n≤4096)∨∃ s n:Nat,r.s=s∧r.n=n∧s+n≤512∧1≤n:=by
 unfold rangeE at h
 split at h
 ·rename_i h1
  split at h
  ·rename_i h2;exact .inl ⟨h1,h2.1,h2.2⟩
  ·omega
 ·split at h
  ·rename_i h1 h2
   split at h
   ·rename_i h3
    exact .inr ⟨r.s.toNat,r.n.toNat,by omega,by omega,by omega,by omega⟩
   ·omega
  ·omega
theorem into_len (U:List Bool) (r:Run):(r.into U).length=U.length:=by
 unfold Run.into
 split
 ·rfl
 ·exact setR_len _ _ _
def Uk (l:List Run) (k:Nat):List Bool:=(l.take k).foldl (fun U r=>r.into U) U0
def prevK (l:List Run) (k:Nat):Option Run:=if k=0 then none else l[k - 1]?
theorem Uk_len (l:List Run) (k:Nat):(Uk l k).length=512:=by
 unfold Uk
 have:∀ (l:List Run) (U:List Bool),(l.foldl (fun U r=>r.into U) U).length=U.length:=by
  intro l
  induction l with
  | nil=>intro U;rfl
  | cons r l ih=>intro U;rw [List.foldl_cons,ih,into_len]
 rw [this];simp [U0]
theorem Uk_succ (l:List Run) (k:Nat) (h:k < l.length):Uk l (k+1)=l[k].into (Uk l k):=by
 unfold Uk
 rw [List.take_succ_eq_append_getElem h,List.foldl_append]
 rfl
theorem chkL_at {l:List Run} {p:Option Run} {U:List Bool} {k:Nat} (hk:k < l.length):chkL l (l.drop k) p U k=if stepE p U l[k]≠0 then ((k:Int),stepE p U l[k]) else chkL l (l.drop (k+1)) (some l[k]) (l[k].into U) (k+1):=by
 rw [List.drop_eq_getElem_cons hk,chkL]
theorem stepE_at {l:List Run} {k:Nat} (U:List Bool) (hk:k < l.length):stepE (prevK l k) U l[k]=if rangeE l[k].s l[k].n≠0 then rangeE l[k].s l[k].n else if 0 < k∧joinsB (l[k-1]'(by omega)) l[k]=true then 3 else if l[k].fresh U=true then 0 else 23:=by
 unfold stepE prevK
 by_cases h0:k=0
 ·simp [h0]
 ·have h1:l[k-1]?=some (l[k-1]'(by omega)):=List.getElem?_eq_getElem (by omega)
  have h2:0 < k:=by omega
  simp only [h0,if_false,h1,Option.any_some,h2,true_and]
theorem bd_of {r:Run} (h:rangeE r.s r.n=0):-9223372036854775808≤r.s+r.n∧r.s+r.n≤9223372036854775807:=by
 rcases rangeE_ok h with h | ⟨s,n,h⟩<;>omega
theorem bn_of {r:Run} (h:rangeE r.s r.n=0):0≤r.n∧r.n≤5000:=by
 rcases rangeE_ok h with h | ⟨s,n,h⟩<;>omega
theorem rg_le {l:List Run} {k:Nat} (hrg:∀ (j:Nat) r,j < k→l[j]?=some r→rangeE r.s r.n=0) (hk:k < l.length) (h:rangeE l[k].s l[k].n=0):∀ (j:Nat) r,j < k+1→l[j]?=some r→rangeE r.s r.n=0:=by
 intro j r hj hr
 rcases Nat.lt_or_ge j k with h1 | h1
 ·exact hrg j r h1 hr
 ·have:j=k:=by omega
  subst this
  rw [List.getElem?_eq_getElem hk] at hr;injection hr with hr;subst hr;exact h
theorem rg_all {l:List Run} (hrg:∀ (j:Nat) r,j < l.length→l[j]?=some r→rangeE r.s r.n=0):∀ r∈l,rangeE r.s r.n=0:=by
 intro r hr
 obtain ⟨j,hj⟩:=List.mem_iff_getElem?.1 hr
 exact hrg j r (lt_of_get hj) hj
def errsE (L:List (List Run)):Int:=firstE (L.map fun l=>(chk l).2)
def sharesB (a b:Run):Bool:=(a.s != -1)&&((b.s != -1)&&(decide (a.s < b.s+b.n)&&decide (b.s < a.s+a.n)))
def stepR (l:List Run) (k:Nat) (r:Run):Int:=if rangeE r.s r.n≠0 then 2 else if ((prevK l k).any fun q=>joinsB q r)=true then 3 else if ((l.take k).any fun q=>sharesB q r)=true then 23 else 0
def rchkL (all:List Run):List Run→Nat→Int × Int
 | [],_=>(0,if lenR all > 4096 then 8 else 0)
 | r::rest,k=>if stepR all k r≠0 then ((k:Int),stepR all k r) else rchkL all rest (k+1)
def rchk (l:List Run):Int × Int:=if (l.length:Int) > 64 then (0,8) else rchkL l l 0
theorem rchkL_at {l:List Run} {k:Nat} (hk:k < l.length):rchkL l (l.drop k) k=if stepR l k l[k]≠0 then ((k:Int),stepR l k l[k]) else rchkL l (l.drop (k+1)) (k+1):=by
 rw [List.drop_eq_getElem_cons hk,rchkL]
theorem stepR_at {l:List Run} {k:Nat} (hk:k < l.length):stepR l k l[k]=if rangeE l[k].s l[k].n≠0 then 2 else if 0 < k∧joinsB (l[k-1]'(by omega)) l[k]=true then 3 else if ((l.take k).any fun q=>sharesB q l[k])=true then 23 else 0:=by
 unfold stepR prevK
 by_cases h0:k=0
 ·simp [h0]
 ·have h1:l[k-1]?=some (l[k-1]'(by omega)):=List.getElem?_eq_getElem (by omega)
  have h2:0 < k:=by omega
  simp only [h0,if_false,h1,Option.any_some,h2,true_and]
theorem rE_n {r:Run} (h:rangeE r.s r.n=0):1≤r.n∧r.n≤4096∧-1≤r.s∧r.s≤511:=by
 rcases rangeE_ok h with h | ⟨s,n,h⟩<;>omega
theorem lenT {l:List Run} {k:Nat} (hl:l.length≤1000) (hr:∀ r∈l,rangeE r.s r.n=0):0≤lenR (l.take k)∧lenR (l.take k)≤5000000:=by
 have h:=lenR_bound (l.take k) (fun r h=>bn_of (hr r (List.mem_of_mem_take h)))
 have:(l.take k).length≤1000:=by simp;omega
 omega
theorem lenR_all (l:List Run):lenR (l.take l.length)=lenR l:=by rw [List.take_length]
instance:DecidableEq Run:=fun a b=>decidable_of_iff (a.s=b.s∧a.n=b.n) ⟨fun h=>by cases a;cases b;simp_all,fun h=>by subst h;exact ⟨rfl,rfl⟩⟩
theorem run_eq {a b:Run}:a=b↔a.s=b.s∧a.n=b.n:=⟨fun h=>by subst h;exact ⟨rfl,rfl⟩,fun h=>by cases a;cases b;simp_all⟩
theorem chkL_rg {all:List Run}:∀ {l:List Run} {p:Option Run} {U:List Bool} {i:Nat},(chkL all l p U i).2=0→∀ r∈l,rangeE r.s r.n=0
 | [],_,_,_,_,r,hr=>by cases hr
 | r0::l,p,U,i,h,r,hr=>by
  rw [chkL] at h
  split at h
  ·rename_i h1;exact absurd h h1
  ·rename_i h1
   rcases List.mem_cons.1 hr with rfl | hr
   ·have h2:stepE p U r=0:=by omega
    unfold stepE at h2
    split at h2
    ·exact h2
    ·rename_i h3;omega
   ·exact chkL_rg h r hr
theorem chk_rg {l:List Run} (h:(chk l).2=0):∀ r∈l,rangeE r.s r.n=0:=by
 unfold chk at h
 split at h
 ·cases h
 ·exact chkL_rg h
theorem chk_len {l:List Run} (h:(chk l).2=0):l.length≤64:=by
 unfold chk at h
 split at h
 ·cases h
 ·omega
def addR (R:List Run) (r:Run):List Run:=
 match R.getLast? with
 | some q=>if joinsB q r then R.dropLast++[⟨q.s,q.n+r.n⟩] else R++[r]
 | none=>[r]
theorem addR_nil (r:Run):addR [] r=[r]:=rfl
theorem addR_snoc (R:List Run) (q r:Run):addR (R++[q]) r=if joinsB q r then R++[⟨q.s,q.n+r.n⟩] else R++[q]++[r]:=by simp [addR]
structure Good (R:List Run):Prop where
 el:∀ q∈R,-1≤q.s∧q.s≤1000∧0≤q.n
 sum:lenR R≤1000000000
 len:R.length≤1000000
theorem lenR_app (a b:List Run):lenR (a++b)=lenR a+lenR b:=by simp [lenR]
theorem lenR_nonneg (R:List Run) (h:∀ q∈R,0≤q.n):0≤lenR R:=by
 induction R with
 | nil=>simp [lenR]
 | cons r l ih=>
  have h1:=h r List.mem_cons_self
  have h2:=ih (fun r hr=>h r (List.mem_cons_of_mem _ hr))
  have e1:lenR (r::l)=r.n+lenR l:=by simp [lenR]
  omega
theorem Good.last {R:List Run} {q:Run} (h:Good (R++[q])):-1≤q.s∧q.s≤1000∧0≤q.n∧q.n≤1000000000:=by
 have h1:=h.el q (by simp)
 have h2:=h.sum
 have h3:=lenR_nonneg R (fun q hq=>(h.el q (by simp [hq])).2.2)
 rw [lenR_app] at h2
 have h4:lenR [q]=q.n:=by simp [lenR]
 omega
theorem addR_len (R:List Run) (r:Run):lenR (addR R r)=lenR R+r.n:=by
 rcases List.eq_nil_or_concat R with rfl | ⟨R',q,rfl⟩
 ·simp [addR,lenR]
 ·rw [List.concat_eq_append,addR_snoc]
  split
  ·simp [lenR_app,lenR];omega
  ·simp [lenR_app,lenR];omega
def intoL (U:List Bool) (l:List Run):List Bool:=l.foldl (fun U r=>r.into U) U
theorem intoL_len (U:List Bool) (l:List Run):(intoL U l).length=U.length:=by
 induction l generalizing U with
 | nil=>rfl
 | cons r l ih=>show (intoL (r.into U) l).length=_;rw [ih,into_len]
theorem intoL_take (U:List Bool) (l:List Run) (k:Nat) (h:k < l.length):intoL U (l.take (k+1))=l[k].into (intoL U (l.take k)):=by
 rw [List.take_succ_eq_append_getElem h,intoL,List.foldl_append];rfl
def exR (U:List Bool):Nat→List Run
 | 0=>[]
 | k+1=>if U.getD k false then addR (exR U k) ⟨k,1⟩ else exR U k
theorem addR_mem {R:List Run} {r:Run} (hr:-1≤r.s∧r.s≤1000∧0≤r.n) (h:∀ q∈R,-1≤q.s∧q.s≤1000∧0≤q.n):∀ q∈addR R r,-1≤q.s∧q.s≤1000∧0≤q.n:=by
 rcases List.eq_nil_or_concat R with rfl | ⟨R',q,rfl⟩
 ·rw [addR_nil];simpa using hr
 ·rw [List.concat_eq_append] at *
  rw [addR_snoc]
  have hq:=h q (by simp)
  intro p hp
  split at hp
  ·rcases List.mem_append.1 hp with h1 | h1
   ·exact h p (by simp [h1])
   ·have:p=⟨q.s,q.n+r.n⟩:=by simpa using h1
    subst this;simp only;omega
  ·rcases List.mem_append.1 hp with h1 | h1
   ·exact h p h1
   ·have:p=r:=by simpa using h1
    subst this;exact hr
theorem addR_length (R:List Run) (r:Run):(addR R r).length≤R.length+1:=by
 rcases List.eq_nil_or_concat R with rfl | ⟨R',q,rfl⟩
 ·simp [addR]
 ·rw [List.concat_eq_append,addR_snoc];split<;>simp
theorem exR_good (U:List Bool) (k:Nat) (hk:k≤512):Good (exR U k):=by
 have h:(∀ q∈exR U k,-1≤q.s∧q.s≤1000∧0≤q.n)∧lenR (exR U k)≤k∧(exR U k).length≤k:=by
  induction k with
  | zero=>simp [exR,lenR]
  | succ k ih=>
   obtain ⟨h1,h2,h3⟩:=ih (by omega)
   unfold exR
   split
   ·refine ⟨addR_mem (by simp only;omega) h1, ?_, ?_⟩
    ·rw [addR_len];simp only;omega
    ·have:=addR_length (exR U k) ⟨k,1⟩;omega
   ·exact ⟨h1,by omega,by omega⟩
 exact ⟨h.1,by omega,by omega⟩
def lessR (U V:List Bool):Nat→List Bool
 | 0=>U
 | k+1=>(lessR U V k).set k (U.getD k false&&!(V.getD k false))
theorem lessR_len (U V:List Bool) (k:Nat):(lessR U V k).length=U.length:=by
 induction k with
 | zero=>rfl
 | succ k ih=>simp [lessR,ih]
theorem lessR_get (U V:List Bool) (k j:Nat) (h:k≤j):(lessR U V k).getD j false=U.getD j false:=by
 induction k with
 | zero=>rfl
 | succ k ih=>
  simp only [lessR,List.getD_eq_getElem?_getD]
  rw [List.getElem?_set_ne (by omega)]
  simpa [List.getD_eq_getElem?_getD] using ih (by omega)
def freedV (a b:List Run):List Run × Int:=if errsE [a,b]≠0 then ([],errsE [a,b]) else (exR (lessR (intoL U0 a) (intoL U0 b) 512) 512,0)
def Run.has (r:Run) (c:Nat):Bool:=decide (r.s≠-1∧r.s≤c∧(c:Int) < r.s+r.n)
theorem setR_getD (U:List Bool) (s n c:Nat) (h:s+n≤U.length):(setR U s n).getD c false=(U.getD c false||decide (s≤c∧c < s+n)):=by
 induction n with
 | zero=>simp [setR];omega
 | succ n ih=>
  have ih:=ih (by omega)
  simp only [setR,List.getD_eq_getElem?_getD] at ih ⊢
  by_cases hc:s+n=c
  ·subst hc
   rw [List.getElem?_set_self (by rw [setR_len];omega)]
   simp
  ·rw [List.getElem?_set_ne hc,ih]
   congr 1
   apply decide_eq_decide.2
   omega
theorem into_getD (U:List Bool) (r:Run) (hU:U.length=512) (h:rangeE r.s r.n=0) (c:Nat):(r.into U).getD c false=(U.getD c false||r.has c):=by
 rcases rangeE_ok h with ⟨h1,_⟩ | ⟨s,n,h1,h2,h3,h4⟩
 ·simp [Run.into,Run.has,h1]
 ·have hne:¬ r.s=-1:=by omega
  have e1:r.s.toNat=s:=by omega
  have e2:r.n.toNat=n:=by omega
  rw [Run.into,if_neg hne,e1,e2,setR_getD U s n c (by omega),Run.has]
  congr 1
  apply decide_eq_decide.2
  omega
theorem intoL_getD (U:List Bool) (l:List Run) (hU:U.length=512) (h:∀ r∈l,rangeE r.s r.n=0) (c:Nat):(intoL U l).getD c false=(U.getD c false||l.any fun r=>r.has c):=by
 induction l generalizing U with
 | nil=>simp [intoL]
 | cons r l ih=>
  show (intoL (r.into U) l).getD c false=_
  rw [ih (r.into U) (by rw [into_len,hU]) (fun r hr=>h r (List.mem_cons_of_mem _ hr)),into_getD U r hU (h r List.mem_cons_self),List.any_cons,Bool.or_assoc]
theorem U0_len:U0.length=512:=List.length_replicate
theorem U0_getD (c:Nat):U0.getD c false=false:=by
 simp only [U0,List.getD_eq_getElem?_getD,List.getElem?_replicate]
 split<;>rfl
theorem shares_has (q r:Run) (hq:rangeE q.s q.n=0) (hr:rangeE r.s r.n=0):sharesB q r=true↔∃ c,q.has c=true∧r.has c=true:=by
 have h1:=rE_n hq
 have h2:=rE_n hr
 simp only [sharesB,Run.has,Bool.and_eq_true,bne_iff_ne,decide_eq_true_eq,ne_eq]
 constructor
 ·rintro ⟨a1,a2,a3,a4⟩
  by_cases h:q.s≤r.s
  ·exact ⟨r.s.toNat,by omega,by omega⟩
  ·exact ⟨q.s.toNat,by omega,by omega⟩
 ·rintro ⟨c,b1,b2⟩
  omega
theorem fresh_has (U:List Bool) (r:Run) (h:rangeE r.s r.n=0):r.fresh U=true↔∀ c,r.has c=true→U.getD c false=false:=by
 rcases rangeE_ok h with ⟨h1,_⟩ | ⟨s,n,h1,h2,h3,h4⟩
 ·simp [Run.fresh,Run.has,h1]
 ·have hne:¬ r.s=-1:=by omega
  have e1:r.s.toNat=s:=by omega
  have e2:r.n.toNat=n:=by omega
  rw [Run.fresh,if_neg hne,e1,e2,freshR,List.all_eq_true]
  simp only [List.mem_range,Bool.not_eq_true',Run.has,decide_eq_true_eq]
  constructor
  ·intro hh c hc
   have:=hh (c - s) (by omega)
   rw [show s+(c - s)=c by omega] at this
   exact this
  ·intro hh j hj
   exact hh (s+j) (by omega)
theorem fresh_shares (l:List Run) (r:Run) (hl:∀ q∈l,rangeE q.s q.n=0) (h:rangeE r.s r.n=0):r.fresh (intoL U0 l)=!(l.any fun q=>sharesB q r):=by
 rw [Bool.eq_iff_iff,fresh_has _ _ h,Bool.not_eq_true',List.any_eq_false]
 constructor
 ·intro hh q hq hs
  obtain ⟨c,h1,h2⟩:=(shares_has q r (hl q hq) h).1 hs
  have h3:=hh c h2
  rw [intoL_getD U0 l U0_len hl,U0_getD,Bool.false_or,List.any_eq_false] at h3
  exact h3 q hq h1
 ·intro hh c hc
  rw [intoL_getD U0 l U0_len hl,U0_getD,Bool.false_or,List.any_eq_false]
  intro q hq h1
  exact hh q hq ((shares_has q r (hl q hq) h).2 ⟨c,h1,hc⟩)
theorem rangeE_two (s n:Int):rangeE s n=0∨rangeE s n=2:=by
 unfold rangeE
 split<;>split<;>(try split)<;>omega
theorem step_eq {l:List Run} {k:Nat} (hk:k < l.length) (h:∀ (j:Nat) r,j < k→l[j]?=some r→rangeE r.s r.n=0):stepE (prevK l k) (intoL U0 (l.take k)) l[k]=stepR l k l[k]:=by
 unfold stepE stepR
 rcases rangeE_two l[k].s l[k].n with h0 | h0
 ·simp only [h0,ne_eq,not_true_eq_false,if_false]
  have hl:∀ q∈l.take k,rangeE q.s q.n=0:=by
   intro q hq
   obtain ⟨j,hj⟩:=List.mem_iff_getElem?.1 hq
   rw [List.getElem?_take] at hj
   split at hj
   ·exact h j q (by assumption) hj
   ·cases hj
  rw [fresh_shares _ _ hl h0]
  split
  ·rfl
  ·cases (l.take k).any fun q=>sharesB q l[k]<;>rfl
 ·simp [h0]
theorem chkL_eq (l:List Run):∀ (n k:Nat),n=l.length - k→k≤l.length→(∀ (j:Nat) r,j < k→l[j]?=some r→rangeE r.s r.n=0)→chkL l (l.drop k) (prevK l k) (intoL U0 (l.take k)) k=rchkL l (l.drop k) k:=by
 intro n
 induction n with
 | zero=>
  intro k h1 h2 _
  have:l.drop k=[]:=List.drop_of_length_le (by omega)
  rw [this,chkL,rchkL]
  by_cases h:lenR l≤4096
  ·rw [if_pos h,if_neg (by omega)]
  ·rw [if_neg h,if_pos (by omega)]
 | succ n ih=>
  intro k h1 h2 h3
  have hk:k < l.length:=by omega
  rw [rchkL_at hk,List.drop_eq_getElem_cons hk,chkL,step_eq hk h3]
  split
  ·rfl
  ·rename_i h0
   have h0:stepR l k l[k]=0:=by omega
   have hr:rangeE l[k].s l[k].n=0:=by
    unfold stepR at h0
    rcases rangeE_two l[k].s l[k].n with h | h
    ·exact h
    ·simp [h] at h0
   have:=ih (k+1) (by omega) (by omega) (rg_le h3 hk hr)
   rw [← this,intoL_take U0 l k hk]
   congr 1
   simp [prevK,List.getElem?_eq_getElem hk]
theorem chk_eq (l:List Run):chk l=rchk l:=by
 unfold chk rchk
 split
 ·rfl
 ·have:=chkL_eq l l.length 0 (by omega) (by omega) (fun j r h=>by omega)
  simpa [prevK,intoL] using this
def lenW (l:List Run):Int:=l.foldl (fun n r=>IntKind.i64.wrap (n+r.n)) 0
theorem lenW_take (l:List Run) (k:Nat) (h:k < l.length):lenW (l.take (k+1))=IntKind.i64.wrap (lenW (l.take k)+l[k].n):=by
 rw [List.take_succ_eq_append_getElem h,lenW,List.foldl_append];rfl
theorem lenW_eq (l:List Run) (h:∀ r∈l,0≤r.n) (hs:lenR l≤1000000000000):lenW l=lenR l:=by
 have key:∀ (l:List Run) (n:Int),0≤n→(∀ r∈l,0≤r.n)→n+lenR l≤1000000000000→l.foldl (fun n r=>IntKind.i64.wrap (n+r.n)) n=n+lenR l:=by
  intro l
  induction l with
  | nil=>intro n _ _ _;simp [lenR]
  | cons r l ih=>
   intro n hn h hs
   have h1:=h r List.mem_cons_self
   have e1:lenR (r::l)=r.n+lenR l:=by simp [lenR]
   have h2:=lenR_nonneg l (fun r hr=>h r (List.mem_cons_of_mem _ hr))
   rw [List.foldl_cons,wrap64 (by omega),ih (n+r.n) (by omega) (fun r hr=>h r (List.mem_cons_of_mem _ hr)) (by omega)]
   omega
 have:=key l 0 (by omega) h (by omega)
 simpa [lenW] using this
def addL (R l:List Run):List Run:=l.foldl addR R
theorem addL_take (R l:List Run) (k:Nat) (h:k < l.length):addL R (l.take (k+1))=addR (addL R (l.take k)) l[k]:=by
 rw [List.take_succ_eq_append_getElem h,addL,List.foldl_append];rfl
structure Fine (l:List Run):Prop where
 el:∀ q∈l,-1≤q.s∧q.s≤1000∧0≤q.n
 sum:lenR l≤100000000
 len:l.length≤100000
theorem addL_good {R l:List Run} (hR:∀ q∈R,-1≤q.s∧q.s≤1000∧0≤q.n) (hl:∀ q∈l,-1≤q.s∧q.s≤1000∧0≤q.n):
  (∀ q∈addL R l,-1≤q.s∧q.s≤1000∧0≤q.n)∧lenR (addL R l)=lenR R+lenR l∧(addL R l).length≤R.length+l.length:=by
 induction l generalizing R with
 | nil=>exact ⟨hR,by simp [addL,lenR],by simp [addL]⟩
 | cons r l ih=>
  have h1:=hl r List.mem_cons_self
  obtain ⟨a,b,c⟩:=ih (R:=addR R r) (addR_mem h1 hR) (fun q hq=>hl q (List.mem_cons_of_mem _ hq))
  have e1:lenR (r::l)=r.n+lenR l:=by simp [lenR]
  have h2:=addR_length R r
  refine ⟨a, ?_, ?_⟩
  ·show lenR (addL (addR R r) l)=_
   rw [b,addR_len,e1];omega
  ·show (addL (addR R r) l).length≤_
   simp only [List.length_cons];omega
theorem lenR_le_take (l:List Run) (k:Nat) (h:∀ r∈l,0≤r.n):lenR (l.take k)≤lenR l:=by
 have h2:lenR l=lenR (l.take k)+lenR (l.drop k):=by rw [← lenR_app,List.take_append_drop]
 have:=lenR_nonneg (l.drop k) (fun r hr=>h r (List.mem_of_mem_drop hr))
 omega
theorem Fine.n_le {l:List Run} (h:Fine l) {r:Run} (hr:r∈l):r.n≤100000000:=by
 obtain ⟨i,hi,rfl⟩:=List.mem_iff_getElem.1 hr
 have h1:=lenR_take l i hi
 have h2:=lenR_le_take l (i+1) (fun r hr=>(h.el r hr).2.2)
 have h3:=lenR_nonneg (l.take i) (fun r hr=>(h.el r (List.mem_of_mem_take hr)).2.2)
 have:=h.sum
 omega
theorem addL_goodK {R l:List Run} (hR:Fine R) (hl:Fine l) (k:Nat):Good (addL R (l.take k)):=by
 obtain ⟨a,b,c⟩:=addL_good hR.el (l:=l.take k) (fun q hq=>hl.el q (List.mem_of_mem_take hq))
 have h1:=lenR_le_take l k (fun r hr=>(hl.el r hr).2.2)
 have h2:=hR.sum
 have h3:=hl.sum
 have h4:=hR.len
 have h5:=hl.len
 have h6:(l.take k).length≤l.length:=by simp;omega
 exact ⟨a,by omega,by omega⟩
theorem Fine.nil:Fine []:=⟨by simp,by simp [lenR],by simp⟩
theorem snoc_facts {R:List Run} (h:R≠[]):∃ R' q,R=R'++[q]∧R[R.length - 1]?=some q∧0 < R.length∧∀ n:Int,(R.map Run.e).set (R.length - 1) [.raw (.int .i64 q.s),.raw (.int .i64 n)]=(R'++[(⟨q.s,n⟩:Run)]).map Run.e:=by
 rcases List.eq_nil_or_concat R with h0 | ⟨R',q,rfl⟩
 ·exact absurd h0 h
 ·rw [List.concat_eq_append]
  refine ⟨R',q,rfl,by simp,by simp,fun n=>by simp [Run.e,ci]⟩
def pst (s:Int × Int × List Run) (r:Run):Int × Int × List Run:=
 let k:=if r.n < s.1 then r.n else s.1
 let n:=if r.n - k < s.2.1 then r.n - k else s.2.1
 (s.1 - k,s.2.1 - n,if n=0 then s.2.2 else s.2.2++[⟨if r.s=-1 then -1 else r.s+k,n⟩])
def partK (l:List Run) (a c:Int) (k:Nat):Int × Int × List Run:=(l.take k).foldl pst (a,c,[])
def partR (l:List Run) (a c:Int):List Run:=(l.foldl pst (a,c,[])).2.2
theorem partK_succ (l:List Run) (a c:Int) (k:Nat) (h:k < l.length):partK l a c (k+1)=pst (partK l a c k) l[k]:=by
 rw [partK,List.take_succ_eq_append_getElem h,List.foldl_append];rfl
theorem partK_ok (l:List Run) (a c:Int) (ha:0≤a) (hc:0≤c) (hl:∀ r∈l,0≤r.n) (k:Nat) (hk:k≤l.length):0≤(partK l a c k).1∧(partK l a c k).1≤a∧0≤(partK l a c k).2.1∧(partK l a c k).2.1≤c∧(partK l a c k).2.2.length≤k:=by
 induction k with
 | zero=>simp [partK];omega
 | succ k ih=>
  obtain ⟨h1,h2,h3,h4,h5⟩:=ih (by omega)
  have hn:=hl l[k] (List.getElem_mem (by omega))
  rw [partK_succ l a c k (by omega)]
  generalize partK l a c k=s at h1 h2 h3 h4 h5
  simp only [pst]
  refine ⟨?_, ?_, ?_, ?_, ?_⟩
  ·split<;>omega
  ·split<;>omega
  ·split<;>split<;>omega
  ·split<;>split<;>omega
  ·have key:∀ (p:Prop) [Decidable p] (x:Run),(if p then s.2.2 else s.2.2++[x]).length≤s.2.2.length+1:=by intro p _ x;split<;>simp
   exact Nat.le_trans (key _ _) (by omega)
def Vol (r:Run):Prop:=(r.s=-1∧0≤r.n)∨(0≤r.s∧1≤r.n∧r.s+r.n≤512)
def frK (R:List Run):Nat→Bool
 | 0=>true
 | k+1=>(R.getD k ⟨0,0⟩).fresh (intoL U0 (R.take k))&&frK R k
theorem frK_succ (R:List Run) (k:Nat) (hk:k < R.length):frK R (k+1)=(R[k].fresh (intoL U0 (R.take k))&&frK R k):=by
 rw [frK,show R.getD k ⟨0,0⟩=R[k] by simp [List.getD_eq_getElem?_getD,List.getElem?_eq_getElem hk]]
def doneE (R:List Run):Int:=firstE [if frK R R.length then 0 else 23,if lenW R≤4096∧(R.length:Int)≤64 then 0 else 8]
def madeV (L:List (List Run)):List Run × Int:=if doneE (addL [] L.flatten)=0 then (addL [] L.flatten,0) else ([],doneE (addL [] L.flatten))
theorem addL_app (R a b:List Run):addL R (a++b)=addL (addL R a) b:=by simp [addL]
theorem Fine.flat {L:List (List Run)} (h:Fine L.flatten):∀ l∈L,Fine l:=by
 intro l hl
 have hm:∀ q∈l,q∈L.flatten:=fun q hq=>List.mem_flatten.2 ⟨l,hl,hq⟩
 obtain ⟨s,t,rfl⟩:=List.append_of_mem hl
 have e:(s++l::t).flatten=s.flatten++(l++t.flatten):=by simp
 have h1:=h.sum
 have h2:=h.len
 rw [e] at h1 h2
 rw [lenR_app,lenR_app] at h1
 simp only [List.length_append] at h2
 have h3:=lenR_nonneg s.flatten (fun q hq=>(h.el q (by rw [e];exact List.mem_append_left _ hq)).2.2)
 have h4:=lenR_nonneg t.flatten (fun q hq=>(h.el q (by rw [e];exact List.mem_append_right _ (List.mem_append_right _ hq))).2.2)
 exact ⟨fun q hq=>h.el q (hm q hq),by omega,by omega⟩
theorem Fine.add {l:List Run} (h:Fine l):Fine (addL [] l):=by
 obtain ⟨a,b,c⟩:=addL_good (R:=[]) (by simp) h.el
 have:=h.sum
 have:=h.len
 simp only [lenR,List.map_nil,List.sum_nil,List.length_nil] at b c
 exact ⟨a,by simp only [lenR] at *;omega,by omega⟩
theorem Fine.take {l:List Run} (h:Fine l) (k:Nat):Fine (l.take k):=⟨fun q hq=>h.el q (List.mem_of_mem_take hq),by have:=lenR_le_take l k (fun r hr=>(h.el r hr).2.2);have:=h.sum;omega,by have:=h.len;simp;omega⟩
theorem flat_take {L:List (List Run)} (k:Nat):∃ n,(L.take k).flatten=L.flatten.take n:=by
 refine ⟨(L.take k).flatten.length, ?_⟩
 conv=>rhs;rw [← List.take_append_drop k L,List.flatten_append]
 simp
theorem lenC {l:List Run} (h:(chk l).2=0):0≤lenR l∧lenR l≤4096:=by
 have h1:=chk_rg h
 have h2:=chk_len h
 refine ⟨lenR_nonneg l (fun r hr=>(bn_of (h1 r hr)).1), ?_⟩
 have key:∀ (all l:List Run) p U i,(chkL all l p U i).2=0→lenR all≤4096:=by
  intro all l
  induction l with
  | nil=>intro p U i h;rw [chkL] at h;simp only at h;split at h<;>first | assumption | omega
  | cons r l ih=>
   intro p U i h
   rw [chkL] at h
   split at h
   ·rename_i h1;exact absurd h h1
   ·exact ih _ _ _ h
 unfold chk at h
 split at h
 ·cases h
 ·exact key _ _ _ _ _ h
def cutE (l:List Run) (a c:Int):Int:=firstE [errsE [l],if (0≤a∧a≤4096)∧0≤c∧c≤4096 then 0 else 2,if a≤IntKind.i64.wrap (lenW l - c) then 0 else 37]
theorem chk_fine {l:List Run} (h:(chk l).2=0):Fine l:=by
 have h1:=chk_rg h
 have h2:=chk_len h
 have h3:=lenC h
 exact ⟨fun q hq=>by have:=rE_n (h1 q hq);omega,by omega,by omega⟩
theorem errs1 (l:List Run):errsE [l]=(chk l).2:=by
 simp only [errsE,List.map_cons,List.map_nil,firstE];split<;>simp_all
theorem errs2 (a b:List Run):errsE [a,b]=if (chk a).2=0 then (chk b).2 else (chk a).2:=by
 simp only [errsE,List.map_cons,List.map_nil,firstE];split<;>(try split)<;>simp_all
def cutV (l:List Run) (a c:Int):List Run × Int:=if cutE l a c≠0 then ([],cutE l a c) else madeV [partR l a c]
theorem cutE_ok {l:List Run} {a c:Int} (h:cutE l a c=0):(chk l).2=0∧(0≤a∧a≤4096)∧(0≤c∧c≤4096)∧a+c≤lenR l:=by
 simp only [cutE,errs1,firstE] at h
 have h1:(chk l).2=0:=by
  by_cases h1:(chk l).2=0
  ·exact h1
  ·rw [if_neg h1] at h;exact absurd h h1
 have hb:=lenC h1
 have hF:=chk_fine h1
 have hw:lenW l=lenR l:=lenW_eq l (fun r hr=>(hF.el r hr).2.2) (by omega)
 by_cases h2:(0≤a∧a≤4096)∧0≤c∧c≤4096
 ·simp only [h1,h2,if_true,and_self,hw] at h
  rw [wrap64 (by omega)] at h
  by_cases h3:a≤lenR l - c
  ·exact ⟨h1,h2.1,h2.2,by omega⟩
  ·simp [h3] at h
 ·simp [h1,h2] at h
theorem partK_el (l:List Run) (a c:Int) (ha:0≤a) (hc:0≤c) (hl:∀ r∈l,Vol r∧r.s≤1000) (k:Nat) (hk:k≤l.length):(∀ q∈(partK l a c k).2.2,Vol q∧1≤q.n∧q.s≤1000)∧lenR (partK l a c k).2.2=c - (partK l a c k).2.1:=by
 induction k with
 | zero=>simp [partK,lenR]
 | succ k ih=>
  obtain ⟨i1,i2⟩:=ih (by omega)
  obtain ⟨h1,h2,h3,h4,h5⟩:=partK_ok l a c ha hc (fun r hr=>by rcases (hl r hr).1 with h | h<;>omega) k (by omega)
  obtain ⟨hv,hs⟩:=hl l[k] (List.getElem_mem (by omega))
  rw [partK_succ l a c k (by omega)]
  rcases hs2:partK l a c k with ⟨s1,s2,R⟩
  rw [hs2] at h1 h2 h3 h4 h5 i1 i2
  simp only at h1 h2 h3 h4 h5 i1 i2
  have hn:0≤l[k].n:=by rcases hv with h | h<;>omega
  simp only [pst]
  generalize hkk:(if l[k].n < s1 then l[k].n else s1)=kk
  have k1:0≤kk∧kk≤l[k].n:=by rw [← hkk];split<;>omega
  generalize hnn:(if l[k].n - kk < s2 then l[k].n - kk else s2)=nn
  have n1:0≤nn∧nn≤l[k].n - kk:=by rw [← hnn];split<;>omega
  by_cases h0:nn=0
  ·simp only [h0,if_true]
   exact ⟨i1,by omega⟩
  ·simp only [h0,if_false]
   refine ⟨fun q hq=>?_, ?_⟩
   ·rcases List.mem_append.1 hq with hq | hq
    ·exact i1 q hq
    ·have:q=⟨if l[k].s=-1 then -1 else l[k].s+kk,nn⟩:=by simpa using hq
     subst this
     by_cases h6:l[k].s=-1
     ·rw [if_pos h6]
      exact ⟨.inl ⟨rfl,by show 0≤nn;omega⟩,by show 1≤nn;omega,by show (-1:Int)≤1000;omega⟩
     ·rw [if_neg h6]
      rcases hv with hv | hv
      ·exact absurd hv.1 h6
      ·exact ⟨.inr ⟨by show 0≤l[k].s+kk;omega,by show 1≤nn;omega,by show l[k].s+kk+nn≤512;omega⟩,by show 1≤nn;omega,by show l[k].s+kk≤1000;omega⟩
   ·have e1:lenR [(⟨if l[k].s=-1 then -1 else l[k].s+kk,nn⟩:Run)]=nn:=by simp [lenR]
    rw [lenR_app,i2,e1];omega
theorem partR_eq (l:List Run) (a c:Int):partR l a c=(partK l a c l.length).2.2:=by rw [partK,List.take_length];rfl
theorem chk_vol {l:List Run} (h:(chk l).2=0):∀ r∈l,Vol r∧r.s≤1000:=by
 intro r hr
 rcases rangeE_ok (chk_rg h r hr) with ⟨h1,h2,h3⟩ | ⟨s,n,h1,h2,h3,h4⟩
 ·exact ⟨.inl ⟨h1,by omega⟩,by omega⟩
 ·exact ⟨.inr ⟨by omega,by omega,by omega⟩,by omega⟩
theorem part_all {l:List Run} (h:(chk l).2=0) {a c:Int} (ha:0≤a) (hc:0≤c):(∀ q∈partR l a c,Vol q∧1≤q.n∧q.s≤1000)∧lenR (partR l a c)≤c∧(partR l a c).length≤l.length:=by
 rw [partR_eq]
 obtain ⟨h1,h2⟩:=partK_el l a c ha hc (chk_vol h) l.length (Nat.le_refl _)
 obtain ⟨_,_,h3,_,h5⟩:=partK_ok l a c ha hc (fun r hr=>by rcases (chk_vol h r hr).1 with h | h<;>omega) l.length (Nat.le_refl _)
 exact ⟨h1,by omega,h5⟩
theorem part_fine {l:List Run} (h:(chk l).2=0) {a c:Int} (ha:0≤a) (hc:0≤c∧c≤1000000):Fine (partR l a c):=by
 obtain ⟨h1,h2,h3⟩:=part_all h ha hc.1
 have:=chk_len h
 exact ⟨fun q hq=>by rcases (h1 q hq).1 with h | h<;>have:=(h1 q hq).2<;>omega,by omega,by omega⟩
theorem joins_at {q r:Run} (h:joinsB q r=true):(q.s=-1∧r.s=-1)∨(q.s≠-1∧r.s≠-1∧q.s+q.n=r.s):=by
 unfold joinsB at h
 by_cases h1:q.s=-1<;>by_cases h2:r.s=-1<;>simp [h1,h2] at h ⊢
 omega
theorem addR_vol {R:List Run} {r:Run} (hR:∀ q∈R,Vol q) (hr:Vol r):∀ q∈addR R r,Vol q:=by
 rcases List.eq_nil_or_concat R with rfl | ⟨R',q,rfl⟩
 ·rw [addR_nil];simpa using hr
 ·rw [List.concat_eq_append] at *
  rw [addR_snoc]
  have hq:=hR q (by simp)
  intro p hp
  split at hp
  ·rcases List.mem_append.1 hp with h1 | h1
   ·exact hR p (by simp [h1])
   ·have:p=⟨q.s,q.n+r.n⟩:=by simpa using h1
    subst this
    rename_i hj
    unfold Vol at hq hr ⊢
    rcases joins_at hj with h | h<;>simp only<;>omega
  ·rcases List.mem_append.1 hp with h1 | h1
   ·exact hR p h1
   ·have:p=r:=by simpa using h1
    subst this;exact hr
theorem addL_vol {l:List Run}:∀ {R:List Run},(∀ q∈R,Vol q)→(∀ q∈l,Vol q)→∀ q∈addL R l,Vol q:=by
 induction l with
 | nil=>intro R hR _;exact hR
 | cons r l ih=>intro R hR hl;exact ih (R:=addR R r) (addR_vol hR (hl r List.mem_cons_self)) (fun q hq=>hl q (List.mem_cons_of_mem _ hq))
end Go.Proofs.YtmmafhopnkkeeaaGreatDoor
