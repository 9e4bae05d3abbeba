/- The reference's checks. Conditions: none. -/
import Derived.Test.YtcplecjhmnblpaaGreatDoorTa
import Derived.Test.YtcplecjhmnblpaaGreatDoorCb
namespace Go.Proofs.YtcplecjhmnblpaaGreatDoor
set_option linter.unusedSimpArgs false
set_option linter.unusedVariables false
set_option maxRecDepth 4000
section
abbrev rn (s n:Int):AV:=.agg [.dc (ci s),.dc (ci n)]
structure Run where
 s:Int
 n:Int
def Run.e (r:Run):List DC:=[ci r.s,ci r.n]
abbrev Run.v (r:Run):AV:=rn r.s r.n
abbrev runsV (l:List Run):AV:=vl (l.map Run.e)
def lenR (l:List Run):Int:=(l.map Run.n).sum
theorem lenR_bound (l:List Run) (hb:∀ r∈l,0≤r.n∧r.n≤5000):0≤lenR l∧lenR l≤5000 * l.length:=by
 induction l with
 | nil=>simp [lenR]
 | cons r l ih=>
  have h1:=hb r List.mem_cons_self
  have h2:=ih (fun r hr=>hb r (List.mem_cons_of_mem _ hr))
  have e1:lenR (r::l)=r.n+lenR l:=by simp [lenR]
  simp only [List.length_cons]
  omega
def rangeE (s n:Int):Int:=if s=-1 then (if 1≤n∧n≤4096 then 0 else 2) else if 0≤s∧s≤511 then (if 1≤n∧n≤512 - s then 0 else 2) else 2
def firstE:List Int→Int
 | []=>0
 | e::l=>if e=0 then firstE l else e
theorem firstE_drop (l:List Int) (k:Nat) (h:∀ j,j < k→l.getD j 0=0):firstE l=firstE (l.drop k):=by
 induction k generalizing l with
 | zero=>rfl
 | succ k ih=>
  cases l with
  | nil=>rfl
  | cons e l=>
   have h0:e=0:=by simpa using h 0 (by omega)
   subst h0
   simp only [firstE,if_true,List.drop_succ_cons]
   exact ih l (fun j hj=>by simpa using h (j+1) (by omega))
def ci1 (e:Int):List DC:=[ci e]
abbrev el (l:List Int):List (List DC):=l.map ci1
def joinsB (a b:Run):Bool:=(decide (a.s=-1)==decide (b.s=-1))&&(decide (a.s=-1)||decide (a.s+a.n=b.s))
def bC (b:Bool):Cel:=rawC (.bool b)
abbrev bx (U:List Bool):AObj:=.box (U.map bC)
def setR (U:List Bool) (s:Nat):Nat→List Bool
 | 0=>U
 | k+1=>(setR U s k).set (s+k) true
def freshR (U:List Bool) (s k:Nat):Bool:=(List.range k).all fun j=>!(U.getD (s+j) false)
theorem setR_len (U:List Bool) (s k:Nat):(setR U s k).length=U.length:=by
 induction k with
 | zero=>rfl
 | succ k ih=>simp [setR,ih]
theorem setR_get (U:List Bool) (s k j:Nat) (h:s+k≤j):(setR U s k)[j]?=U[j]?:=by
 induction k with
 | zero=>rfl
 | succ k ih=>
  simp only [setR]
  rw [List.getElem?_set_ne (by omega)]
  exact ih (by omega)
theorem freshR_succ (U:List Bool) (s k:Nat):freshR U s (k+1)=(freshR U s k&&!(U.getD (s+k) false)):=by
 simp [freshR,List.range_succ]
theorem box_load (U:List Bool) (k:Nat) (b:Bool) (h:U[k]?=some b):((U.map bC).drop k).take 1=[bC b]:=by
 have hlt:k < U.length:=lt_of_get h
 have hb:U[k]=b:=by rw [List.getElem?_eq_getElem hlt] at h;exact Option.some.inj h
 rw [← List.map_drop,List.drop_eq_getElem_cons hlt,List.map_cons,hb]
 rfl
theorem box_put (U:List Bool) (k:Nat) (b:Bool) (h:k < U.length):putAt (U.map bC) k [bC b]=(U.set k b).map bC:=by
 unfold putAt
 apply List.ext_getElem?
 intro i
 simp only [List.map_set]
 rw [List.set_eq_take_append_cons_drop]
 simp [h]
theorem killM (p:Nat→Bool) (U:List Bool):(U.map bC).map (killC p)=U.map bC:=by
 rw [List.map_map];congr 1
def Run.into (r:Run) (U:List Bool):List Bool:=if r.s=-1 then U else setR U r.s.toNat r.n.toNat
def Run.fresh (r:Run) (U:List Bool):Bool:=if r.s=-1 then true else freshR U r.s.toNat r.n.toNat
def U0:List Bool:=List.replicate 512 false
def stepE (p:Option Run) (U:List Bool) (r:Run):Int:=if rangeE r.s r.n≠0 then rangeE r.s r.n else if (p.any fun q=>joinsB q r)=true then 3 else if r.fresh U then 0 else 23
def chkL (all:List Run):List Run→Option Run→List Bool→Nat→Int × Int
 | [],_,_,_=>(0,if lenR all≤4096 then 0 else 8)
 | r::rest,p,U,i=>if stepE p U r≠0 then ((i:Int),stepE p U r) else chkL all rest (some r) (r.into U) (i+1)
def chk (l:List Run):Int × Int:=if (l.length:Int) > 64 then (0,8) else chkL l l none U0 0
theorem rangeE_ok {r:Run} (h:rangeE r.s r.n=0):(r.s=-1∧1≤r.n∧r.n≤4096)∨∃ s n:Nat,r.s=s∧r.n=n∧s+n≤512∧1≤n:=by
 unfold rangeE at h
 split at h
 ·rename_i h1
  split at h
  ·rename_i h2;exact .inl ⟨h1,h2.1,h2.2⟩
  ·omega
 ·split at h
  ·rename_i h1 h2
   split at h
   ·rename_i h3
    exact .inr ⟨r.s.toNat,r.n.toNat,by omega,by omega,by omega,by omega⟩
   ·omega
  ·omega
theorem into_len (U:List Bool) (r:Run):(r.into U).length=U.length:=by
 unfold Run.into
 split
 ·rfl
 ·exact setR_len _ _ _
def Uk (l:List Run) (k:Nat):List Bool:=(l.take k).foldl (fun U r=>r.into U) U0
def prevK (l:List Run) (k:Nat):Option Run:=if k=0 then none else l[k - 1]?
theorem Uk_len (l:List Run) (k:Nat):(Uk l k).length=512:=by
 unfold Uk
 have:∀ (l:List Run) (U:List Bool),(l.foldl (fun U r=>r.into U) U).length=U.length:=by
  intro l
  induction l with
  | nil=>intro U;rfl
  | cons r l ih=>intro U;rw [List.foldl_cons,ih,into_len]
 rw [this];simp [U0]
theorem Uk_succ (l:List Run) (k:Nat) (h:k < l.length):Uk l (k+1)=l[k].into (Uk l k):=by
 unfold Uk
 rw [List.take_succ_eq_append_getElem h,List.foldl_append]
 rfl
theorem chkL_at {l:List Run} {p:Option Run} {U:List Bool} {k:Nat} (hk:k < l.length):chkL l (l.drop k) p U k=if stepE p U l[k]≠0 then ((k:Int),stepE p U l[k]) else chkL l (l.drop (k+1)) (some l[k]) (l[k].into U) (k+1):=by
 rw [List.drop_eq_getElem_cons hk,chkL]
theorem stepE_at {l:List Run} {k:Nat} (U:List Bool) (hk:k < l.length):stepE (prevK l k) U l[k]=if rangeE l[k].s l[k].n≠0 then rangeE l[k].s l[k].n else if 0 < k∧joinsB (l[k-1]'(by omega)) l[k]=true then 3 else if l[k].fresh U=true then 0 else 23:=by
 unfold stepE prevK
 by_cases h0:k=0
 ·simp [h0]
 ·have h1:l[k-1]?=some (l[k-1]'(by omega)):=List.getElem?_eq_getElem (by omega)
  have h2:0 < k:=by omega
  simp only [h0,if_false,h1,Option.any_some,h2,true_and]
theorem bd_of {r:Run} (h:rangeE r.s r.n=0):-9223372036854775808≤r.s+r.n∧r.s+r.n≤9223372036854775807:=by
 rcases rangeE_ok h with h | ⟨s,n,h⟩<;>omega
theorem bn_of {r:Run} (h:rangeE r.s r.n=0):0≤r.n∧r.n≤5000:=by
 rcases rangeE_ok h with h | ⟨s,n,h⟩<;>omega
theorem rg_all {l:List Run} (hrg:∀ (j:Nat) r,j < l.length→l[j]?=some r→rangeE r.s r.n=0):∀ r∈l,rangeE r.s r.n=0:=by
 intro r hr
 obtain ⟨j,hj⟩:=List.mem_iff_getElem?.1 hr
 exact hrg j r (lt_of_get hj) hj
def errsE (L:List (List Run)):Int:=firstE (L.map fun l=>(chk l).2)
theorem rE_n {r:Run} (h:rangeE r.s r.n=0):1≤r.n∧r.n≤4096∧-1≤r.s∧r.s≤511:=by
 rcases rangeE_ok h with h | ⟨s,n,h⟩<;>omega
theorem lenT {l:List Run} {k:Nat} (hl:l.length≤1000) (hr:∀ r∈l,rangeE r.s r.n=0):0≤lenR (l.take k)∧lenR (l.take k)≤5000000:=by
 have h:=lenR_bound (l.take k) (fun r h=>bn_of (hr r (List.mem_of_mem_take h)))
 have:(l.take k).length≤1000:=by simp;omega
 omega
theorem lenR_all (l:List Run):lenR (l.take l.length)=lenR l:=by rw [List.take_length]
instance:DecidableEq Run:=fun a b=>decidable_of_iff (a.s=b.s∧a.n=b.n) ⟨fun h=>by cases a;cases b;simp_all,fun h=>by subst h;exact ⟨rfl,rfl⟩⟩
theorem run_eq {a b:Run}:a=b↔a.s=b.s∧a.n=b.n:=⟨fun h=>by subst h;exact ⟨rfl,rfl⟩,fun h=>by cases a;cases b;simp_all⟩
theorem chkL_rg {all:List Run}:∀ {l:List Run} {p:Option Run} {U:List Bool} {i:Nat},(chkL all l p U i).2=0→∀ r∈l,rangeE r.s r.n=0
 | [],_,_,_,_,r,hr=>by cases hr
 | r0::l,p,U,i,h,r,hr=>by
  rw [chkL] at h
  split at h
  ·rename_i h1;exact absurd h h1
  ·rename_i h1
   rcases List.mem_cons.1 hr with rfl | hr
   ·have h2:stepE p U r=0:=by omega
    unfold stepE at h2
    split at h2
    ·exact h2
    ·rename_i h3;omega
   ·exact chkL_rg h r hr
theorem chk_rg {l:List Run} (h:(chk l).2=0):∀ r∈l,rangeE r.s r.n=0:=by
 unfold chk at h
 split at h
 ·cases h
 ·exact chkL_rg h
theorem chk_len {l:List Run} (h:(chk l).2=0):l.length≤64:=by
 unfold chk at h
 split at h
 ·cases h
 ·omega
def addR (R:List Run) (r:Run):List Run:=
 match R.getLast? with
 | some q=>if joinsB q r then R.dropLast++[⟨q.s,q.n+r.n⟩] else R++[r]
 | none=>[r]
theorem addR_nil (r:Run):addR [] r=[r]:=rfl
theorem addR_snoc (R:List Run) (q r:Run):addR (R++[q]) r=if joinsB q r then R++[⟨q.s,q.n+r.n⟩] else R++[q]++[r]:=by simp [addR]
structure Good (R:List Run):Prop where
 el:∀ q∈R,-1≤q.s∧q.s≤1000∧0≤q.n
 sum:lenR R≤1000000000
 len:R.length≤1000000
theorem lenR_app (a b:List Run):lenR (a++b)=lenR a+lenR b:=by simp [lenR]
theorem lenR_nonneg (R:List Run) (h:∀ q∈R,0≤q.n):0≤lenR R:=by
 induction R with
 | nil=>simp [lenR]
 | cons r l ih=>
  have h1:=h r List.mem_cons_self
  have h2:=ih (fun r hr=>h r (List.mem_cons_of_mem _ hr))
  have e1:lenR (r::l)=r.n+lenR l:=by simp [lenR]
  omega
theorem Good.last {R:List Run} {q:Run} (h:Good (R++[q])):-1≤q.s∧q.s≤1000∧0≤q.n∧q.n≤1000000000:=by
 have h1:=h.el q (by simp)
 have h2:=h.sum
 have h3:=lenR_nonneg R (fun q hq=>(h.el q (by simp [hq])).2.2)
 rw [lenR_app] at h2
 have h4:lenR [q]=q.n:=by simp [lenR]
 omega
theorem addR_len (R:List Run) (r:Run):lenR (addR R r)=lenR R+r.n:=by
 rcases List.eq_nil_or_concat R with rfl | ⟨R',q,rfl⟩
 ·simp [addR,lenR]
 ·rw [List.concat_eq_append,addR_snoc]
  split
  ·simp [lenR_app,lenR];omega
  ·simp [lenR_app,lenR];omega
theorem addR_mem {R:List Run} {r:Run} (hr:-1≤r.s∧r.s≤1000∧0≤r.n) (h:∀ q∈R,-1≤q.s∧q.s≤1000∧0≤q.n):∀ q∈addR R r,-1≤q.s∧q.s≤1000∧0≤q.n:=by
 rcases List.eq_nil_or_concat R with rfl | ⟨R',q,rfl⟩
 ·rw [addR_nil];simpa using hr
 ·rw [List.concat_eq_append] at *
  rw [addR_snoc]
  have hq:=h q (by simp)
  intro p hp
  split at hp
  ·rcases List.mem_append.1 hp with h1 | h1
   ·exact h p (by simp [h1])
   ·have:p=⟨q.s,q.n+r.n⟩:=by simpa using h1
    subst this;simp only;omega
  ·rcases List.mem_append.1 hp with h1 | h1
   ·exact h p h1
   ·have:p=r:=by simpa using h1
    subst this;exact hr
theorem addR_length (R:List Run) (r:Run):(addR R r).length≤R.length+1:=by
 rcases List.eq_nil_or_concat R with rfl | ⟨R',q,rfl⟩
 ·simp [addR]
 ·rw [List.concat_eq_append,addR_snoc];split<;>simp
def Run.has (r:Run) (c:Nat):Bool:=decide (r.s≠-1∧r.s≤c∧(c:Int) < r.s+r.n)
def lenW (l:List Run):Int:=l.foldl (fun n r=>IntKind.i64.wrap (n+r.n)) 0
theorem lenW_take (l:List Run) (k:Nat) (h:k < l.length):lenW (l.take (k+1))=IntKind.i64.wrap (lenW (l.take k)+l[k].n):=by
 rw [List.take_succ_eq_append_getElem h,lenW,List.foldl_append];rfl
theorem lenW_eq (l:List Run) (h:∀ r∈l,0≤r.n) (hs:lenR l≤1000000000000):lenW l=lenR l:=by
 have key:∀ (l:List Run) (n:Int),0≤n→(∀ r∈l,0≤r.n)→n+lenR l≤1000000000000→l.foldl (fun n r=>IntKind.i64.wrap (n+r.n)) n=n+lenR l:=by
  intro l
  induction l with
  | nil=>intro n _ _ _;simp [lenR]
  | cons r l ih=>
   intro n hn h hs
   have h1:=h r List.mem_cons_self
   have e1:lenR (r::l)=r.n+lenR l:=by simp [lenR]
   have h2:=lenR_nonneg l (fun r hr=>h r (List.mem_cons_of_mem _ hr))
   rw [List.foldl_cons,wrap64 (by omega),ih (n+r.n) (by omega) (fun r hr=>h r (List.mem_cons_of_mem _ hr)) (by omega)]
   omega
 have:=key l 0 (by omega) h (by omega)
 simpa [lenW] using this
def addL (R l:List Run):List Run:=l.foldl addR R
structure Fine (l:List Run):Prop where
 el:∀ q∈l,-1≤q.s∧q.s≤1000∧0≤q.n
 sum:lenR l≤100000000
 len:l.length≤100000
theorem addL_good {R l:List Run} (hR:∀ q∈R,-1≤q.s∧q.s≤1000∧0≤q.n) (hl:∀ q∈l,-1≤q.s∧q.s≤1000∧0≤q.n):
  (∀ q∈addL R l,-1≤q.s∧q.s≤1000∧0≤q.n)∧lenR (addL R l)=lenR R+lenR l∧(addL R l).length≤R.length+l.length:=by
 induction l generalizing R with
 | nil=>exact ⟨hR,by simp [addL,lenR],by simp [addL]⟩
 | cons r l ih=>
  have h1:=hl r List.mem_cons_self
  obtain ⟨a,b,c⟩:=ih (R:=addR R r) (addR_mem h1 hR) (fun q hq=>hl q (List.mem_cons_of_mem _ hq))
  have e1:lenR (r::l)=r.n+lenR l:=by simp [lenR]
  have h2:=addR_length R r
  refine ⟨a, ?_, ?_⟩
  ·show lenR (addL (addR R r) l)=_
   rw [b,addR_len,e1];omega
  ·show (addL (addR R r) l).length≤_
   simp only [List.length_cons];omega
theorem lenR_le_take (l:List Run) (k:Nat) (h:∀ r∈l,0≤r.n):lenR (l.take k)≤lenR l:=by
 have h2:lenR l=lenR (l.take k)+lenR (l.drop k):=by rw [← lenR_app,List.take_append_drop]
 have:=lenR_nonneg (l.drop k) (fun r hr=>h r (List.mem_of_mem_drop hr))
 omega
theorem Fine.nil:Fine []:=⟨by simp,by simp [lenR],by simp⟩
def Vol (r:Run):Prop:=(r.s=-1∧0≤r.n)∨(0≤r.s∧1≤r.n∧r.s+r.n≤512)
theorem Fine.add {l:List Run} (h:Fine l):Fine (addL [] l):=by
 obtain ⟨a,b,c⟩:=addL_good (R:=[]) (by simp) h.el
 have:=h.sum
 have:=h.len
 simp only [lenR,List.map_nil,List.sum_nil,List.length_nil] at b c
 exact ⟨a,by simp only [lenR] at *;omega,by omega⟩
theorem Fine.take {l:List Run} (h:Fine l) (k:Nat):Fine (l.take k):=⟨fun q hq=>h.el q (List.mem_of_mem_take hq),by have:=lenR_le_take l k (fun r hr=>(h.el r hr).2.2);have:=h.sum;omega,by have:=h.len;simp;omega⟩
theorem lenC {l:List Run} (h:(chk l).2=0):0≤lenR l∧lenR l≤4096:=by
 have h1:=chk_rg h
 have h2:=chk_len h
 refine ⟨lenR_nonneg l (fun r hr=>(bn_of (h1 r hr)).1), ?_⟩
 have key:∀ (all l:List Run) p U i,(chkL all l p U i).2=0→lenR all≤4096:=by
  intro all l
  induction l with
  | nil=>intro p U i h;rw [chkL] at h;simp only at h;split at h<;>first | assumption | omega
  | cons r l ih=>
   intro p U i h
   rw [chkL] at h
   split at h
   ·rename_i h1;exact absurd h h1
   ·exact ih _ _ _ h
 unfold chk at h
 split at h
 ·cases h
 ·exact key _ _ _ _ _ h
theorem chk_fine {l:List Run} (h:(chk l).2=0):Fine l:=by
 have h1:=chk_rg h
 have h2:=chk_len h
 have h3:=lenC h
 exact ⟨fun q hq=>by have:=rE_n (h1 q hq);omega,by omega,by omega⟩
theorem errs1 (l:List Run):errsE [l]=(chk l).2:=by
 simp only [errsE,List.map_cons,List.map_nil,firstE];split<;>simp_all
end
section
variable {G:Glob} {B:CallT}
theorem within_v (n lo hi:Int):EV G (Tb B) 252 [vi n,vi lo,vi hi] []=some (vb (decide (lo≤n∧n≤hi)),[]):=by
 refine EV_run rfl ?_
 by_cases h:lo≤n
 all_goals simp (disch:=omega) only [go_sem,h252c]
 all_goals simp [h]
theorem isHole_v (s n:Int):EV G (Tb B) 214 [rn s n] []=some (vb (decide (s=-1)),[]):=by
 refine EV_run rfl ?_
 simp (disch:=omega) only [go_sem,h214c]
theorem unless_v (b:Bool) (e:Int):EV G (Tb B) 210 [vb b,vi e] []=some (vi (if b=true then 0 else e),[]):=by
 refine EV_run rfl ?_
 cases b
 all_goals simp (disch:=omega) only [go_sem,h210c]
 all_goals rfl
theorem fstN (p:Nat→Prop):∀ n:Nat,(∀ k,k < n→¬ p k)∨∃ j,j < n∧p j∧∀ k,k < j→¬ p k
 | 0=>.inl (fun k h=>by omega)
 | n+1=>by
  rcases fstN p n with h | ⟨j,h1,h2,h3⟩
  ·by_cases hp:p n
   ·exact .inr ⟨n,by omega,hp,h⟩
   ·exact .inl (fun k hk=>by
     by_cases he:k=n
     ·subst he;exact hp
     ·exact h k (by omega))
  ·exact .inr ⟨j,by omega,h2,h3⟩
theorem firstE_at (l:List Int) (j:Nat) (hj:j < l.length) (h:∀ k,k < j→¬ l.getD k 0≠0) (h1:l.getD j 0≠0):firstE l=l[j]:=by
 have h2:l.getD j 0=l[j]:=by simp [List.getD_eq_getElem?_getD,List.getElem?_eq_getElem hj]
 rw [firstE_drop l j (fun k hk=>by have:=h k hk;omega),List.drop_eq_getElem_cons hj,firstE,if_neg (by rw [← h2];exact h1)]
theorem firstE_none (l:List Int) (h:∀ k,k < l.length→¬ l.getD k 0≠0):firstE l=0:=by
 rw [firstE_drop l l.length (fun k hk=>by have:=h k hk;omega),List.drop_length];rfl
theorem getD_at (l:List Int) (k:Nat) (h:k < l.length):l.getD k 0=l[k]:=by simp [List.getD_eq_getElem?_getD,List.getElem?_eq_getElem h]
theorem rangeErr_v (s n:Int):EV G (Tb B) 207 [rn s n] []=some (vi (rangeE s n),[]):=by
 refine EV_run rfl ?_
 by_cases h1:s=-1
 ·by_cases h2:1≤n∧n≤4096
  all_goals simp (disch:=omega) only [go_sem,h207c,isHole_v,within_v,unless_v,rangeE]
 ·by_cases h2:0≤s∧s≤511
  ·by_cases h3:1≤n∧n≤512 - s
   all_goals simp (disch:=omega) only [go_sem,h207c,isHole_v,within_v,unless_v,rangeE]
  ·simp (disch:=omega) only [go_sem,h207c,isHole_v,within_v,unless_v,rangeE]
end
section
variable {G:Glob} {B:CallT}
theorem length_v (l:List Run) (hl:l.length≤1000000):EV G (Tb B) 211 [runsV l] []=some (vi (lenW l),[]):=by
 refine EV_run rfl ?_
 simp (disch:=omega) only [go_sem,h211c,List.length_map]
 rw [EL_loop (fun k=>⟨(jk 3 (vi (lenW (l.take k))::jk 2 (runsV l::vi l.length::vi k::jk 9 []))),[]⟩) l.length ?_ ?_]
 ·simp (disch:=omega) only [go_sem,h211l0,List.take_length]
 ·rfl
 ·intro k hk
  rw [lenW_take l k hk]
  simp (disch:=omega) only [go_sem,h211l0,List.length_map,Run.e]
theorem joins_v (q r:Run) (h:-9223372036854775808≤q.s+q.n∧q.s+q.n≤9223372036854775807):EV G (Tb B) 208 [q.v,r.v] []=some (vb (joinsB q r),[]):=by
 refine EV_run rfl ?_
 unfold joinsB
 by_cases h1:q.s=-1
 all_goals by_cases h2:r.s=-1
 all_goals simp (disch:=omega) only [go_sem,h208c,isHole_v,h1,h2]
 all_goals simp [h1,h2]
theorem load_bx (U:List Bool) (k:Nat) (h:k < U.length):((U.map bC).drop k).take 1=[.dc (.raw (.bool U[k]))]:=box_load U k _ (List.getElem?_eq_getElem h)
theorem put_bx (U:List Bool) (k:Nat) (b:Bool) (h:k < U.length):putAt (U.map bC) k [.dc (.raw (.bool b))]=(U.set k b).map bC:=box_put U k b h
theorem ct_bx (m:Nat) (U:List Bool):ctCs m (U.map bC)=U.map bC:=by rw [ctCs_eq,killM]
theorem ids_bx (U:List Bool):idsL (U.map bC)=[]:=by
 induction U with
 | nil=>rfl
 | cons b U ih=>rw [List.map_cons,idsL,ih];rfl
theorem kp_bx (J:List Nat) (U:List Bool):kpCs J (U.map bC)=true:=by
 induction U with
 | nil=>rfl
 | cons b U ih=>rw [List.map_cons,kpCs,ih];rfl
theorem rn_bx (ρ:Nat→Nat) (U:List Bool):(U.map bC).map (renC ρ)=U.map bC:=by
 induction U with
 | nil=>rfl
 | cons b U ih=>rw [List.map_cons,List.map_cons,ih];rfl
attribute [go_sem] killM ct_bx ids_bx kp_bx rn_bx
theorem take_v (U:List Bool) (r:Run) (hU:U.length=512) (h:Vol r):EV G (Tb B) 209 [.one (.ptr 0 0),r.v] [bx U]=some (vb (r.fresh U),[bx (r.into U)]):=by
 refine EV_run rfl ?_
 rcases h with ⟨h1,_⟩ | ⟨h1,h2,h3⟩
 ·simp (disch:=omega) only [go_sem,h209c,isHole_v,Run.fresh,Run.into]
 ·obtain ⟨s,hs⟩:∃ s:Nat,r.s=s:=⟨r.s.toNat,by omega⟩
  obtain ⟨n,hn⟩:∃ n:Nat,r.n=n:=⟨r.n.toNat,by omega⟩
  simp (disch:=omega) only [go_sem,h209c,isHole_v,Run.fresh,Run.into,hs,hn]
  rw [EL_loop (fun k=>⟨(.one (.ptr 0 0)::jk 2 (.one (.ptr 1 0)::jk 1 (vb (freshR U s k)::vi (s+k:Nat)::jk 27 []))),[bx (setR U s k),.box [.dc (ci s),.dc (ci n)]]⟩) n ?_ ?_]
  ·simp (disch:=omega) only [go_sem,h209l0]
  ·rfl
  ·intro k hk
   have hl:=setR_len U s k
   rw [freshR_succ,setR]
   have getE:(setR U s k)[s+k]'(by omega)=U.getD (s+k) false:=by
    have:=setR_get U s k (s+k) (Nat.le_refl _)
    rw [List.getElem?_eq_getElem (by omega)] at this
    rw [List.getD_eq_getElem?_getD,← this];rfl
   cases hf:freshR U s k
   all_goals simp (disch:=omega) only [go_sem,h209l0,load_bx,put_bx,getE]
end
section
variable {G:Glob} {B:CallT}
theorem U0_box:List.replicate 512 (Cel.dc (.raw (.bool false)))=U0.map bC:=by rw [U0,List.map_replicate];rfl
theorem chkL_to (l:List Run) (k:Nat) (hk:k≤l.length) (h:∀ j,j < k→¬ stepE (prevK l j) (Uk l j) (l.getD j ⟨0,0⟩)≠0):chkL l l none U0 0=chkL l (l.drop k) (prevK l k) (Uk l k) k:=by
 induction k with
 | zero=>rfl
 | succ k ih=>
  have e:l.getD k ⟨0,0⟩=l[k]:=by simp [List.getD_eq_getElem?_getD,List.getElem?_eq_getElem (show k < l.length by omega)]
  have:=h k (Nat.lt_succ_self k)
  rw [e] at this
  rw [ih (by omega) (fun j hj=>h j (by omega)),chkL_at (by omega),if_neg this,Uk_succ l k (by omega)]
  simp [prevK,List.getElem?_eq_getElem (show k < l.length by omega)]
theorem runAt (l:List Run) (k:Nat) (h:k < l.length):l.getD k ⟨0,0⟩=l[k]:=by simp [List.getD_eq_getElem?_getD,List.getElem?_eq_getElem h]
theorem rE_vol1 {r:Run} (h:rangeE r.s r.n=0):Vol r:=by
 rcases rangeE_ok h with ⟨h1,h2,h3⟩ | ⟨s,n,h1,h2,h3,h4⟩
 ·exact .inl ⟨h1,by omega⟩
 ·exact .inr ⟨by omega,by omega,by omega⟩
theorem stepE_rg {l:List Run} {k:Nat} (U:List Bool) (hk:k < l.length) (h:¬ stepE (prevK l k) U (l.getD k ⟨0,0⟩)≠0):rangeE l[k].s l[k].n=0∧¬ (0 < k∧joinsB (l[k-1]'(by omega)) l[k]=true)∧l[k].fresh U=true:=by
 rw [runAt l k hk,stepE_at U hk] at h
 by_cases h1:rangeE l[k].s l[k].n≠0
 ·rw [if_pos h1] at h;exact absurd h1 h
 ·rw [if_neg h1] at h
  by_cases h2:0 < k∧joinsB (l[k-1]'(by omega)) l[k]=true
  ·rw [if_pos h2] at h;exact absurd (by decide) h
  ·rw [if_neg h2] at h
   cases h3:l[k].fresh U
   ·rw [h3] at h;exact absurd (by decide) h
   ·exact ⟨by omega,h2,rfl⟩
theorem check_v (l:List Run):EV G (Tb B) 174 [runsV l] []=some (.tup [.one (.dc (ci (chk l).1)),.one (.dc (ci (chk l).2))],[]):=by
 refine EV_run rfl ?_
 by_cases hl:(l.length:Int) > 64
 ·simp only [chk,if_pos hl]
  simp (disch:=omega) only [go_sem,h174c,List.length_map]
 ·simp only [chk,if_neg hl]
  simp (disch:=omega) only [go_sem,h174c,List.length_map,List.map_replicate,U0_box]
  rw [EL_fst (fun k=>⟨(runsV l::jk 3 (.one (.ptr 0 0)::jk 6 (runsV l::vi l.length::vi k::jk 31 []))),[bx (Uk l k)]⟩) (fun k=>stepE (prevK l k) (Uk l k) (l.getD k ⟨0,0⟩)≠0) l.length ?_ ?_]
  rotate_left
  ·rfl
  ·intro k hk hn
   obtain ⟨h1,h2,h3⟩:=stepE_rg _ hk (hn k (Nat.le_refl _))
   have hv:=rE_vol1 h1
   have hU:=Uk_len l k
   have hT:=take_v (G:=G) (B:=B) (Uk l k) l[k] hU hv
   rw [h3] at hT
   rw [Uk_succ l k hk]
   by_cases h0:0 < k
   ·have hj:joinsB (l[k-1]'(by omega)) l[k]=false:=by simpa [h0] using h2
    have hb:rangeE (l[k-1]'(by omega)).s (l[k-1]'(by omega)).n=0:=(stepE_rg _ (by omega) (hn (k-1) (by omega))).1
    have hb2:=bd_of hb
    simp (disch:=omega) only [go_sem,h174l0,List.length_map,Run.e,rangeErr_v,h1,joins_v,hj,hT]
   ·simp (disch:=omega) only [go_sem,h174l0,List.length_map,Run.e,rangeErr_v,h1,hT]
  obtain ⟨hk,hp,hn⟩:=ix_spec (fun k=>stepE (prevK l k) (Uk l k) (l.getD k ⟨0,0⟩)≠0) l.length
  generalize ix (fun k=>stepE (prevK l k) (Uk l k) (l.getD k ⟨0,0⟩)≠0) l.length=k at *
  have hrg:∀ (j:Nat) r,j < k→l[j]?=some r→rangeE r.s r.n=0:=fun j r hj hr=>by
   have hlt:j < l.length:=by omega
   have:=(stepE_rg _ hlt (hn j hj)).1
   rw [List.getElem?_eq_getElem hlt] at hr;injection hr with hr;rwa [hr] at this
  rw [chkL_to l k hk hn]
  rcases hp with rfl | ⟨hk',hp⟩
  ·have hr:=rg_all hrg
   have hw:lenW l=lenR l:=lenW_eq l (fun r hm=>by have:=rE_n (hr r hm);omega) (by
    have:=(lenT (l:=l) (k:=l.length) (by omega) hr).2
    rw [lenR_all] at this;omega)
   rw [List.drop_length,chkL]
   simp (disch:=omega) only [go_sem,h174l0,List.length_map,length_v,unless_v,hw]
  ·have hU:=Uk_len l k
   rw [runAt l k hk'] at hp
   rw [chkL_at hk',if_pos hp]
   rw [stepE_at _ hk'] at hp ⊢
   by_cases h1:rangeE l[k].s l[k].n=0
   ·have hT:=take_v (G:=G) (B:=B) (Uk l k) l[k] hU (rE_vol1 h1)
    by_cases h2:0 < k∧joinsB (l[k-1]'(by omega)) l[k]=true
    ·have hb2:=bd_of (hrg (k-1) (l[k-1]'(by omega)) (by omega) (List.getElem?_eq_getElem _))
     simp (disch:=omega) only [go_sem,h174l0,List.length_map,Run.e,rangeErr_v,h1,joins_v,h2]
    ·have h3:l[k].fresh (Uk l k)=false:=by
      simp only [h1,ne_eq,not_true_eq_false,if_false,if_neg h2] at hp
      cases h:l[k].fresh (Uk l k)
      ·rfl
      ·rw [h] at hp;simp at hp
     rw [h3] at hT
     by_cases h0:0 < k
     ·have hj:joinsB (l[k-1]'(by omega)) l[k]=false:=by simpa [h0] using h2
      have hb2:=bd_of (hrg (k-1) (l[k-1]'(by omega)) (by omega) (List.getElem?_eq_getElem _))
      simp (disch:=omega) only [go_sem,h174l0,List.length_map,Run.e,rangeErr_v,h1,joins_v,hj,hT,h3]
     ·simp (disch:=omega) only [go_sem,h174l0,List.length_map,Run.e,rangeErr_v,h1,hT,h3]
   ·simp (disch:=omega) only [go_sem,h174l0,List.length_map,Run.e,rangeErr_v]
end
section
variable {G:Glob} {B:CallT}
def sl1 (l:List Run):List DC:=[.slc (l.map Run.e)]
theorem errs_at (L:List (List Run)) (k:Nat) (hk:k < L.length):((L.map fun l=>(chk l).2).getD k 0)=(chk L[k]).2:=by simp [List.getD_eq_getElem?_getD,List.getElem?_eq_getElem hk]
theorem runsErr_v (L:List (List Run)) (hL:L.length≤1000):EV G (Tb B) 212 [vl (L.map sl1)] []=some (vi (errsE L),[]):=by
 refine EV_run rfl ?_
 simp (disch:=omega) only [go_sem,h212c,List.length_map]
 rw [EL_fst (fun k=>⟨(jk 7 (vl (L.map sl1)::vi L.length::vi k::jk 12 [])),[]⟩) (fun k=>(L.map fun l=>(chk l).2).getD k 0≠0) L.length ?_ ?_]
 rotate_left
 ·rfl
 ·intro k hk hn
  have h1:=hn k (Nat.le_refl _)
  rw [errs_at L k hk] at h1
  simp (disch:=omega) only [go_sem,h212l0,List.length_map,sl1,check_v]
 obtain ⟨hk,hp,hn⟩:=ix_spec (fun k=>(L.map fun l=>(chk l).2).getD k 0≠0) L.length
 generalize ix (fun k=>(L.map fun l=>(chk l).2).getD k 0≠0) L.length=k at *
 unfold errsE
 rcases hp with rfl | ⟨hk',hp⟩
 ·rw [firstE_none _ (by simpa using hn)]
  simp (disch:=omega) only [go_sem,h212l0,List.length_map]
 ·rw [firstE_at _ k (by simpa using hk') hn hp]
  rw [errs_at L k hk'] at hp
  simp (disch:=omega) only [go_sem,h212l0,List.length_map,sl1,check_v,List.getElem_map]
theorem errs1_v (a:List Run):EV G (Tb B) 212 [vl [[.slc (a.map Run.e)]]] []=some (vi (errsE [a]),[]):=runsErr_v [a] (by simp)
theorem e_len (r:Run):(Run.e r).length=2:=rfl
theorem all_run (l:List Run):allLen 2 (l.map Run.e)=true:=allLen_map e_len l
attribute [go_sem] all_run
end
section
variable {G:Glob} {B:CallT}
end
section
variable {G:Glob} {B:CallT}
end
section
variable {G:Glob} {B:CallT}
end
end Go.Proofs.YtcplecjhmnblpaaGreatDoor
