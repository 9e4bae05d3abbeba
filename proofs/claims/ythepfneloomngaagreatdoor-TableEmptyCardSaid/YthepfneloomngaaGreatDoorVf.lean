/- Results of changes. Conditions: none. -/
import Derived.Test.YthepfneloomngaaGreatDoorTa
import Derived.Test.YthepfneloomngaaGreatDoorCb
namespace Go.Proofs.YthepfneloomngaaGreatDoor
set_option linter.unusedSimpArgs false
set_option linter.unusedVariables false
set_option maxRecDepth 4000
section
abbrev rn(s n:Int):AV:=.agg [.dc (ci s),.dc (ci n)]
structure aY where
 s:Int
 n:Int
def aY.e(r:aY):List DC:=[ci r.s,ci r.n]
abbrev aY.v(r:aY):AV:=rn r.s r.n
abbrev eB(l:List aY):AV:=vl (l.map aY.e)
def cA(l:List aY):Int:=(l.map aY.n).sum
theorem uJ(l:List aY)(k:Nat)(hk:k<l.length):cA (l.take (k+1))=cA (l.take k)+l[k].n:=by
 rw[aYx hk];simp only[cA,aYg,List.sum_append,aXL,aXT,List.sum_cons,List.sum_nil,Int.add_zero]
theorem Um(l:List aY)(hb:∀r∈l,0<=r.n/\r.n<=5000):0<=cA l/\cA l<=5000*l.length:=by
 induction l with
 |nil=>simp[cA]
 |cons r l ih=>
  have h1:=hb r aXV;have h2:=ih (fun r hr=>hb r (aX3 _ hr))
  have e1:cA (r::l)=r.n+cA l:=by simp[cA]
  simp only[aXE];omega
def bO(s n:Int):Int:=if s=-1 then (if 1<=n/\n<=4096 then 0 else 2) else if 0<=s/\s<=511 then (if 1<=n/\n<=512-s then 0 else 2) else 2
def aS:List Int->Int
 |[]=>0
 |e::l=>if e=0 then aS l else e
theorem Ed(l:List Int)(k:Nat)(h:∀j,j<k->l.getD j 0=0):aS l=aS (l.drop k):=by
 induction k generalizing l with
 |zero=>rfl
 |succ k ih=>
  cases l with
  |nil=>rfl
  |cons e l=>
   have h0:e=0:=by simpa using h 0 (by omega)
   subst h0;simp only[aS,if_true,aY7];exact ih l (fun j hj=>by simpa using h (j+1) (by omega))
def E4(e:Int):List DC:=[ci e]
abbrev el(l:List Int):List (List DC):=l.map E4
def iC(a b:aY):Bool:=(decide (a.s=-1)==decide (b.s=-1))&&(decide (a.s=-1)||decide (a.s+a.n=b.s))
def bC(b:Bool):aT:=dA (.bool b)
abbrev bx(U:List Bool):aC:=.box (U.map bC)
def E5(U:List Bool)(s:Nat):Nat->List Bool
 |0=>U
 |k+1=>(E5 U s k).set (s+k) true
def Aj(U:List Bool)(s k:Nat):Bool:=(List.range k).all fun j=>!(U.getD (s+j) false)
theorem Hv(U:List Bool)(s k:Nat):(E5 U s k).length=U.length:=by
 induction k with
 |zero=>rfl
 |succ k ih=>simp[E5,ih]
theorem aEB(U:List Bool)(s k j:Nat)(h:s+k<=j):(E5 U s k)[j]?=U[j]?:=by
 induction k with
 |zero=>rfl
 |succ k ih=>
  simp only[E5];rw[aXW (by omega)];exact ih (by omega)
theorem Qs(U:List Bool)(s k:Nat):Aj U s (k+1)=(Aj U s k&&!(U.getD (s+k) false)):=by
 simp[Aj,List.range_succ]
theorem aEC(U:List Bool)(k:Nat)(b:Bool)(h:U[k]?=some b):((U.map bC).drop k).take 1=[bC b]:=by
 have hlt:k<U.length:=aG h;have hb:U[k]=b:=by rw[aXJ hlt] at h;exact Option.some.inj h
 rw[<- aYS,aYF hlt,aXL,hb];rfl
theorem aJu(U:List Bool)(k:Nat)(b:Bool)(h:k<U.length):cQ (U.map bC) k [bC b]=(U.set k b).map bC:=by
 unfold cQ;apply aY5;intro i;simp only[aYa];rw[List.set_eq_take_append_cons_drop];simp[h]
theorem aLW(p:Nat->Bool)(U:List Bool):(U.map bC).map (cG p)=U.map bC:=by
 rw[aX1];congr 1
def aY.into(r:aY)(U:List Bool):List Bool:=if r.s=-1 then U else E5 U r.s.toNat r.n.toNat
def aY.fresh(r:aY)(U:List Bool):Bool:=if r.s=-1 then true else Aj U r.s.toNat r.n.toNat
def U0:List Bool:=List.replicate 512 false
def mE(p:Option aY)(U:List Bool)(r:aY):Int:=if bO r.s r.n≠0 then bO r.s r.n else if (p.any fun q=>iC q r)=true then 3 else if r.fresh U then 0 else 23
def rY(all:List aY):List aY->Option aY->List Bool->Nat->Int×Int
 |[],_,_,_=>(0,if cA all<=4096 then 0 else 8)
 |r::rest,p,U,i=>if mE p U r≠0 then ((i:Int),mE p U r) else rY all rest (some r) (r.into U) (i+1)
def nA(l:List aY):Int×Int:=if (l.length:Int) > 64 then (0,8) else rY l l none U0 0
theorem kM{r:aY}(h:bO r.s r.n=0):(r.s=-1/\1<=r.n/\r.n<=4096)\/∃s n:Nat,r.s=s/\r.n=n/\s+n<=512/\1<=n:=by
 unfold bO at h;split at h;rename_i h1;split at h;rename_i h2;exact .inl ⟨h1,h2.1,h2.2⟩;omega;split at h;rename_i h1 h2;split at h;rename_i h3;exact .inr ⟨r.s.toNat,r.n.toNat,by omega,by omega,by omega,by omega⟩;omega;omega
theorem Qt(U:List Bool)(r:aY):(r.into U).length=U.length:=by
 unfold aY.into;split;rfl;exact Hv _ _ _
def Uk(l:List aY)(k:Nat):List Bool:=(l.take k).foldl (fun U r=>r.into U) U0
def oD(l:List aY)(k:Nat):Option aY:=if k=0 then none else l[k-1]?
theorem aED(l:List aY)(k:Nat):(Uk l k).length=512:=by
 unfold Uk;have:∀ (l:List aY) (U:List Bool),(l.foldl (fun U r=>r.into U) U).length=U.length:=by
  intro l
  induction l with
  | nil=>intro U;rfl
  | cons r l ih=>intro U;rw[aYO,ih,Qt]
 rw[this];simp[U0]
theorem Xv(l:List aY)(k:Nat)(h:k<l.length):Uk l (k+1)=l[k].into (Uk l k):=by
 unfold Uk;rw[aYx h,List.foldl_append];rfl
theorem Xw{l:List aY}{p:Option aY}{U:List Bool}{k:Nat}(hk:k<l.length):rY l (l.drop k) p U k=if mE p U l[k]≠0 then ((k:Int),mE p U l[k]) else rY l (l.drop (k+1)) (some l[k]) (l[k].into U) (k+1):=by
 rw[aYF hk,rY]
theorem Qu{l:List aY}{k:Nat}(U:List Bool)(hk:k<l.length):mE (oD l k) U l[k]=if bO l[k].s l[k].n≠0 then bO l[k].s l[k].n else if 0<k/\iC (l[k-1]'(by omega)) l[k]=true then 3 else if l[k].fresh U=true then 0 else 23:=by
 unfold mE oD;by_cases h0:k=0;simp[h0];have h1:l[k-1]?=some (l[k-1]'(by omega)):=aXJ (by omega);have h2:0<k:=by omega
 simp only[h0,if_false,h1,Option.any_some,h2,true_and]
theorem K7{r:aY}(h:bO r.s r.n=0):-9223372036854775808<=r.s+r.n/\r.s+r.n<=9223372036854775807:=by
 rcases kM h with h|⟨s,n,h⟩<;>omega
theorem aLX{r:aY}(h:bO r.s r.n=0):0<=r.n/\r.n<=5000:=by
 rcases kM h with h|⟨s,n,h⟩<;>omega
theorem aS7{l:List aY}{k:Nat}(hrg:∀(j:Nat) r,j<k->l[j]?=some r->bO r.s r.n=0)(hk:k<l.length)(h:bO l[k].s l[k].n=0):∀(j:Nat) r,j<k+1->l[j]?=some r->bO r.s r.n=0:=by
 intro j r hj hr;rcases aYG j k with h1|h1
 exact hrg j r h1 hr;have:j=k:=by omega
 subst this;rw[aXJ hk] at hr;injection hr with hr;subst hr;exact h
theorem aEE{l:List aY}(hrg:∀(j:Nat) r,j<l.length->l[j]?=some r->bO r.s r.n=0):∀r∈l,bO r.s r.n=0:=by
 intro r hr;obtain⟨j,hj⟩:=List.mem_iff_getElem?.1 hr;exact hrg j r (aG hj) hj
def Bp(L:List (List aY)):Int:=aS (L.map fun l=>(nA l).2)
def fJ(a b:aY):Bool:=(a.s != -1)&&((b.s != -1)&&(decide (a.s<b.s+b.n)&&decide (b.s<a.s+a.n)))
def oF(l:List aY)(k:Nat)(r:aY):Int:=if bO r.s r.n≠0 then 2 else if ((oD l k).any fun q=>iC q r)=true then 3 else if ((l.take k).any fun q=>fJ q r)=true then 23 else 0
def zV(all:List aY):List aY->Nat->Int×Int
 |[],_=>(0,if cA all > 4096 then 8 else 0)
 |r::rest,k=>if oF all k r≠0 then ((k:Int),oF all k r) else zV all rest (k+1)
def aA9(l:List aY):Int×Int:=if (l.length:Int) > 64 then (0,8) else zV l l 0
theorem Hw{l:List aY}{k:Nat}(hk:k<l.length):zV l (l.drop k) k=if oF l k l[k]≠0 then ((k:Int),oF l k l[k]) else zV l (l.drop (k+1)) (k+1):=by
 rw[aYF hk,zV]
theorem Qv{l:List aY}{k:Nat}(hk:k<l.length):oF l k l[k]=if bO l[k].s l[k].n≠0 then 2 else if 0<k/\iC (l[k-1]'(by omega)) l[k]=true then 3 else if ((l.take k).any fun q=>fJ q l[k])=true then 23 else 0:=by
 unfold oF oD;by_cases h0:k=0;simp[h0];have h1:l[k-1]?=some (l[k-1]'(by omega)):=aXJ (by omega);have h2:0<k:=by omega
 simp only[h0,if_false,h1,Option.any_some,h2,true_and]
theorem aEF{r:aY}(h:bO r.s r.n=0):1<=r.n/\r.n<=4096/\-1<=r.s/\r.s<=511:=by
 rcases kM h with h|⟨s,n,h⟩<;>omega
theorem aS8{l:List aY}{k:Nat}(hl:l.length<=1000)(hr:∀r∈l,bO r.s r.n=0):0<=cA (l.take k)/\cA (l.take k)<=5000000:=by
 have h:=Um (l.take k) (fun r h=>aLX (hr r (aX6 h)))
 have:(l.take k).length<=1000:=by simp;omega
 omega
theorem Qw(l:List aY):cA (l.take l.length)=cA l:=by rw[aYh]
instance:DecidableEq aY:=fun a b=>decidable_of_iff (a.s=b.s/\a.n=b.n) ⟨fun h=>by cases a;cases b;simp_all,fun h=>by subst h;exact⟨rfl,rfl⟩⟩
theorem Xx{all:List aY}:∀{l:List aY}{p:Option aY}{U:List Bool}{i:Nat},(rY all l p U i).2=0->∀r∈l,bO r.s r.n=0
 |[],_,_,_,_,r,hr=>by cases hr
 | r0::l,p,U,i,h,r,hr=>by
  rw[rY] at h;split at h
  ·rename_i h1;exact absurd h h1
  ·rename_i h1;rcases aYR.1 hr with rfl | hr
   ·have h2:mE p U r=0:=by omega
    unfold mE at h2;split at h2
    ·exact h2
    ·rename_i h3;omega
   ·exact Xx h r hr
theorem M7{l:List aY}(h:(nA l).2=0):∀r∈l,bO r.s r.n=0:=by
 unfold nA at h;split at h;cases h;exact Xx h
theorem nC{l:List aY}(h:(nA l).2=0):l.length<=64:=by
 unfold nA at h;split at h;cases h;omega
def E6(R:List aY)(r:aY):List aY:=
 match R.getLast? with
 |some q=>if iC q r then R.dropLast++[⟨q.s,q.n+r.n⟩] else R++[r]
 |none=>[r]
theorem aEG(r:aY):E6 [] r=[r]:=rfl
theorem Dd(R:List aY)(q r:aY):E6 (R++[q]) r=if iC q r then R++[⟨q.s,q.n+r.n⟩] else R++[q]++[r]:=by simp[E6]
structure aS9 (R:List aY):Prop where
 el:∀q∈R,-1<=q.s/\q.s<=1000/\0<=q.n
 sum:cA R<=1000000000
 len:R.length<=1000000
theorem Bq(a b:List aY):cA (a++b)=cA a+cA b:=by simp[cA]
theorem gQ(R:List aY)(h:∀q∈R,0<=q.n):0<=cA R:=by
 induction R with
 |nil=>simp[cA]
 |cons r l ih=>
  have h1:=h r aXV;have h2:=ih (fun r hr=>h r (aX3 _ hr))
  have e1:cA (r::l)=r.n+cA l:=by simp[cA]
  omega
theorem aS9.last{R:List aY}{q:aY}(h:aS9 (R++[q])):-1<=q.s/\q.s<=1000/\0<=q.n/\q.n<=1000000000:=by
 have h1:=h.el q (by simp);have h2:=h.sum;have h3:=gQ R (fun q hq=>(h.el q (by simp[hq])).2.2)
 rw[Bq] at h2;have h4:cA [q]=q.n:=by simp[cA]
 omega
theorem aEH(R:List aY)(r:aY):cA (E6 R r)=cA R+r.n:=by
 rcases List.eq_nil_or_concat R with rfl|⟨R',q,rfl⟩;simp[E6,cA];rw[List.concat_eq_append,Dd];split;simp[Bq,cA];omega;simp[Bq,cA];omega
def zW(U:List Bool)(l:List aY):List Bool:=l.foldl (fun U r=>r.into U) U
theorem Un(U:List Bool)(l:List aY)(k:Nat)(h:k<l.length):zW U (l.take (k+1))=l[k].into (zW U (l.take k)):=by
 rw[aYx h,zW,List.foldl_append];rfl
theorem aEI{R:List aY}{r:aY}(hr:-1<=r.s/\r.s<=1000/\0<=r.n)(h:∀q∈R,-1<=q.s/\q.s<=1000/\0<=q.n):∀q∈E6 R r,-1<=q.s/\q.s<=1000/\0<=q.n:=by
 rcases List.eq_nil_or_concat R with rfl|⟨R',q,rfl⟩;rw[aEG];simpa using hr;rw[List.concat_eq_append] at *;rw[Dd];have hq:=h q (by simp);intro p hp;split at hp
 rcases aYV.1 hp with h1|h1;exact h p (by simp[h1])
 have:p=⟨q.s,q.n+r.n⟩:=by simpa using h1
 subst this;simp only;omega;rcases aYV.1 hp with h1|h1
 exact h p h1;have:p=r:=by simpa using h1
 subst this;exact hr
theorem Qx(R:List aY)(r:aY):(E6 R r).length<=R.length+1:=by
 rcases List.eq_nil_or_concat R with rfl|⟨R',q,rfl⟩;simp[E6];rw[List.concat_eq_append,Dd];split<;>simp
def aY.has(r:aY)(c:Nat):Bool:=decide (r.s≠-1/\r.s<=c/\(c:Int)<r.s+r.n)
theorem aBa(U:List Bool)(s n c:Nat)(h:s+n<=U.length):(E5 U s n).getD c false=(U.getD c false||decide (s<=c/\c<s+n)):=by
 induction n with
 |zero=>simp[E5];omega
 |succ n ih=>
  have ih:=ih (by omega);simp only[E5,aXN] at ih ⊢;by_cases hc:s+n=c;subst hc;rw[aX7 (by rw[Hv];omega)];simp;rw[aXW hc,ih];congr 1;apply decide_eq_decide.2;omega
theorem aBb(U:List Bool)(r:aY)(hU:U.length=512)(h:bO r.s r.n=0)(c:Nat):(r.into U).getD c false=(U.getD c false||r.has c):=by
 rcases kM h with⟨h1,_⟩|⟨s,n,h1,h2,h3,h4⟩;simp[aY.into,aY.has,h1];have hne:¬ r.s=-1:=by omega
 have e1:r.s.toNat=s:=by omega
 have e2:r.n.toNat=n:=by omega
 rw[aY.into,if_neg hne,e1,e2,aBa U s n c (by omega),aY.has];congr 1;apply decide_eq_decide.2;omega
theorem Hx(U:List Bool)(l:List aY)(hU:U.length=512)(h:∀r∈l,bO r.s r.n=0)(c:Nat):(zW U l).getD c false=(U.getD c false||l.any fun r=>r.has c):=by
 induction l generalizing U with
 |nil=>simp[zW]
 |cons r l ih=>
  show (zW (r.into U) l).getD c false=_;rw[ih (r.into U) (by rw[Qt,hU]) (fun r hr=>h r (aX3 _ hr)),aBb U r hU (h r aXV),List.any_cons,Bool.or_assoc]
theorem aEJ:U0.length=512:=aXO
theorem Xy(c:Nat):U0.getD c false=false:=by
 simp only[U0,aXN,aYH];split<;>rfl
theorem Hy(q r:aY)(hq:bO q.s q.n=0)(hr:bO r.s r.n=0):fJ q r=true↔∃c,q.has c=true/\r.has c=true:=by
 have h1:=aEF hq;have h2:=aEF hr;simp only[fJ,aY.has,aXQ,bne_iff_ne,decide_eq_true_eq,ne_eq];constructor;rintro⟨a1,a2,a3,a4⟩;by_cases h:q.s<=r.s;exact⟨r.s.toNat,by omega,by omega⟩;exact⟨q.s.toNat,by omega,by omega⟩;rintro⟨c,b1,b2⟩;omega
theorem aBc(U:List Bool)(r:aY)(h:bO r.s r.n=0):r.fresh U=true↔∀c,r.has c=true->U.getD c false=false:=by
 rcases kM h with⟨h1,_⟩|⟨s,n,h1,h2,h3,h4⟩;simp[aY.fresh,aY.has,h1];have hne:¬ r.s=-1:=by omega
 have e1:r.s.toNat=s:=by omega
 have e2:r.n.toNat=n:=by omega
 rw[aY.fresh,if_neg hne,e1,e2,Aj,aY2];simp only[List.mem_range,aYC,aY.has,decide_eq_true_eq];constructor;intro hh c hc;have:=hh (c-s) (by omega);rw[show s+(c-s)=c by omega] at this;exact this;intro hh j hj;exact hh (s+j) (by omega)
theorem Br(l:List aY)(r:aY)(hl:∀q∈l,bO q.s q.n=0)(h:bO r.s r.n=0):r.fresh (zW U0 l)=!(l.any fun q=>fJ q r):=by
 rw[aYN,aBc _ _ h,aYC,aYW];constructor;intro hh q hq hs;obtain⟨c,h1,h2⟩:=(Hy q r (hl q hq) h).1 hs;have h3:=hh c h2;rw[Hx U0 l aEJ hl,Xy,aYt,aYW] at h3;exact h3 q hq h1;intro hh c hc;rw[Hx U0 l aEJ hl,Xy,aYt,aYW];intro q hq h1;exact hh q hq ((Hy q r (hl q hq) h).2 ⟨c,h1,hc⟩)
theorem Hz(s n:Int):bO s n=0\/bO s n=2:=by
 unfold bO;split<;>split<;>(try split)<;>omega
theorem aJv{l:List aY}{k:Nat}(hk:k<l.length)(h:∀(j:Nat) r,j<k->l[j]?=some r->bO r.s r.n=0):mE (oD l k) (zW U0 (l.take k)) l[k]=oF l k l[k]:=by
 unfold mE oF;rcases Hz l[k].s l[k].n with h0|h0
 simp only[h0,ne_eq,not_true_eq_false,if_false];have hl:∀q∈l.take k,bO q.s q.n=0:=by
  intro q hq;obtain⟨j,hj⟩:=List.mem_iff_getElem?.1 hq;rw[aX2] at hj;split at hj;exact h j q (by assumption) hj;cases hj
 rw[Br _ _ hl h0];split;rfl;cases (l.take k).any fun q=>fJ q l[k]<;>rfl
 simp[h0]
theorem aJw(l:List aY):∀(n k:Nat),n=l.length-k->k<=l.length->(∀(j:Nat) r,j<k->l[j]?=some r->bO r.s r.n=0)->rY l (l.drop k) (oD l k) (zW U0 (l.take k)) k=zV l (l.drop k) k:=by
 intro n
 induction n with
 |zero=>
  intro k h1 h2 _;have:l.drop k=[]:=aZc (by omega);rw[this,rY,zV];by_cases h:cA l<=4096;rw[if_pos h,if_neg (by omega)];rw[if_neg h,if_pos (by omega)]
 |succ n ih=>
  intro k h1 h2 h3;have hk:k<l.length:=by omega
  rw[Hw hk,aYF hk,rY,aJv hk h3];split;rfl;rename_i h0;have h0:oF l k l[k]=0:=by omega
  have hr:bO l[k].s l[k].n=0:=by
   unfold oF at h0;rcases Hz l[k].s l[k].n with h|h
   exact h;simp[h] at h0
  have:=ih (k+1) (by omega) (by omega) (aS7 h3 hk hr);rw[<- this,Un U0 l k hk];congr 1;simp[oD,aXJ hk]
theorem aOx(l:List aY):nA l=aA9 l:=by
 unfold nA aA9;split;rfl;have:=aJw l l.length 0 (by omega) (by omega) (fun j r h=>by omega)
 simpa[oD,zW] using this
def iF(l:List aY):Int:=l.foldl (fun n r=>IntKind.i64.wrap (n+r.n)) 0
theorem De(l:List aY)(k:Nat)(h:k<l.length):iF (l.take (k+1))=IntKind.i64.wrap (iF (l.take k)+l[k].n):=by
 rw[aYx h,iF,List.foldl_append];rfl
theorem Bs(l:List aY)(h:∀r∈l,0<=r.n)(hs:cA l<=1000000000000):iF l=cA l:=by
 have key:∀ (l:List aY) (n:Int),0<=n->(∀ r∈l,0<=r.n)->n+cA l<=1000000000000->l.foldl (fun n r=>IntKind.i64.wrap (n+r.n)) n=n+cA l:=by
  intro l
  induction l with
  | nil=>intro n _ _ _;simp[cA]
  | cons r l ih=>
   intro n hn h hs;have h1:=h r aXV;have e1:cA (r::l)=r.n+cA l:=by simp[cA]
   have h2:=gQ l (fun r hr=>h r (aX3 _ hr))
   rw[aYO,C1 (by omega),ih (n+r.n) (by omega) (fun r hr=>h r (aX3 _ hr)) (by omega)]
   omega
 have:=key l 0 (by omega) h (by omega);simpa[iF] using this
def Qy(R l:List aY):List aY:=l.foldl E6 R
structure Bu (l:List aY):Prop where
 el:∀q∈l,-1<=q.s/\q.s<=1000/\0<=q.n
 sum:cA l<=100000000
 len:l.length<=100000
theorem aBd{R l:List aY}(hR:∀q∈R,-1<=q.s/\q.s<=1000/\0<=q.n)(hl:∀q∈l,-1<=q.s/\q.s<=1000/\0<=q.n):
  (∀q∈Qy R l,-1<=q.s/\q.s<=1000/\0<=q.n)/\cA (Qy R l)=cA R+cA l/\(Qy R l).length<=R.length+l.length:=by
 induction l generalizing R with
 |nil=>exact⟨hR,by simp[Qy,cA],by simp[Qy]⟩
 |cons r l ih=>
  have h1:=hl r aXV;obtain⟨a,b,c⟩:=ih (R:=E6 R r) (aEI h1 hR) (fun q hq=>hl q (aX3 _ hq))
  have e1:cA (r::l)=r.n+cA l:=by simp[cA]
  have h2:=Qx R r;refine⟨a,?_,?_⟩;show cA (Qy (E6 R r) l)=_;rw[b,aEH,e1];omega;show (Qy (E6 R r) l).length<=_;simp only[aXE];omega
theorem iI(l:List aY)(k:Nat)(h:∀r∈l,0<=r.n):cA (l.take k)<=cA l:=by
 have h2:cA l=cA (l.take k)+cA (l.drop k):=by rw[<- Bq,aYI]
 have:=gQ (l.drop k) (fun r hr=>h r (aYl hr))
 omega
theorem Bu.n_le{l:List aY}(h:Bu l){r:aY}(hr:r∈l):r.n<=100000000:=by
 obtain⟨i,hi,rfl⟩:=List.mem_iff_getElem.1 hr;have h1:=uJ l i hi;have h2:=iI l (i+1) (fun r hr=>(h.el r hr).2.2)
 have h3:=gQ (l.take i) (fun r hr=>(h.el r (aX6 hr)).2.2)
 have:=h.sum;omega
theorem Bu.nil:Bu []:=⟨by simp,by simp[cA],by simp⟩
def H0(r:aY)(n:Nat):List Int:=(List.range n).map fun (k:Nat)=>if r.s=-1 then -1 else r.s+k
def H3(l:List aY):List Int:=l.flatMap fun r=>H0 r r.n.toNat
theorem aEK(r:aY)(n:Nat):H0 r (n+1)=H0 r n++[if r.s=-1 then -1 else r.s+n]:=by
 simp[H0,List.range_succ]
theorem aEL(l:List aY)(k:Nat)(h:k<l.length):H3 (l.take (k+1))=H3 (l.take k)++H0 l[k] l[k].n.toNat:=by
 rw[aYx h,H3,List.flatMap_append];simp[H3]
theorem Xz(l:List aY)(h:∀r∈l,0<=r.n):((H3 l).length:Int)=cA l:=by
 induction l with
 |nil=>simp[H3,cA]
 |cons r l ih=>
  have h1:=h r aXV;have:=ih (fun r hr=>h r (aX3 _ hr))
  have e1:cA (r::l)=r.n+cA l:=by simp[cA]
  have e2:H3 (r::l)=H0 r r.n.toNat++H3 l:=by simp[H3]
  have e3:(H0 r r.n.toNat).length=r.n.toNat:=by simp[H0]
  rw[e1,e2,aXD,e3];omega
def Vol(r:aY):Prop:=(r.s=-1/\0<=r.n)\/(0<=r.s/\1<=r.n/\r.s+r.n<=512)
theorem Bu.add{l:List aY}(h:Bu l):Bu (Qy [] l):=by
 obtain⟨a,b,c⟩:=aBd (R:=[]) (by simp) h.el;have:=h.sum;have:=h.len;simp only[cA,aXT,List.sum_nil,aXH] at b c;exact⟨a,by simp only[cA] at *;omega,by omega⟩
theorem Bu.take{l:List aY}(h:Bu l)(k:Nat):Bu (l.take k):=⟨fun q hq=>h.el q (aX6 hq),by have:=iI l k (fun r hr=>(h.el r hr).2.2);have:=h.sum;omega,by have:=h.len;simp;omega⟩
theorem aTa{l:List aY}(h:(nA l).2=0):0<=cA l/\cA l<=4096:=by
 have h1:=M7 h;have h2:=nC h;refine⟨gQ l (fun r hr=>(aLX (h1 r hr)).1),?_⟩
 have key:∀(all l:List aY) p U i,(rY all l p U i).2=0->cA all<=4096:=by
  intro all l
  induction l with
  |nil=>intro p U i h;rw[rY] at h;simp only at h;split at h<;>first|assumption|omega
  |cons r l ih=>
   intro p U i h;rw[rY] at h;split at h;rename_i h1;exact absurd h h1;exact ih _ _ _ h
 unfold nA at h;split at h;cases h;exact key _ _ _ _ _ h
theorem Bv{l:List aY}(h:(nA l).2=0):Bu l:=by
 have h1:=M7 h;have h2:=nC h;have h3:=aTa h;exact⟨fun q hq=>by have:=aEF (h1 q hq);omega,by omega,by omega⟩
theorem K8(l:List aY):Bp [l]=(nA l).2:=by
 simp only[Bp,aXL,aXT,aS];split<;>simp_all
end
section
variable {G:aE}{B:aO}
theorem jG(n lo hi:Int):EV G (Tb B) 335 [vi n,vi lo,vi hi] []=some (vb (decide (lo<=n/\n<=hi)),[]):=by
 refine aA rfl ?_;by_cases h:lo<=n;all_goals simp (disch:=omega) only[go_sem,h335c]
 all_goals simp[h]
theorem jH(s n:Int):EV G (Tb B) 317 [rn s n] []=some (vb (decide (s=-1)),[]):=by
 refine aA rfl ?_;simp (disch:=omega) only[go_sem,h317c]
theorem Bw(b:Bool)(e:Int):EV G (Tb B) 306 [vb b,vi e] []=some (vi (if b=true then 0 else e),[]):=by
 refine aA rfl ?_;cases b;all_goals simp (disch:=omega) only[go_sem,h306c]
 all_goals rfl
theorem M8(p:Nat->Prop):∀n:Nat,(∀k,k<n->¬ p k)\/∃j,j<n/\p j/\∀k,k<j->¬ p k
 |0=>.inl (fun k h=>by omega)
 | n+1=>by
  rcases M8 p n with h | ⟨j,h1,h2,h3⟩
  ·by_cases hp:p n
   ·exact .inr ⟨n,by omega,hp,h⟩
   ·exact .inl (fun k hk=>by
     by_cases he:k=n
     ·subst he;exact hp
     ·exact h k (by omega))
  ·exact .inr ⟨j,by omega,h2,h3⟩
theorem jQ(l:List Int)(j:Nat)(hj:j<l.length)(h:∀k,k<j->¬ l.getD k 0≠0)(h1:l.getD j 0≠0):aS l=l[j]:=by
 have h2:l.getD j 0=l[j]:=by simp[aXN,aXJ hj]
 rw[Ed l j (fun k hk=>by have:=h k hk;omega),aYF hj,aS,if_neg (by rw[<- h2];exact h1)]
theorem gR(l:List Int)(h:∀k,k<l.length->¬ l.getD k 0≠0):aS l=0:=by
 rw[Ed l l.length (fun k hk=>by have:=h k hk;omega),List.drop_length];rfl
theorem cL(l:List Int)(k:Nat)(h:k<l.length):l.getD k 0=l[k]:=by simp[aXN,aXJ h]
theorem lS(s n:Int):EV G (Tb B) 303 [rn s n] []=some (vi (bO s n),[]):=by
 refine aA rfl ?_;by_cases h1:s=-1
 ·by_cases h2:1<=n/\n<=4096;all_goals simp (disch:=omega) only[go_sem,h303c,jH,jG,Bw,bO]
 by_cases h2:0<=s/\s<=511
 ·by_cases h3:1<=n/\n<=512-s;all_goals simp (disch:=omega) only[go_sem,h303c,jH,jG,Bw,bO]
 simp (disch:=omega) only[go_sem,h303c,jH,jG,Bw,bO]
end
section
variable {G:aE}{B:aO}
theorem aEM(l:List aY)(hl:l.length<=1000000):EV G (Tb B) 307 [eB l] []=some (vi (iF l),[]):=by
 refine aA rfl ?_;simp (disch:=omega) only[go_sem,h307c,aXC];rw[aR (fun k=>⟨(jk 3 (vi (iF (l.take k))::jk 2 (eB l::vi l.length::vi k::jk 9 []))),[]⟩) l.length ?_ ?_]
 simp (disch:=omega) only[go_sem,h307l0,aYh];rfl;intro k hk;rw[De l k hk];simp (disch:=omega) only[go_sem,h307l0,aXC,aY.e]
theorem M9(q r:aY)(h:-9223372036854775808<=q.s+q.n/\q.s+q.n<=9223372036854775807):EV G (Tb B) 304 [q.v,r.v] []=some (vb (iC q r),[]):=by
 refine aA rfl ?_;unfold iC;by_cases h1:q.s=-1;all_goals by_cases h2:r.s=-1
 all_goals simp (disch:=omega) only[go_sem,h304c,jH,h1,h2]
 all_goals simp[h1,h2]
theorem aJx(U:List Bool)(k:Nat)(h:k<U.length):((U.map bC).drop k).take 1=[.dc (.raw (.bool U[k]))]:=aEC U k _ (aXJ h)
theorem aOy(U:List Bool)(k:Nat)(b:Bool)(h:k<U.length):cQ (U.map bC) k [.dc (.raw (.bool b))]=(U.set k b).map bC:=aJu U k b h
theorem aTb(m:Nat)(U:List Bool):Jz m (U.map bC)=U.map bC:=by rw[Bk,aLW]
theorem aOz(U:List Bool):idsL (U.map bC)=[]:=by
 induction U with
 |nil=>rfl
 |cons b U ih=>rw[aXL,idsL,ih];rfl
theorem aTc(J:List Nat)(U:List Bool):Bm J (U.map bC)=true:=by
 induction U with
 |nil=>rfl
 |cons b U ih=>rw[aXL,Bm,ih];rfl
theorem aTd(ρ:Nat->Nat)(U:List Bool):(U.map bC).map (jN ρ)=U.map bC:=by
 induction U with
 |nil=>rfl
 |cons b U ih=>rw[aXL,aXL,ih];rfl
attribute [go_sem] aLW aTb aOz aTc aTd
theorem aEN(U:List Bool)(r:aY)(hU:U.length=512)(h:Vol r):EV G (Tb B) 305 [.one (.ptr 0 0),r.v] [bx U]=some (vb (r.fresh U),[bx (r.into U)]):=by
 refine aA rfl ?_;rcases h with⟨h1,_⟩|⟨h1,h2,h3⟩
 simp (disch:=omega) only[go_sem,h305c,jH,aY.fresh,aY.into];obtain⟨s,hs⟩:∃s:Nat,r.s=s:=⟨r.s.toNat,by omega⟩;obtain⟨n,hn⟩:∃n:Nat,r.n=n:=⟨r.n.toNat,by omega⟩;simp (disch:=omega) only[go_sem,h305c,jH,aY.fresh,aY.into,hs,hn];rw[aR (fun k=>⟨(.one (.ptr 0 0)::jk 2 (.one (.ptr 1 0)::jk 1 (vb (Aj U s k)::vi (s+k:Nat)::jk 27 []))),[bx (E5 U s k),.box [.dc (ci s),.dc (ci n)]]⟩) n ?_ ?_]
 simp (disch:=omega) only[go_sem,h305l0];rfl
 ·intro k hk;have hl:=Hv U s k;rw[Qs,E5];have getE:(E5 U s k)[s+k]'(by omega)=U.getD (s+k) false:=by
   have:=aEB U s k (s+k) (aXF _);rw[aXJ (by omega)] at this;rw[aXN,<- this];rfl
  cases hf:Aj U s k;all_goals simp (disch:=omega) only[go_sem,h305l0,aJx,aOy,getE]
end
section
variable {G:aE}{B:aO}
theorem aOA:List.replicate 512 (aT.dc (.raw (.bool false)))=U0.map bC:=by rw[U0,List.map_replicate];rfl
theorem aJy(l:List aY)(k:Nat)(hk:k<=l.length)(h:∀j,j<k->¬ mE (oD l j) (Uk l j) (l.getD j ⟨0,0⟩)≠0):rY l l none U0 0=rY l (l.drop k) (oD l k) (Uk l k) k:=by
 induction k with
 |zero=>rfl
 |succ k ih=>
  have e:l.getD k ⟨0,0⟩=l[k]:=by simp[aXN,aXJ (show k<l.length by omega)]
  have:=h k (Nat.lt_succ_self k);rw[e] at this;rw[ih (by omega) (fun j hj=>h j (by omega)),Xw (by omega),if_neg this,Xv l k (by omega)]
  simp[oD,aXJ (show k<l.length by omega)]
theorem pG(l:List aY)(k:Nat)(h:k<l.length):l.getD k ⟨0,0⟩=l[k]:=by simp[aXN,aXJ h]
theorem X0{r:aY}(h:bO r.s r.n=0):Vol r:=by
 rcases kM h with⟨h1,h2,h3⟩|⟨s,n,h1,h2,h3,h4⟩;exact .inl ⟨h1,by omega⟩
 exact .inr ⟨by omega,by omega,by omega⟩
theorem H4{l:List aY}{k:Nat}(U:List Bool)(hk:k<l.length)(h:¬ mE (oD l k) U (l.getD k ⟨0,0⟩)≠0):bO l[k].s l[k].n=0/\¬ (0<k/\iC (l[k-1]'(by omega)) l[k]=true)/\l[k].fresh U=true:=by
 rw[pG l k hk,Qu U hk] at h;by_cases h1:bO l[k].s l[k].n≠0;rw[if_pos h1] at h;exact absurd h1 h;rw[if_neg h1] at h;by_cases h2:0<k/\iC (l[k-1]'(by omega)) l[k]=true;rw[if_pos h2] at h;exact absurd (by decide) h;rw[if_neg h2] at h;cases h3:l[k].fresh U;rw[h3] at h;exact absurd (by decide) h;exact⟨by omega,h2,rfl⟩
theorem Na(l:List aY):EV G (Tb B) 267 [eB l] []=some (.tup [.one (.dc (ci (nA l).1)),.one (.dc (ci (nA l).2))],[]):=by
 refine aA rfl ?_;by_cases hl:(l.length:Int) > 64;simp only[nA,if_pos hl];simp (disch:=omega) only[go_sem,h267c,aXC]
 ·simp only[nA,if_neg hl];simp (disch:=omega) only[go_sem,h267c,aXC,List.map_replicate,aOA];rw[gF (fun k=>⟨(eB l::jk 3 (.one (.ptr 0 0)::jk 6 (eB l::vi l.length::vi k::jk 31 []))),[bx (Uk l k)]⟩) (fun k=>mE (oD l k) (Uk l k) (l.getD k ⟨0,0⟩)≠0) l.length ?_ ?_]
  rotate_left
  rfl;intro k hk hn;obtain⟨h1,h2,h3⟩:=H4 _ hk (hn k (aXF _));have hv:=X0 h1;have hU:=aED l k;have hT:=aEN (G:=G) (B:=B) (Uk l k) l[k] hU hv;rw[h3] at hT;rw[Xv l k hk];by_cases h0:0<k;have hj:iC (l[k-1]'(by omega)) l[k]=false:=by simpa[h0] using h2
  have hb:bO (l[k-1]'(by omega)).s (l[k-1]'(by omega)).n=0:=(H4 _ (by omega) (hn (k-1) (by omega))).1;have hb2:=K7 hb;simp (disch:=omega) only[go_sem,h267l0,aXC,aY.e,lS,h1,M9,hj,hT];simp (disch:=omega) only[go_sem,h267l0,aXC,aY.e,lS,h1,hT];obtain⟨hk,hp,hn⟩:=bT (fun k=>mE (oD l k) (Uk l k) (l.getD k ⟨0,0⟩)≠0) l.length
  generalize ix (fun k=>mE (oD l k) (Uk l k) (l.getD k ⟨0,0⟩)≠0) l.length=k at *
  have hrg:∀ (j:Nat) r,j < k->l[j]?=some r->bO r.s r.n=0:=fun j r hj hr=>by
   have hlt:j < l.length:=by omega
   have:=(H4 _ hlt (hn j hj)).1;rw[aXJ hlt] at hr;injection hr with hr;rwa[hr] at this
  rw[aJy l k hk hn];rcases hp with rfl|⟨hk',hp⟩
  have hr:=aEE hrg;have hw:iF l=cA l:=Bs l (fun r hm=>by have:=aEF (hr r hm);omega) (by
   have:=(aS8 (l:=l) (k:=l.length) (by omega) hr).2;rw[Qw] at this;omega)
  rw[List.drop_length,rY];simp (disch:=omega) only[go_sem,h267l0,aXC,aEM,Bw,hw];have hU:=aED l k;rw[pG l k hk'] at hp;rw[Xw hk',if_pos hp];rw[Qu _ hk'] at hp ⊢;by_cases h1:bO l[k].s l[k].n=0;have hT:=aEN (G:=G) (B:=B) (Uk l k) l[k] hU (X0 h1);by_cases h2:0<k/\iC (l[k-1]'(by omega)) l[k]=true;have hb2:=K7 (hrg (k-1) (l[k-1]'(by omega)) (by omega) (aXJ _));simp (disch:=omega) only[go_sem,h267l0,aXC,aY.e,lS,h1,M9,h2];have h3:l[k].fresh (Uk l k)=false:=by
   simp only[h1,ne_eq,not_true_eq_false,if_false,if_neg h2] at hp;cases h:l[k].fresh (Uk l k);rfl;rw[h] at hp;simp at hp
  rw[h3] at hT;by_cases h0:0<k;have hj:iC (l[k-1]'(by omega)) l[k]=false:=by simpa[h0] using h2
  have hb2:=K7 (hrg (k-1) (l[k-1]'(by omega)) (by omega) (aXJ _));simp (disch:=omega) only[go_sem,h267l0,aXC,aY.e,lS,h1,M9,hj,hT,h3];simp (disch:=omega) only[go_sem,h267l0,aXC,aY.e,lS,h1,hT,h3];simp (disch:=omega) only[go_sem,h267l0,aXC,aY.e,lS]
end
section
variable {G:aE}{B:aO}
def sl1(l:List aY):List DC:=[.slc (l.map aY.e)]
theorem X4(L:List (List aY))(k:Nat)(hk:k<L.length):((L.map fun l=>(nA l).2).getD k 0)=(nA L[k]).2:=by simp[aXN,aXJ hk]
theorem aBe(L:List (List aY))(hL:L.length<=1000):EV G (Tb B) 216 [vl (L.map sl1)] []=some (vi (Bp L),[]):=by
 refine aA rfl ?_;simp (disch:=omega) only[go_sem,h216c,aXC];rw[gF (fun k=>⟨(jk 7 (vl (L.map sl1)::vi L.length::vi k::jk 12 [])),[]⟩) (fun k=>(L.map fun l=>(nA l).2).getD k 0≠0) L.length ?_ ?_]
 rotate_left
 rfl;intro k hk hn;have h1:=hn k (aXF _);rw[X4 L k hk] at h1;simp (disch:=omega) only[go_sem,h216l0,aXC,sl1,Na];obtain⟨hk,hp,hn⟩:=bT (fun k=>(L.map fun l=>(nA l).2).getD k 0≠0) L.length
 generalize ix (fun k=>(L.map fun l=>(nA l).2).getD k 0≠0) L.length=k at *
 unfold Bp;rcases hp with rfl|⟨hk',hp⟩
 rw[gR _ (by simpa using hn)];simp (disch:=omega) only[go_sem,h216l0,aXC];rw[jQ _ k (by simpa using hk') hn hp];rw[X4 L k hk'] at hp;simp (disch:=omega) only[go_sem,h216l0,aXC,sl1,Na,aYo]
theorem Fv(a:List aY):EV G (Tb B) 216 [vl [[.slc (a.map aY.e)]]] []=some (vi (Bp [a]),[]):=aBe [a] (by simp)
theorem Qz(l:List aY)(s n:Int):l.map aY.e++[[.raw (.int .i64 s),.raw (.int .i64 n)]]=(l++[(⟨s,n⟩:aY)]).map aY.e:=by simp[aY.e,ci]
theorem aTe(r:aY):(aY.e r).length=2:=rfl
theorem X5(l:List aY):gE 2 (l.map aY.e)=true:=kJ aTe l
attribute [go_sem] X5
end
section
variable {G:aE}{B:aO}
end
end Go.Proofs.YthepfneloomngaaGreatDoor
