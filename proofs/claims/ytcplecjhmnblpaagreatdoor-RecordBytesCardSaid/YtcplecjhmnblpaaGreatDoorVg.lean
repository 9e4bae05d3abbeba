/- Parts that are cut, joined, removed, replaced, inserted. Conditions: none. -/
import Derived.Test.YtcplecjhmnblpaaGreatDoorTa
import Derived.Test.YtcplecjhmnblpaaGreatDoorCb
namespace Go.Proofs.YtcplecjhmnblpaaGreatDoor
set_option linter.unusedSimpArgs false
set_option linter.unusedVariables false
set_option maxRecDepth 4000
section
abbrev rn(s n:Int):AV:=.agg [.dc (ci s),.dc (ci n)]
structure bI where
 s:Int
 n:Int
def bI.e(r:bI):List DC:=[ci r.s,ci r.n]
abbrev bI.v(r:bI):AV:=rn r.s r.n
abbrev iW(l:List bI):AV:=vl (l.map bI.e)
def dH(l:List bI):Int:=(l.map bI.n).sum
theorem Nh(l:List bI)(hb:∀ r∈l,0<=r.n/\r.n<=5000):0<=dH l/\dH l<=5000 * l.length:=by
 induction l with
 | nil=>simp[dH]
 | cons r l ih=>
  have h1:=hb r aQt;have h2:=ih (fun r hr=>hb r (aQE _ hr))
  have e1:dH (r::l)=r.n+dH l:=by simp[dH]
  simp only[aQd];omega
def bM(s n:Int):Int:=if s=-1 then (if 1<=n/\n<=4096 then 0 else 2) else if 0<=s/\s<=511 then (if 1<=n/\n<=512 - s then 0 else 2) else 2
def aS:List Int->Int
 | []=>0
 | e::l=>if e=0 then aS l else e
theorem yN(l:List Int)(k:Nat)(h:∀ j,j < k->l.getD j 0=0):aS l=aS (l.drop k):=by
 induction k generalizing l with
 | zero=>rfl
 | succ k ih=>
  cases l with
  | nil=>rfl
  | cons e l=>
   have h0:e=0:=by simpa using h 0 (by omega)
   subst h0;simp only[aS,if_true,aRG];exact ih l (fun j hj=>by simpa using h (j+1) (by omega))
def Qu(e:Int):List DC:=[ci e]
abbrev el(l:List Int):List (List DC):=l.map Qu
def gY(a b:bI):Bool:=(decide (a.s=-1)==decide (b.s=-1))&&(decide (a.s=-1)||decide (a.s+a.n=b.s))
def bC(b:Bool):aR:=cI (.bool b)
abbrev bx(U:List Bool):aC:=.box (U.map bC)
def zC(U:List Bool)(s:Nat):Nat->List Bool
 | 0=>U
 | k+1=>(zC U s k).set (s+k) true
def tY(U:List Bool)(s k:Nat):Bool:=(List.range k).all fun j=>!(U.getD (s+j) false)
theorem Br(U:List Bool)(s k:Nat):(zC U s k).length=U.length:=by
 induction k with
 | zero=>rfl
 | succ k ih=>simp[zC,ih]
theorem aAl(U:List Bool)(s k j:Nat)(h:s+k<=j):(zC U s k)[j]?=U[j]?:=by
 induction k with
 | zero=>rfl
 | succ k ih=>
  simp only[zC];rw[aQx (by omega)];exact ih (by omega)
theorem J6(U:List Bool)(s k:Nat):tY U s (k+1)=(tY U s k&&!(U.getD (s+k) false)):=by
 simp[tY,List.range_succ]
theorem aAm(U:List Bool)(k:Nat)(b:Bool)(h:U[k]?=some b):((U.map bC).drop k).take 1=[bC b]:=by
 have hlt:k < U.length:=aG h;have hb:U[k]=b:=by rw[aQi hlt] at h;exact Option.some.inj h
 rw[<- List.map_drop,aQ1 hlt,aQo,hb];rfl
theorem aEF(U:List Bool)(k:Nat)(b:Bool)(h:k < U.length):cN (U.map bC) k [bC b]=(U.set k b).map bC:=by
 unfold cN;apply aRB;intro i;simp only[aQH];rw[List.set_eq_take_append_cons_drop];simp[h]
theorem aGy(p:Nat->Bool)(U:List Bool):(U.map bC).map (cF p)=U.map bC:=by
 rw[aQC];congr 1
def bI.into(r:bI)(U:List Bool):List Bool:=if r.s=-1 then U else zC U r.s.toNat r.n.toNat
def bI.fresh(r:bI)(U:List Bool):Bool:=if r.s=-1 then true else tY U r.s.toNat r.n.toNat
def U0:List Bool:=List.replicate 512 false
def nG(p:Option bI)(U:List Bool)(r:bI):Int:=if bM r.s r.n≠0 then bM r.s r.n else if (p.any fun q=>gY q r)=true then 3 else if r.fresh U then 0 else 23
def tA(all:List bI):List bI->Option bI->List Bool->Nat->Int × Int
 | [],_,_,_=>(0,if dH all<=4096 then 0 else 8)
 | r::rest,p,U,i=>if nG p U r≠0 then ((i:Int),nG p U r) else tA all rest (some r) (r.into U) (i+1)
def mU(l:List bI):Int × Int:=if (l.length:Int) > 64 then (0,8) else tA l l none U0 0
theorem kD{r:bI}(h:bM r.s r.n=0):(r.s=-1/\1<=r.n/\r.n<=4096)\/∃ s n:Nat,r.s=s/\r.n=n/\s+n<=512/\1<=n:=by
 unfold bM at h;split at h
 ·rename_i h1;split at h
  ·rename_i h2;exact .inl ⟨h1,h2.1,h2.2⟩
  ·omega
 ·split at h
  ·rename_i h1 h2;split at h
   ·rename_i h3;exact .inr ⟨r.s.toNat,r.n.toNat,by omega,by omega,by omega,by omega⟩
   ·omega
  ·omega
theorem J7(U:List Bool)(r:bI):(r.into U).length=U.length:=by
 unfold bI.into;split
 ·rfl
 ·exact Br _ _ _
def Uk(l:List bI)(k:Nat):List Bool:=(l.take k).foldl (fun U r=>r.into U) U0
def nH(l:List bI)(k:Nat):Option bI:=if k=0 then none else l[k - 1]?
theorem aAn(l:List bI)(k:Nat):(Uk l k).length=512:=by
 unfold Uk;have:∀ (l:List bI) (U:List Bool),(l.foldl (fun U r=>r.into U) U).length=U.length:=by
  intro l
  induction l with
  | nil=>intro U;rfl
  | cons r l ih=>intro U;rw[aRj,ih,J7]
 rw[this];simp[U0]
theorem Qv(l:List bI)(k:Nat)(h:k < l.length):Uk l (k+1)=l[k].into (Uk l k):=by
 unfold Uk;rw[aRb h,List.foldl_append];rfl
theorem Qw{l:List bI}{p:Option bI}{U:List Bool}{k:Nat}(hk:k < l.length):tA l (l.drop k) p U k=if nG p U l[k]≠0 then ((k:Int),nG p U l[k]) else tA l (l.drop (k+1)) (some l[k]) (l[k].into U) (k+1):=by
 rw[aQ1 hk,tA]
theorem J8{l:List bI}{k:Nat}(U:List Bool)(hk:k < l.length):nG (nH l k) U l[k]=if bM l[k].s l[k].n≠0 then bM l[k].s l[k].n else if 0 < k/\gY (l[k-1]'(by omega)) l[k]=true then 3 else if l[k].fresh U=true then 0 else 23:=by
 unfold nG nH;by_cases h0:k=0
 ·simp[h0]
 ·have h1:l[k-1]?=some (l[k-1]'(by omega)):=aQi (by omega);have h2:0 < k:=by omega
  simp only[h0,if_false,h1,Option.any_some,h2,true_and]
theorem Ex{r:bI}(h:bM r.s r.n=0):-9223372036854775808<=r.s+r.n/\r.s+r.n<=9223372036854775807:=by
 rcases kD h with h | ⟨s,n,h⟩<;>omega
theorem aGz{r:bI}(h:bM r.s r.n=0):0<=r.n/\r.n<=5000:=by
 rcases kD h with h | ⟨s,n,h⟩<;>omega
theorem aMo{l:List bI}{k:Nat}(hrg:∀ (j:Nat) r,j < k->l[j]?=some r->bM r.s r.n=0)(hk:k < l.length)(h:bM l[k].s l[k].n=0):∀ (j:Nat) r,j < k+1->l[j]?=some r->bM r.s r.n=0:=by
 intro j r hj hr;rcases aRe j k with h1 | h1
 ·exact hrg j r h1 hr
 ·have:j=k:=by omega
  subst this;rw[aQi hk] at hr;injection hr with hr;subst hr;exact h
theorem aAo{l:List bI}(hrg:∀ (j:Nat) r,j < l.length->l[j]?=some r->bM r.s r.n=0):∀ r∈l,bM r.s r.n=0:=by
 intro r hr;obtain⟨j,hj⟩:=List.mem_iff_getElem?.1 hr;exact hrg j r (aG hj) hj
def vQ(L:List (List bI)):Int:=aS (L.map fun l=>(mU l).2)
def fJ(a b:bI):Bool:=(a.s != -1)&&((b.s != -1)&&(decide (a.s < b.s+b.n)&&decide (b.s < a.s+a.n)))
def nI(l:List bI)(k:Nat)(r:bI):Int:=if bM r.s r.n≠0 then 2 else if ((nH l k).any fun q=>gY q r)=true then 3 else if ((l.take k).any fun q=>fJ q r)=true then 23 else 0
def tP(all:List bI):List bI->Nat->Int × Int
 | [],_=>(0,if dH all > 4096 then 8 else 0)
 | r::rest,k=>if nI all k r≠0 then ((k:Int),nI all k r) else tP all rest (k+1)
def Uu(l:List bI):Int × Int:=if (l.length:Int) > 64 then (0,8) else tP l l 0
theorem Bs{l:List bI}{k:Nat}(hk:k < l.length):tP l (l.drop k) k=if nI l k l[k]≠0 then ((k:Int),nI l k l[k]) else tP l (l.drop (k+1)) (k+1):=by
 rw[aQ1 hk,tP]
theorem J9{l:List bI}{k:Nat}(hk:k < l.length):nI l k l[k]=if bM l[k].s l[k].n≠0 then 2 else if 0 < k/\gY (l[k-1]'(by omega)) l[k]=true then 3 else if ((l.take k).any fun q=>fJ q l[k])=true then 23 else 0:=by
 unfold nI nH;by_cases h0:k=0
 ·simp[h0]
 ·have h1:l[k-1]?=some (l[k-1]'(by omega)):=aQi (by omega);have h2:0 < k:=by omega
  simp only[h0,if_false,h1,Option.any_some,h2,true_and]
theorem aAp{r:bI}(h:bM r.s r.n=0):1<=r.n/\r.n<=4096/\-1<=r.s/\r.s<=511:=by
 rcases kD h with h | ⟨s,n,h⟩<;>omega
theorem aMp{l:List bI}{k:Nat}(hl:l.length<=1000)(hr:∀ r∈l,bM r.s r.n=0):0<=dH (l.take k)/\dH (l.take k)<=5000000:=by
 have h:=Nh (l.take k) (fun r h=>aGz (hr r (aQO h)))
 have:(l.take k).length<=1000:=by simp;omega
 omega
theorem Ka(l:List bI):dH (l.take l.length)=dH l:=by rw[aQR]
instance:DecidableEq bI:=fun a b=>decidable_of_iff (a.s=b.s/\a.n=b.n) ⟨fun h=>by cases a;cases b;simp_all,fun h=>by subst h;exact⟨rfl,rfl⟩⟩
theorem aAq{a b:bI}:a=b↔a.s=b.s/\a.n=b.n:=⟨fun h=>by subst h;exact⟨rfl,rfl⟩,fun h=>by cases a;cases b;simp_all⟩
theorem Qx{all:List bI}:∀ {l:List bI} {p:Option bI} {U:List Bool} {i:Nat},(tA all l p U i).2=0->∀ r∈l,bM r.s r.n=0
 | [],_,_,_,_,r,hr=>by cases hr
 | r0::l,p,U,i,h,r,hr=>by
  rw[tA] at h;split at h
  ·rename_i h1;exact absurd h h1
  ·rename_i h1;rcases List.mem_cons.1 hr with rfl | hr
   ·have h2:nG p U r=0:=by omega
    unfold nG at h2;split at h2
    ·exact h2
    ·rename_i h3;omega
   ·exact Qx h r hr
theorem Bt{l:List bI}(h:(mU l).2=0):∀ r∈l,bM r.s r.n=0:=by
 unfold mU at h;split at h
 ·cases h
 ·exact Qx h
theorem mL{l:List bI}(h:(mU l).2=0):l.length<=64:=by
 unfold mU at h;split at h
 ·cases h
 ·omega
def zD(R:List bI)(r:bI):List bI:=
 match R.getLast? with
 | some q=>if gY q r then R.dropLast++[⟨q.s,q.n+r.n⟩] else R++[r]
 | none=>[r]
theorem aAr(r:bI):zD [] r=[r]:=rfl
theorem xG(R:List bI)(q r:bI):zD (R++[q]) r=if gY q r then R++[⟨q.s,q.n+r.n⟩] else R++[q]++[r]:=by simp[zD]
structure aMq (R:List bI):Prop where
 el:∀ q∈R,-1<=q.s/\q.s<=1000/\0<=q.n
 sum:dH R<=1000000000
 len:R.length<=1000000
theorem vR(a b:List bI):dH (a++b)=dH a+dH b:=by simp[dH]
theorem kE(R:List bI)(h:∀ q∈R,0<=q.n):0<=dH R:=by
 induction R with
 | nil=>simp[dH]
 | cons r l ih=>
  have h1:=h r aQt;have h2:=ih (fun r hr=>h r (aQE _ hr))
  have e1:dH (r::l)=r.n+dH l:=by simp[dH]
  omega
theorem aMq.last{R:List bI}{q:bI}(h:aMq (R++[q])):-1<=q.s/\q.s<=1000/\0<=q.n/\q.n<=1000000000:=by
 have h1:=h.el q (by simp);have h2:=h.sum;have h3:=kE R (fun q hq=>(h.el q (by simp[hq])).2.2)
 rw[vR] at h2;have h4:dH [q]=q.n:=by simp[dH]
 omega
theorem aAs(R:List bI)(r:bI):dH (zD R r)=dH R+r.n:=by
 rcases List.eq_nil_or_concat R with rfl | ⟨R',q,rfl⟩
 ·simp[zD,dH]
 ·rw[List.concat_eq_append,xG];split
  ·simp[vR,dH];omega
  ·simp[vR,dH];omega
def tQ(U:List Bool)(l:List bI):List Bool:=l.foldl (fun U r=>r.into U) U
theorem Ni(U:List Bool)(l:List bI)(k:Nat)(h:k < l.length):tQ U (l.take (k+1))=l[k].into (tQ U (l.take k)):=by
 rw[aRb h,tQ,List.foldl_append];rfl
theorem aAt{R:List bI}{r:bI}(hr:-1<=r.s/\r.s<=1000/\0<=r.n)(h:∀ q∈R,-1<=q.s/\q.s<=1000/\0<=q.n):∀ q∈zD R r,-1<=q.s/\q.s<=1000/\0<=q.n:=by
 rcases List.eq_nil_or_concat R with rfl | ⟨R',q,rfl⟩
 ·rw[aAr];simpa using hr
 ·rw[List.concat_eq_append] at *;rw[xG];have hq:=h q (by simp);intro p hp;split at hp
  ·rcases List.mem_append.1 hp with h1 | h1
   ·exact h p (by simp[h1])
   ·have:p=⟨q.s,q.n+r.n⟩:=by simpa using h1
    subst this;simp only;omega
  ·rcases List.mem_append.1 hp with h1 | h1
   ·exact h p h1
   ·have:p=r:=by simpa using h1
    subst this;exact hr
theorem Kb(R:List bI)(r:bI):(zD R r).length<=R.length+1:=by
 rcases List.eq_nil_or_concat R with rfl | ⟨R',q,rfl⟩
 ·simp[zD]
 ·rw[List.concat_eq_append,xG];split<;>simp
def bI.has(r:bI)(c:Nat):Bool:=decide (r.s≠-1/\r.s<=c/\(c:Int) < r.s+r.n)
theorem Uv(U:List Bool)(s n c:Nat)(h:s+n<=U.length):(zC U s n).getD c false=(U.getD c false||decide (s<=c/\c < s+n)):=by
 induction n with
 | zero=>simp[zC];omega
 | succ n ih=>
  have ih:=ih (by omega);simp only[zC,aQl] at ih ⊢;by_cases hc:s+n=c
  ·subst hc;rw[aQF (by rw[Br];omega)];simp
  ·rw[aQx hc,ih];congr 1;apply decide_eq_decide.2;omega
theorem Uw(U:List Bool)(r:bI)(hU:U.length=512)(h:bM r.s r.n=0)(c:Nat):(r.into U).getD c false=(U.getD c false||r.has c):=by
 rcases kD h with⟨h1,_⟩ | ⟨s,n,h1,h2,h3,h4⟩
 ·simp[bI.into,bI.has,h1]
 ·have hne:¬ r.s=-1:=by omega
  have e1:r.s.toNat=s:=by omega
  have e2:r.n.toNat=n:=by omega
  rw[bI.into,if_neg hne,e1,e2,Uv U s n c (by omega),bI.has];congr 1;apply decide_eq_decide.2;omega
theorem Bu(U:List Bool)(l:List bI)(hU:U.length=512)(h:∀ r∈l,bM r.s r.n=0)(c:Nat):(tQ U l).getD c false=(U.getD c false||l.any fun r=>r.has c):=by
 induction l generalizing U with
 | nil=>simp[tQ]
 | cons r l ih=>
  show (tQ (r.into U) l).getD c false=_;rw[ih (r.into U) (by rw[J7,hU]) (fun r hr=>h r (aQE _ hr)),Uw U r hU (h r aQt),List.any_cons,Bool.or_assoc]
theorem aAu:U0.length=512:=aQk
theorem Qy(c:Nat):U0.getD c false=false:=by
 simp only[U0,aQl,aRc];split<;>rfl
theorem Bv(q r:bI)(hq:bM q.s q.n=0)(hr:bM r.s r.n=0):fJ q r=true↔∃ c,q.has c=true/\r.has c=true:=by
 have h1:=aAp hq;have h2:=aAp hr;simp only[fJ,bI.has,aQp,bne_iff_ne,decide_eq_true_eq,ne_eq];constructor
 ·rintro⟨a1,a2,a3,a4⟩;by_cases h:q.s<=r.s
  ·exact⟨r.s.toNat,by omega,by omega⟩
  ·exact⟨q.s.toNat,by omega,by omega⟩
 ·rintro⟨c,b1,b2⟩;omega
theorem Ux(U:List Bool)(r:bI)(h:bM r.s r.n=0):r.fresh U=true↔∀ c,r.has c=true->U.getD c false=false:=by
 rcases kD h with⟨h1,_⟩ | ⟨s,n,h1,h2,h3,h4⟩
 ·simp[bI.fresh,bI.has,h1]
 ·have hne:¬ r.s=-1:=by omega
  have e1:r.s.toNat=s:=by omega
  have e2:r.n.toNat=n:=by omega
  rw[bI.fresh,if_neg hne,e1,e2,tY,aRl];simp only[List.mem_range,aRh,bI.has,decide_eq_true_eq];constructor
  ·intro hh c hc;have:=hh (c - s) (by omega);rw[show s+(c - s)=c by omega] at this;exact this
  ·intro hh j hj;exact hh (s+j) (by omega)
theorem Gr(l:List bI)(r:bI)(hl:∀ q∈l,bM q.s q.n=0)(h:bM r.s r.n=0):r.fresh (tQ U0 l)=!(l.any fun q=>fJ q r):=by
 rw[aRn,Ux _ _ h,aRh,aRD];constructor
 ·intro hh q hq hs;obtain⟨c,h1,h2⟩:=(Bv q r (hl q hq) h).1 hs;have h3:=hh c h2;rw[Bu U0 l aAu hl,Qy,aQT,aRD] at h3;exact h3 q hq h1
 ·intro hh c hc;rw[Bu U0 l aAu hl,Qy,aQT,aRD];intro q hq h1;exact hh q hq ((Bv q r (hl q hq) h).2 ⟨c,h1,hc⟩)
theorem Bw(s n:Int):bM s n=0\/bM s n=2:=by
 unfold bM;split<;>split<;>(try split)<;>omega
theorem aEG{l:List bI}{k:Nat}(hk:k < l.length)(h:∀ (j:Nat) r,j < k->l[j]?=some r->bM r.s r.n=0):nG (nH l k) (tQ U0 (l.take k)) l[k]=nI l k l[k]:=by
 unfold nG nI;rcases Bw l[k].s l[k].n with h0 | h0
 ·simp only[h0,ne_eq,not_true_eq_false,if_false];have hl:∀ q∈l.take k,bM q.s q.n=0:=by
   intro q hq;obtain⟨j,hj⟩:=List.mem_iff_getElem?.1 hq;rw[aQG] at hj;split at hj
   ·exact h j q (by assumption) hj
   ·cases hj
  rw[Gr _ _ hl h0];split
  ·rfl
  ·cases (l.take k).any fun q=>fJ q l[k]<;>rfl
 ·simp[h0]
theorem aEH(l:List bI):∀ (n k:Nat),n=l.length - k->k<=l.length->(∀ (j:Nat) r,j < k->l[j]?=some r->bM r.s r.n=0)->tA l (l.drop k) (nH l k) (tQ U0 (l.take k)) k=tP l (l.drop k) k:=by
 intro n
 induction n with
 | zero=>
  intro k h1 h2 _;have:l.drop k=[]:=List.drop_of_length_le (by omega);rw[this,tA,tP];by_cases h:dH l<=4096
  ·rw[if_pos h,if_neg (by omega)]
  ·rw[if_neg h,if_pos (by omega)]
 | succ n ih=>
  intro k h1 h2 h3;have hk:k < l.length:=by omega
  rw[Bs hk,aQ1 hk,tA,aEG hk h3];split
  ·rfl
  ·rename_i h0;have h0:nI l k l[k]=0:=by omega
   have hr:bM l[k].s l[k].n=0:=by
    unfold nI at h0;rcases Bw l[k].s l[k].n with h | h
    ·exact h
    ·simp[h] at h0
   have:=ih (k+1) (by omega) (by omega) (aMo h3 hk hr);rw[<- this,Ni U0 l k hk];congr 1;simp[nH,aQi hk]
theorem aIP(l:List bI):mU l=Uu l:=by
 unfold mU Uu;split
 ·rfl
 ·have:=aEH l l.length 0 (by omega) (by omega) (fun j r h=>by omega)
  simpa[nH,tQ] using this
def gZ(l:List bI):Int:=l.foldl (fun n r=>IntKind.i64.wrap (n+r.n)) 0
theorem xH(l:List bI)(k:Nat)(h:k < l.length):gZ (l.take (k+1))=IntKind.i64.wrap (gZ (l.take k)+l[k].n):=by
 rw[aRb h,gZ,List.foldl_append];rfl
theorem zX(l:List bI)(h:∀ r∈l,0<=r.n)(hs:dH l<=1000000000000):gZ l=dH l:=by
 have key:∀ (l:List bI) (n:Int),0<=n->(∀ r∈l,0<=r.n)->n+dH l<=1000000000000->l.foldl (fun n r=>IntKind.i64.wrap (n+r.n)) n=n+dH l:=by
  intro l
  induction l with
  | nil=>intro n _ _ _;simp[dH]
  | cons r l ih=>
   intro n hn h hs;have h1:=h r aQt;have e1:dH (r::l)=r.n+dH l:=by simp[dH]
   have h2:=kE l (fun r hr=>h r (aQE _ hr))
   rw[aRj,Mo (by omega),ih (n+r.n) (by omega) (fun r hr=>h r (aQE _ hr)) (by omega)]
   omega
 have:=key l 0 (by omega) h (by omega);simpa[gZ] using this
def Kc(R l:List bI):List bI:=l.foldl zD R
structure Gs (l:List bI):Prop where
 el:∀ q∈l,-1<=q.s/\q.s<=1000/\0<=q.n
 sum:dH l<=100000000
 len:l.length<=100000
theorem Uy{R l:List bI}(hR:∀ q∈R,-1<=q.s/\q.s<=1000/\0<=q.n)(hl:∀ q∈l,-1<=q.s/\q.s<=1000/\0<=q.n):
  (∀ q∈Kc R l,-1<=q.s/\q.s<=1000/\0<=q.n)/\dH (Kc R l)=dH R+dH l/\(Kc R l).length<=R.length+l.length:=by
 induction l generalizing R with
 | nil=>exact⟨hR,by simp[Kc,dH],by simp[Kc]⟩
 | cons r l ih=>
  have h1:=hl r aQt;obtain⟨a,b,c⟩:=ih (R:=zD R r) (aAt h1 hR) (fun q hq=>hl q (aQE _ hq))
  have e1:dH (r::l)=r.n+dH l:=by simp[dH]
  have h2:=Kb R r;refine⟨a, ?_, ?_⟩
  ·show dH (Kc (zD R r) l)=_;rw[b,aAs,e1];omega
  ·show (Kc (zD R r) l).length<=_;simp only[aQd];omega
theorem Gt(l:List bI)(k:Nat)(h:∀ r∈l,0<=r.n):dH (l.take k)<=dH l:=by
 have h2:dH l=dH (l.take k)+dH (l.drop k):=by rw[<- vR,aRy]
 have:=kE (l.drop k) (fun r hr=>h r (aQS hr))
 omega
theorem Gs.nil:Gs []:=⟨by simp,by simp[dH],by simp⟩
def Vol(r:bI):Prop:=(r.s=-1/\0<=r.n)\/(0<=r.s/\1<=r.n/\r.s+r.n<=512)
theorem Gs.add{l:List bI}(h:Gs l):Gs (Kc [] l):=by
 obtain⟨a,b,c⟩:=Uy (R:=[]) (by simp) h.el;have:=h.sum;have:=h.len;simp only[dH,aQn,List.sum_nil,aQe] at b c;exact⟨a,by simp only[dH] at *;omega,by omega⟩
theorem Gs.take{l:List bI}(h:Gs l)(k:Nat):Gs (l.take k):=⟨fun q hq=>h.el q (aQO hq),by have:=Gt l k (fun r hr=>(h.el r hr).2.2);have:=h.sum;omega,by have:=h.len;simp;omega⟩
theorem aO2{l:List bI}(h:(mU l).2=0):0<=dH l/\dH l<=4096:=by
 have h1:=Bt h;have h2:=mL h;refine⟨kE l (fun r hr=>(aGz (h1 r hr)).1), ?_⟩
 have key:∀ (all l:List bI) p U i,(tA all l p U i).2=0->dH all<=4096:=by
  intro all l
  induction l with
  | nil=>intro p U i h;rw[tA] at h;simp only at h;split at h<;>first | assumption | omega
  | cons r l ih=>
   intro p U i h;rw[tA] at h;split at h
   ·rename_i h1;exact absurd h h1
   ·exact ih _ _ _ h
 unfold mU at h;split at h
 ·cases h
 ·exact key _ _ _ _ _ h
theorem Kd{l:List bI}(h:(mU l).2=0):Gs l:=by
 have h1:=Bt h;have h2:=mL h;have h3:=aO2 h;exact⟨fun q hq=>by have:=aAp (h1 q hq);omega,by omega,by omega⟩
theorem Ke(l:List bI):vQ [l]=(mU l).2:=by
 simp only[vQ,aQo,aQn,aS];split<;>simp_all
end
section
variable {G:aH} {B:aW}
theorem iX(n lo hi:Int):EV G (Tb B) 252 [vi n,vi lo,vi hi] []=some (vb (decide (lo<=n/\n<=hi)),[]):=by
 refine aB rfl ?_;by_cases h:lo<=n
 all_goals simp (disch:=omega) only[go_sem,h252c]
 all_goals simp[h]
theorem iY(s n:Int):EV G (Tb B) 214 [rn s n] []=some (vb (decide (s=-1)),[]):=by
 refine aB rfl ?_;simp (disch:=omega) only[go_sem,h214c]
theorem vS(b:Bool)(e:Int):EV G (Tb B) 210 [vb b,vi e] []=some (vi (if b=true then 0 else e),[]):=by
 refine aB rfl ?_;cases b
 all_goals simp (disch:=omega) only[go_sem,h210c]
 all_goals rfl
theorem Uz(p:Nat->Prop):∀ n:Nat,(∀ k,k < n->¬ p k)\/∃ j,j < n/\p j/\∀ k,k < j->¬ p k
 | 0=>.inl (fun k h=>by omega)
 | n+1=>by
  rcases Uz p n with h | ⟨j,h1,h2,h3⟩
  ·by_cases hp:p n
   ·exact .inr ⟨n,by omega,hp,h⟩
   ·exact .inl (fun k hk=>by
     by_cases he:k=n
     ·subst he;exact hp
     ·exact h k (by omega))
  ·exact .inr ⟨j,by omega,h2,h3⟩
theorem mV(l:List Int)(j:Nat)(hj:j < l.length)(h:∀ k,k < j->¬ l.getD k 0≠0)(h1:l.getD j 0≠0):aS l=l[j]:=by
 have h2:l.getD j 0=l[j]:=by simp[aQl,aQi hj]
 rw[yN l j (fun k hk=>by have:=h k hk;omega),aQ1 hj,aS,if_neg (by rw[<- h2];exact h1)]
theorem kF(l:List Int)(h:∀ k,k < l.length->¬ l.getD k 0≠0):aS l=0:=by
 rw[yN l l.length (fun k hk=>by have:=h k hk;omega),List.drop_length];rfl
theorem eY(l:List Int)(k:Nat)(h:k < l.length):l.getD k 0=l[k]:=by simp[aQl,aQi h]
theorem lK(s n:Int):EV G (Tb B) 207 [rn s n] []=some (vi (bM s n),[]):=by
 refine aB rfl ?_;by_cases h1:s=-1
 ·by_cases h2:1<=n/\n<=4096
  all_goals simp (disch:=omega) only[go_sem,h207c,iY,iX,vS,bM]
 ·by_cases h2:0<=s/\s<=511
  ·by_cases h3:1<=n/\n<=512 - s
   all_goals simp (disch:=omega) only[go_sem,h207c,iY,iX,vS,bM]
  ·simp (disch:=omega) only[go_sem,h207c,iY,iX,vS,bM]
end
section
variable {G:aH} {B:aW}
theorem aAv(l:List bI)(hl:l.length<=1000000):EV G (Tb B) 211 [iW l] []=some (vi (gZ l),[]):=by
 refine aB rfl ?_;simp (disch:=omega) only[go_sem,h211c,aQb];rw[bG (fun k=>⟨(jk 3 (vi (gZ (l.take k))::jk 2 (iW l::vi l.length::vi k::jk 9 []))),[]⟩) l.length ?_ ?_]
 ·simp (disch:=omega) only[go_sem,h211l0,aQR]
 ·rfl
 ·intro k hk;rw[xH l k hk];simp (disch:=omega) only[go_sem,h211l0,aQb,bI.e]
theorem Gu(q r:bI)(h:-9223372036854775808<=q.s+q.n/\q.s+q.n<=9223372036854775807):EV G (Tb B) 208 [q.v,r.v] []=some (vb (gY q r),[]):=by
 refine aB rfl ?_;unfold gY;by_cases h1:q.s=-1
 all_goals by_cases h2:r.s=-1
 all_goals simp (disch:=omega) only[go_sem,h208c,iY,h1,h2]
 all_goals simp[h1,h2]
theorem aEI(U:List Bool)(k:Nat)(h:k < U.length):((U.map bC).drop k).take 1=[.dc (.raw (.bool U[k]))]:=aAm U k _ (aQi h)
theorem aIQ(U:List Bool)(k:Nat)(b:Bool)(h:k < U.length):cN (U.map bC) k [.dc (.raw (.bool b))]=(U.set k b).map bC:=aEF U k b h
theorem aMr(m:Nat)(U:List Bool):zA m (U.map bC)=U.map bC:=by rw[vL,aGy]
theorem aIR(U:List Bool):idsL (U.map bC)=[]:=by
 induction U with
 | nil=>rfl
 | cons b U ih=>rw[aQo,idsL,ih];rfl
theorem aMs(J:List Nat)(U:List Bool):vO J (U.map bC)=true:=by
 induction U with
 | nil=>rfl
 | cons b U ih=>rw[aQo,vO,ih];rfl
theorem aMt(ρ:Nat->Nat)(U:List Bool):(U.map bC).map (jC ρ)=U.map bC:=by
 induction U with
 | nil=>rfl
 | cons b U ih=>rw[aQo,aQo,ih];rfl
attribute [go_sem] aGy aMr aIR aMs aMt
theorem aAw(U:List Bool)(r:bI)(hU:U.length=512)(h:Vol r):EV G (Tb B) 209 [.one (.ptr 0 0),r.v] [bx U]=some (vb (r.fresh U),[bx (r.into U)]):=by
 refine aB rfl ?_;rcases h with⟨h1,_⟩ | ⟨h1,h2,h3⟩
 ·simp (disch:=omega) only[go_sem,h209c,iY,bI.fresh,bI.into]
 ·obtain⟨s,hs⟩:∃ s:Nat,r.s=s:=⟨r.s.toNat,by omega⟩;obtain⟨n,hn⟩:∃ n:Nat,r.n=n:=⟨r.n.toNat,by omega⟩;simp (disch:=omega) only[go_sem,h209c,iY,bI.fresh,bI.into,hs,hn];rw[bG (fun k=>⟨(.one (.ptr 0 0)::jk 2 (.one (.ptr 1 0)::jk 1 (vb (tY U s k)::vi (s+k:Nat)::jk 27 []))),[bx (zC U s k),.box [.dc (ci s),.dc (ci n)]]⟩) n ?_ ?_]
  ·simp (disch:=omega) only[go_sem,h209l0]
  ·rfl
  ·intro k hk;have hl:=Br U s k;rw[J6,zC];have getE:(zC U s k)[s+k]'(by omega)=U.getD (s+k) false:=by
    have:=aAl U s k (s+k) (aQf _);rw[aQi (by omega)] at this;rw[aQl,<- this];rfl
   cases hf:tY U s k
   all_goals simp (disch:=omega) only[go_sem,h209l0,aEI,aIQ,getE]
end
section
variable {G:aH} {B:aW}
theorem aIS:List.replicate 512 (aR.dc (.raw (.bool false)))=U0.map bC:=by rw[U0,List.map_replicate];rfl
theorem aEJ(l:List bI)(k:Nat)(hk:k<=l.length)(h:∀ j,j < k->¬ nG (nH l j) (Uk l j) (l.getD j ⟨0,0⟩)≠0):tA l l none U0 0=tA l (l.drop k) (nH l k) (Uk l k) k:=by
 induction k with
 | zero=>rfl
 | succ k ih=>
  have e:l.getD k ⟨0,0⟩=l[k]:=by simp[aQl,aQi (show k < l.length by omega)]
  have:=h k (Nat.lt_succ_self k);rw[e] at this;rw[ih (by omega) (fun j hj=>h j (by omega)),Qw (by omega),if_neg this,Qv l k (by omega)]
  simp[nH,aQi (show k < l.length by omega)]
theorem nV(l:List bI)(k:Nat)(h:k < l.length):l.getD k ⟨0,0⟩=l[k]:=by simp[aQl,aQi h]
theorem Qz{r:bI}(h:bM r.s r.n=0):Vol r:=by
 rcases kD h with⟨h1,h2,h3⟩ | ⟨s,n,h1,h2,h3,h4⟩
 ·exact .inl ⟨h1,by omega⟩
 ·exact .inr ⟨by omega,by omega,by omega⟩
theorem Bx{l:List bI}{k:Nat}(U:List Bool)(hk:k < l.length)(h:¬ nG (nH l k) U (l.getD k ⟨0,0⟩)≠0):bM l[k].s l[k].n=0/\¬ (0 < k/\gY (l[k-1]'(by omega)) l[k]=true)/\l[k].fresh U=true:=by
 rw[nV l k hk,J8 U hk] at h;by_cases h1:bM l[k].s l[k].n≠0
 ·rw[if_pos h1] at h;exact absurd h1 h
 ·rw[if_neg h1] at h;by_cases h2:0 < k/\gY (l[k-1]'(by omega)) l[k]=true
  ·rw[if_pos h2] at h;exact absurd (by decide) h
  ·rw[if_neg h2] at h;cases h3:l[k].fresh U
   ·rw[h3] at h;exact absurd (by decide) h
   ·exact⟨by omega,h2,rfl⟩
theorem Gv(l:List bI):EV G (Tb B) 174 [iW l] []=some (.tup [.one (.dc (ci (mU l).1)),.one (.dc (ci (mU l).2))],[]):=by
 refine aB rfl ?_;by_cases hl:(l.length:Int) > 64
 ·simp only[mU,if_pos hl];simp (disch:=omega) only[go_sem,h174c,aQb]
 ·simp only[mU,if_neg hl];simp (disch:=omega) only[go_sem,h174c,aQb,List.map_replicate,aIS];rw[gA (fun k=>⟨(iW l::jk 3 (.one (.ptr 0 0)::jk 6 (iW l::vi l.length::vi k::jk 31 []))),[bx (Uk l k)]⟩) (fun k=>nG (nH l k) (Uk l k) (l.getD k ⟨0,0⟩)≠0) l.length ?_ ?_]
  rotate_left
  ·rfl
  ·intro k hk hn;obtain⟨h1,h2,h3⟩:=Bx _ hk (hn k (aQf _));have hv:=Qz h1;have hU:=aAn l k;have hT:=aAw (G:=G) (B:=B) (Uk l k) l[k] hU hv;rw[h3] at hT;rw[Qv l k hk];by_cases h0:0 < k
   ·have hj:gY (l[k-1]'(by omega)) l[k]=false:=by simpa[h0] using h2
    have hb:bM (l[k-1]'(by omega)).s (l[k-1]'(by omega)).n=0:=(Bx _ (by omega) (hn (k-1) (by omega))).1;have hb2:=Ex hb;simp (disch:=omega) only[go_sem,h174l0,aQb,bI.e,lK,h1,Gu,hj,hT]
   ·simp (disch:=omega) only[go_sem,h174l0,aQb,bI.e,lK,h1,hT]
  obtain⟨hk,hp,hn⟩:=bW (fun k=>nG (nH l k) (Uk l k) (l.getD k ⟨0,0⟩)≠0) l.length
  generalize ix (fun k=>nG (nH l k) (Uk l k) (l.getD k ⟨0,0⟩)≠0) l.length=k at *
  have hrg:∀ (j:Nat) r,j < k->l[j]?=some r->bM r.s r.n=0:=fun j r hj hr=>by
   have hlt:j < l.length:=by omega
   have:=(Bx _ hlt (hn j hj)).1;rw[aQi hlt] at hr;injection hr with hr;rwa[hr] at this
  rw[aEJ l k hk hn];rcases hp with rfl | ⟨hk',hp⟩
  ·have hr:=aAo hrg;have hw:gZ l=dH l:=zX l (fun r hm=>by have:=aAp (hr r hm);omega) (by
    have:=(aMp (l:=l) (k:=l.length) (by omega) hr).2;rw[Ka] at this;omega)
   rw[List.drop_length,tA];simp (disch:=omega) only[go_sem,h174l0,aQb,aAv,vS,hw]
  ·have hU:=aAn l k;rw[nV l k hk'] at hp;rw[Qw hk',if_pos hp];rw[J8 _ hk'] at hp ⊢;by_cases h1:bM l[k].s l[k].n=0
   ·have hT:=aAw (G:=G) (B:=B) (Uk l k) l[k] hU (Qz h1);by_cases h2:0 < k/\gY (l[k-1]'(by omega)) l[k]=true
    ·have hb2:=Ex (hrg (k-1) (l[k-1]'(by omega)) (by omega) (aQi _));simp (disch:=omega) only[go_sem,h174l0,aQb,bI.e,lK,h1,Gu,h2]
    ·have h3:l[k].fresh (Uk l k)=false:=by
      simp only[h1,ne_eq,not_true_eq_false,if_false,if_neg h2] at hp;cases h:l[k].fresh (Uk l k)
      ·rfl
      ·rw[h] at hp;simp at hp
     rw[h3] at hT;by_cases h0:0 < k
     ·have hj:gY (l[k-1]'(by omega)) l[k]=false:=by simpa[h0] using h2
      have hb2:=Ex (hrg (k-1) (l[k-1]'(by omega)) (by omega) (aQi _));simp (disch:=omega) only[go_sem,h174l0,aQb,bI.e,lK,h1,Gu,hj,hT,h3]
     ·simp (disch:=omega) only[go_sem,h174l0,aQb,bI.e,lK,h1,hT,h3]
   ·simp (disch:=omega) only[go_sem,h174l0,aQb,bI.e,lK]
end
section
variable {G:aH} {B:aW}
def sl1(l:List bI):List DC:=[.slc (l.map bI.e)]
theorem Q1(L:List (List bI))(k:Nat)(hk:k < L.length):((L.map fun l=>(mU l).2).getD k 0)=(mU L[k]).2:=by simp[aQl,aQi hk]
theorem U1(L:List (List bI))(hL:L.length<=1000):EV G (Tb B) 212 [vl (L.map sl1)] []=some (vi (vQ L),[]):=by
 refine aB rfl ?_;simp (disch:=omega) only[go_sem,h212c,aQb];rw[gA (fun k=>⟨(jk 7 (vl (L.map sl1)::vi L.length::vi k::jk 12 [])),[]⟩) (fun k=>(L.map fun l=>(mU l).2).getD k 0≠0) L.length ?_ ?_]
 rotate_left
 ·rfl
 ·intro k hk hn;have h1:=hn k (aQf _);rw[Q1 L k hk] at h1;simp (disch:=omega) only[go_sem,h212l0,aQb,sl1,Gv]
 obtain⟨hk,hp,hn⟩:=bW (fun k=>(L.map fun l=>(mU l).2).getD k 0≠0) L.length
 generalize ix (fun k=>(L.map fun l=>(mU l).2).getD k 0≠0) L.length=k at *
 unfold vQ;rcases hp with rfl | ⟨hk',hp⟩
 ·rw[kF _ (by simpa using hn)];simp (disch:=omega) only[go_sem,h212l0,aQb]
 ·rw[mV _ k (by simpa using hk') hn hp];rw[Q1 L k hk'] at hp;simp (disch:=omega) only[go_sem,h212l0,aQb,sl1,Gv,aQw]
theorem zY(a:List bI):EV G (Tb B) 212 [vl [[.slc (a.map bI.e)]]] []=some (vi (vQ [a]),[]):=U1 [a] (by simp)
theorem vU(l:List bI)(s n:Int):l.map bI.e++[[.raw (.int .i64 s),.raw (.int .i64 n)]]=(l++[(⟨s,n⟩:bI)]).map bI.e:=by simp[bI.e,ci]
theorem aMu(r:bI):(bI.e r).length=2:=rfl
theorem Q2(l:List bI):fZ 2 (l.map bI.e)=true:=iV aMu l
attribute [go_sem] Q2
end
section
variable {G:aH} {B:aW}
end
section
variable {G:aH} {B:aW}
end
end Go.Proofs.YtcplecjhmnblpaaGreatDoor
