/- Part. Conditions: none. -/
import Derived.Test.YtalhnjjchkmfeabGreatDoorTa
import Derived.Test.YtalhnjjchkmfeabGreatDoorCb
namespace Go.Proofs.YtalhnjjchkmfeabGreatDoor
set_option linter.unusedSimpArgs false
set_option linter.unusedVariables false
set_option maxRecDepth 4000
section
abbrev rn(s n:Int):AV:=.agg [.dc (ci s),.dc (ci n)]
structure aV where
 s:Int
 n:Int
def aV.e(r:aV):L DC:=[ci r.s,ci r.n]
abbrev aV.v(r:aV):AV:=rn r.s r.n
abbrev cV(l:L aV):AV:=vl (l.map aV.e)
def cF(l:L aV):Int:=(l.map aV.n).sum
theorem Av(l:L aV)(k:Nat)(a:k<l.length):cF (l.take (k+1))=cF (l.take k)+l[k].n:=by
 rw[aZ5 a];simp only[cF,aZQ,List.sum_append,aZl,aZm,List.sum_cons,List.sum_nil,Int.add_zero]
theorem Wt(l:L aV)(a:∀r∈l,0<=r.n/\r.n<=5000):0<=cF l/\cF l<=5000*l.length:=by
 induction l with
 |nil=>simp[cF]
 |cons r l c=>
  have e:=a r aZt;have f:=c (fun r b=>a r (aZB _ b))
  have d:cF (r::l)=r.n+cF l:=by simp[cF]
  simp only[aZb];omega
def bR(s n:Int):Int:=if s=-1 then (if 1<=n/\n<=4096 then 0 else 2) else if 0<=s/\s<=511 then (if 1<=n/\n<=512-s then 0 else 2) else 2
def aT:L Int->Int
 |[]=>0
 |e::l=>if e=0 then aT l else e
theorem F7(l:L Int)(k:Nat)(h:∀j,j<k->l.getD j 0=0):aT l=aT (l.drop k):=by
 induction k generalizing l with
 |zero=>rfl
 |succ k b=>
  cases l with
  |nil=>rfl
  |cons e l=>
   have a:e=0:=by simpa using h 0 (by omega)
   subst a;simp only[aT,if_true,bAC];exact b l (fun j c=>by simpa using h (j+1) (by omega))
def tX(e:Int):L DC:=[ci e]
abbrev el(l:L Int):L (L DC):=l.map tX
def jF(a b:aV):Bool:=(decide (a.s=-1)==decide (b.s=-1))&&(decide (a.s=-1)||decide (a.s+a.n=b.s))
def bC(b:Bool):aU:=cN (.bool b)
abbrev bx(U:L Bool):aD:=.box (U.map bC)
def Gs(U:L Bool)(s:Nat):Nat->L Bool
 |0=>U
 |k+1=>(Gs U s k).set (s+k) true
def B8(U:L Bool)(s k:Nat):Bool:=(List.range k).all fun j=>!(U.getD (s+j) false)
theorem Ja(U:L Bool)(s k:Nat):(Gs U s k).length=U.length:=by
 induction k with
 |zero=>rfl
 |succ k a=>simp[Gs,a]
theorem aF0(U:L Bool)(s k j:Nat)(h:s+k<=j):(Gs U s k)[j]?=U[j]?:=by
 induction k with
 |zero=>rfl
 |succ k a=>
  simp only[Gs];rw[aZw (by omega)];exact a (by omega)
theorem St(U:L Bool)(s k:Nat):B8 U s (k+1)=(B8 U s k&&!(U.getD (s+k) false)):=by
 simp[B8,List.range_succ]
theorem aF1(U:L Bool)(k:Nat)(b:Bool)(h:U[k]?=some b):((U.map bC).drop k).take 1=[bC b]:=by
 have a:k<U.length:=aJ h;have c:U[k]=b:=by rw[aZi a] at h;exact Option.some.inj h
 rw[<- bAu,aZ4 a,aZl,c];rfl
theorem aLe(U:L Bool)(k:Nat)(b:Bool)(h:k<U.length):dB (U.map bC) k [bC b]=(U.set k b).map bC:=by
 unfold dB;apply List.ext_getElem?;intro i;simp only[aZN];rw[List.set_eq_take_append_cons_drop];simp[h]
theorem aNx(p:Nat->Bool)(U:L Bool):(U.map bC).map (cO p)=U.map bC:=by
 rw[aZG];congr 1
def aV.into(r:aV)(U:L Bool):L Bool:=if r.s=-1 then U else Gs U r.s.toNat r.n.toNat
def aV.fresh(r:aV)(U:L Bool):Bool:=if r.s=-1 then true else B8 U r.s.toNat r.n.toNat
def U0:L Bool:=List.replicate 512 false
def nO(p:Option aV)(U:L Bool)(r:aV):Int:=if bR r.s r.n≠0 then bR r.s r.n else if (p.any fun q=>jF q r)=true then 3 else if r.fresh U then 0 else 23
def uD(a:L aV):L aV->Option aV->L Bool->Nat->Int×Int
 |[],_,_,_=>(0,if cF a<=4096 then 0 else 8)
 |r::b,p,U,i=>if nO p U r≠0 then ((i:Int),nO p U r) else uD a b (some r) (r.into U) (i+1)
def nC(l:L aV):Int×Int:=if (l.length:Int) > 64 then (0,8) else uD l l none U0 0
theorem lS{r:aV}(h:bR r.s r.n=0):(r.s=-1/\1<=r.n/\r.n<=4096)\/∃s n:Nat,r.s=s/\r.n=n/\s+n<=512/\1<=n:=by
 unfold bR at h;split at h;rename_i b;split at h;rename_i a;exact .inl ⟨b,a.1,a.2⟩;omega;split at h;rename_i b a;split at h;rename_i h3;exact .inr ⟨r.s.toNat,r.n.toNat,by omega,by omega,by omega,by omega⟩;omega;omega
theorem Su(U:L Bool)(r:aV):(r.into U).length=U.length:=by
 unfold aV.into;split;rfl;exact Ja _ _ _
def Uk(l:L aV)(k:Nat):L Bool:=(l.take k).foldl (fun U r=>r.into U) U0
def pT(l:L aV)(k:Nat):Option aV:=if k=0 then none else l[k-1]?
theorem aF2(l:L aV)(k:Nat):(Uk l k).length=512:=by
 unfold Uk;have:∀ (l:L aV) (U:L Bool),(l.foldl (fun U r=>r.into U) U).length=U.length:=by
  intro l
  induction l with
  | nil=>intro U;rfl
  | cons r l a=>intro U;rw[List.foldl_cons,a,Su]
 rw[this];simp[U0]
theorem Z2(l:L aV)(k:Nat)(h:k<l.length):Uk l (k+1)=l[k].into (Uk l k):=by
 unfold Uk;rw[aZ5 h,List.foldl_append];rfl
theorem Z3{l:L aV}{p:Option aV}{U:L Bool}{k:Nat}(a:k<l.length):uD l (l.drop k) p U k=if nO p U l[k]≠0 then ((k:Int),nO p U l[k]) else uD l (l.drop (k+1)) (some l[k]) (l[k].into U) (k+1):=by
 rw[aZ4 a,uD]
theorem Sv{l:L aV}{k:Nat}(U:L Bool)(d:k<l.length):nO (pT l k) U l[k]=if bR l[k].s l[k].n≠0 then bR l[k].s l[k].n else if 0<k/\jF (l[k-1]'(by omega)) l[k]=true then 3 else if l[k].fresh U=true then 0 else 23:=by
 unfold nO pT;by_cases a:k=0;simp[a];have b:l[k-1]?=some (l[k-1]'(by omega)):=aZi (by omega);have c:0<k:=by omega
 simp only[a,if_false,b,Option.any_some,c,true_and]
theorem Mm{r:aV}(h:bR r.s r.n=0):-9223372036854775808<=r.s+r.n/\r.s+r.n<=9223372036854775807:=by
 rcases lS h with h|⟨s,n,h⟩<;>omega
theorem aNy{r:aV}(h:bR r.s r.n=0):0<=r.n/\r.n<=5000:=by
 rcases lS h with h|⟨s,n,h⟩<;>omega
theorem aUA{l:L aV}{k:Nat}(b:∀(j:Nat) r,j<k->l[j]?=some r->bR r.s r.n=0)(d:k<l.length)(h:bR l[k].s l[k].n=0):∀(j:Nat) r,j<k+1->l[j]?=some r->bR r.s r.n=0:=by
 intro j r e a;rcases bAp j k with c|c
 exact b j r c a;have:j=k:=by omega
 subst this;rw[aZi d] at a;injection a with a;subst a;exact h
theorem aF3{l:L aV}(a:∀(j:Nat) r,j<l.length->l[j]?=some r->bR r.s r.n=0):∀r∈l,bR r.s r.n=0:=by
 intro r c;obtain⟨j,b⟩:=List.mem_iff_getElem?.1 c;exact a j r (aJ b) b
def Dk(L:List (List aV)):Int:=aT (L.map fun l=>(nC l).2)
def gH(a b:aV):Bool:=(a.s != -1)&&((b.s != -1)&&(decide (a.s<b.s+b.n)&&decide (b.s<a.s+a.n)))
def pU(l:L aV)(k:Nat)(r:aV):Int:=if bR r.s r.n≠0 then 2 else if ((pT l k).any fun q=>jF q r)=true then 3 else if ((l.take k).any fun q=>gH q r)=true then 23 else 0
def Bw(a:L aV):L aV->Nat->Int×Int
 |[],_=>(0,if cF a > 4096 then 8 else 0)
 |r::b,k=>if pU a k r≠0 then ((k:Int),pU a k r) else Bw a b (k+1)
def aCq(l:L aV):Int×Int:=if (l.length:Int) > 64 then (0,8) else Bw l l 0
theorem Jb{l:L aV}{k:Nat}(a:k<l.length):Bw l (l.drop k) k=if pU l k l[k]≠0 then ((k:Int),pU l k l[k]) else Bw l (l.drop (k+1)) (k+1):=by
 rw[aZ4 a,Bw]
theorem Sw{l:L aV}{k:Nat}(d:k<l.length):pU l k l[k]=if bR l[k].s l[k].n≠0 then 2 else if 0<k/\jF (l[k-1]'(by omega)) l[k]=true then 3 else if ((l.take k).any fun q=>gH q l[k])=true then 23 else 0:=by
 unfold pU pT;by_cases a:k=0;simp[a];have b:l[k-1]?=some (l[k-1]'(by omega)):=aZi (by omega);have c:0<k:=by omega
 simp only[a,if_false,b,Option.any_some,c,true_and]
theorem aF4{r:aV}(h:bR r.s r.n=0):1<=r.n/\r.n<=4096/\-1<=r.s/\r.s<=511:=by
 rcases lS h with h|⟨s,n,h⟩<;>omega
theorem aUB{l:L aV}{k:Nat}(b:l.length<=1000)(a:∀r∈l,bR r.s r.n=0):0<=cF (l.take k)/\cF (l.take k)<=5000000:=by
 have h:=Wt (l.take k) (fun r h=>aNy (a r (aZA h)))
 have:(l.take k).length<=1000:=by simp;omega
 omega
theorem Sx(l:L aV):cF (l.take l.length)=cF l:=by rw[aZO]
instance:DecidableEq aV:=fun a b=>decidable_of_iff (a.s=b.s/\a.n=b.n) ⟨fun h=>by cases a;cases b;simp_all,fun h=>by subst h;exact⟨rfl,rfl⟩⟩
theorem aF5{a b:aV}:a=b↔a.s=b.s/\a.n=b.n:=⟨fun h=>by subst h;exact⟨rfl,rfl⟩,fun h=>by cases a;cases b;simp_all⟩
theorem Z4{b:L aV}:∀{l:L aV}{p:Option aV}{U:L Bool}{i:Nat},(uD b l p U i).2=0->∀r∈l,bR r.s r.n=0
 |[],_,_,_,_,r,a=>by cases a
 | e::l,p,U,i,h,r,a=>by
  rw[uD] at h;split at h
  ·rename_i d;exact absurd h d
  ·rename_i d;rcases bAl.1 a with rfl | a
   ·have c:nO p U r=0:=by omega
    unfold nO at c;split at c
    ·exact c
    ·rename_i h3;omega
   ·exact Z4 h r a
theorem Jc{l:L aV}(h:(nC l).2=0):∀r∈l,bR r.s r.n=0:=by
 unfold nC at h;split at h;cases h;exact Z4 h
theorem oW{l:L aV}(h:(nC l).2=0):l.length<=64:=by
 unfold nC at h;split at h;cases h;omega
def Gt(R:L aV)(r:aV):L aV:=
 match R.getLast? with
 |some q=>if jF q r then R.dropLast++[⟨q.s,q.n+r.n⟩] else R++[r]
 |none=>[r]
theorem aF6(r:aV):Gt [] r=[r]:=rfl
theorem E3(R:L aV)(q r:aV):Gt (R++[q]) r=if jF q r then R++[⟨q.s,q.n+r.n⟩] else R++[q]++[r]:=by simp[Gt]
structure aUC (R:List aV):Prop where
 el:∀q∈R,-1<=q.s/\q.s<=1000/\0<=q.n
 sum:cF R<=1000000000
 len:R.length<=1000000
theorem Dl(a b:L aV):cF (a++b)=cF a+cF b:=by simp[cF]
theorem iI(R:L aV)(h:∀q∈R,0<=q.n):0<=cF R:=by
 induction R with
 |nil=>simp[cF]
 |cons r l b=>
  have d:=h r aZt;have e:=b (fun r a=>h r (aZB _ a))
  have c:cF (r::l)=r.n+cF l:=by simp[cF]
  omega
theorem aUC.last{R:L aV}{q:aV}(h:aUC (R++[q])):-1<=q.s/\q.s<=1000/\0<=q.n/\q.n<=1000000000:=by
 have c:=h.el q (by simp);have a:=h.sum;have h3:=iI R (fun q b=>(h.el q (by simp[b])).2.2)
 rw[Dl] at a;have h4:cF [q]=q.n:=by simp[cF]
 omega
theorem aF7(R:L aV)(r:aV):cF (Gt R r)=cF R+r.n:=by
 rcases List.eq_nil_or_concat R with rfl|⟨a,q,rfl⟩;simp[Gt,cF];rw[List.concat_eq_append,E3];split;simp[Dl,cF];omega;simp[Dl,cF];omega
def Bx(U:L Bool)(l:L aV):L Bool:=l.foldl (fun U r=>r.into U) U
theorem Wu(U:L Bool)(l:L aV)(k:Nat)(h:k<l.length):Bx U (l.take (k+1))=l[k].into (Bx U (l.take k)):=by
 rw[aZ5 h,Bx,List.foldl_append];rfl
theorem aF8{R:L aV}{r:aV}(b:-1<=r.s/\r.s<=1000/\0<=r.n)(h:∀q∈R,-1<=q.s/\q.s<=1000/\0<=q.n):∀q∈Gt R r,-1<=q.s/\q.s<=1000/\0<=q.n:=by
 rcases List.eq_nil_or_concat R with rfl|⟨c,q,rfl⟩;rw[aF6];simpa using b;rw[List.concat_eq_append] at *;rw[E3];have d:=h q (by simp);intro p hp;split at hp
 rcases bAB.1 hp with a|a;exact h p (by simp[a])
 have:p=⟨q.s,q.n+r.n⟩:=by simpa using a
 subst this;simp only;omega;rcases bAB.1 hp with a|a
 exact h p a;have:p=r:=by simpa using a
 subst this;exact b
theorem Sy(R:L aV)(r:aV):(Gt R r).length<=R.length+1:=by
 rcases List.eq_nil_or_concat R with rfl|⟨a,q,rfl⟩;simp[Gt];rw[List.concat_eq_append,E3];split<;>simp
def aV.has(r:aV)(c:Nat):Bool:=decide (r.s≠-1/\r.s<=c/\(c:Int)<r.s+r.n)
theorem aCr(U:L Bool)(s n c:Nat)(h:s+n<=U.length):(Gs U s n).getD c false=(U.getD c false||decide (s<=c/\c<s+n)):=by
 induction n with
 |zero=>simp[Gs];omega
 |succ n a=>
  have a:=a (by omega);simp only[Gs,aZo] at a ⊢;by_cases b:s+n=c;subst b;rw[aZH (by rw[Ja];omega)];simp;rw[aZw b,a];congr 1;apply decide_eq_decide.2;omega
theorem aCs(U:L Bool)(r:aV)(g:U.length=512)(h:bR r.s r.n=0)(c:Nat):(r.into U).getD c false=(U.getD c false||r.has c):=by
 rcases lS h with⟨b,_⟩|⟨s,n,b,f,h3,h4⟩;simp[aV.into,aV.has,b];have a:¬ r.s=-1:=by omega
 have d:r.s.toNat=s:=by omega
 have e:r.n.toNat=n:=by omega
 rw[aV.into,if_neg a,d,e,aCr U s n c (by omega),aV.has];congr 1;apply decide_eq_decide.2;omega
theorem Jd(U:L Bool)(l:L aV)(a:U.length=512)(h:∀r∈l,bR r.s r.n=0)(c:Nat):(Bx U l).getD c false=(U.getD c false||l.any fun r=>r.has c):=by
 induction l generalizing U with
 |nil=>simp[Bx]
 |cons r l d=>
  show (Bx (r.into U) l).getD c false=_;rw[d (r.into U) (by rw[Su,a]) (fun r b=>h r (aZB _ b)),aCs U r a (h r aZt),List.any_cons,Bool.or_assoc]
theorem aF9:U0.length=512:=aZg
theorem Z5(c:Nat):U0.getD c false=false:=by
 simp only[U0,aZo,bAf];split<;>rfl
theorem Je(q r:aV)(a:bR q.s q.n=0)(b:bR r.s r.n=0):gH q r=true↔∃c,q.has c=true/\r.has c=true:=by
 have k:=aF4 a;have l:=aF4 b;simp only[gH,aV.has,aZq,bne_iff_ne,decide_eq_true_eq,ne_eq];constructor;rintro⟨d,e,f,g⟩;by_cases h:q.s<=r.s;exact⟨r.s.toNat,by omega,by omega⟩;exact⟨q.s.toNat,by omega,by omega⟩;rintro⟨c,i,j⟩;omega
theorem aCt(U:L Bool)(r:aV)(h:bR r.s r.n=0):r.fresh U=true↔∀c,r.has c=true->U.getD c false=false:=by
 rcases lS h with⟨d,_⟩|⟨s,n,d,g,h3,h4⟩;simp[aV.fresh,aV.has,d];have b:¬ r.s=-1:=by omega
 have e:r.s.toNat=s:=by omega
 have f:r.n.toNat=n:=by omega
 rw[aV.fresh,if_neg b,e,f,B8,bAr];simp only[List.mem_range,bAb,aV.has,decide_eq_true_eq];constructor;intro a c i;have:=a (c-s) (by omega);rw[show s+(c-s)=c by omega] at this;exact this;intro a j k;exact a (s+j) (by omega)
theorem Dm(l:L aV)(r:aV)(b:∀q∈l,bR q.s q.n=0)(h:bR r.s r.n=0):r.fresh (Bx U0 l)=!(l.any fun q=>gH q r):=by
 rw[bAv,aCt _ _ h,bAb,bAm];constructor;intro e q a i;obtain⟨c,d,f⟩:=(Je q r (b q a) h).1 i;have h3:=e c f;rw[Jd U0 l aF9 b,Z5,aZX,bAm] at h3;exact h3 q a d;intro e c g;rw[Jd U0 l aF9 b,Z5,aZX,bAm];intro q a d;exact e q a ((Je q r (b q a) h).2 ⟨c,d,g⟩)
theorem Jf(s n:Int):bR s n=0\/bR s n=2:=by
 unfold bR;split<;>split<;>(try split)<;>omega
theorem aLf{l:L aV}{k:Nat}(e:k<l.length)(h:∀(j:Nat) r,j<k->l[j]?=some r->bR r.s r.n=0):nO (pT l k) (Bx U0 (l.take k)) l[k]=pU l k l[k]:=by
 unfold nO pU;rcases Jf l[k].s l[k].n with a|a
 simp only[a,ne_eq,not_true_eq_false,if_false];have c:∀q∈l.take k,bR q.s q.n=0:=by
  intro q d;obtain⟨j,b⟩:=List.mem_iff_getElem?.1 d;rw[aZL] at b;split at b;exact h j q (by assumption) b;cases b
 rw[Dm _ _ c a];split;rfl;cases (l.take k).any fun q=>gH q l[k]<;>rfl
 simp[a]
theorem aLg(l:L aV):∀(n k:Nat),n=l.length-k->k<=l.length->(∀(j:Nat) r,j<k->l[j]?=some r->bR r.s r.n=0)->uD l (l.drop k) (pT l k) (Bx U0 (l.take k)) k=Bw l (l.drop k) k:=by
 intro n
 induction n with
 |zero=>
  intro k c d _;have:l.drop k=[]:=List.drop_of_length_le (by omega);rw[this,uD,Bw];by_cases h:cF l<=4096;rw[if_pos h,if_neg (by omega)];rw[if_neg h,if_pos (by omega)]
 |succ n f=>
  intro k c d h3;have a:k<l.length:=by omega
  rw[Jb a,aZ4 a,uD,aLf a h3];split;rfl;rename_i b;have b:pU l k l[k]=0:=by omega
  have e:bR l[k].s l[k].n=0:=by
   unfold pU at b;rcases Jf l[k].s l[k].n with h|h
   exact h;simp[h] at b
  have:=f (k+1) (by omega) (by omega) (aUA h3 a e);rw[<- this,Wu U0 l k a];congr 1;simp[pT,aZi a]
theorem aPV(l:L aV):nC l=aCq l:=by
 unfold nC aCq;split;rfl;have:=aLg l l.length 0 (by omega) (by omega) (fun j r h=>by omega)
 simpa[pT,Bx] using this
def gP(l:L aV):Int:=l.foldl (fun n r=>IntKind.i64.wrap (n+r.n)) 0
theorem E4(l:L aV)(k:Nat)(h:k<l.length):gP (l.take (k+1))=IntKind.i64.wrap (gP (l.take k)+l[k].n):=by
 rw[aZ5 h,gP,List.foldl_append];rfl
theorem Dn(l:L aV)(h:∀r∈l,0<=r.n)(c:cF l<=1000000000000):gP l=cF l:=by
 have b:∀ (l:L aV) (n:Int),0<=n->(∀ r∈l,0<=r.n)->n+cF l<=1000000000000->l.foldl (fun n r=>IntKind.i64.wrap (n+r.n)) n=n+cF l:=by
  intro l
  induction l with
  | nil=>intro n _ _ _;simp[cF]
  | cons r l d=>
   intro n i h c;have f:=h r aZt;have e:cF (r::l)=r.n+cF l:=by simp[cF]
   have g:=iI l (fun r a=>h r (aZB _ a))
   rw[List.foldl_cons,Et (by omega),d (n+r.n) (by omega) (fun r a=>h r (aZB _ a)) (by omega)]
   omega
 have:=b l 0 (by omega) h (by omega);simpa[gP] using this
def Sz(R l:L aV):L aV:=l.foldl Gt R
structure rW (l:List aV):Prop where
 el:∀q∈l,-1<=q.s/\q.s<=1000/\0<=q.n
 sum:cF l<=100000000
 len:l.length<=100000
theorem aCu{R l:L aV}(d:∀q∈R,-1<=q.s/\q.s<=1000/\0<=q.n)(e:∀q∈l,-1<=q.s/\q.s<=1000/\0<=q.n):(∀q∈Sz R l,-1<=q.s/\q.s<=1000/\0<=q.n)/\cF (Sz R l)=cF R+cF l/\(Sz R l).length<=R.length+l.length:=by
 induction l generalizing R with
 |nil=>exact⟨d,by simp[Sz,cF],by simp[Sz]⟩
 |cons r l i=>
  have g:=e r aZt;obtain⟨a,b,c⟩:=i (R:=Gt R r) (aF8 g d) (fun q h=>e q (aZB _ h))
  have f:cF (r::l)=r.n+cF l:=by simp[cF]
  have j:=Sy R r;refine⟨a,?_,?_⟩;show cF (Sz (Gt R r) l)=_;rw[b,aF7,f];omega;show (Sz (Gt R r) l).length<=_;simp only[aZb];omega
theorem iJ(l:L aV)(k:Nat)(h:∀r∈l,0<=r.n):cF (l.take k)<=cF l:=by
 have b:cF l=cF (l.take k)+cF (l.drop k):=by rw[<- Dl,bAc]
 have:=iI (l.drop k) (fun r a=>h r (aZM a))
 omega
theorem rW.n_le{l:L aV}(h:rW l){r:aV}(a:r∈l):r.n<=100000000:=by
 obtain⟨i,b,rfl⟩:=List.mem_iff_getElem.1 a;have c:=Av l i b;have d:=iJ l (i+1) (fun r a=>(h.el r a).2.2)
 have h3:=iI (l.take i) (fun r a=>(h.el r (aZA a)).2.2)
 have:=h.sum;omega
theorem rW.nil:rW []:=⟨by simp,by simp[cF],by simp⟩
def Aw(r:aV)(n:Nat):L Int:=(List.range n).map fun (k:Nat)=>if r.s=-1 then -1 else r.s+k
def rY(l:L aV):L Int:=l.flatMap fun r=>Aw r r.n.toNat
theorem S0(r:aV)(n:Nat):Aw r (n+1)=Aw r n++[if r.s=-1 then -1 else r.s+n]:=by
 simp[Aw,List.range_succ]
theorem S4(l:L aV)(k:Nat)(h:k<l.length):rY (l.take (k+1))=rY (l.take k)++Aw l[k] l[k].n.toNat:=by
 rw[aZ5 h,rY,List.flatMap_append];simp[rY]
theorem Ax(l:L aV)(h:∀r∈l,0<=r.n):((rY l).length:Int)=cF l:=by
 induction l with
 |nil=>simp[rY,cF]
 |cons r l e=>
  have f:=h r aZt;have:=e (fun r d=>h r (aZB _ d))
  have a:cF (r::l)=r.n+cF l:=by simp[cF]
  have b:rY (r::l)=Aw r r.n.toNat++rY l:=by simp[rY]
  have c:(Aw r r.n.toNat).length=r.n.toNat:=by simp[Aw]
  rw[a,b,aZa,c];omega
def Vol(r:aV):Prop:=(r.s=-1/\0<=r.n)\/(0<=r.s/\1<=r.n/\r.s+r.n<=512)
theorem rW.add{l:L aV}(h:rW l):rW (Sz [] l):=by
 obtain⟨a,b,c⟩:=aCu (R:=[]) (by simp) h.el;have:=h.sum;have:=h.len;simp only[cF,aZm,List.sum_nil,aZc] at b c;exact⟨a,by simp only[cF] at *;omega,by omega⟩
theorem rW.take{l:L aV}(h:rW l)(k:Nat):rW (l.take k):=⟨fun q a=>h.el q (aZA a),by have:=iJ l k (fun r b=>(h.el r b).2.2);have:=h.sum;omega,by have:=h.len;simp;omega⟩
theorem aUD{l:L aV}(h:(nC l).2=0):0<=cF l/\cF l<=4096:=by
 have b:=Jc h;have f:=oW h;refine⟨iI l (fun r d=>(aNy (b r d)).1),?_⟩
 have c:∀(a l:L aV) p U i,(uD a l p U i).2=0->cF a<=4096:=by
  intro a l
  induction l with
  |nil=>intro p U i h;rw[uD] at h;simp only at h;split at h<;>first|assumption|omega
  |cons r l e=>
   intro p U i h;rw[uD] at h;split at h;rename_i b;exact absurd h b;exact e _ _ _ h
 unfold nC at h;split at h;cases h;exact c _ _ _ _ _ h
theorem Do{l:L aV}(h:(nC l).2=0):rW l:=by
 have a:=Jc h;have c:=oW h;have h3:=aUD h;exact⟨fun q b=>by have:=aF4 (a q b);omega,by omega,by omega⟩
theorem Mn(l:L aV):Dk [l]=(nC l).2:=by
 simp only[Dk,aZl,aZm,aT];split<;>simp_all
end
section
variable {G:aE}{B:aN}
theorem kE(n a b:Int):EV G (Tb B) 283 [vi n,vi a,vi b] []=some (vb (decide (a<=n/\n<=b)),[]):=by
 refine aA rfl ?_;by_cases h:a<=n;all_goals simp (disch:=omega) only[go_sem,h283c]
 all_goals simp[h]
theorem kF(s n:Int):EV G (Tb B) 251 [rn s n] []=some (vb (decide (s=-1)),[]):=by
 refine aA rfl ?_;simp (disch:=omega) only[go_sem,h251c]
theorem Dp(b:Bool)(e:Int):EV G (Tb B) 265 [vb b,vi e] []=some (vi (if b=true then 0 else e),[]):=by
 refine aA rfl ?_;cases b;all_goals simp (disch:=omega) only[go_sem,h265c]
 all_goals rfl
theorem O3(p:Nat->Prop):∀n:Nat,(∀k,k<n->¬ p k)\/∃j,j<n/\p j/\∀k,k<j->¬ p k
 |0=>.inl (fun k h=>by omega)
 | n+1=>by
  rcases O3 p n with h | ⟨j,h1,h2,h3⟩
  ·by_cases hp:p n
   ·exact .inr ⟨n,by omega,hp,h⟩
   ·exact .inl (fun k b=>by
     by_cases a:k=n
     ·subst a;exact hp
     ·exact h k (by omega))
  ·exact .inr ⟨j,by omega,h2,h3⟩
theorem kM(l:L Int)(j:Nat)(a:j<l.length)(h:∀k,k<j->¬ l.getD k 0≠0)(b:l.getD j 0≠0):aT l=l[j]:=by
 have c:l.getD j 0=l[j]:=by simp[aZo,aZi a]
 rw[F7 l j (fun k d=>by have:=h k d;omega),aZ4 a,aT,if_neg (by rw[<- c];exact b)]
theorem iK(l:L Int)(h:∀k,k<l.length->¬ l.getD k 0≠0):aT l=0:=by
 rw[F7 l l.length (fun k a=>by have:=h k a;omega),List.drop_length];rfl
theorem bW(l:L Int)(k:Nat)(h:k<l.length):l.getD k 0=l[k]:=by simp[aZo,aZi h]
theorem nD(s n:Int):EV G (Tb B) 262 [rn s n] []=some (vi (bR s n),[]):=by
 refine aA rfl ?_;by_cases b:s=-1
 ·by_cases a:1<=n/\n<=4096;all_goals simp (disch:=omega) only[go_sem,h262c,kF,kE,Dp,bR]
 by_cases a:0<=s/\s<=511
 ·by_cases h3:1<=n/\n<=512-s;all_goals simp (disch:=omega) only[go_sem,h262c,kF,kE,Dp,bR]
 simp (disch:=omega) only[go_sem,h262c,kF,kE,Dp,bR]
end
section
variable {G:aE}{B:aN}
theorem aGa(l:L aV)(b:l.length<=1000000):EV G (Tb B) 266 [cV l] []=some (vi (gP l),[]):=by
 refine aA rfl ?_;simp (disch:=omega) only[go_sem,h266c,aY9];rw[aQ (fun k=>⟨(jk 3 (vi (gP (l.take k))::jk 2 (cV l::vi l.length::vi k::jk 9 []))),[]⟩) l.length ?_ ?_]
 simp (disch:=omega) only[go_sem,h266l0,aZO];rfl;intro k a;rw[E4 l k a];simp (disch:=omega) only[go_sem,h266l0,aY9,aV.e]
theorem O4(q r:aV)(h:-9223372036854775808<=q.s+q.n/\q.s+q.n<=9223372036854775807):EV G (Tb B) 263 [q.v,r.v] []=some (vb (jF q r),[]):=by
 refine aA rfl ?_;unfold jF;by_cases a:q.s=-1;all_goals by_cases b:r.s=-1
 all_goals simp (disch:=omega) only[go_sem,h263c,kF,a,b]
 all_goals simp[a,b]
theorem aLh(U:L Bool)(k:Nat)(h:k<U.length):((U.map bC).drop k).take 1=[.dc (.raw (.bool U[k]))]:=aF1 U k _ (aZi h)
theorem aPW(U:L Bool)(k:Nat)(b:Bool)(h:k<U.length):dB (U.map bC) k [.dc (.raw (.bool b))]=(U.set k b).map bC:=aLe U k b h
theorem aUE(m:Nat)(U:L Bool):Gq m (U.map bC)=U.map bC:=by rw[Dg,aNx]
theorem aPX(U:L Bool):idsL (U.map bC)=[]:=by
 induction U with
 |nil=>rfl
 |cons b U a=>rw[aZl,idsL,a];rfl
theorem aUF(J:L Nat)(U:L Bool):Gr J (U.map bC)=true:=by
 induction U with
 |nil=>rfl
 |cons b U a=>rw[aZl,Gr,a];rfl
theorem aUG(ρ:Nat->Nat)(U:L Bool):(U.map bC).map (kT ρ)=U.map bC:=by
 induction U with
 |nil=>rfl
 |cons b U a=>rw[aZl,aZl,a];rfl
attribute [go_sem] aNx aUE aPX aUF aUG
theorem aGb(U:L Bool)(r:aV)(f:U.length=512)(h:Vol r):EV G (Tb B) 264 [.one (.ptr 0 0),r.v] [bx U]=some (vb (r.fresh U),[bx (r.into U)]):=by
 refine aA rfl ?_;rcases h with⟨b,_⟩|⟨b,e,h3⟩
 simp (disch:=omega) only[go_sem,h264c,kF,aV.fresh,aV.into];obtain⟨s,d⟩:∃s:Nat,r.s=s:=⟨r.s.toNat,by omega⟩;obtain⟨n,c⟩:∃n:Nat,r.n=n:=⟨r.n.toNat,by omega⟩;simp (disch:=omega) only[go_sem,h264c,kF,aV.fresh,aV.into,d,c];rw[aQ (fun k=>⟨(.one (.ptr 0 0)::jk 2 (.one (.ptr 1 0)::jk 1 (vb (B8 U s k)::vi (s+k:Nat)::jk 27 []))),[bx (Gs U s k),.box [.dc (ci s),.dc (ci n)]]⟩) n ?_ ?_]
 simp (disch:=omega) only[go_sem,h264l0];rfl
 ·intro k g;have i:=Ja U s k;rw[St,Gs];have a:(Gs U s k)[s+k]'(by omega)=U.getD (s+k) false:=by
   have:=aF0 U s k (s+k) (aZe _);rw[aZi (by omega)] at this;rw[aZo,<- this];rfl
  cases hf:B8 U s k;all_goals simp (disch:=omega) only[go_sem,h264l0,aLh,aPW,a]
end
section
variable {G:aE}{B:aN}
theorem aPY:List.replicate 512 (aU.dc (.raw (.bool false)))=U0.map bC:=by rw[U0,List.map_replicate];rfl
theorem aLi(l:L aV)(k:Nat)(c:k<=l.length)(h:∀j,j<k->¬ nO (pT l j) (Uk l j) (l.getD j ⟨0,0⟩)≠0):uD l l none U0 0=uD l (l.drop k) (pT l k) (Uk l k) k:=by
 induction k with
 |zero=>rfl
 |succ k a=>
  have e:l.getD k ⟨0,0⟩=l[k]:=by simp[aZo,aZi (show k<l.length by omega)]
  have:=h k (Nat.lt_succ_self k);rw[e] at this;rw[a (by omega) (fun j b=>h j (by omega)),Z3 (by omega),if_neg this,Z2 l k (by omega)]
  simp[pT,aZi (show k<l.length by omega)]
theorem kC(l:L aV)(k:Nat)(h:k<l.length):l.getD k ⟨0,0⟩=l[k]:=by simp[aZo,aZi h]
theorem Z6{r:aV}(h:bR r.s r.n=0):Vol r:=by
 rcases lS h with⟨a,b,h3⟩|⟨s,n,a,b,h3,h4⟩;exact .inl ⟨a,by omega⟩
 exact .inr ⟨by omega,by omega,by omega⟩
theorem Jg{l:L aV}{k:Nat}(U:L Bool)(c:k<l.length)(h:¬ nO (pT l k) U (l.getD k ⟨0,0⟩)≠0):bR l[k].s l[k].n=0/\¬ (0<k/\jF (l[k-1]'(by omega)) l[k]=true)/\l[k].fresh U=true:=by
 rw[kC l k c,Sv U c] at h;by_cases a:bR l[k].s l[k].n≠0;rw[if_pos a] at h;exact absurd a h;rw[if_neg a] at h;by_cases b:0<k/\jF (l[k-1]'(by omega)) l[k]=true;rw[if_pos b] at h;exact absurd (by decide) h;rw[if_neg b] at h;cases h3:l[k].fresh U;rw[h3] at h;exact absurd (by decide) h;exact⟨by omega,b,rfl⟩
theorem O5(l:L aV):EV G (Tb B) 235 [cV l] []=some (.tup [.one (.dc (ci (nC l).1)),.one (.dc (ci (nC l).2))],[]):=by
 refine aA rfl ?_;by_cases v:(l.length:Int) > 64;simp only[nC,if_pos v];simp (disch:=omega) only[go_sem,h235c,aY9]
 ·simp only[nC,if_neg v];simp (disch:=omega) only[go_sem,h235c,aY9,List.map_replicate,aPY];rw[dP (fun k=>⟨(cV l::jk 3 (.one (.ptr 0 0)::jk 6 (cV l::vi l.length::vi k::jk 31 []))),[bx (Uk l k)]⟩) (fun k=>nO (pT l k) (Uk l k) (l.getD k ⟨0,0⟩)≠0) l.length ?_ ?_]
  rotate_left
  rfl;intro k q p;obtain⟨a,g,h3⟩:=Jg _ q (p k (aZe _));have y:=Z6 a;have u:=aF2 l k;have b:=aGb (G:=G) (B:=B) (Uk l k) l[k] u y;rw[h3] at b;rw[Z2 l k q];by_cases t:0<k;have m:jF (l[k-1]'(by omega)) l[k]=false:=by simpa[t] using g
  have w:bR (l[k-1]'(by omega)).s (l[k-1]'(by omega)).n=0:=(Jg _ (by omega) (p (k-1) (by omega))).1;have i:=Mm w;simp (disch:=omega) only[go_sem,h235l0,aY9,aV.e,nD,a,O4,m,b];simp (disch:=omega) only[go_sem,h235l0,aY9,aV.e,nD,a,b];obtain⟨q,hp,p⟩:=bI (fun k=>nO (pT l k) (Uk l k) (l.getD k ⟨0,0⟩)≠0) l.length
  generalize ix (fun k=>nO (pT l k) (Uk l k) (l.getD k ⟨0,0⟩)≠0) l.length=k at *
  have f:∀ (j:Nat) r,j < k->l[j]?=some r->bR r.s r.n=0:=fun j r m d=>by
   have o:j < l.length:=by omega
   have:=(Jg _ o (p j m)).1;rw[aZi o] at d;injection d with d;rwa[d] at this
  rw[aLi l k q p];rcases hp with rfl|⟨c,hp⟩
  have d:=aF3 f;have z:gP l=cF l:=Dn l (fun r x=>by have:=aF4 (d r x);omega) (by
   have:=(aUB (l:=l) (k:=l.length) (by omega) d).2;rw[Sx] at this;omega)
  rw[List.drop_length,uD];simp (disch:=omega) only[go_sem,h235l0,aY9,aGa,Dp,z];have u:=aF2 l k;rw[kC l k c] at hp;rw[Z3 c,if_pos hp];rw[Sv _ c] at hp ⊢;by_cases a:bR l[k].s l[k].n=0;have b:=aGb (G:=G) (B:=B) (Uk l k) l[k] u (Z6 a);by_cases g:0<k/\jF (l[k-1]'(by omega)) l[k]=true;have i:=Mm (f (k-1) (l[k-1]'(by omega)) (by omega) (aZi _));simp (disch:=omega) only[go_sem,h235l0,aY9,aV.e,nD,a,O4,g];have h3:l[k].fresh (Uk l k)=false:=by
   simp only[a,ne_eq,not_true_eq_false,if_false,if_neg g] at hp;cases h:l[k].fresh (Uk l k);rfl;rw[h] at hp;simp at hp
  rw[h3] at b;by_cases t:0<k;have m:jF (l[k-1]'(by omega)) l[k]=false:=by simpa[t] using g
  have i:=Mm (f (k-1) (l[k-1]'(by omega)) (by omega) (aZi _));simp (disch:=omega) only[go_sem,h235l0,aY9,aV.e,nD,a,O4,m,b,h3];simp (disch:=omega) only[go_sem,h235l0,aY9,aV.e,nD,a,b,h3];simp (disch:=omega) only[go_sem,h235l0,aY9,aV.e,nD]
end
section
variable {G:aE}{B:aN}
def sl1(l:L aV):L DC:=[.slc (l.map aV.e)]
theorem Z7(L:List (List aV))(k:Nat)(a:k<L.length):((L.map fun l=>(nC l).2).getD k 0)=(nC L[k]).2:=by simp[aZo,aZi a]
theorem aCv(L:List (List aV))(e:L.length<=1000):EV G (Tb B) 252 [vl (L.map sl1)] []=some (vi (Dk L),[]):=by
 refine aA rfl ?_;simp (disch:=omega) only[go_sem,h252c,aY9];rw[dP (fun k=>⟨(jk 7 (vl (L.map sl1)::vi L.length::vi k::jk 12 [])),[]⟩) (fun k=>(L.map fun l=>(nC l).2).getD k 0≠0) L.length ?_ ?_]
 rotate_left
 rfl;intro k c b;have d:=b k (aZe _);rw[Z7 L k c] at d;simp (disch:=omega) only[go_sem,h252l0,aY9,sl1,O5];obtain⟨c,hp,b⟩:=bI (fun k=>(L.map fun l=>(nC l).2).getD k 0≠0) L.length
 generalize ix (fun k=>(L.map fun l=>(nC l).2).getD k 0≠0) L.length=k at *
 unfold Dk;rcases hp with rfl|⟨a,hp⟩
 rw[iK _ (by simpa using b)];simp (disch:=omega) only[go_sem,h252l0,aY9];rw[kM _ k (by simpa using a) b hp];rw[Z7 L k a] at hp;simp (disch:=omega) only[go_sem,h252l0,aY9,sl1,O5,aZu]
theorem Ha(a:L aV):EV G (Tb B) 252 [vl [[.slc (a.map aV.e)]]] []=some (vi (Dk [a]),[]):=aCv [a] (by simp)
theorem Dq(l:L aV)(s n:Int):l.map aV.e++[[.raw (.int .i64 s),.raw (.int .i64 n)]]=(l++[(⟨s,n⟩:aV)]).map aV.e:=by simp[aV.e,ci]
theorem aUH(r:aV):(aV.e r).length=2:=rfl
theorem Z8(l:L aV):gG 2 (l.map aV.e)=true:=jP aUH l
attribute [go_sem] Z8
end
section
variable {G:aE}{B:aN}
