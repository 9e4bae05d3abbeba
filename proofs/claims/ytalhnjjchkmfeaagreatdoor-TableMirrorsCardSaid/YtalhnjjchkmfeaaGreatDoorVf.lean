/- Part. Conditions: none. -/
import Derived.Test.YtalhnjjchkmfeaaGreatDoorTa
import Derived.Test.YtalhnjjchkmfeaaGreatDoorCb
namespace Go.Proofs.YtalhnjjchkmfeaaGreatDoor
set_option linter.unusedSimpArgs false
set_option linter.unusedVariables false
set_option maxRecDepth 4000
section
abbrev rn(s n:Int):AV:=.agg [.dc (ci s),.dc (ci n)]
structure aX where
 s:Int
 n:Int
def aX.e(r:aX):L DC:=[ci r.s,ci r.n]
abbrev aX.v(r:aX):AV:=rn r.s r.n
abbrev cW(l:L aX):AV:=vl (l.map aX.e)
def cE(l:L aX):Int:=(l.map aX.n).sum
theorem A0(l:L aX)(k:Nat)(a:k<l.length):cE (l.take (k+1))=cE (l.take k)+l[k].n:=by
 rw[bAB a];simp only[cE,bAg,List.sum_append,aZL,aZM,List.sum_cons,List.sum_nil,Int.add_zero]
theorem Xw(l:L aX)(a:∀r∈l,0<=r.n/\r.n<=5000):0<=cE l/\cE l<=5000*l.length:=by
 induction l with
 |nil=>simp[cE]
 |cons r l c=>
  have e:=a r aZT;have f:=c (fun r b=>a r (aZ3 _ b))
  have d:cE (r::l)=r.n+cE l:=by simp[cE]
  simp only[aZB];omega
def bP(s n:Int):Int:=if s=-1 then (if 1<=n/\n<=4096 then 0 else 2) else if 0<=s/\s<=511 then (if 1<=n/\n<=512-s then 0 else 2) else 2
def aU:L Int->Int
 |[]=>0
 |e::l=>if e=0 then aU l else e
theorem Gl(l:L Int)(k:Nat)(h:∀j,j<k->l.getD j 0=0):aU l=aU (l.drop k):=by
 induction k generalizing l with
 |zero=>rfl
 |succ k b=>
  cases l with
  |nil=>rfl
  |cons e l=>
   have a:e=0:=by simpa using h 0 (by omega)
   subst a;simp only[aU,if_true,bAZ];exact b l (fun j c=>by simpa using h (j+1) (by omega))
def uC(e:Int):L DC:=[ci e]
abbrev el(l:L Int):L (L DC):=l.map uC
def iZ(a b:aX):Bool:=(decide (a.s=-1)==decide (b.s=-1))&&(decide (a.s=-1)||decide (a.s+a.n=b.s))
def bC(b:Bool):aV:=cK (.bool b)
abbrev bx(U:L Bool):aD:=.box (U.map bC)
def Hb(U:L Bool)(s:Nat):Nat->L Bool
 |0=>U
 |k+1=>(Hb U s k).set (s+k) true
def Ch(U:L Bool)(s k:Nat):Bool:=(List.range k).all fun j=>!(U.getD (s+j) false)
theorem Jt(U:L Bool)(s k:Nat):(Hb U s k).length=U.length:=by
 induction k with
 |zero=>rfl
 |succ k a=>simp[Hb,a]
theorem aGD(U:L Bool)(s k j:Nat)(h:s+k<=j):(Hb U s k)[j]?=U[j]?:=by
 induction k with
 |zero=>rfl
 |succ k a=>
  simp only[Hb];rw[aZY (by omega)];exact a (by omega)
theorem Te(U:L Bool)(s k:Nat):Ch U s (k+1)=(Ch U s k&&!(U.getD (s+k) false)):=by
 simp[Ch,List.range_succ]
theorem aGE(U:L Bool)(k:Nat)(b:Bool)(h:U[k]?=some b):((U.map bC).drop k).take 1=[bC b]:=by
 have a:k<U.length:=aK h;have c:U[k]=b:=by rw[aZJ a] at h;exact Option.some.inj h
 rw[<- bAV,bAv a,aZL,c];rfl
theorem aLG(U:L Bool)(k:Nat)(b:Bool)(h:k<U.length):dA (U.map bC) k [bC b]=(U.set k b).map bC:=by
 unfold dA;apply List.ext_getElem?;intro i;simp only[bAd];rw[List.set_eq_take_append_cons_drop];simp[h]
theorem aN2(p:Nat->Bool)(U:L Bool):(U.map bC).map (cN p)=U.map bC:=by
 rw[aZ5];congr 1
def aX.into(r:aX)(U:L Bool):L Bool:=if r.s=-1 then U else Hb U r.s.toNat r.n.toNat
def aX.fresh(r:aX)(U:L Bool):Bool:=if r.s=-1 then true else Ch U r.s.toNat r.n.toNat
def U0:L Bool:=List.replicate 512 false
def nI(p:Option aX)(U:L Bool)(r:aX):Int:=if bP r.s r.n≠0 then bP r.s r.n else if (p.any fun q=>iZ q r)=true then 3 else if r.fresh U then 0 else 23
def tR(a:L aX):L aX->Option aX->L Bool->Nat->Int×Int
 |[],_,_,_=>(0,if cE a<=4096 then 0 else 8)
 |r::b,p,U,i=>if nI p U r≠0 then ((i:Int),nI p U r) else tR a b (some r) (r.into U) (i+1)
def mU(l:L aX):Int×Int:=if (l.length:Int) > 64 then (0,8) else tR l l none U0 0
theorem lK{r:aX}(h:bP r.s r.n=0):(r.s=-1/\1<=r.n/\r.n<=4096)\/∃s n:Nat,r.s=s/\r.n=n/\s+n<=512/\1<=n:=by
 unfold bP at h;split at h;rename_i b;split at h;rename_i a;exact .inl ⟨b,a.1,a.2⟩;omega;split at h;rename_i b a;split at h;rename_i h3;exact .inr ⟨r.s.toNat,r.n.toNat,by omega,by omega,by omega,by omega⟩;omega;omega
theorem Tf(U:L Bool)(r:aX):(r.into U).length=U.length:=by
 unfold aX.into;split;rfl;exact Jt _ _ _
def Uk(l:L aX)(k:Nat):L Bool:=(l.take k).foldl (fun U r=>r.into U) U0
def pH(l:L aX)(k:Nat):Option aX:=if k=0 then none else l[k-1]?
theorem aGF(l:L aX)(k:Nat):(Uk l k).length=512:=by
 unfold Uk;have:∀ (l:L aX) (U:L Bool),(l.foldl (fun U r=>r.into U) U).length=U.length:=by
  intro l
  induction l with
  | nil=>intro U;rfl
  | cons r l a=>intro U;rw[bAN,a,Tf]
 rw[this];simp[U0]
theorem aAH(l:L aX)(k:Nat)(h:k<l.length):Uk l (k+1)=l[k].into (Uk l k):=by
 unfold Uk;rw[bAB h,List.foldl_append];rfl
theorem aAI{l:L aX}{p:Option aX}{U:L Bool}{k:Nat}(a:k<l.length):tR l (l.drop k) p U k=if nI p U l[k]≠0 then ((k:Int),nI p U l[k]) else tR l (l.drop (k+1)) (some l[k]) (l[k].into U) (k+1):=by
 rw[bAv a,tR]
theorem Tg{l:L aX}{k:Nat}(U:L Bool)(d:k<l.length):nI (pH l k) U l[k]=if bP l[k].s l[k].n≠0 then bP l[k].s l[k].n else if 0<k/\iZ (l[k-1]'(by omega)) l[k]=true then 3 else if l[k].fresh U=true then 0 else 23:=by
 unfold nI pH;by_cases a:k=0;simp[a];have b:l[k-1]?=some (l[k-1]'(by omega)):=aZJ (by omega);have c:0<k:=by omega
 simp only[a,if_false,b,Option.any_some,c,true_and]
theorem Nf{r:aX}(h:bP r.s r.n=0):-9223372036854775808<=r.s+r.n/\r.s+r.n<=9223372036854775807:=by
 rcases lK h with h|⟨s,n,h⟩<;>omega
theorem aN3{r:aX}(h:bP r.s r.n=0):0<=r.n/\r.n<=5000:=by
 rcases lK h with h|⟨s,n,h⟩<;>omega
theorem aU3{l:L aX}{k:Nat}(b:∀(j:Nat) r,j<k->l[j]?=some r->bP r.s r.n=0)(d:k<l.length)(h:bP l[k].s l[k].n=0):∀(j:Nat) r,j<k+1->l[j]?=some r->bP r.s r.n=0:=by
 intro j r e a;rcases bAT j k with c|c
 exact b j r c a;have:j=k:=by omega
 subst this;rw[aZJ d] at a;injection a with a;subst a;exact h
theorem aGG{l:L aX}(a:∀(j:Nat) r,j<l.length->l[j]?=some r->bP r.s r.n=0):∀r∈l,bP r.s r.n=0:=by
 intro r c;obtain⟨j,b⟩:=List.mem_iff_getElem?.1 c;exact a j r (aK b) b
def Dr(L:List (List aX)):Int:=aU (L.map fun l=>(mU l).2)
def gH(a b:aX):Bool:=(a.s != -1)&&((b.s != -1)&&(decide (a.s<b.s+b.n)&&decide (b.s<a.s+a.n)))
def pI(l:L aX)(k:Nat)(r:aX):Int:=if bP r.s r.n≠0 then 2 else if ((pH l k).any fun q=>iZ q r)=true then 3 else if ((l.take k).any fun q=>gH q r)=true then 23 else 0
def B7(a:L aX):L aX->Nat->Int×Int
 |[],_=>(0,if cE a > 4096 then 8 else 0)
 |r::b,k=>if pI a k r≠0 then ((k:Int),pI a k r) else B7 a b (k+1)
def aC3(l:L aX):Int×Int:=if (l.length:Int) > 64 then (0,8) else B7 l l 0
theorem Ju{l:L aX}{k:Nat}(a:k<l.length):B7 l (l.drop k) k=if pI l k l[k]≠0 then ((k:Int),pI l k l[k]) else B7 l (l.drop (k+1)) (k+1):=by
 rw[bAv a,B7]
theorem Th{l:L aX}{k:Nat}(d:k<l.length):pI l k l[k]=if bP l[k].s l[k].n≠0 then 2 else if 0<k/\iZ (l[k-1]'(by omega)) l[k]=true then 3 else if ((l.take k).any fun q=>gH q l[k])=true then 23 else 0:=by
 unfold pI pH;by_cases a:k=0;simp[a];have b:l[k-1]?=some (l[k-1]'(by omega)):=aZJ (by omega);have c:0<k:=by omega
 simp only[a,if_false,b,Option.any_some,c,true_and]
theorem aGH{r:aX}(h:bP r.s r.n=0):1<=r.n/\r.n<=4096/\-1<=r.s/\r.s<=511:=by
 rcases lK h with h|⟨s,n,h⟩<;>omega
theorem aU4{l:L aX}{k:Nat}(b:l.length<=1000)(a:∀r∈l,bP r.s r.n=0):0<=cE (l.take k)/\cE (l.take k)<=5000000:=by
 have h:=Xw (l.take k) (fun r h=>aN3 (a r (aZZ h)))
 have:(l.take k).length<=1000:=by simp;omega
 omega
theorem Ti(l:L aX):cE (l.take l.length)=cE l:=by rw[bAi]
instance:DecidableEq aX:=fun a b=>decidable_of_iff (a.s=b.s/\a.n=b.n) ⟨fun h=>by cases a;cases b;simp_all,fun h=>by subst h;exact⟨rfl,rfl⟩⟩
theorem aGI{a b:aX}:a=b↔a.s=b.s/\a.n=b.n:=⟨fun h=>by subst h;exact⟨rfl,rfl⟩,fun h=>by cases a;cases b;simp_all⟩
theorem aAJ{b:L aX}:∀{l:L aX}{p:Option aX}{U:L Bool}{i:Nat},(tR b l p U i).2=0->∀r∈l,bP r.s r.n=0
 |[],_,_,_,_,r,a=>by cases a
 | e::l,p,U,i,h,r,a=>by
  rw[tR] at h;split at h
  ·rename_i d;exact absurd h d
  ·rename_i d;rcases bAQ.1 a with rfl | a
   ·have c:nI p U r=0:=by omega
    unfold nI at c;split at c
    ·exact c
    ·rename_i h3;omega
   ·exact aAJ h r a
theorem Jv{l:L aX}(h:(mU l).2=0):∀r∈l,bP r.s r.n=0:=by
 unfold mU at h;split at h;cases h;exact aAJ h
theorem oH{l:L aX}(h:(mU l).2=0):l.length<=64:=by
 unfold mU at h;split at h;cases h;omega
def Hc(R:L aX)(r:aX):L aX:=
 match R.getLast? with
 |some q=>if iZ q r then R.dropLast++[⟨q.s,q.n+r.n⟩] else R++[r]
 |none=>[r]
theorem aGJ(r:aX):Hc [] r=[r]:=rfl
theorem Fc(R:L aX)(q r:aX):Hc (R++[q]) r=if iZ q r then R++[⟨q.s,q.n+r.n⟩] else R++[q]++[r]:=by simp[Hc]
structure aU5 (R:List aX):Prop where
 el:∀q∈R,-1<=q.s/\q.s<=1000/\0<=q.n
 sum:cE R<=1000000000
 len:R.length<=1000000
theorem Ds(a b:L aX):cE (a++b)=cE a+cE b:=by simp[cE]
theorem iG(R:L aX)(h:∀q∈R,0<=q.n):0<=cE R:=by
 induction R with
 |nil=>simp[cE]
 |cons r l b=>
  have d:=h r aZT;have e:=b (fun r a=>h r (aZ3 _ a))
  have c:cE (r::l)=r.n+cE l:=by simp[cE]
  omega
theorem aU5.last{R:L aX}{q:aX}(h:aU5 (R++[q])):-1<=q.s/\q.s<=1000/\0<=q.n/\q.n<=1000000000:=by
 have c:=h.el q (by simp);have a:=h.sum;have h3:=iG R (fun q b=>(h.el q (by simp[b])).2.2)
 rw[Ds] at a;have h4:cE [q]=q.n:=by simp[cE]
 omega
theorem aGK(R:L aX)(r:aX):cE (Hc R r)=cE R+r.n:=by
 rcases List.eq_nil_or_concat R with rfl|⟨a,q,rfl⟩;simp[Hc,cE];rw[List.concat_eq_append,Fc];split;simp[Ds,cE];omega;simp[Ds,cE];omega
def B8(U:L Bool)(l:L aX):L Bool:=l.foldl (fun U r=>r.into U) U
theorem Xx(U:L Bool)(l:L aX)(k:Nat)(h:k<l.length):B8 U (l.take (k+1))=l[k].into (B8 U (l.take k)):=by
 rw[bAB h,B8,List.foldl_append];rfl
theorem aGL{R:L aX}{r:aX}(b:-1<=r.s/\r.s<=1000/\0<=r.n)(h:∀q∈R,-1<=q.s/\q.s<=1000/\0<=q.n):∀q∈Hc R r,-1<=q.s/\q.s<=1000/\0<=q.n:=by
 rcases List.eq_nil_or_concat R with rfl|⟨c,q,rfl⟩;rw[aGJ];simpa using b;rw[List.concat_eq_append] at *;rw[Fc];have d:=h q (by simp);intro p hp;split at hp
 rcases bAY.1 hp with a|a;exact h p (by simp[a])
 have:p=⟨q.s,q.n+r.n⟩:=by simpa using a
 subst this;simp only;omega;rcases bAY.1 hp with a|a
 exact h p a;have:p=r:=by simpa using a
 subst this;exact b
theorem Tj(R:L aX)(r:aX):(Hc R r).length<=R.length+1:=by
 rcases List.eq_nil_or_concat R with rfl|⟨a,q,rfl⟩;simp[Hc];rw[List.concat_eq_append,Fc];split<;>simp
def aX.has(r:aX)(c:Nat):Bool:=decide (r.s≠-1/\r.s<=c/\(c:Int)<r.s+r.n)
theorem aC4(U:L Bool)(s n c:Nat)(h:s+n<=U.length):(Hb U s n).getD c false=(U.getD c false||decide (s<=c/\c<s+n)):=by
 induction n with
 |zero=>simp[Hb];omega
 |succ n a=>
  have a:=a (by omega);simp only[Hb,aZN] at a ⊢;by_cases b:s+n=c;subst b;rw[aZ7 (by rw[Jt];omega)];simp;rw[aZY b,a];congr 1;apply decide_eq_decide.2;omega
theorem aC5(U:L Bool)(r:aX)(g:U.length=512)(h:bP r.s r.n=0)(c:Nat):(r.into U).getD c false=(U.getD c false||r.has c):=by
 rcases lK h with⟨b,_⟩|⟨s,n,b,f,h3,h4⟩;simp[aX.into,aX.has,b];have a:¬ r.s=-1:=by omega
 have d:r.s.toNat=s:=by omega
 have e:r.n.toNat=n:=by omega
 rw[aX.into,if_neg a,d,e,aC4 U s n c (by omega),aX.has];congr 1;apply decide_eq_decide.2;omega
theorem Jw(U:L Bool)(l:L aX)(a:U.length=512)(h:∀r∈l,bP r.s r.n=0)(c:Nat):(B8 U l).getD c false=(U.getD c false||l.any fun r=>r.has c):=by
 induction l generalizing U with
 |nil=>simp[B8]
 |cons r l d=>
  show (B8 (r.into U) l).getD c false=_;rw[d (r.into U) (by rw[Tf,a]) (fun r b=>h r (aZ3 _ b)),aC5 U r a (h r aZT),List.any_cons,Bool.or_assoc]
theorem aGM:U0.length=512:=aZH
theorem aAK(c:Nat):U0.getD c false=false:=by
 simp only[U0,aZN,bAG];split<;>rfl
theorem Jx(q r:aX)(a:bP q.s q.n=0)(b:bP r.s r.n=0):gH q r=true↔∃c,q.has c=true/\r.has c=true:=by
 have k:=aGH a;have l:=aGH b;simp only[gH,aX.has,aZO,bne_iff_ne,decide_eq_true_eq,ne_eq];constructor;rintro⟨d,e,f,g⟩;by_cases h:q.s<=r.s;exact⟨r.s.toNat,by omega,by omega⟩;exact⟨q.s.toNat,by omega,by omega⟩;rintro⟨c,i,j⟩;omega
theorem aC6(U:L Bool)(r:aX)(h:bP r.s r.n=0):r.fresh U=true↔∀c,r.has c=true->U.getD c false=false:=by
 rcases lK h with⟨d,_⟩|⟨s,n,d,g,h3,h4⟩;simp[aX.fresh,aX.has,d];have b:¬ r.s=-1:=by omega
 have e:r.s.toNat=s:=by omega
 have f:r.n.toNat=n:=by omega
 rw[aX.fresh,if_neg b,e,f,Ch,bA0];simp only[List.mem_range,bAD,aX.has,decide_eq_true_eq];constructor;intro a c i;have:=a (c-s) (by omega);rw[show s+(c-s)=c by omega] at this;exact this;intro a j k;exact a (s+j) (by omega)
theorem Dt(l:L aX)(r:aX)(b:∀q∈l,bP q.s q.n=0)(h:bP r.s r.n=0):r.fresh (B8 U0 l)=!(l.any fun q=>gH q r):=by
 rw[bA1,aC6 _ _ h,bAD,bAR];constructor;intro e q a i;obtain⟨c,d,f⟩:=(Jx q r (b q a) h).1 i;have h3:=e c f;rw[Jw U0 l aGM b,aAK,bAp,bAR] at h3;exact h3 q a d;intro e c g;rw[Jw U0 l aGM b,aAK,bAp,bAR];intro q a d;exact e q a ((Jx q r (b q a) h).2 ⟨c,d,g⟩)
theorem Jy(s n:Int):bP s n=0\/bP s n=2:=by
 unfold bP;split<;>split<;>(try split)<;>omega
theorem aLH{l:L aX}{k:Nat}(e:k<l.length)(h:∀(j:Nat) r,j<k->l[j]?=some r->bP r.s r.n=0):nI (pH l k) (B8 U0 (l.take k)) l[k]=pI l k l[k]:=by
 unfold nI pI;rcases Jy l[k].s l[k].n with a|a
 simp only[a,ne_eq,not_true_eq_false,if_false];have c:∀q∈l.take k,bP q.s q.n=0:=by
  intro q d;obtain⟨j,b⟩:=List.mem_iff_getElem?.1 d;rw[bAb] at b;split at b;exact h j q (by assumption) b;cases b
 rw[Dt _ _ c a];split;rfl;cases (l.take k).any fun q=>gH q l[k]<;>rfl
 simp[a]
theorem aLI(l:L aX):∀(n k:Nat),n=l.length-k->k<=l.length->(∀(j:Nat) r,j<k->l[j]?=some r->bP r.s r.n=0)->tR l (l.drop k) (pH l k) (B8 U0 (l.take k)) k=B7 l (l.drop k) k:=by
 intro n
 induction n with
 |zero=>
  intro k c d _;have:l.drop k=[]:=bBd (by omega);rw[this,tR,B7];by_cases h:cE l<=4096;rw[if_pos h,if_neg (by omega)];rw[if_neg h,if_pos (by omega)]
 |succ n f=>
  intro k c d h3;have a:k<l.length:=by omega
  rw[Ju a,bAv a,tR,aLH a h3];split;rfl;rename_i b;have b:pI l k l[k]=0:=by omega
  have e:bP l[k].s l[k].n=0:=by
   unfold pI at b;rcases Jy l[k].s l[k].n with h|h
   exact h;simp[h] at b
  have:=f (k+1) (by omega) (by omega) (aU3 h3 a e);rw[<- this,Xx U0 l k a];congr 1;simp[pH,aZJ a]
theorem aQn(l:L aX):mU l=aC3 l:=by
 unfold mU aC3;split;rfl;have:=aLI l l.length 0 (by omega) (by omega) (fun j r h=>by omega)
 simpa[pH,B8] using this
def gP(l:L aX):Int:=l.foldl (fun n r=>IntKind.i64.wrap (n+r.n)) 0
theorem Fd(l:L aX)(k:Nat)(h:k<l.length):gP (l.take (k+1))=IntKind.i64.wrap (gP (l.take k)+l[k].n):=by
 rw[bAB h,gP,List.foldl_append];rfl
theorem Du(l:L aX)(h:∀r∈l,0<=r.n)(c:cE l<=1000000000000):gP l=cE l:=by
 have b:∀ (l:L aX) (n:Int),0<=n->(∀ r∈l,0<=r.n)->n+cE l<=1000000000000->l.foldl (fun n r=>IntKind.i64.wrap (n+r.n)) n=n+cE l:=by
  intro l
  induction l with
  | nil=>intro n _ _ _;simp[cE]
  | cons r l d=>
   intro n i h c;have f:=h r aZT;have e:cE (r::l)=r.n+cE l:=by simp[cE]
   have g:=iG l (fun r a=>h r (aZ3 _ a))
   rw[bAN,E2 (by omega),d (n+r.n) (by omega) (fun r a=>h r (aZ3 _ a)) (by omega)]
   omega
 have:=b l 0 (by omega) h (by omega);simpa[gP] using this
def Tk(R l:L aX):L aX:=l.foldl Hc R
structure sP (l:List aX):Prop where
 el:∀q∈l,-1<=q.s/\q.s<=1000/\0<=q.n
 sum:cE l<=100000000
 len:l.length<=100000
theorem aC7{R l:L aX}(d:∀q∈R,-1<=q.s/\q.s<=1000/\0<=q.n)(e:∀q∈l,-1<=q.s/\q.s<=1000/\0<=q.n):(∀q∈Tk R l,-1<=q.s/\q.s<=1000/\0<=q.n)/\cE (Tk R l)=cE R+cE l/\(Tk R l).length<=R.length+l.length:=by
 induction l generalizing R with
 |nil=>exact⟨d,by simp[Tk,cE],by simp[Tk]⟩
 |cons r l i=>
  have g:=e r aZT;obtain⟨a,b,c⟩:=i (R:=Hc R r) (aGL g d) (fun q h=>e q (aZ3 _ h))
  have f:cE (r::l)=r.n+cE l:=by simp[cE]
  have j:=Tj R r;refine⟨a,?_,?_⟩;show cE (Tk (Hc R r) l)=_;rw[b,aGK,f];omega;show (Tk (Hc R r) l).length<=_;simp only[aZB];omega
theorem iH(l:L aX)(k:Nat)(h:∀r∈l,0<=r.n):cE (l.take k)<=cE l:=by
 have b:cE l=cE (l.take k)+cE (l.drop k):=by rw[<- Ds,bAH]
 have:=iG (l.drop k) (fun r a=>h r (bAa a))
 omega
theorem sP.n_le{l:L aX}(h:sP l){r:aX}(a:r∈l):r.n<=100000000:=by
 obtain⟨i,b,rfl⟩:=List.mem_iff_getElem.1 a;have c:=A0 l i b;have d:=iH l (i+1) (fun r a=>(h.el r a).2.2)
 have h3:=iG (l.take i) (fun r a=>(h.el r (aZZ a)).2.2)
 have:=h.sum;omega
theorem sP.nil:sP []:=⟨by simp,by simp[cE],by simp⟩
def A1(r:aX)(n:Nat):L Int:=(List.range n).map fun (k:Nat)=>if r.s=-1 then -1 else r.s+k
def tU(l:L aX):L Int:=l.flatMap fun r=>A1 r r.n.toNat
theorem Tl(r:aX)(n:Nat):A1 r (n+1)=A1 r n++[if r.s=-1 then -1 else r.s+n]:=by
 simp[A1,List.range_succ]
theorem Tm(l:L aX)(k:Nat)(h:k<l.length):tU (l.take (k+1))=tU (l.take k)++A1 l[k] l[k].n.toNat:=by
 rw[bAB h,tU,List.flatMap_append];simp[tU]
theorem A2(l:L aX)(h:∀r∈l,0<=r.n):((tU l).length:Int)=cE l:=by
 induction l with
 |nil=>simp[tU,cE]
 |cons r l e=>
  have f:=h r aZT;have:=e (fun r d=>h r (aZ3 _ d))
  have a:cE (r::l)=r.n+cE l:=by simp[cE]
  have b:tU (r::l)=A1 r r.n.toNat++tU l:=by simp[tU]
  have c:(A1 r r.n.toNat).length=r.n.toNat:=by simp[A1]
  rw[a,b,aZA,c];omega
def Vol(r:aX):Prop:=(r.s=-1/\0<=r.n)\/(0<=r.s/\1<=r.n/\r.s+r.n<=512)
theorem sP.add{l:L aX}(h:sP l):sP (Tk [] l):=by
 obtain⟨a,b,c⟩:=aC7 (R:=[]) (by simp) h.el;have:=h.sum;have:=h.len;simp only[cE,aZM,List.sum_nil,aZC] at b c;exact⟨a,by simp only[cE] at *;omega,by omega⟩
theorem sP.take{l:L aX}(h:sP l)(k:Nat):sP (l.take k):=⟨fun q a=>h.el q (aZZ a),by have:=iH l k (fun r b=>(h.el r b).2.2);have:=h.sum;omega,by have:=h.len;simp;omega⟩
theorem aU6{l:L aX}(h:(mU l).2=0):0<=cE l/\cE l<=4096:=by
 have b:=Jv h;have f:=oH h;refine⟨iG l (fun r d=>(aN3 (b r d)).1),?_⟩
 have c:∀(a l:L aX) p U i,(tR a l p U i).2=0->cE a<=4096:=by
  intro a l
  induction l with
  |nil=>intro p U i h;rw[tR] at h;simp only at h;split at h<;>first|assumption|omega
  |cons r l e=>
   intro p U i h;rw[tR] at h;split at h;rename_i b;exact absurd h b;exact e _ _ _ h
 unfold mU at h;split at h;cases h;exact c _ _ _ _ _ h
theorem Dv{l:L aX}(h:(mU l).2=0):sP l:=by
 have a:=Jv h;have c:=oH h;have h3:=aU6 h;exact⟨fun q b=>by have:=aGH (a q b);omega,by omega,by omega⟩
theorem Ng(l:L aX):Dr [l]=(mU l).2:=by
 simp only[Dr,aZL,aZM,aU];split<;>simp_all
end
section
variable {G:aF}{B:aO}
theorem jX(n a b:Int):EV G (Tb B) 281 [vi n,vi a,vi b] []=some (vb (decide (a<=n/\n<=b)),[]):=by
 refine aB rfl ?_;by_cases h:a<=n;all_goals simp (disch:=omega) only[go_sem,h281c]
 all_goals simp[h]
theorem jY(s n:Int):EV G (Tb B) 253 [rn s n] []=some (vb (decide (s=-1)),[]):=by
 refine aB rfl ?_;simp (disch:=omega) only[go_sem,h253c]
theorem Dw(b:Bool)(e:Int):EV G (Tb B) 249 [vb b,vi e] []=some (vi (if b=true then 0 else e),[]):=by
 refine aB rfl ?_;cases b;all_goals simp (disch:=omega) only[go_sem,h249c]
 all_goals rfl
theorem Py(p:Nat->Prop):∀n:Nat,(∀k,k<n->¬ p k)\/∃j,j<n/\p j/\∀k,k<j->¬ p k
 |0=>.inl (fun k h=>by omega)
 | n+1=>by
  rcases Py p n with h | ⟨j,h1,h2,h3⟩
  ·by_cases hp:p n
   ·exact .inr ⟨n,by omega,hp,h⟩
   ·exact .inl (fun k b=>by
     by_cases a:k=n
     ·subst a;exact hp
     ·exact h k (by omega))
  ·exact .inr ⟨j,by omega,h2,h3⟩
theorem kH(l:L Int)(j:Nat)(a:j<l.length)(h:∀k,k<j->¬ l.getD k 0≠0)(b:l.getD j 0≠0):aU l=l[j]:=by
 have c:l.getD j 0=l[j]:=by simp[aZN,aZJ a]
 rw[Gl l j (fun k d=>by have:=h k d;omega),bAv a,aU,if_neg (by rw[<- c];exact b)]
theorem iI(l:L Int)(h:∀k,k<l.length->¬ l.getD k 0≠0):aU l=0:=by
 rw[Gl l l.length (fun k a=>by have:=h k a;omega),List.drop_length];rfl
theorem bU(l:L Int)(k:Nat)(h:k<l.length):l.getD k 0=l[k]:=by simp[aZN,aZJ h]
theorem mV(s n:Int):EV G (Tb B) 246 [rn s n] []=some (vi (bP s n),[]):=by
 refine aB rfl ?_;by_cases b:s=-1
 ·by_cases a:1<=n/\n<=4096;all_goals simp (disch:=omega) only[go_sem,h246c,jY,jX,Dw,bP]
 by_cases a:0<=s/\s<=511
 ·by_cases h3:1<=n/\n<=512-s;all_goals simp (disch:=omega) only[go_sem,h246c,jY,jX,Dw,bP]
 simp (disch:=omega) only[go_sem,h246c,jY,jX,Dw,bP]
end
section
variable {G:aF}{B:aO}
theorem aGN(l:L aX)(b:l.length<=1000000):EV G (Tb B) 250 [cW l] []=some (vi (gP l),[]):=by
 refine aB rfl ?_;simp (disch:=omega) only[go_sem,h250c,aZz];rw[aT (fun k=>⟨(jk 3 (vi (gP (l.take k))::jk 2 (cW l::vi l.length::vi k::jk 9 []))),[]⟩) l.length ?_ ?_]
 simp (disch:=omega) only[go_sem,h250l0,bAi];rfl;intro k a;rw[Fd l k a];simp (disch:=omega) only[go_sem,h250l0,aZz,aX.e]
theorem Pz(q r:aX)(h:-9223372036854775808<=q.s+q.n/\q.s+q.n<=9223372036854775807):EV G (Tb B) 247 [q.v,r.v] []=some (vb (iZ q r),[]):=by
 refine aB rfl ?_;unfold iZ;by_cases a:q.s=-1;all_goals by_cases b:r.s=-1
 all_goals simp (disch:=omega) only[go_sem,h247c,jY,a,b]
 all_goals simp[a,b]
theorem aLJ(U:L Bool)(k:Nat)(h:k<U.length):((U.map bC).drop k).take 1=[.dc (.raw (.bool U[k]))]:=aGE U k _ (aZJ h)
theorem aQo(U:L Bool)(k:Nat)(b:Bool)(h:k<U.length):dA (U.map bC) k [.dc (.raw (.bool b))]=(U.set k b).map bC:=aLG U k b h
theorem aU7(m:Nat)(U:L Bool):Ha m (U.map bC)=U.map bC:=by rw[Dm,aN2]
theorem aQp(U:L Bool):idsL (U.map bC)=[]:=by
 induction U with
 |nil=>rfl
 |cons b U a=>rw[aZL,idsL,a];rfl
theorem aU8(J:L Nat)(U:L Bool):Do J (U.map bC)=true:=by
 induction U with
 |nil=>rfl
 |cons b U a=>rw[aZL,Do,a];rfl
theorem aU9(ρ:Nat->Nat)(U:L Bool):(U.map bC).map (kD ρ)=U.map bC:=by
 induction U with
 |nil=>rfl
 |cons b U a=>rw[aZL,aZL,a];rfl
attribute [go_sem] aN2 aU7 aQp aU8 aU9
theorem aGO(U:L Bool)(r:aX)(f:U.length=512)(h:Vol r):EV G (Tb B) 248 [.one (.ptr 0 0),r.v] [bx U]=some (vb (r.fresh U),[bx (r.into U)]):=by
 refine aB rfl ?_;rcases h with⟨b,_⟩|⟨b,e,h3⟩
 simp (disch:=omega) only[go_sem,h248c,jY,aX.fresh,aX.into];obtain⟨s,d⟩:∃s:Nat,r.s=s:=⟨r.s.toNat,by omega⟩;obtain⟨n,c⟩:∃n:Nat,r.n=n:=⟨r.n.toNat,by omega⟩;simp (disch:=omega) only[go_sem,h248c,jY,aX.fresh,aX.into,d,c];rw[aT (fun k=>⟨(.one (.ptr 0 0)::jk 2 (.one (.ptr 1 0)::jk 1 (vb (Ch U s k)::vi (s+k:Nat)::jk 27 []))),[bx (Hb U s k),.box [.dc (ci s),.dc (ci n)]]⟩) n ?_ ?_]
 simp (disch:=omega) only[go_sem,h248l0];rfl
 ·intro k g;have i:=Jt U s k;rw[Te,Hb];have a:(Hb U s k)[s+k]'(by omega)=U.getD (s+k) false:=by
   have:=aGD U s k (s+k) (aZE _);rw[aZJ (by omega)] at this;rw[aZN,<- this];rfl
  cases hf:Ch U s k;all_goals simp (disch:=omega) only[go_sem,h248l0,aLJ,aQo,a]
end
section
variable {G:aF}{B:aO}
theorem aQq:List.replicate 512 (aV.dc (.raw (.bool false)))=U0.map bC:=by rw[U0,List.map_replicate];rfl
theorem aLK(l:L aX)(k:Nat)(c:k<=l.length)(h:∀j,j<k->¬ nI (pH l j) (Uk l j) (l.getD j ⟨0,0⟩)≠0):tR l l none U0 0=tR l (l.drop k) (pH l k) (Uk l k) k:=by
 induction k with
 |zero=>rfl
 |succ k a=>
  have e:l.getD k ⟨0,0⟩=l[k]:=by simp[aZN,aZJ (show k<l.length by omega)]
  have:=h k (Nat.lt_succ_self k);rw[e] at this;rw[a (by omega) (fun j b=>h j (by omega)),aAI (by omega),if_neg this,aAH l k (by omega)]
  simp[pH,aZJ (show k<l.length by omega)]
theorem jT(l:L aX)(k:Nat)(h:k<l.length):l.getD k ⟨0,0⟩=l[k]:=by simp[aZN,aZJ h]
theorem aAL{r:aX}(h:bP r.s r.n=0):Vol r:=by
 rcases lK h with⟨a,b,h3⟩|⟨s,n,a,b,h3,h4⟩;exact .inl ⟨a,by omega⟩
 exact .inr ⟨by omega,by omega,by omega⟩
theorem Jz{l:L aX}{k:Nat}(U:L Bool)(c:k<l.length)(h:¬ nI (pH l k) U (l.getD k ⟨0,0⟩)≠0):bP l[k].s l[k].n=0/\¬ (0<k/\iZ (l[k-1]'(by omega)) l[k]=true)/\l[k].fresh U=true:=by
 rw[jT l k c,Tg U c] at h;by_cases a:bP l[k].s l[k].n≠0;rw[if_pos a] at h;exact absurd a h;rw[if_neg a] at h;by_cases b:0<k/\iZ (l[k-1]'(by omega)) l[k]=true;rw[if_pos b] at h;exact absurd (by decide) h;rw[if_neg b] at h;cases h3:l[k].fresh U;rw[h3] at h;exact absurd (by decide) h;exact⟨by omega,b,rfl⟩
theorem P0(l:L aX):EV G (Tb B) 213 [cW l] []=some (.tup [.one (.dc (ci (mU l).1)),.one (.dc (ci (mU l).2))],[]):=by
 refine aB rfl ?_;by_cases v:(l.length:Int) > 64;simp only[mU,if_pos v];simp (disch:=omega) only[go_sem,h213c,aZz]
 ·simp only[mU,if_neg v];simp (disch:=omega) only[go_sem,h213c,aZz,List.map_replicate,aQq];rw[dQ (fun k=>⟨(cW l::jk 3 (.one (.ptr 0 0)::jk 6 (cW l::vi l.length::vi k::jk 31 []))),[bx (Uk l k)]⟩) (fun k=>nI (pH l k) (Uk l k) (l.getD k ⟨0,0⟩)≠0) l.length ?_ ?_]
  rotate_left
  rfl;intro k q p;obtain⟨a,g,h3⟩:=Jz _ q (p k (aZE _));have y:=aAL a;have u:=aGF l k;have b:=aGO (G:=G) (B:=B) (Uk l k) l[k] u y;rw[h3] at b;rw[aAH l k q];by_cases t:0<k;have m:iZ (l[k-1]'(by omega)) l[k]=false:=by simpa[t] using g
  have w:bP (l[k-1]'(by omega)).s (l[k-1]'(by omega)).n=0:=(Jz _ (by omega) (p (k-1) (by omega))).1;have i:=Nf w;simp (disch:=omega) only[go_sem,h213l0,aZz,aX.e,mV,a,Pz,m,b];simp (disch:=omega) only[go_sem,h213l0,aZz,aX.e,mV,a,b];obtain⟨q,hp,p⟩:=bF (fun k=>nI (pH l k) (Uk l k) (l.getD k ⟨0,0⟩)≠0) l.length
  generalize ix (fun k=>nI (pH l k) (Uk l k) (l.getD k ⟨0,0⟩)≠0) l.length=k at *
  have f:∀ (j:Nat) r,j < k->l[j]?=some r->bP r.s r.n=0:=fun j r m d=>by
   have o:j < l.length:=by omega
   have:=(Jz _ o (p j m)).1;rw[aZJ o] at d;injection d with d;rwa[d] at this
  rw[aLK l k q p];rcases hp with rfl|⟨c,hp⟩
  have d:=aGG f;have z:gP l=cE l:=Du l (fun r x=>by have:=aGH (d r x);omega) (by
   have:=(aU4 (l:=l) (k:=l.length) (by omega) d).2;rw[Ti] at this;omega)
  rw[List.drop_length,tR];simp (disch:=omega) only[go_sem,h213l0,aZz,aGN,Dw,z];have u:=aGF l k;rw[jT l k c] at hp;rw[aAI c,if_pos hp];rw[Tg _ c] at hp ⊢;by_cases a:bP l[k].s l[k].n=0;have b:=aGO (G:=G) (B:=B) (Uk l k) l[k] u (aAL a);by_cases g:0<k/\iZ (l[k-1]'(by omega)) l[k]=true;have i:=Nf (f (k-1) (l[k-1]'(by omega)) (by omega) (aZJ _));simp (disch:=omega) only[go_sem,h213l0,aZz,aX.e,mV,a,Pz,g];have h3:l[k].fresh (Uk l k)=false:=by
   simp only[a,ne_eq,not_true_eq_false,if_false,if_neg g] at hp;cases h:l[k].fresh (Uk l k);rfl;rw[h] at hp;simp at hp
  rw[h3] at b;by_cases t:0<k;have m:iZ (l[k-1]'(by omega)) l[k]=false:=by simpa[t] using g
  have i:=Nf (f (k-1) (l[k-1]'(by omega)) (by omega) (aZJ _));simp (disch:=omega) only[go_sem,h213l0,aZz,aX.e,mV,a,Pz,m,b,h3];simp (disch:=omega) only[go_sem,h213l0,aZz,aX.e,mV,a,b,h3];simp (disch:=omega) only[go_sem,h213l0,aZz,aX.e,mV]
end
section
variable {G:aF}{B:aO}
def sl1(l:L aX):L DC:=[.slc (l.map aX.e)]
theorem aAM(L:List (List aX))(k:Nat)(a:k<L.length):((L.map fun l=>(mU l).2).getD k 0)=(mU L[k]).2:=by simp[aZN,aZJ a]
theorem aC8(L:List (List aX))(e:L.length<=1000):EV G (Tb B) 251 [vl (L.map sl1)] []=some (vi (Dr L),[]):=by
 refine aB rfl ?_;simp (disch:=omega) only[go_sem,h251c,aZz];rw[dQ (fun k=>⟨(jk 7 (vl (L.map sl1)::vi L.length::vi k::jk 12 [])),[]⟩) (fun k=>(L.map fun l=>(mU l).2).getD k 0≠0) L.length ?_ ?_]
 rotate_left
 rfl;intro k c b;have d:=b k (aZE _);rw[aAM L k c] at d;simp (disch:=omega) only[go_sem,h251l0,aZz,sl1,P0];obtain⟨c,hp,b⟩:=bF (fun k=>(L.map fun l=>(mU l).2).getD k 0≠0) L.length
 generalize ix (fun k=>(L.map fun l=>(mU l).2).getD k 0≠0) L.length=k at *
 unfold Dr;rcases hp with rfl|⟨a,hp⟩
 rw[iI _ (by simpa using b)];simp (disch:=omega) only[go_sem,h251l0,aZz];rw[kH _ k (by simpa using a) b hp];rw[aAM L k a] at hp;simp (disch:=omega) only[go_sem,h251l0,aZz,sl1,P0,aZS]
theorem Hw(a:L aX):EV G (Tb B) 251 [vl [[.slc (a.map aX.e)]]] []=some (vi (Dr [a]),[]):=aC8 [a] (by simp)
theorem Dx(l:L aX)(s n:Int):l.map aX.e++[[.raw (.int .i64 s),.raw (.int .i64 n)]]=(l++[(⟨s,n⟩:aX)]).map aX.e:=by simp[aX.e,ci]
theorem aVa(r:aX):(aX.e r).length=2:=rfl
theorem aAN(l:L aX):gG 2 (l.map aX.e)=true:=jH aVa l
attribute [go_sem] aAN
end
section
variable {G:aF}{B:aO}
