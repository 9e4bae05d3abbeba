/- Part. Conditions: none. -/
import Derived.Test.YtgdjbbnicgfohabGreatDoorTa
import Derived.Test.YtgdjbbnicgfohabGreatDoorCb
namespace Go.Proofs.YtgdjbbnicgfohabGreatDoor
set_option linter.unusedSimpArgs false
set_option linter.unusedVariables false
set_option maxRecDepth 4000
section
abbrev rn(s n:Int):AV:=.agg [.dc (ci s),.dc (ci n)]
structure aW where
 s:Int
 n:Int
def aW.e(r:aW):L DC:=[ci r.s,ci r.n]
abbrev aW.v(r:aW):AV:=rn r.s r.n
abbrev cQ(l:L aW):AV:=vl (l.map aW.e)
def cC(l:L aW):Int:=(l.map aW.n).sum
theorem As(l:L aW)(k:Nat)(a:k<l.length):cC (l.take (k+1))=cC (l.take k)+l[k].n:=by
 rw[bAA a];simp only[cC,bAh,List.sum_append,aZM,aZN,List.sum_cons,List.sum_nil,Int.add_zero]
theorem Xx(l:L aW)(a:∀r∈l,0<=r.n/\r.n<=5000):0<=cC l/\cC l<=5000*l.length:=by
 induction l with
 |nil=>simp[cC]
 |cons r l c=>
  have e:=a r aZV;have f:=c (fun r b=>a r (aZ2 _ b))
  have d:cC (r::l)=r.n+cC l:=by simp[cC]
  simp only[aZC];omega
def bO(s n:Int):Int:=if s=-1 then (if 1<=n/\n<=4096 then 0 else 2) else if 0<=s/\s<=511 then (if 1<=n/\n<=512-s then 0 else 2) else 2
def aT:L Int->Int
 |[]=>0
 |e::l=>if e=0 then aT l else e
theorem Gf(l:L Int)(k:Nat)(h:∀j,j<k->l.getD j 0=0):aT l=aT (l.drop k):=by
 induction k generalizing l with
 |zero=>rfl
 |succ k b=>
  cases l with
  |nil=>rfl
  |cons e l=>
   have a:e=0:=by simpa using h 0 (by omega)
   subst a;simp only[aT,if_true,bBa];exact b l (fun j c=>by simpa using h (j+1) (by omega))
def tL(e:Int):L DC:=[ci e]
abbrev el(l:L Int):L (L DC):=l.map tL
def iY(a b:aW):Bool:=(decide (a.s=-1)==decide (b.s=-1))&&(decide (a.s=-1)||decide (a.s+a.n=b.s))
def bC(b:Bool):aU:=cI (.bool b)
abbrev bx(U:L Bool):aD:=.box (U.map bC)
def G5(U:L Bool)(s:Nat):Nat->L Bool
 |0=>U
 |k+1=>(G5 U s k).set (s+k) true
def Cf(U:L Bool)(s k:Nat):Bool:=(List.range k).all fun j=>!(U.getD (s+j) false)
theorem Ju(U:L Bool)(s k:Nat):(G5 U s k).length=U.length:=by
 induction k with
 |zero=>rfl
 |succ k a=>simp[G5,a]
theorem aGz(U:L Bool)(s k j:Nat)(h:s+k<=j):(G5 U s k)[j]?=U[j]?:=by
 induction k with
 |zero=>rfl
 |succ k a=>
  simp only[G5];rw[aZY (by omega)];exact a (by omega)
theorem Tf(U:L Bool)(s k:Nat):Cf U s (k+1)=(Cf U s k&&!(U.getD (s+k) false)):=by
 simp[Cf,List.range_succ]
theorem aGA(U:L Bool)(k:Nat)(b:Bool)(h:U[k]?=some b):((U.map bC).drop k).take 1=[bC b]:=by
 have a:k<U.length:=aK h;have c:U[k]=b:=by rw[aZJ a] at h;exact Option.some.inj h
 rw[<- bAR,bAv a,aZM,c];rfl
theorem aLC(U:L Bool)(k:Nat)(b:Bool)(h:k<U.length):cZ (U.map bC) k [bC b]=(U.set k b).map bC:=by
 unfold cZ;apply List.ext_getElem?;intro i;simp only[bAe];rw[List.set_eq_take_append_cons_drop];simp[h]
theorem aNY(p:Nat->Bool)(U:L Bool):(U.map bC).map (cL p)=U.map bC:=by
 rw[aZ4];congr 1
def aW.into(r:aW)(U:L Bool):L Bool:=if r.s=-1 then U else G5 U r.s.toNat r.n.toNat
def aW.fresh(r:aW)(U:L Bool):Bool:=if r.s=-1 then true else Cf U r.s.toNat r.n.toNat
def U0:L Bool:=List.replicate 512 false
def nG(p:Option aW)(U:L Bool)(r:aW):Int:=if bO r.s r.n≠0 then bO r.s r.n else if (p.any fun q=>iY q r)=true then 3 else if r.fresh U then 0 else 23
def tN(a:L aW):L aW->Option aW->L Bool->Nat->Int×Int
 |[],_,_,_=>(0,if cC a<=4096 then 0 else 8)
 |r::b,p,U,i=>if nG p U r≠0 then ((i:Int),nG p U r) else tN a b (some r) (r.into U) (i+1)
def mT(l:L aW):Int×Int:=if (l.length:Int) > 64 then (0,8) else tN l l none U0 0
theorem lL{r:aW}(h:bO r.s r.n=0):(r.s=-1/\1<=r.n/\r.n<=4096)\/∃s n:Nat,r.s=s/\r.n=n/\s+n<=512/\1<=n:=by
 unfold bO at h;split at h;rename_i b;split at h;rename_i a;exact .inl ⟨b,a.1,a.2⟩;omega;split at h;rename_i b a;split at h;rename_i h3;exact .inr ⟨r.s.toNat,r.n.toNat,by omega,by omega,by omega,by omega⟩;omega;omega
theorem Tg(U:L Bool)(r:aW):(r.into U).length=U.length:=by
 unfold aW.into;split;rfl;exact Ju _ _ _
def Uk(l:L aW)(k:Nat):L Bool:=(l.take k).foldl (fun U r=>r.into U) U0
def pI(l:L aW)(k:Nat):Option aW:=if k=0 then none else l[k-1]?
theorem aGB(l:L aW)(k:Nat):(Uk l k).length=512:=by
 unfold Uk;have:∀ (l:L aW) (U:L Bool),(l.foldl (fun U r=>r.into U) U).length=U.length:=by
  intro l
  induction l with
  | nil=>intro U;rfl
  | cons r l a=>intro U;rw[bAU,a,Tg]
 rw[this];simp[U0]
theorem aAJ(l:L aW)(k:Nat)(h:k<l.length):Uk l (k+1)=l[k].into (Uk l k):=by
 unfold Uk;rw[bAA h,List.foldl_append];rfl
theorem aAK{l:L aW}{p:Option aW}{U:L Bool}{k:Nat}(a:k<l.length):tN l (l.drop k) p U k=if nG p U l[k]≠0 then ((k:Int),nG p U l[k]) else tN l (l.drop (k+1)) (some l[k]) (l[k].into U) (k+1):=by
 rw[bAv a,tN]
theorem Th{l:L aW}{k:Nat}(U:L Bool)(d:k<l.length):nG (pI l k) U l[k]=if bO l[k].s l[k].n≠0 then bO l[k].s l[k].n else if 0<k/\iY (l[k-1]'(by omega)) l[k]=true then 3 else if l[k].fresh U=true then 0 else 23:=by
 unfold nG pI;by_cases a:k=0;simp[a];have b:l[k-1]?=some (l[k-1]'(by omega)):=aZJ (by omega);have c:0<k:=by omega
 simp only[a,if_false,b,Option.any_some,c,true_and]
theorem Nc{r:aW}(h:bO r.s r.n=0):-9223372036854775808<=r.s+r.n/\r.s+r.n<=9223372036854775807:=by
 rcases lL h with h|⟨s,n,h⟩<;>omega
theorem aNZ{r:aW}(h:bO r.s r.n=0):0<=r.n/\r.n<=5000:=by
 rcases lL h with h|⟨s,n,h⟩<;>omega
theorem aU7{l:L aW}{k:Nat}(b:∀(j:Nat) r,j<k->l[j]?=some r->bO r.s r.n=0)(d:k<l.length)(h:bO l[k].s l[k].n=0):∀(j:Nat) r,j<k+1->l[j]?=some r->bO r.s r.n=0:=by
 intro j r e a;rcases bAN j k with c|c
 exact b j r c a;have:j=k:=by omega
 subst this;rw[aZJ d] at a;injection a with a;subst a;exact h
theorem aGC{l:L aW}(a:∀(j:Nat) r,j<l.length->l[j]?=some r->bO r.s r.n=0):∀r∈l,bO r.s r.n=0:=by
 intro r c;obtain⟨j,b⟩:=List.mem_iff_getElem?.1 c;exact a j r (aK b) b
def Dn(L:List (List aW)):Int:=aT (L.map fun l=>(mT l).2)
def gH(a b:aW):Bool:=(a.s != -1)&&((b.s != -1)&&(decide (a.s<b.s+b.n)&&decide (b.s<a.s+a.n)))
def pJ(l:L aW)(k:Nat)(r:aW):Int:=if bO r.s r.n≠0 then 2 else if ((pI l k).any fun q=>iY q r)=true then 3 else if ((l.take k).any fun q=>gH q r)=true then 23 else 0
def B5(a:L aW):L aW->Nat->Int×Int
 |[],_=>(0,if cC a > 4096 then 8 else 0)
 |r::b,k=>if pJ a k r≠0 then ((k:Int),pJ a k r) else B5 a b (k+1)
def aC3(l:L aW):Int×Int:=if (l.length:Int) > 64 then (0,8) else B5 l l 0
theorem Jv{l:L aW}{k:Nat}(a:k<l.length):B5 l (l.drop k) k=if pJ l k l[k]≠0 then ((k:Int),pJ l k l[k]) else B5 l (l.drop (k+1)) (k+1):=by
 rw[bAv a,B5]
theorem Ti{l:L aW}{k:Nat}(d:k<l.length):pJ l k l[k]=if bO l[k].s l[k].n≠0 then 2 else if 0<k/\iY (l[k-1]'(by omega)) l[k]=true then 3 else if ((l.take k).any fun q=>gH q l[k])=true then 23 else 0:=by
 unfold pJ pI;by_cases a:k=0;simp[a];have b:l[k-1]?=some (l[k-1]'(by omega)):=aZJ (by omega);have c:0<k:=by omega
 simp only[a,if_false,b,Option.any_some,c,true_and]
theorem aGD{r:aW}(h:bO r.s r.n=0):1<=r.n/\r.n<=4096/\-1<=r.s/\r.s<=511:=by
 rcases lL h with h|⟨s,n,h⟩<;>omega
theorem aU8{l:L aW}{k:Nat}(b:l.length<=1000)(a:∀r∈l,bO r.s r.n=0):0<=cC (l.take k)/\cC (l.take k)<=5000000:=by
 have h:=Xx (l.take k) (fun r h=>aNZ (a r (aZ0 h)))
 have:(l.take k).length<=1000:=by simp;omega
 omega
theorem Tj(l:L aW):cC (l.take l.length)=cC l:=by rw[bAj]
instance:DecidableEq aW:=fun a b=>decidable_of_iff (a.s=b.s/\a.n=b.n) ⟨fun h=>by cases a;cases b;simp_all,fun h=>by subst h;exact⟨rfl,rfl⟩⟩
theorem aGE{a b:aW}:a=b↔a.s=b.s/\a.n=b.n:=⟨fun h=>by subst h;exact⟨rfl,rfl⟩,fun h=>by cases a;cases b;simp_all⟩
theorem aAL{b:L aW}:∀{l:L aW}{p:Option aW}{U:L Bool}{i:Nat},(tN b l p U i).2=0->∀r∈l,bO r.s r.n=0
 |[],_,_,_,_,r,a=>by cases a
 | e::l,p,U,i,h,r,a=>by
  rw[tN] at h;split at h
  ·rename_i d;exact absurd h d
  ·rename_i d;rcases bAL.1 a with rfl | a
   ·have c:nG p U r=0:=by omega
    unfold nG at c;split at c
    ·exact c
    ·rename_i h3;omega
   ·exact aAL h r a
theorem Jw{l:L aW}(h:(mT l).2=0):∀r∈l,bO r.s r.n=0:=by
 unfold mT at h;split at h;cases h;exact aAL h
theorem oH{l:L aW}(h:(mT l).2=0):l.length<=64:=by
 unfold mT at h;split at h;cases h;omega
def G6(R:L aW)(r:aW):L aW:=
 match R.getLast? with
 |some q=>if iY q r then R.dropLast++[⟨q.s,q.n+r.n⟩] else R++[r]
 |none=>[r]
theorem aGF(r:aW):G6 [] r=[r]:=rfl
theorem E6(R:L aW)(q r:aW):G6 (R++[q]) r=if iY q r then R++[⟨q.s,q.n+r.n⟩] else R++[q]++[r]:=by simp[G6]
structure aU9 (R:List aW):Prop where
 el:∀q∈R,-1<=q.s/\q.s<=1000/\0<=q.n
 sum:cC R<=1000000000
 len:R.length<=1000000
theorem Do(a b:L aW):cC (a++b)=cC a+cC b:=by simp[cC]
theorem iF(R:L aW)(h:∀q∈R,0<=q.n):0<=cC R:=by
 induction R with
 |nil=>simp[cC]
 |cons r l b=>
  have d:=h r aZV;have e:=b (fun r a=>h r (aZ2 _ a))
  have c:cC (r::l)=r.n+cC l:=by simp[cC]
  omega
theorem aU9.last{R:L aW}{q:aW}(h:aU9 (R++[q])):-1<=q.s/\q.s<=1000/\0<=q.n/\q.n<=1000000000:=by
 have c:=h.el q (by simp);have a:=h.sum;have h3:=iF R (fun q b=>(h.el q (by simp[b])).2.2)
 rw[Do] at a;have h4:cC [q]=q.n:=by simp[cC]
 omega
theorem aGG(R:L aW)(r:aW):cC (G6 R r)=cC R+r.n:=by
 rcases List.eq_nil_or_concat R with rfl|⟨a,q,rfl⟩;simp[G6,cC];rw[List.concat_eq_append,E6];split;simp[Do,cC];omega;simp[Do,cC];omega
def B6(U:L Bool)(l:L aW):L Bool:=l.foldl (fun U r=>r.into U) U
theorem Xy(U:L Bool)(l:L aW)(k:Nat)(h:k<l.length):B6 U (l.take (k+1))=l[k].into (B6 U (l.take k)):=by
 rw[bAA h,B6,List.foldl_append];rfl
theorem aGH{R:L aW}{r:aW}(b:-1<=r.s/\r.s<=1000/\0<=r.n)(h:∀q∈R,-1<=q.s/\q.s<=1000/\0<=q.n):∀q∈G6 R r,-1<=q.s/\q.s<=1000/\0<=q.n:=by
 rcases List.eq_nil_or_concat R with rfl|⟨c,q,rfl⟩;rw[aGF];simpa using b;rw[List.concat_eq_append] at *;rw[E6];have d:=h q (by simp);intro p hp;split at hp
 rcases bAV.1 hp with a|a;exact h p (by simp[a])
 have:p=⟨q.s,q.n+r.n⟩:=by simpa using a
 subst this;simp only;omega;rcases bAV.1 hp with a|a
 exact h p a;have:p=r:=by simpa using a
 subst this;exact b
theorem Tk(R:L aW)(r:aW):(G6 R r).length<=R.length+1:=by
 rcases List.eq_nil_or_concat R with rfl|⟨a,q,rfl⟩;simp[G6];rw[List.concat_eq_append,E6];split<;>simp
def aW.has(r:aW)(c:Nat):Bool:=decide (r.s≠-1/\r.s<=c/\(c:Int)<r.s+r.n)
theorem aC4(U:L Bool)(s n c:Nat)(h:s+n<=U.length):(G5 U s n).getD c false=(U.getD c false||decide (s<=c/\c<s+n)):=by
 induction n with
 |zero=>simp[G5];omega
 |succ n a=>
  have a:=a (by omega);simp only[G5,aZO] at a ⊢;by_cases b:s+n=c;subst b;rw[aZ7 (by rw[Ju];omega)];simp;rw[aZY b,a];congr 1;apply decide_eq_decide.2;omega
theorem aC5(U:L Bool)(r:aW)(g:U.length=512)(h:bO r.s r.n=0)(c:Nat):(r.into U).getD c false=(U.getD c false||r.has c):=by
 rcases lL h with⟨b,_⟩|⟨s,n,b,f,h3,h4⟩;simp[aW.into,aW.has,b];have a:¬ r.s=-1:=by omega
 have d:r.s.toNat=s:=by omega
 have e:r.n.toNat=n:=by omega
 rw[aW.into,if_neg a,d,e,aC4 U s n c (by omega),aW.has];congr 1;apply decide_eq_decide.2;omega
theorem Jx(U:L Bool)(l:L aW)(a:U.length=512)(h:∀r∈l,bO r.s r.n=0)(c:Nat):(B6 U l).getD c false=(U.getD c false||l.any fun r=>r.has c):=by
 induction l generalizing U with
 |nil=>simp[B6]
 |cons r l d=>
  show (B6 (r.into U) l).getD c false=_;rw[d (r.into U) (by rw[Tg,a]) (fun r b=>h r (aZ2 _ b)),aC5 U r a (h r aZV),List.any_cons,Bool.or_assoc]
theorem aGI:U0.length=512:=aZI
theorem aAM(c:Nat):U0.getD c false=false:=by
 simp only[U0,aZO,bAG];split<;>rfl
theorem Jy(q r:aW)(a:bO q.s q.n=0)(b:bO r.s r.n=0):gH q r=true↔∃c,q.has c=true/\r.has c=true:=by
 have k:=aGD a;have l:=aGD b;simp only[gH,aW.has,aZQ,bne_iff_ne,decide_eq_true_eq,ne_eq];constructor;rintro⟨d,e,f,g⟩;by_cases h:q.s<=r.s;exact⟨r.s.toNat,by omega,by omega⟩;exact⟨q.s.toNat,by omega,by omega⟩;rintro⟨c,i,j⟩;omega
theorem aC6(U:L Bool)(r:aW)(h:bO r.s r.n=0):r.fresh U=true↔∀c,r.has c=true->U.getD c false=false:=by
 rcases lL h with⟨d,_⟩|⟨s,n,d,g,h3,h4⟩;simp[aW.fresh,aW.has,d];have b:¬ r.s=-1:=by omega
 have e:r.s.toNat=s:=by omega
 have f:r.n.toNat=n:=by omega
 rw[aW.fresh,if_neg b,e,f,Cf,bAW];simp only[List.mem_range,bAC,aW.has,decide_eq_true_eq];constructor;intro a c i;have:=a (c-s) (by omega);rw[show s+(c-s)=c by omega] at this;exact this;intro a j k;exact a (s+j) (by omega)
theorem Dp(l:L aW)(r:aW)(b:∀q∈l,bO q.s q.n=0)(h:bO r.s r.n=0):r.fresh (B6 U0 l)=!(l.any fun q=>gH q r):=by
 rw[bAY,aC6 _ _ h,bAC,bAM];constructor;intro e q a i;obtain⟨c,d,f⟩:=(Jy q r (b q a) h).1 i;have h3:=e c f;rw[Jx U0 l aGI b,aAM,bAq,bAM] at h3;exact h3 q a d;intro e c g;rw[Jx U0 l aGI b,aAM,bAq,bAM];intro q a d;exact e q a ((Jy q r (b q a) h).2 ⟨c,d,g⟩)
theorem Jz(s n:Int):bO s n=0\/bO s n=2:=by
 unfold bO;split<;>split<;>(try split)<;>omega
theorem aLD{l:L aW}{k:Nat}(e:k<l.length)(h:∀(j:Nat) r,j<k->l[j]?=some r->bO r.s r.n=0):nG (pI l k) (B6 U0 (l.take k)) l[k]=pJ l k l[k]:=by
 unfold nG pJ;rcases Jz l[k].s l[k].n with a|a
 simp only[a,ne_eq,not_true_eq_false,if_false];have c:∀q∈l.take k,bO q.s q.n=0:=by
  intro q d;obtain⟨j,b⟩:=List.mem_iff_getElem?.1 d;rw[bAa] at b;split at b;exact h j q (by assumption) b;cases b
 rw[Dp _ _ c a];split;rfl;cases (l.take k).any fun q=>gH q l[k]<;>rfl
 simp[a]
theorem aLE(l:L aW):∀(n k:Nat),n=l.length-k->k<=l.length->(∀(j:Nat) r,j<k->l[j]?=some r->bO r.s r.n=0)->tN l (l.drop k) (pI l k) (B6 U0 (l.take k)) k=B5 l (l.drop k) k:=by
 intro n
 induction n with
 |zero=>
  intro k c d _;have:l.drop k=[]:=List.drop_of_length_le (by omega);rw[this,tN,B5];by_cases h:cC l<=4096;rw[if_pos h,if_neg (by omega)];rw[if_neg h,if_pos (by omega)]
 |succ n f=>
  intro k c d h3;have a:k<l.length:=by omega
  rw[Jv a,bAv a,tN,aLD a h3];split;rfl;rename_i b;have b:pJ l k l[k]=0:=by omega
  have e:bO l[k].s l[k].n=0:=by
   unfold pJ at b;rcases Jz l[k].s l[k].n with h|h
   exact h;simp[h] at b
  have:=f (k+1) (by omega) (by omega) (aU7 h3 a e);rw[<- this,Xy U0 l k a];congr 1;simp[pI,aZJ a]
theorem aQo(l:L aW):mT l=aC3 l:=by
 unfold mT aC3;split;rfl;have:=aLE l l.length 0 (by omega) (by omega) (fun j r h=>by omega)
 simpa[pI,B6] using this
def gQ(l:L aW):Int:=l.foldl (fun n r=>IntKind.i64.wrap (n+r.n)) 0
theorem E7(l:L aW)(k:Nat)(h:k<l.length):gQ (l.take (k+1))=IntKind.i64.wrap (gQ (l.take k)+l[k].n):=by
 rw[bAA h,gQ,List.foldl_append];rfl
theorem Dq(l:L aW)(h:∀r∈l,0<=r.n)(c:cC l<=1000000000000):gQ l=cC l:=by
 have b:∀ (l:L aW) (n:Int),0<=n->(∀ r∈l,0<=r.n)->n+cC l<=1000000000000->l.foldl (fun n r=>IntKind.i64.wrap (n+r.n)) n=n+cC l:=by
  intro l
  induction l with
  | nil=>intro n _ _ _;simp[cC]
  | cons r l d=>
   intro n i h c;have f:=h r aZV;have e:cC (r::l)=r.n+cC l:=by simp[cC]
   have g:=iF l (fun r a=>h r (aZ2 _ a))
   rw[bAU,Ew (by omega),d (n+r.n) (by omega) (fun r a=>h r (aZ2 _ a)) (by omega)]
   omega
 have:=b l 0 (by omega) h (by omega);simpa[gQ] using this
def Tl(R l:L aW):L aW:=l.foldl G6 R
structure sO (l:List aW):Prop where
 el:∀q∈l,-1<=q.s/\q.s<=1000/\0<=q.n
 sum:cC l<=100000000
 len:l.length<=100000
theorem aC7{R l:L aW}(d:∀q∈R,-1<=q.s/\q.s<=1000/\0<=q.n)(e:∀q∈l,-1<=q.s/\q.s<=1000/\0<=q.n):(∀q∈Tl R l,-1<=q.s/\q.s<=1000/\0<=q.n)/\cC (Tl R l)=cC R+cC l/\(Tl R l).length<=R.length+l.length:=by
 induction l generalizing R with
 |nil=>exact⟨d,by simp[Tl,cC],by simp[Tl]⟩
 |cons r l i=>
  have g:=e r aZV;obtain⟨a,b,c⟩:=i (R:=G6 R r) (aGH g d) (fun q h=>e q (aZ2 _ h))
  have f:cC (r::l)=r.n+cC l:=by simp[cC]
  have j:=Tk R r;refine⟨a,?_,?_⟩;show cC (Tl (G6 R r) l)=_;rw[b,aGG,f];omega;show (Tl (G6 R r) l).length<=_;simp only[aZC];omega
theorem iG(l:L aW)(k:Nat)(h:∀r∈l,0<=r.n):cC (l.take k)<=cC l:=by
 have b:cC l=cC (l.take k)+cC (l.drop k):=by rw[<- Do,bAX]
 have:=iF (l.drop k) (fun r a=>h r (bAb a))
 omega
theorem sO.n_le{l:L aW}(h:sO l){r:aW}(a:r∈l):r.n<=100000000:=by
 obtain⟨i,b,rfl⟩:=List.mem_iff_getElem.1 a;have c:=As l i b;have d:=iG l (i+1) (fun r a=>(h.el r a).2.2)
 have h3:=iF (l.take i) (fun r a=>(h.el r (aZ0 a)).2.2)
 have:=h.sum;omega
theorem sO.nil:sO []:=⟨by simp,by simp[cC],by simp⟩
def At(r:aW)(n:Nat):L Int:=(List.range n).map fun (k:Nat)=>if r.s=-1 then -1 else r.s+k
def tO(l:L aW):L Int:=l.flatMap fun r=>At r r.n.toNat
theorem Tm(r:aW)(n:Nat):At r (n+1)=At r n++[if r.s=-1 then -1 else r.s+n]:=by
 simp[At,List.range_succ]
theorem Tn(l:L aW)(k:Nat)(h:k<l.length):tO (l.take (k+1))=tO (l.take k)++At l[k] l[k].n.toNat:=by
 rw[bAA h,tO,List.flatMap_append];simp[tO]
theorem Au(l:L aW)(h:∀r∈l,0<=r.n):((tO l).length:Int)=cC l:=by
 induction l with
 |nil=>simp[tO,cC]
 |cons r l e=>
  have f:=h r aZV;have:=e (fun r d=>h r (aZ2 _ d))
  have a:cC (r::l)=r.n+cC l:=by simp[cC]
  have b:tO (r::l)=At r r.n.toNat++tO l:=by simp[tO]
  have c:(At r r.n.toNat).length=r.n.toNat:=by simp[At]
  rw[a,b,aZB,c];omega
def Vol(r:aW):Prop:=(r.s=-1/\0<=r.n)\/(0<=r.s/\1<=r.n/\r.s+r.n<=512)
theorem sO.add{l:L aW}(h:sO l):sO (Tl [] l):=by
 obtain⟨a,b,c⟩:=aC7 (R:=[]) (by simp) h.el;have:=h.sum;have:=h.len;simp only[cC,aZN,List.sum_nil,aZD] at b c;exact⟨a,by simp only[cC] at *;omega,by omega⟩
theorem sO.take{l:L aW}(h:sO l)(k:Nat):sO (l.take k):=⟨fun q a=>h.el q (aZ0 a),by have:=iG l k (fun r b=>(h.el r b).2.2);have:=h.sum;omega,by have:=h.len;simp;omega⟩
theorem aVa{l:L aW}(h:(mT l).2=0):0<=cC l/\cC l<=4096:=by
 have b:=Jw h;have f:=oH h;refine⟨iF l (fun r d=>(aNZ (b r d)).1),?_⟩
 have c:∀(a l:L aW) p U i,(tN a l p U i).2=0->cC a<=4096:=by
  intro a l
  induction l with
  |nil=>intro p U i h;rw[tN] at h;simp only at h;split at h<;>first|assumption|omega
  |cons r l e=>
   intro p U i h;rw[tN] at h;split at h;rename_i b;exact absurd h b;exact e _ _ _ h
 unfold mT at h;split at h;cases h;exact c _ _ _ _ _ h
theorem Dr{l:L aW}(h:(mT l).2=0):sO l:=by
 have a:=Jw h;have c:=oH h;have h3:=aVa h;exact⟨fun q b=>by have:=aGD (a q b);omega,by omega,by omega⟩
theorem Nd(l:L aW):Dn [l]=(mT l).2:=by
 simp only[Dn,aZM,aZN,aT];split<;>simp_all
end
section
variable {G:aF}{B:aO}
theorem kA(n a b:Int):EV G (Tb B) 281 [vi n,vi a,vi b] []=some (vb (decide (a<=n/\n<=b)),[]):=by
 refine aB rfl ?_;by_cases h:a<=n;all_goals simp (disch:=omega) only[go_sem,h281c]
 all_goals simp[h]
theorem kB(s n:Int):EV G (Tb B) 251 [rn s n] []=some (vb (decide (s=-1)),[]):=by
 refine aB rfl ?_;simp (disch:=omega) only[go_sem,h251c]
theorem Ds(b:Bool)(e:Int):EV G (Tb B) 247 [vb b,vi e] []=some (vi (if b=true then 0 else e),[]):=by
 refine aB rfl ?_;cases b;all_goals simp (disch:=omega) only[go_sem,h247c]
 all_goals rfl
theorem Pv(p:Nat->Prop):∀n:Nat,(∀k,k<n->¬ p k)\/∃j,j<n/\p j/\∀k,k<j->¬ p k
 |0=>.inl (fun k h=>by omega)
 | n+1=>by
  rcases Pv p n with h | ⟨j,h1,h2,h3⟩
  ·by_cases hp:p n
   ·exact .inr ⟨n,by omega,hp,h⟩
   ·exact .inl (fun k b=>by
     by_cases a:k=n
     ·subst a;exact hp
     ·exact h k (by omega))
  ·exact .inr ⟨j,by omega,h2,h3⟩
theorem kH(l:L Int)(j:Nat)(a:j<l.length)(h:∀k,k<j->¬ l.getD k 0≠0)(b:l.getD j 0≠0):aT l=l[j]:=by
 have c:l.getD j 0=l[j]:=by simp[aZO,aZJ a]
 rw[Gf l j (fun k d=>by have:=h k d;omega),bAv a,aT,if_neg (by rw[<- c];exact b)]
theorem iH(l:L Int)(h:∀k,k<l.length->¬ l.getD k 0≠0):aT l=0:=by
 rw[Gf l l.length (fun k a=>by have:=h k a;omega),List.drop_length];rfl
theorem cE(l:L Int)(k:Nat)(h:k<l.length):l.getD k 0=l[k]:=by simp[aZO,aZJ h]
theorem mU(s n:Int):EV G (Tb B) 244 [rn s n] []=some (vi (bO s n),[]):=by
 refine aB rfl ?_;by_cases b:s=-1
 ·by_cases a:1<=n/\n<=4096;all_goals simp (disch:=omega) only[go_sem,h244c,kB,kA,Ds,bO]
 by_cases a:0<=s/\s<=511
 ·by_cases h3:1<=n/\n<=512-s;all_goals simp (disch:=omega) only[go_sem,h244c,kB,kA,Ds,bO]
 simp (disch:=omega) only[go_sem,h244c,kB,kA,Ds,bO]
end
section
variable {G:aF}{B:aO}
theorem aGJ(l:L aW)(b:l.length<=1000000):EV G (Tb B) 248 [cQ l] []=some (vi (gQ l),[]):=by
 refine aB rfl ?_;simp (disch:=omega) only[go_sem,h248c,aZA];rw[aR (fun k=>⟨(jk 3 (vi (gQ (l.take k))::jk 2 (cQ l::vi l.length::vi k::jk 9 []))),[]⟩) l.length ?_ ?_]
 simp (disch:=omega) only[go_sem,h248l0,bAj];rfl;intro k a;rw[E7 l k a];simp (disch:=omega) only[go_sem,h248l0,aZA,aW.e]
theorem Pw(q r:aW)(h:-9223372036854775808<=q.s+q.n/\q.s+q.n<=9223372036854775807):EV G (Tb B) 245 [q.v,r.v] []=some (vb (iY q r),[]):=by
 refine aB rfl ?_;unfold iY;by_cases a:q.s=-1;all_goals by_cases b:r.s=-1
 all_goals simp (disch:=omega) only[go_sem,h245c,kB,a,b]
 all_goals simp[a,b]
theorem aLF(U:L Bool)(k:Nat)(h:k<U.length):((U.map bC).drop k).take 1=[.dc (.raw (.bool U[k]))]:=aGA U k _ (aZJ h)
theorem aQp(U:L Bool)(k:Nat)(b:Bool)(h:k<U.length):cZ (U.map bC) k [.dc (.raw (.bool b))]=(U.set k b).map bC:=aLC U k b h
theorem aVb(m:Nat)(U:L Bool):G4 m (U.map bC)=U.map bC:=by rw[Di,aNY]
theorem aQq(U:L Bool):idsL (U.map bC)=[]:=by
 induction U with
 |nil=>rfl
 |cons b U a=>rw[aZM,idsL,a];rfl
theorem aVc(J:L Nat)(U:L Bool):Dk J (U.map bC)=true:=by
 induction U with
 |nil=>rfl
 |cons b U a=>rw[aZM,Dk,a];rfl
theorem aVd(ρ:Nat->Nat)(U:L Bool):(U.map bC).map (jV ρ)=U.map bC:=by
 induction U with
 |nil=>rfl
 |cons b U a=>rw[aZM,aZM,a];rfl
attribute [go_sem] aNY aVb aQq aVc aVd
theorem aGK(U:L Bool)(r:aW)(f:U.length=512)(h:Vol r):EV G (Tb B) 246 [.one (.ptr 0 0),r.v] [bx U]=some (vb (r.fresh U),[bx (r.into U)]):=by
 refine aB rfl ?_;rcases h with⟨b,_⟩|⟨b,e,h3⟩
 simp (disch:=omega) only[go_sem,h246c,kB,aW.fresh,aW.into];obtain⟨s,d⟩:∃s:Nat,r.s=s:=⟨r.s.toNat,by omega⟩;obtain⟨n,c⟩:∃n:Nat,r.n=n:=⟨r.n.toNat,by omega⟩;simp (disch:=omega) only[go_sem,h246c,kB,aW.fresh,aW.into,d,c];rw[aR (fun k=>⟨(.one (.ptr 0 0)::jk 2 (.one (.ptr 1 0)::jk 1 (vb (Cf U s k)::vi (s+k:Nat)::jk 27 []))),[bx (G5 U s k),.box [.dc (ci s),.dc (ci n)]]⟩) n ?_ ?_]
 simp (disch:=omega) only[go_sem,h246l0];rfl
 ·intro k g;have i:=Ju U s k;rw[Tf,G5];have a:(G5 U s k)[s+k]'(by omega)=U.getD (s+k) false:=by
   have:=aGz U s k (s+k) (aZE _);rw[aZJ (by omega)] at this;rw[aZO,<- this];rfl
  cases hf:Cf U s k;all_goals simp (disch:=omega) only[go_sem,h246l0,aLF,aQp,a]
end
section
variable {G:aF}{B:aO}
theorem aQr:List.replicate 512 (aU.dc (.raw (.bool false)))=U0.map bC:=by rw[U0,List.map_replicate];rfl
theorem aLG(l:L aW)(k:Nat)(c:k<=l.length)(h:∀j,j<k->¬ nG (pI l j) (Uk l j) (l.getD j ⟨0,0⟩)≠0):tN l l none U0 0=tN l (l.drop k) (pI l k) (Uk l k) k:=by
 induction k with
 |zero=>rfl
 |succ k a=>
  have e:l.getD k ⟨0,0⟩=l[k]:=by simp[aZO,aZJ (show k<l.length by omega)]
  have:=h k (Nat.lt_succ_self k);rw[e] at this;rw[a (by omega) (fun j b=>h j (by omega)),aAK (by omega),if_neg this,aAJ l k (by omega)]
  simp[pI,aZJ (show k<l.length by omega)]
theorem jT(l:L aW)(k:Nat)(h:k<l.length):l.getD k ⟨0,0⟩=l[k]:=by simp[aZO,aZJ h]
theorem aAN{r:aW}(h:bO r.s r.n=0):Vol r:=by
 rcases lL h with⟨a,b,h3⟩|⟨s,n,a,b,h3,h4⟩;exact .inl ⟨a,by omega⟩
 exact .inr ⟨by omega,by omega,by omega⟩
theorem J0{l:L aW}{k:Nat}(U:L Bool)(c:k<l.length)(h:¬ nG (pI l k) U (l.getD k ⟨0,0⟩)≠0):bO l[k].s l[k].n=0/\¬ (0<k/\iY (l[k-1]'(by omega)) l[k]=true)/\l[k].fresh U=true:=by
 rw[jT l k c,Th U c] at h;by_cases a:bO l[k].s l[k].n≠0;rw[if_pos a] at h;exact absurd a h;rw[if_neg a] at h;by_cases b:0<k/\iY (l[k-1]'(by omega)) l[k]=true;rw[if_pos b] at h;exact absurd (by decide) h;rw[if_neg b] at h;cases h3:l[k].fresh U;rw[h3] at h;exact absurd (by decide) h;exact⟨by omega,b,rfl⟩
theorem Px(l:L aW):EV G (Tb B) 206 [cQ l] []=some (.tup [.one (.dc (ci (mT l).1)),.one (.dc (ci (mT l).2))],[]):=by
 refine aB rfl ?_;by_cases v:(l.length:Int) > 64;simp only[mT,if_pos v];simp (disch:=omega) only[go_sem,h206c,aZA]
 ·simp only[mT,if_neg v];simp (disch:=omega) only[go_sem,h206c,aZA,List.map_replicate,aQr];rw[dE (fun k=>⟨(cQ l::jk 3 (.one (.ptr 0 0)::jk 6 (cQ l::vi l.length::vi k::jk 31 []))),[bx (Uk l k)]⟩) (fun k=>nG (pI l k) (Uk l k) (l.getD k ⟨0,0⟩)≠0) l.length ?_ ?_]
  rotate_left
  rfl;intro k q p;obtain⟨a,g,h3⟩:=J0 _ q (p k (aZE _));have y:=aAN a;have u:=aGB l k;have b:=aGK (G:=G) (B:=B) (Uk l k) l[k] u y;rw[h3] at b;rw[aAJ l k q];by_cases t:0<k;have m:iY (l[k-1]'(by omega)) l[k]=false:=by simpa[t] using g
  have w:bO (l[k-1]'(by omega)).s (l[k-1]'(by omega)).n=0:=(J0 _ (by omega) (p (k-1) (by omega))).1;have i:=Nc w;simp (disch:=omega) only[go_sem,h206l0,aZA,aW.e,mU,a,Pw,m,b];simp (disch:=omega) only[go_sem,h206l0,aZA,aW.e,mU,a,b];obtain⟨q,hp,p⟩:=bD (fun k=>nG (pI l k) (Uk l k) (l.getD k ⟨0,0⟩)≠0) l.length
  generalize ix (fun k=>nG (pI l k) (Uk l k) (l.getD k ⟨0,0⟩)≠0) l.length=k at *
  have f:∀ (j:Nat) r,j < k->l[j]?=some r->bO r.s r.n=0:=fun j r m d=>by
   have o:j < l.length:=by omega
   have:=(J0 _ o (p j m)).1;rw[aZJ o] at d;injection d with d;rwa[d] at this
  rw[aLG l k q p];rcases hp with rfl|⟨c,hp⟩
  have d:=aGC f;have z:gQ l=cC l:=Dq l (fun r x=>by have:=aGD (d r x);omega) (by
   have:=(aU8 (l:=l) (k:=l.length) (by omega) d).2;rw[Tj] at this;omega)
  rw[List.drop_length,tN];simp (disch:=omega) only[go_sem,h206l0,aZA,aGJ,Ds,z];have u:=aGB l k;rw[jT l k c] at hp;rw[aAK c,if_pos hp];rw[Th _ c] at hp ⊢;by_cases a:bO l[k].s l[k].n=0;have b:=aGK (G:=G) (B:=B) (Uk l k) l[k] u (aAN a);by_cases g:0<k/\iY (l[k-1]'(by omega)) l[k]=true;have i:=Nc (f (k-1) (l[k-1]'(by omega)) (by omega) (aZJ _));simp (disch:=omega) only[go_sem,h206l0,aZA,aW.e,mU,a,Pw,g];have h3:l[k].fresh (Uk l k)=false:=by
   simp only[a,ne_eq,not_true_eq_false,if_false,if_neg g] at hp;cases h:l[k].fresh (Uk l k);rfl;rw[h] at hp;simp at hp
  rw[h3] at b;by_cases t:0<k;have m:iY (l[k-1]'(by omega)) l[k]=false:=by simpa[t] using g
  have i:=Nc (f (k-1) (l[k-1]'(by omega)) (by omega) (aZJ _));simp (disch:=omega) only[go_sem,h206l0,aZA,aW.e,mU,a,Pw,m,b,h3];simp (disch:=omega) only[go_sem,h206l0,aZA,aW.e,mU,a,b,h3];simp (disch:=omega) only[go_sem,h206l0,aZA,aW.e,mU]
end
section
variable {G:aF}{B:aO}
def sl1(l:L aW):L DC:=[.slc (l.map aW.e)]
theorem aAO(L:List (List aW))(k:Nat)(a:k<L.length):((L.map fun l=>(mT l).2).getD k 0)=(mT L[k]).2:=by simp[aZO,aZJ a]
theorem aC8(L:List (List aW))(e:L.length<=1000):EV G (Tb B) 249 [vl (L.map sl1)] []=some (vi (Dn L),[]):=by
 refine aB rfl ?_;simp (disch:=omega) only[go_sem,h249c,aZA];rw[dE (fun k=>⟨(jk 7 (vl (L.map sl1)::vi L.length::vi k::jk 12 [])),[]⟩) (fun k=>(L.map fun l=>(mT l).2).getD k 0≠0) L.length ?_ ?_]
 rotate_left
 rfl;intro k c b;have d:=b k (aZE _);rw[aAO L k c] at d;simp (disch:=omega) only[go_sem,h249l0,aZA,sl1,Px];obtain⟨c,hp,b⟩:=bD (fun k=>(L.map fun l=>(mT l).2).getD k 0≠0) L.length
 generalize ix (fun k=>(L.map fun l=>(mT l).2).getD k 0≠0) L.length=k at *
 unfold Dn;rcases hp with rfl|⟨a,hp⟩
 rw[iH _ (by simpa using b)];simp (disch:=omega) only[go_sem,h249l0,aZA];rw[kH _ k (by simpa using a) b hp];rw[aAO L k a] at hp;simp (disch:=omega) only[go_sem,h249l0,aZA,sl1,Px,aZU]
theorem Hu(a:L aW):EV G (Tb B) 249 [vl [[.slc (a.map aW.e)]]] []=some (vi (Dn [a]),[]):=aC8 [a] (by simp)
theorem Dt(l:L aW)(s n:Int):l.map aW.e++[[.raw (.int .i64 s),.raw (.int .i64 n)]]=(l++[(⟨s,n⟩:aW)]).map aW.e:=by simp[aW.e,ci]
theorem aVe(r:aW):(aW.e r).length=2:=rfl
theorem aAP(l:L aW):gG 2 (l.map aW.e)=true:=jG aVe l
attribute [go_sem] aAP
end
section
variable {G:aF}{B:aO}
