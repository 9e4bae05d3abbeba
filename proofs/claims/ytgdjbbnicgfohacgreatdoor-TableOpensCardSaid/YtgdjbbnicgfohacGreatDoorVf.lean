/- Part. Conditions: none. -/
import Derived.Test.YtgdjbbnicgfohacGreatDoorTa
import Derived.Test.YtgdjbbnicgfohacGreatDoorCb
namespace Go.Proofs.YtgdjbbnicgfohacGreatDoor
set_option linter.unusedSimpArgs false
set_option linter.unusedVariables false
set_option maxRecDepth 4000
section
abbrev rn(s n:Int):AV:=.agg [.dc (ci s),.dc (ci n)]
structure aV where
 s:Int
 n:Int
def aV.e(r:aV):L DC:=[ci r.s,ci r.n]
abbrev aV.v(r:aV):AV:=rn r.s r.n
abbrev cP(l:L aV):AV:=vl (l.map aV.e)
def cC(l:L aV):Int:=(l.map aV.n).sum
theorem Ar(l:L aV)(k:Nat)(a:k<l.length):cC (l.take (k+1))=cC (l.take k)+l[k].n:=by
 rw[bAa a];simp only[cC,aZR,List.sum_append,aZl,aZm,List.sum_cons,List.sum_nil,Int.add_zero]
theorem Xb(l:L aV)(a:∀r∈l,0<=r.n/\r.n<=5000):0<=cC l/\cC l<=5000*l.length:=by
 induction l with
 |nil=>simp[cC]
 |cons r l c=>
  have e:=a r aZu;have f:=c (fun r b=>a r (aZC _ b))
  have d:cC (r::l)=r.n+cC l:=by simp[cC]
  simp only[aZc];omega
def bO(s n:Int):Int:=if s=-1 then (if 1<=n/\n<=4096 then 0 else 2) else if 0<=s/\s<=511 then (if 1<=n/\n<=512-s then 0 else 2) else 2
def aT:L Int->Int
 |[]=>0
 |e::l=>if e=0 then aT l else e
theorem F8(l:L Int)(k:Nat)(h:∀j,j<k->l.getD j 0=0):aT l=aT (l.drop k):=by
 induction k generalizing l with
 |zero=>rfl
 |succ k a=>
  cases l with
  |nil=>rfl
  |cons e l=>
   have h0:e=0:=by simpa using h 0 (by omega)
   subst h0;simp only[aT,if_true,bAK];exact a l (fun j b=>by simpa using h (j+1) (by omega))
def tD(e:Int):L DC:=[ci e]
abbrev el(l:L Int):L (L DC):=l.map tD
def iV(a b:aV):Bool:=(decide (a.s=-1)==decide (b.s=-1))&&(decide (a.s=-1)||decide (a.s+a.n=b.s))
def bC(b:Bool):aU:=cI (.bool b)
abbrev bx(U:L Bool):aD:=.box (U.map bC)
def Gy(U:L Bool)(s:Nat):Nat->L Bool
 |0=>U
 |k+1=>(Gy U s k).set (s+k) true
def B9(U:L Bool)(s k:Nat):Bool:=(List.range k).all fun j=>!(U.getD (s+j) false)
theorem Jm(U:L Bool)(s k:Nat):(Gy U s k).length=U.length:=by
 induction k with
 |zero=>rfl
 |succ k a=>simp[Gy,a]
theorem aGl(U:L Bool)(s k j:Nat)(h:s+k<=j):(Gy U s k)[j]?=U[j]?:=by
 induction k with
 |zero=>rfl
 |succ k a=>
  simp only[Gy];rw[aZy (by omega)];exact a (by omega)
theorem Sx(U:L Bool)(s k:Nat):B9 U s (k+1)=(B9 U s k&&!(U.getD (s+k) false)):=by
 simp[B9,List.range_succ]
theorem aGm(U:L Bool)(k:Nat)(b:Bool)(h:U[k]?=some b):((U.map bC).drop k).take 1=[bC b]:=by
 have a:k<U.length:=aI h;have c:U[k]=b:=by rw[aZj a] at h;exact Option.some.inj h
 rw[<- bAq,aZ5 a,aZl,c];rfl
theorem aLf(U:L Bool)(k:Nat)(b:Bool)(h:k<U.length):cY (U.map bC) k [bC b]=(U.set k b).map bC:=by
 unfold cY;apply List.ext_getElem?;intro i;simp only[aZO];rw[List.set_eq_take_append_cons_drop];simp[h]
theorem aNy(p:Nat->Bool)(U:L Bool):(U.map bC).map (cJ p)=U.map bC:=by
 rw[aZE];congr 1
def aV.into(r:aV)(U:L Bool):L Bool:=if r.s=-1 then U else Gy U r.s.toNat r.n.toNat
def aV.fresh(r:aV)(U:L Bool):Bool:=if r.s=-1 then true else B9 U r.s.toNat r.n.toNat
def U0:L Bool:=List.replicate 512 false
def nE(p:Option aV)(U:L Bool)(r:aV):Int:=if bO r.s r.n≠0 then bO r.s r.n else if (p.any fun q=>iV q r)=true then 3 else if r.fresh U then 0 else 23
def tK(a:L aV):L aV->Option aV->L Bool->Nat->Int×Int
 |[],_,_,_=>(0,if cC a<=4096 then 0 else 8)
 |r::b,p,U,i=>if nE p U r≠0 then ((i:Int),nE p U r) else tK a b (some r) (r.into U) (i+1)
def mS(l:L aV):Int×Int:=if (l.length:Int) > 64 then (0,8) else tK l l none U0 0
theorem lG{r:aV}(h:bO r.s r.n=0):(r.s=-1/\1<=r.n/\r.n<=4096)\/∃s n:Nat,r.s=s/\r.n=n/\s+n<=512/\1<=n:=by
 unfold bO at h;split at h;rename_i b;split at h;rename_i a;exact .inl ⟨b,a.1,a.2⟩;omega;split at h;rename_i b a;split at h;rename_i h3;exact .inr ⟨r.s.toNat,r.n.toNat,by omega,by omega,by omega,by omega⟩;omega;omega
theorem Sy(U:L Bool)(r:aV):(r.into U).length=U.length:=by
 unfold aV.into;split;rfl;exact Jm _ _ _
def Uk(l:L aV)(k:Nat):L Bool:=(l.take k).foldl (fun U r=>r.into U) U0
def pE(l:L aV)(k:Nat):Option aV:=if k=0 then none else l[k-1]?
theorem aGn(l:L aV)(k:Nat):(Uk l k).length=512:=by
 unfold Uk;have:∀ (l:L aV) (U:L Bool),(l.foldl (fun U r=>r.into U) U).length=U.length:=by
  intro l
  induction l with
  | nil=>intro U;rfl
  | cons r l a=>intro U;rw[bAu,a,Sy]
 rw[this];simp[U0]
theorem aAp(l:L aV)(k:Nat)(h:k<l.length):Uk l (k+1)=l[k].into (Uk l k):=by
 unfold Uk;rw[bAa h,List.foldl_append];rfl
theorem aAq{l:L aV}{p:Option aV}{U:L Bool}{k:Nat}(a:k<l.length):tK l (l.drop k) p U k=if nE p U l[k]≠0 then ((k:Int),nE p U l[k]) else tK l (l.drop (k+1)) (some l[k]) (l[k].into U) (k+1):=by
 rw[aZ5 a,tK]
theorem Sz{l:L aV}{k:Nat}(U:L Bool)(c:k<l.length):nE (pE l k) U l[k]=if bO l[k].s l[k].n≠0 then bO l[k].s l[k].n else if 0<k/\iV (l[k-1]'(by omega)) l[k]=true then 3 else if l[k].fresh U=true then 0 else 23:=by
 unfold nE pE;by_cases h0:k=0;simp[h0];have a:l[k-1]?=some (l[k-1]'(by omega)):=aZj (by omega);have b:0<k:=by omega
 simp only[h0,if_false,a,Option.any_some,b,true_and]
theorem My{r:aV}(h:bO r.s r.n=0):-9223372036854775808<=r.s+r.n/\r.s+r.n<=9223372036854775807:=by
 rcases lG h with h|⟨s,n,h⟩<;>omega
theorem aNz{r:aV}(h:bO r.s r.n=0):0<=r.n/\r.n<=5000:=by
 rcases lG h with h|⟨s,n,h⟩<;>omega
theorem aUI{l:L aV}{k:Nat}(b:∀(j:Nat) r,j<k->l[j]?=some r->bO r.s r.n=0)(d:k<l.length)(h:bO l[k].s l[k].n=0):∀(j:Nat) r,j<k+1->l[j]?=some r->bO r.s r.n=0:=by
 intro j r e a;rcases bAn j k with c|c
 exact b j r c a;have:j=k:=by omega
 subst this;rw[aZj d] at a;injection a with a;subst a;exact h
theorem aGo{l:L aV}(a:∀(j:Nat) r,j<l.length->l[j]?=some r->bO r.s r.n=0):∀r∈l,bO r.s r.n=0:=by
 intro r c;obtain⟨j,b⟩:=List.mem_iff_getElem?.1 c;exact a j r (aI b) b
def Di(L:List (List aV)):Int:=aT (L.map fun l=>(mS l).2)
def gD(a b:aV):Bool:=(a.s != -1)&&((b.s != -1)&&(decide (a.s<b.s+b.n)&&decide (b.s<a.s+a.n)))
def pF(l:L aV)(k:Nat)(r:aV):Int:=if bO r.s r.n≠0 then 2 else if ((pE l k).any fun q=>iV q r)=true then 3 else if ((l.take k).any fun q=>gD q r)=true then 23 else 0
def Bx(a:L aV):L aV->Nat->Int×Int
 |[],_=>(0,if cC a > 4096 then 8 else 0)
 |r::b,k=>if pF a k r≠0 then ((k:Int),pF a k r) else Bx a b (k+1)
def aCN(l:L aV):Int×Int:=if (l.length:Int) > 64 then (0,8) else Bx l l 0
theorem Jn{l:L aV}{k:Nat}(a:k<l.length):Bx l (l.drop k) k=if pF l k l[k]≠0 then ((k:Int),pF l k l[k]) else Bx l (l.drop (k+1)) (k+1):=by
 rw[aZ5 a,Bx]
theorem S0{l:L aV}{k:Nat}(c:k<l.length):pF l k l[k]=if bO l[k].s l[k].n≠0 then 2 else if 0<k/\iV (l[k-1]'(by omega)) l[k]=true then 3 else if ((l.take k).any fun q=>gD q l[k])=true then 23 else 0:=by
 unfold pF pE;by_cases h0:k=0;simp[h0];have a:l[k-1]?=some (l[k-1]'(by omega)):=aZj (by omega);have b:0<k:=by omega
 simp only[h0,if_false,a,Option.any_some,b,true_and]
theorem aGp{r:aV}(h:bO r.s r.n=0):1<=r.n/\r.n<=4096/\-1<=r.s/\r.s<=511:=by
 rcases lG h with h|⟨s,n,h⟩<;>omega
theorem aUJ{l:L aV}{k:Nat}(b:l.length<=1000)(a:∀r∈l,bO r.s r.n=0):0<=cC (l.take k)/\cC (l.take k)<=5000000:=by
 have h:=Xb (l.take k) (fun r h=>aNz (a r (aZA h)))
 have:(l.take k).length<=1000:=by simp;omega
 omega
theorem S1(l:L aV):cC (l.take l.length)=cC l:=by rw[aZT]
instance:DecidableEq aV:=fun a b=>decidable_of_iff (a.s=b.s/\a.n=b.n) ⟨fun h=>by cases a;cases b;simp_all,fun h=>by subst h;exact⟨rfl,rfl⟩⟩
theorem aGq{a b:aV}:a=b↔a.s=b.s/\a.n=b.n:=⟨fun h=>by subst h;exact⟨rfl,rfl⟩,fun h=>by cases a;cases b;simp_all⟩
theorem aAr{b:L aV}:∀{l:L aV}{p:Option aV}{U:L Bool}{i:Nat},(tK b l p U i).2=0->∀r∈l,bO r.s r.n=0
 |[],_,_,_,_,r,a=>by cases a
 | e::l,p,U,i,h,r,a=>by
  rw[tK] at h;split at h
  ·rename_i d;exact absurd h d
  ·rename_i d;rcases bAl.1 a with rfl | a
   ·have c:nE p U r=0:=by omega
    unfold nE at c;split at c
    ·exact c
    ·rename_i h3;omega
   ·exact aAr h r a
theorem Jo{l:L aV}(h:(mS l).2=0):∀r∈l,bO r.s r.n=0:=by
 unfold mS at h;split at h;cases h;exact aAr h
theorem nZ{l:L aV}(h:(mS l).2=0):l.length<=64:=by
 unfold mS at h;split at h;cases h;omega
def Gz(R:L aV)(r:aV):L aV:=
 match R.getLast? with
 |some q=>if iV q r then R.dropLast++[⟨q.s,q.n+r.n⟩] else R++[r]
 |none=>[r]
theorem aGr(r:aV):Gz [] r=[r]:=rfl
theorem E2(R:L aV)(q r:aV):Gz (R++[q]) r=if iV q r then R++[⟨q.s,q.n+r.n⟩] else R++[q]++[r]:=by simp[Gz]
structure aUK (R:List aV):Prop where
 el:∀q∈R,-1<=q.s/\q.s<=1000/\0<=q.n
 sum:cC R<=1000000000
 len:R.length<=1000000
theorem Dj(a b:L aV):cC (a++b)=cC a+cC b:=by simp[cC]
theorem iB(R:L aV)(h:∀q∈R,0<=q.n):0<=cC R:=by
 induction R with
 |nil=>simp[cC]
 |cons r l b=>
  have d:=h r aZu;have e:=b (fun r a=>h r (aZC _ a))
  have c:cC (r::l)=r.n+cC l:=by simp[cC]
  omega
theorem aUK.last{R:L aV}{q:aV}(h:aUK (R++[q])):-1<=q.s/\q.s<=1000/\0<=q.n/\q.n<=1000000000:=by
 have c:=h.el q (by simp);have a:=h.sum;have h3:=iB R (fun q b=>(h.el q (by simp[b])).2.2)
 rw[Dj] at a;have h4:cC [q]=q.n:=by simp[cC]
 omega
theorem aGs(R:L aV)(r:aV):cC (Gz R r)=cC R+r.n:=by
 rcases List.eq_nil_or_concat R with rfl|⟨a,q,rfl⟩;simp[Gz,cC];rw[List.concat_eq_append,E2];split;simp[Dj,cC];omega;simp[Dj,cC];omega
def Bz(U:L Bool)(l:L aV):L Bool:=l.foldl (fun U r=>r.into U) U
theorem Xc(U:L Bool)(l:L aV)(k:Nat)(h:k<l.length):Bz U (l.take (k+1))=l[k].into (Bz U (l.take k)):=by
 rw[bAa h,Bz,List.foldl_append];rfl
theorem aGt{R:L aV}{r:aV}(b:-1<=r.s/\r.s<=1000/\0<=r.n)(h:∀q∈R,-1<=q.s/\q.s<=1000/\0<=q.n):∀q∈Gz R r,-1<=q.s/\q.s<=1000/\0<=q.n:=by
 rcases List.eq_nil_or_concat R with rfl|⟨c,q,rfl⟩;rw[aGr];simpa using b;rw[List.concat_eq_append] at *;rw[E2];have d:=h q (by simp);intro p hp;split at hp
 rcases bAv.1 hp with a|a;exact h p (by simp[a])
 have:p=⟨q.s,q.n+r.n⟩:=by simpa using a
 subst this;simp only;omega;rcases bAv.1 hp with a|a
 exact h p a;have:p=r:=by simpa using a
 subst this;exact b
theorem S2(R:L aV)(r:aV):(Gz R r).length<=R.length+1:=by
 rcases List.eq_nil_or_concat R with rfl|⟨a,q,rfl⟩;simp[Gz];rw[List.concat_eq_append,E2];split<;>simp
def aV.has(r:aV)(c:Nat):Bool:=decide (r.s≠-1/\r.s<=c/\(c:Int)<r.s+r.n)
theorem aCO(U:L Bool)(s n c:Nat)(h:s+n<=U.length):(Gy U s n).getD c false=(U.getD c false||decide (s<=c/\c<s+n)):=by
 induction n with
 |zero=>simp[Gy];omega
 |succ n a=>
  have a:=a (by omega);simp only[Gy,aZo] at a ⊢;by_cases b:s+n=c;subst b;rw[aZH (by rw[Jm];omega)];simp;rw[aZy b,a];congr 1;apply decide_eq_decide.2;omega
theorem aCP(U:L Bool)(r:aV)(g:U.length=512)(h:bO r.s r.n=0)(c:Nat):(r.into U).getD c false=(U.getD c false||r.has c):=by
 rcases lG h with⟨b,_⟩|⟨s,n,b,f,h3,h4⟩;simp[aV.into,aV.has,b];have a:¬ r.s=-1:=by omega
 have d:r.s.toNat=s:=by omega
 have e:r.n.toNat=n:=by omega
 rw[aV.into,if_neg a,d,e,aCO U s n c (by omega),aV.has];congr 1;apply decide_eq_decide.2;omega
theorem Jp(U:L Bool)(l:L aV)(a:U.length=512)(h:∀r∈l,bO r.s r.n=0)(c:Nat):(Bz U l).getD c false=(U.getD c false||l.any fun r=>r.has c):=by
 induction l generalizing U with
 |nil=>simp[Bz]
 |cons r l d=>
  show (Bz (r.into U) l).getD c false=_;rw[d (r.into U) (by rw[Sy,a]) (fun r b=>h r (aZC _ b)),aCP U r a (h r aZu),List.any_cons,Bool.or_assoc]
theorem aGu:U0.length=512:=aZh
theorem aAs(c:Nat):U0.getD c false=false:=by
 simp only[U0,aZo,bAg];split<;>rfl
theorem Jq(q r:aV)(a:bO q.s q.n=0)(b:bO r.s r.n=0):gD q r=true↔∃c,q.has c=true/\r.has c=true:=by
 have k:=aGp a;have l:=aGp b;simp only[gD,aV.has,aZp,bne_iff_ne,decide_eq_true_eq,ne_eq];constructor;rintro⟨d,e,f,g⟩;by_cases h:q.s<=r.s;exact⟨r.s.toNat,by omega,by omega⟩;exact⟨q.s.toNat,by omega,by omega⟩;rintro⟨c,i,j⟩;omega
theorem aCQ(U:L Bool)(r:aV)(h:bO r.s r.n=0):r.fresh U=true↔∀c,r.has c=true->U.getD c false=false:=by
 rcases lG h with⟨d,_⟩|⟨s,n,d,g,h3,h4⟩;simp[aV.fresh,aV.has,d];have b:¬ r.s=-1:=by omega
 have e:r.s.toNat=s:=by omega
 have f:r.n.toNat=n:=by omega
 rw[aV.fresh,if_neg b,e,f,B9,bAw];simp only[List.mem_range,bAc,aV.has,decide_eq_true_eq];constructor;intro a c i;have:=a (c-s) (by omega);rw[show s+(c-s)=c by omega] at this;exact this;intro a j k;exact a (s+j) (by omega)
theorem Dk(l:L aV)(r:aV)(b:∀q∈l,bO q.s q.n=0)(h:bO r.s r.n=0):r.fresh (Bz U0 l)=!(l.any fun q=>gD q r):=by
 rw[bAy,aCQ _ _ h,bAc,bAm];constructor;intro e q a i;obtain⟨c,d,f⟩:=(Jq q r (b q a) h).1 i;have h3:=e c f;rw[Jp U0 l aGu b,aAs,aZ0,bAm] at h3;exact h3 q a d;intro e c g;rw[Jp U0 l aGu b,aAs,aZ0,bAm];intro q a d;exact e q a ((Jq q r (b q a) h).2 ⟨c,d,g⟩)
theorem Jr(s n:Int):bO s n=0\/bO s n=2:=by
 unfold bO;split<;>split<;>(try split)<;>omega
theorem aLg{l:L aV}{k:Nat}(d:k<l.length)(h:∀(j:Nat) r,j<k->l[j]?=some r->bO r.s r.n=0):nE (pE l k) (Bz U0 (l.take k)) l[k]=pF l k l[k]:=by
 unfold nE pF;rcases Jr l[k].s l[k].n with h0|h0
 simp only[h0,ne_eq,not_true_eq_false,if_false];have b:∀q∈l.take k,bO q.s q.n=0:=by
  intro q c;obtain⟨j,a⟩:=List.mem_iff_getElem?.1 c;rw[aZK] at a;split at a;exact h j q (by assumption) a;cases a
 rw[Dk _ _ b h0];split;rfl;cases (l.take k).any fun q=>gD q l[k]<;>rfl
 simp[h0]
theorem aLh(l:L aV):∀(n k:Nat),n=l.length-k->k<=l.length->(∀(j:Nat) r,j<k->l[j]?=some r->bO r.s r.n=0)->tK l (l.drop k) (pE l k) (Bz U0 (l.take k)) k=Bx l (l.drop k) k:=by
 intro n
 induction n with
 |zero=>
  intro k b c _;have:l.drop k=[]:=List.drop_of_length_le (by omega);rw[this,tK,Bx];by_cases h:cC l<=4096;rw[if_pos h,if_neg (by omega)];rw[if_neg h,if_pos (by omega)]
 |succ n e=>
  intro k b c h3;have a:k<l.length:=by omega
  rw[Jn a,aZ5 a,tK,aLg a h3];split;rfl;rename_i h0;have h0:pF l k l[k]=0:=by omega
  have d:bO l[k].s l[k].n=0:=by
   unfold pF at h0;rcases Jr l[k].s l[k].n with h|h
   exact h;simp[h] at h0
  have:=e (k+1) (by omega) (by omega) (aUI h3 a d);rw[<- this,Xc U0 l k a];congr 1;simp[pE,aZj a]
theorem aPV(l:L aV):mS l=aCN l:=by
 unfold mS aCN;split;rfl;have:=aLh l l.length 0 (by omega) (by omega) (fun j r h=>by omega)
 simpa[pE,Bz] using this
def gI(l:L aV):Int:=l.foldl (fun n r=>IntKind.i64.wrap (n+r.n)) 0
theorem E3(l:L aV)(k:Nat)(h:k<l.length):gI (l.take (k+1))=IntKind.i64.wrap (gI (l.take k)+l[k].n):=by
 rw[bAa h,gI,List.foldl_append];rfl
theorem Dl(l:L aV)(h:∀r∈l,0<=r.n)(c:cC l<=1000000000000):gI l=cC l:=by
 have b:∀ (l:L aV) (n:Int),0<=n->(∀ r∈l,0<=r.n)->n+cC l<=1000000000000->l.foldl (fun n r=>IntKind.i64.wrap (n+r.n)) n=n+cC l:=by
  intro l
  induction l with
  | nil=>intro n _ _ _;simp[cC]
  | cons r l d=>
   intro n i h c;have f:=h r aZu;have e:cC (r::l)=r.n+cC l:=by simp[cC]
   have g:=iB l (fun r a=>h r (aZC _ a))
   rw[bAu,Es (by omega),d (n+r.n) (by omega) (fun r a=>h r (aZC _ a)) (by omega)]
   omega
 have:=b l 0 (by omega) h (by omega);simpa[gI] using this
def S3(R l:L aV):L aV:=l.foldl Gz R
structure rH (l:List aV):Prop where
 el:∀q∈l,-1<=q.s/\q.s<=1000/\0<=q.n
 sum:cC l<=100000000
 len:l.length<=100000
theorem aCR{R l:L aV}(d:∀q∈R,-1<=q.s/\q.s<=1000/\0<=q.n)(e:∀q∈l,-1<=q.s/\q.s<=1000/\0<=q.n):(∀q∈S3 R l,-1<=q.s/\q.s<=1000/\0<=q.n)/\cC (S3 R l)=cC R+cC l/\(S3 R l).length<=R.length+l.length:=by
 induction l generalizing R with
 |nil=>exact⟨d,by simp[S3,cC],by simp[S3]⟩
 |cons r l i=>
  have g:=e r aZu;obtain⟨a,b,c⟩:=i (R:=Gz R r) (aGt g d) (fun q h=>e q (aZC _ h))
  have f:cC (r::l)=r.n+cC l:=by simp[cC]
  have j:=S2 R r;refine⟨a,?_,?_⟩;show cC (S3 (Gz R r) l)=_;rw[b,aGs,f];omega;show (S3 (Gz R r) l).length<=_;simp only[aZc];omega
theorem iC(l:L aV)(k:Nat)(h:∀r∈l,0<=r.n):cC (l.take k)<=cC l:=by
 have b:cC l=cC (l.take k)+cC (l.drop k):=by rw[<- Dj,bAx]
 have:=iB (l.drop k) (fun r a=>h r (aZL a))
 omega
theorem rH.n_le{l:L aV}(h:rH l){r:aV}(a:r∈l):r.n<=100000000:=by
 obtain⟨i,b,rfl⟩:=List.mem_iff_getElem.1 a;have c:=Ar l i b;have d:=iC l (i+1) (fun r a=>(h.el r a).2.2)
 have h3:=iB (l.take i) (fun r a=>(h.el r (aZA a)).2.2)
 have:=h.sum;omega
theorem rH.nil:rH []:=⟨by simp,by simp[cC],by simp⟩
def As(r:aV)(n:Nat):L Int:=(List.range n).map fun (k:Nat)=>if r.s=-1 then -1 else r.s+k
def rW(l:L aV):L Int:=l.flatMap fun r=>As r r.n.toNat
theorem S4(r:aV)(n:Nat):As r (n+1)=As r n++[if r.s=-1 then -1 else r.s+n]:=by
 simp[As,List.range_succ]
theorem S5(l:L aV)(k:Nat)(h:k<l.length):rW (l.take (k+1))=rW (l.take k)++As l[k] l[k].n.toNat:=by
 rw[bAa h,rW,List.flatMap_append];simp[rW]
theorem At(l:L aV)(h:∀r∈l,0<=r.n):((rW l).length:Int)=cC l:=by
 induction l with
 |nil=>simp[rW,cC]
 |cons r l e=>
  have f:=h r aZu;have:=e (fun r d=>h r (aZC _ d))
  have a:cC (r::l)=r.n+cC l:=by simp[cC]
  have b:rW (r::l)=As r r.n.toNat++rW l:=by simp[rW]
  have c:(As r r.n.toNat).length=r.n.toNat:=by simp[As]
  rw[a,b,aZb,c];omega
def Vol(r:aV):Prop:=(r.s=-1/\0<=r.n)\/(0<=r.s/\1<=r.n/\r.s+r.n<=512)
theorem rH.add{l:L aV}(h:rH l):rH (S3 [] l):=by
 obtain⟨a,b,c⟩:=aCR (R:=[]) (by simp) h.el;have:=h.sum;have:=h.len;simp only[cC,aZm,List.sum_nil,aZd] at b c;exact⟨a,by simp only[cC] at *;omega,by omega⟩
theorem rH.take{l:L aV}(h:rH l)(k:Nat):rH (l.take k):=⟨fun q a=>h.el q (aZA a),by have:=iC l k (fun r b=>(h.el r b).2.2);have:=h.sum;omega,by have:=h.len;simp;omega⟩
theorem aUL{l:L aV}(h:(mS l).2=0):0<=cC l/\cC l<=4096:=by
 have b:=Jo h;have f:=nZ h;refine⟨iB l (fun r d=>(aNz (b r d)).1),?_⟩
 have c:∀(a l:L aV) p U i,(tK a l p U i).2=0->cC a<=4096:=by
  intro a l
  induction l with
  |nil=>intro p U i h;rw[tK] at h;simp only at h;split at h<;>first|assumption|omega
  |cons r l e=>
   intro p U i h;rw[tK] at h;split at h;rename_i b;exact absurd h b;exact e _ _ _ h
 unfold mS at h;split at h;cases h;exact c _ _ _ _ _ h
theorem Dm{l:L aV}(h:(mS l).2=0):rH l:=by
 have a:=Jo h;have c:=nZ h;have h3:=aUL h;exact⟨fun q b=>by have:=aGp (a q b);omega,by omega,by omega⟩
theorem Mz(l:L aV):Di [l]=(mS l).2:=by
 simp only[Di,aZl,aZm,aT];split<;>simp_all
end
section
variable {G:aF}{B:aO}
theorem jW(n a b:Int):EV G (Tb B) 278 [vi n,vi a,vi b] []=some (vb (decide (a<=n/\n<=b)),[]):=by
 refine aB rfl ?_;by_cases h:a<=n;all_goals simp (disch:=omega) only[go_sem,h278c]
 all_goals simp[h]
theorem jX(s n:Int):EV G (Tb B) 255 [rn s n] []=some (vb (decide (s=-1)),[]):=by
 refine aB rfl ?_;simp (disch:=omega) only[go_sem,h255c]
theorem Dn(b:Bool)(e:Int):EV G (Tb B) 251 [vb b,vi e] []=some (vi (if b=true then 0 else e),[]):=by
 refine aB rfl ?_;cases b;all_goals simp (disch:=omega) only[go_sem,h251c]
 all_goals rfl
theorem Ph(p:Nat->Prop):∀n:Nat,(∀k,k<n->¬ p k)\/∃j,j<n/\p j/\∀k,k<j->¬ p k
 |0=>.inl (fun k h=>by omega)
 | n+1=>by
  rcases Ph p n with h | ⟨j,h1,h2,h3⟩
  ·by_cases hp:p n
   ·exact .inr ⟨n,by omega,hp,h⟩
   ·exact .inl (fun k b=>by
     by_cases a:k=n
     ·subst a;exact hp
     ·exact h k (by omega))
  ·exact .inr ⟨j,by omega,h2,h3⟩
theorem kE(l:L Int)(j:Nat)(a:j<l.length)(h:∀k,k<j->¬ l.getD k 0≠0)(b:l.getD j 0≠0):aT l=l[j]:=by
 have c:l.getD j 0=l[j]:=by simp[aZo,aZj a]
 rw[F8 l j (fun k d=>by have:=h k d;omega),aZ5 a,aT,if_neg (by rw[<- c];exact b)]
theorem iD(l:L Int)(h:∀k,k<l.length->¬ l.getD k 0≠0):aT l=0:=by
 rw[F8 l l.length (fun k a=>by have:=h k a;omega),List.drop_length];rfl
theorem cD(l:L Int)(k:Nat)(h:k<l.length):l.getD k 0=l[k]:=by simp[aZo,aZj h]
theorem mT(s n:Int):EV G (Tb B) 248 [rn s n] []=some (vi (bO s n),[]):=by
 refine aB rfl ?_;by_cases b:s=-1
 ·by_cases a:1<=n/\n<=4096;all_goals simp (disch:=omega) only[go_sem,h248c,jX,jW,Dn,bO]
 by_cases a:0<=s/\s<=511
 ·by_cases h3:1<=n/\n<=512-s;all_goals simp (disch:=omega) only[go_sem,h248c,jX,jW,Dn,bO]
 simp (disch:=omega) only[go_sem,h248c,jX,jW,Dn,bO]
end
section
variable {G:aF}{B:aO}
theorem aGv(l:L aV)(b:l.length<=1000000):EV G (Tb B) 252 [cP l] []=some (vi (gI l),[]):=by
 refine aB rfl ?_;simp (disch:=omega) only[go_sem,h252c,aZa];rw[aR (fun k=>⟨(jk 3 (vi (gI (l.take k))::jk 2 (cP l::vi l.length::vi k::jk 9 []))),[]⟩) l.length ?_ ?_]
 simp (disch:=omega) only[go_sem,h252l0,aZT];rfl;intro k a;rw[E3 l k a];simp (disch:=omega) only[go_sem,h252l0,aZa,aV.e]
theorem Pi(q r:aV)(h:-9223372036854775808<=q.s+q.n/\q.s+q.n<=9223372036854775807):EV G (Tb B) 249 [q.v,r.v] []=some (vb (iV q r),[]):=by
 refine aB rfl ?_;unfold iV;by_cases a:q.s=-1;all_goals by_cases b:r.s=-1
 all_goals simp (disch:=omega) only[go_sem,h249c,jX,a,b]
 all_goals simp[a,b]
theorem aLi(U:L Bool)(k:Nat)(h:k<U.length):((U.map bC).drop k).take 1=[.dc (.raw (.bool U[k]))]:=aGm U k _ (aZj h)
theorem aPW(U:L Bool)(k:Nat)(b:Bool)(h:k<U.length):cY (U.map bC) k [.dc (.raw (.bool b))]=(U.set k b).map bC:=aLf U k b h
theorem aUM(m:Nat)(U:L Bool):Gx m (U.map bC)=U.map bC:=by rw[Dd,aNy]
theorem aPX(U:L Bool):idsL (U.map bC)=[]:=by
 induction U with
 |nil=>rfl
 |cons b U a=>rw[aZl,idsL,a];rfl
theorem aUN(J:L Nat)(U:L Bool):Df J (U.map bC)=true:=by
 induction U with
 |nil=>rfl
 |cons b U a=>rw[aZl,Df,a];rfl
theorem aUO(ρ:Nat->Nat)(U:L Bool):(U.map bC).map (kA ρ)=U.map bC:=by
 induction U with
 |nil=>rfl
 |cons b U a=>rw[aZl,aZl,a];rfl
attribute [go_sem] aNy aUM aPX aUN aUO
theorem aGw(U:L Bool)(r:aV)(f:U.length=512)(h:Vol r):EV G (Tb B) 250 [.one (.ptr 0 0),r.v] [bx U]=some (vb (r.fresh U),[bx (r.into U)]):=by
 refine aB rfl ?_;rcases h with⟨b,_⟩|⟨b,e,h3⟩
 simp (disch:=omega) only[go_sem,h250c,jX,aV.fresh,aV.into];obtain⟨s,d⟩:∃s:Nat,r.s=s:=⟨r.s.toNat,by omega⟩;obtain⟨n,c⟩:∃n:Nat,r.n=n:=⟨r.n.toNat,by omega⟩;simp (disch:=omega) only[go_sem,h250c,jX,aV.fresh,aV.into,d,c];rw[aR (fun k=>⟨(.one (.ptr 0 0)::jk 2 (.one (.ptr 1 0)::jk 1 (vb (B9 U s k)::vi (s+k:Nat)::jk 27 []))),[bx (Gy U s k),.box [.dc (ci s),.dc (ci n)]]⟩) n ?_ ?_]
 simp (disch:=omega) only[go_sem,h250l0];rfl
 ·intro k g;have i:=Jm U s k;rw[Sx,Gy];have a:(Gy U s k)[s+k]'(by omega)=U.getD (s+k) false:=by
   have:=aGl U s k (s+k) (aZe _);rw[aZj (by omega)] at this;rw[aZo,<- this];rfl
  cases hf:B9 U s k;all_goals simp (disch:=omega) only[go_sem,h250l0,aLi,aPW,a]
end
section
variable {G:aF}{B:aO}
theorem aPY:List.replicate 512 (aU.dc (.raw (.bool false)))=U0.map bC:=by rw[U0,List.map_replicate];rfl
theorem aLj(l:L aV)(k:Nat)(c:k<=l.length)(h:∀j,j<k->¬ nE (pE l j) (Uk l j) (l.getD j ⟨0,0⟩)≠0):tK l l none U0 0=tK l (l.drop k) (pE l k) (Uk l k) k:=by
 induction k with
 |zero=>rfl
 |succ k a=>
  have e:l.getD k ⟨0,0⟩=l[k]:=by simp[aZo,aZj (show k<l.length by omega)]
  have:=h k (Nat.lt_succ_self k);rw[e] at this;rw[a (by omega) (fun j b=>h j (by omega)),aAq (by omega),if_neg this,aAp l k (by omega)]
  simp[pE,aZj (show k<l.length by omega)]
theorem jR(l:L aV)(k:Nat)(h:k<l.length):l.getD k ⟨0,0⟩=l[k]:=by simp[aZo,aZj h]
theorem aAt{r:aV}(h:bO r.s r.n=0):Vol r:=by
 rcases lG h with⟨a,b,h3⟩|⟨s,n,a,b,h3,h4⟩;exact .inl ⟨a,by omega⟩
 exact .inr ⟨by omega,by omega,by omega⟩
theorem Js{l:L aV}{k:Nat}(U:L Bool)(c:k<l.length)(h:¬ nE (pE l k) U (l.getD k ⟨0,0⟩)≠0):bO l[k].s l[k].n=0/\¬ (0<k/\iV (l[k-1]'(by omega)) l[k]=true)/\l[k].fresh U=true:=by
 rw[jR l k c,Sz U c] at h;by_cases a:bO l[k].s l[k].n≠0;rw[if_pos a] at h;exact absurd a h;rw[if_neg a] at h;by_cases b:0<k/\iV (l[k-1]'(by omega)) l[k]=true;rw[if_pos b] at h;exact absurd (by decide) h;rw[if_neg b] at h;cases h3:l[k].fresh U;rw[h3] at h;exact absurd (by decide) h;exact⟨by omega,b,rfl⟩
theorem Pj(l:L aV):EV G (Tb B) 212 [cP l] []=some (.tup [.one (.dc (ci (mS l).1)),.one (.dc (ci (mS l).2))],[]):=by
 refine aB rfl ?_;by_cases u:(l.length:Int) > 64;simp only[mS,if_pos u];simp (disch:=omega) only[go_sem,h212c,aZa]
 ·simp only[mS,if_neg u];simp (disch:=omega) only[go_sem,h212c,aZa,List.map_replicate,aPY];rw[dN (fun k=>⟨(cP l::jk 3 (.one (.ptr 0 0)::jk 6 (cP l::vi l.length::vi k::jk 31 []))),[bx (Uk l k)]⟩) (fun k=>nE (pE l k) (Uk l k) (l.getD k ⟨0,0⟩)≠0) l.length ?_ ?_]
  rotate_left
  rfl;intro k q p;obtain⟨a,g,h3⟩:=Js _ q (p k (aZe _));have x:=aAt a;have t:=aGn l k;have b:=aGw (G:=G) (B:=B) (Uk l k) l[k] t x;rw[h3] at b;rw[aAp l k q];by_cases h0:0<k;have m:iV (l[k-1]'(by omega)) l[k]=false:=by simpa[h0] using g
  have v:bO (l[k-1]'(by omega)).s (l[k-1]'(by omega)).n=0:=(Js _ (by omega) (p (k-1) (by omega))).1;have i:=My v;simp (disch:=omega) only[go_sem,h212l0,aZa,aV.e,mT,a,Pi,m,b];simp (disch:=omega) only[go_sem,h212l0,aZa,aV.e,mT,a,b];obtain⟨q,hp,p⟩:=bE (fun k=>nE (pE l k) (Uk l k) (l.getD k ⟨0,0⟩)≠0) l.length
  generalize ix (fun k=>nE (pE l k) (Uk l k) (l.getD k ⟨0,0⟩)≠0) l.length=k at *
  have f:∀ (j:Nat) r,j < k->l[j]?=some r->bO r.s r.n=0:=fun j r m d=>by
   have o:j < l.length:=by omega
   have:=(Js _ o (p j m)).1;rw[aZj o] at d;injection d with d;rwa[d] at this
  rw[aLj l k q p];rcases hp with rfl|⟨c,hp⟩
  have d:=aGo f;have y:gI l=cC l:=Dl l (fun r w=>by have:=aGp (d r w);omega) (by
   have:=(aUJ (l:=l) (k:=l.length) (by omega) d).2;rw[S1] at this;omega)
  rw[List.drop_length,tK];simp (disch:=omega) only[go_sem,h212l0,aZa,aGv,Dn,y];have t:=aGn l k;rw[jR l k c] at hp;rw[aAq c,if_pos hp];rw[Sz _ c] at hp ⊢;by_cases a:bO l[k].s l[k].n=0;have b:=aGw (G:=G) (B:=B) (Uk l k) l[k] t (aAt a);by_cases g:0<k/\iV (l[k-1]'(by omega)) l[k]=true;have i:=My (f (k-1) (l[k-1]'(by omega)) (by omega) (aZj _));simp (disch:=omega) only[go_sem,h212l0,aZa,aV.e,mT,a,Pi,g];have h3:l[k].fresh (Uk l k)=false:=by
   simp only[a,ne_eq,not_true_eq_false,if_false,if_neg g] at hp;cases h:l[k].fresh (Uk l k);rfl;rw[h] at hp;simp at hp
  rw[h3] at b;by_cases h0:0<k;have m:iV (l[k-1]'(by omega)) l[k]=false:=by simpa[h0] using g
  have i:=My (f (k-1) (l[k-1]'(by omega)) (by omega) (aZj _));simp (disch:=omega) only[go_sem,h212l0,aZa,aV.e,mT,a,Pi,m,b,h3];simp (disch:=omega) only[go_sem,h212l0,aZa,aV.e,mT,a,b,h3];simp (disch:=omega) only[go_sem,h212l0,aZa,aV.e,mT]
end
section
variable {G:aF}{B:aO}
def sl1(l:L aV):L DC:=[.slc (l.map aV.e)]
theorem aAu(L:List (List aV))(k:Nat)(a:k<L.length):((L.map fun l=>(mS l).2).getD k 0)=(mS L[k]).2:=by simp[aZo,aZj a]
theorem aCS(L:List (List aV))(e:L.length<=1000):EV G (Tb B) 253 [vl (L.map sl1)] []=some (vi (Di L),[]):=by
 refine aB rfl ?_;simp (disch:=omega) only[go_sem,h253c,aZa];rw[dN (fun k=>⟨(jk 7 (vl (L.map sl1)::vi L.length::vi k::jk 12 [])),[]⟩) (fun k=>(L.map fun l=>(mS l).2).getD k 0≠0) L.length ?_ ?_]
 rotate_left
 rfl;intro k c b;have d:=b k (aZe _);rw[aAu L k c] at d;simp (disch:=omega) only[go_sem,h253l0,aZa,sl1,Pj];obtain⟨c,hp,b⟩:=bE (fun k=>(L.map fun l=>(mS l).2).getD k 0≠0) L.length
 generalize ix (fun k=>(L.map fun l=>(mS l).2).getD k 0≠0) L.length=k at *
 unfold Di;rcases hp with rfl|⟨a,hp⟩
 rw[iD _ (by simpa using b)];simp (disch:=omega) only[go_sem,h253l0,aZa];rw[kE _ k (by simpa using a) b hp];rw[aAu L k a] at hp;simp (disch:=omega) only[go_sem,h253l0,aZa,sl1,Pj,aZt]
theorem Hn(a:L aV):EV G (Tb B) 253 [vl [[.slc (a.map aV.e)]]] []=some (vi (Di [a]),[]):=aCS [a] (by simp)
theorem Do(l:L aV)(s n:Int):l.map aV.e++[[.raw (.int .i64 s),.raw (.int .i64 n)]]=(l++[(⟨s,n⟩:aV)]).map aV.e:=by simp[aV.e,ci]
theorem aUP(r:aV):(aV.e r).length=2:=rfl
theorem aAv(l:L aV):gC 2 (l.map aV.e)=true:=jD aUP l
attribute [go_sem] aAv
end
section
variable {G:aF}{B:aO}
