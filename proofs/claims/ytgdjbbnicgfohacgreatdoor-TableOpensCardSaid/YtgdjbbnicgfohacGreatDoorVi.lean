/- Part. Conditions: none. -/
import Derived.Test.YtgdjbbnicgfohacGreatDoorVf
namespace Go.Proofs.YtgdjbbnicgfohacGreatDoor
set_option maxHeartbeats 1000000
set_option linter.unusedSimpArgs false
set_option linter.unusedVariables false
set_option maxRecDepth 4000
section
variable {G:aF}{B:aO}
end
section
variable {G:aF}{B:aO}
theorem bN(n a b:Int):EV G (Tb B) 35 [vi n,vi a,vi b] []=some (vb (decide (a<=n/\n<=b)),[]):=by
 refine aB rfl ?_;by_cases h:a<=n;all_goals simp (disch:=omega) only[go_sem,h35c]
 all_goals simp[h]
theorem Au(s n:Int):EV G (Tb B) 236 [rn s n] []=some (vb (decide (bO s n=0)),[]):=by
 refine aB rfl ?_;by_cases b:s=-1
 ·by_cases a:1<=n/\n<=4096;all_goals simp (disch:=omega) only[go_sem,h236c,bN,bO]
  all_goals simp[a]
 by_cases a:0<=s/\s<=511
 ·by_cases h3:1<=n/\n<=512-s;all_goals simp (disch:=omega) only[go_sem,h236c,bN,bO]
  all_goals simp[h3]
 simp (disch:=omega) only[go_sem,h236c,bN,bO];simp
theorem Pl(q r:aV)(h:-9223372036854775808<=q.s+q.n/\q.s+q.n<=9223372036854775807):EV G (Tb B) 237 [q.v,r.v] []=some (vb (iV q r),[]):=by
 refine aB rfl ?_;unfold iV;by_cases a:q.s=-1;all_goals by_cases b:r.s=-1
 all_goals simp (disch:=omega) only[go_sem,h237c]
 all_goals simp[a,b,eq_comm]
theorem S6(q r:aV)(h:-9223372036854775808<=q.s+q.n/\q.s+q.n<=9223372036854775807)(c:-9223372036854775808<=r.s+r.n/\r.s+r.n<=9223372036854775807):EV G (Tb B) 274 [q.v,r.v] []=some (vb (gD q r),[]):=by
 refine aB rfl ?_;unfold gD;by_cases a:q.s=-1;simp (disch:=omega) only[go_sem,h274c];simp[a];by_cases b:r.s=-1;simp (disch:=omega) only[go_sem,h274c];simp[a,b]
 ·by_cases h3:q.s<r.s+r.n;all_goals simp (disch:=omega) only[go_sem,h274c]
  all_goals simp[a,b,h3,(by simpa using a:(q.s != -1)=true),(by simpa using b:(r.s != -1)=true)]
theorem rI(l:L aV)(b:l.length<=1000000):EV G (Tb B) 31 [cP l] []=some (vi (gI l),[]):=by
 refine aB rfl ?_;simp (disch:=omega) only[go_sem,h31c,aZa];rw[aR (fun k=>⟨(cP l::jk 2 (vi (gI (l.take k))::vi k::jk 14 [])),[]⟩) l.length ?_ ?_]
 simp (disch:=omega) only[go_sem,h31l0,aZa,aZT];rfl;intro k a;rw[E3 l k a];simp (disch:=omega) only[go_sem,h31l0,aZa,aV.e]
theorem M0(l:L aV)(i:Nat)(m:i<l.length)(u:l.length<=100000)(b:∀(j:Nat) q,j<=i->l[j]?=some q->-9223372036854775808<=q.s+q.n/\q.s+q.n<=9223372036854775807):EV G (Tb B) 238 [cP l,vi i] []=some (vb ((l.take i).any fun q=>gD q l[i]),[]):=by
 refine aB rfl ?_;simp (disch:=omega) only[go_sem,h238c,aZa];have h:=b i l[i] (aZe _) (aZj m);rw[dN (fun k=>⟨(cP l::vi i::jk 3 (vi k::jk 14 [])),[]⟩) (fun k=>gD (l.getD k ⟨0,0⟩) l[i]=true) i ?_ ?_]
 rotate_left
 rfl;intro k p f;have a:=f k (aZe _);rw[jR l k (by omega)] at a;have a:gD l[k] l[i]=false:=by simpa using a
 have c:=b k l[k] (by omega) (aZj _);simp (disch:=omega) only[go_sem,h238l0,aZa,aV.e,S6,a];obtain⟨p,hp,f⟩:=bE (fun k=>gD (l.getD k ⟨0,0⟩) l[i]=true) i
 generalize ix (fun k=>gD (l.getD k ⟨0,0⟩) l[i]=true) i=k at *
 rcases hp with rfl|⟨r,hp⟩
 have g:((l.take k).any fun q=>gD q l[k])=false:=by
  rw[bAm];intro q t;obtain⟨j,o,rfl⟩:=List.mem_iff_getElem.1 t;have d:j < k:=by simp at o;omega
  have:=f j d;rw[jR l j (by omega)] at this;simpa using this
 simp (disch:=omega) only[go_sem,h238l0,aZa,g]
 rw[jR l k (by omega)] at hp;have g:((l.take i).any fun q=>gD q l[i])=true:=by
  rw[List.any_eq_true];exact⟨l[k],List.mem_iff_getElem.2 ⟨k,by simp;omega,by simp⟩,hp⟩
 have c:=b k l[k] (by omega) (aZj _);simp (disch:=omega) only[go_sem,h238l0,aZa,aV.e,S6,hp,g]
theorem aGx(l:L aV)(k:Nat)(c:k<=l.length)(h:∀j,j<k->¬ pF l j (l.getD j ⟨0,0⟩)≠0):Bx l l 0=Bx l (l.drop k) k:=by
 induction k with
 |zero=>rfl
 |succ k a=>
  have:=h k (Nat.lt_succ_self k);rw[jR l k (by omega)] at this;rw[a (by omega) (fun j b=>h j (by omega)),Jn (by omega),if_neg this]
theorem Jt{l:L aV}{k:Nat}(c:k<l.length)(h:¬ pF l k (l.getD k ⟨0,0⟩)≠0):bO l[k].s l[k].n=0/\¬ (0<k/\iV (l[k-1]'(by omega)) l[k]=true)/\((l.take k).any fun q=>gD q l[k])=false:=by
 rw[jR l k c,S0 c] at h;by_cases b:bO l[k].s l[k].n≠0;rw[if_pos b] at h;exact absurd (by decide) h;rw[if_neg b] at h;by_cases a:0<k/\iV (l[k-1]'(by omega)) l[k]=true;rw[if_pos a] at h;exact absurd (by decide) h;rw[if_neg a] at h;cases h3:(l.take k).any fun q=>gD q l[k]
 exact⟨by omega,a,rfl⟩;rw[h3] at h;exact absurd (by decide) h
theorem aLk(l:L aV):EV G (Tb B) 194 [cP l] []=some (.tup [.one (.dc (ci (aCN l).1)),.one (.dc (ci (aCN l).2))],[]):=by
 refine aB rfl ?_;by_cases w:(l.length:Int) > 64;simp only[aCN,if_pos w];simp (disch:=omega) only[go_sem,h194c,aZa]
 ·simp only[aCN,if_neg w];simp (disch:=omega) only[go_sem,h194c,aZa];rw[dN (fun k=>⟨(cP l::jk 3 (vi k::jk 38 [])),[]⟩) (fun k=>pF l k (l.getD k ⟨0,0⟩)≠0) l.length ?_ ?_]
  rotate_left
  rfl
  intro k v t;obtain⟨f,o,h3⟩:=Jt v (t k (aZe _));have a:∀ (j:Nat) q,j<=k->l[j]?=some q->-9223372036854775808<=q.s+q.n/\q.s+q.n<=9223372036854775807:=fun j q g d=>by
   have c:j < l.length:=by omega
   have:=My (Jt c (t j g)).1;rw[aZj c] at d;injection d with d;rwa[d] at this
  have i:=M0 (G:=G) (B:=B) l k v (by omega) a;rw[h3] at i;by_cases h0:0<k;have g:iV (l[k-1]'(by omega)) l[k]=false:=by simpa[h0] using o
  have p:=a (k-1) (l[k-1]'(by omega)) (by omega) (aZj _);simp (disch:=omega) only[go_sem,h194l0,aZa,aV.e,Au,f,Pl,g,i];simp (disch:=omega) only[go_sem,h194l0,aZa,aV.e,Au,f,i];obtain⟨v,hp,t⟩:=bE (fun k=>pF l k (l.getD k ⟨0,0⟩)≠0) l.length
  generalize ix (fun k=>pF l k (l.getD k ⟨0,0⟩)≠0) l.length=k at *
  have u:∀ (j:Nat) r,j < k->l[j]?=some r->bO r.s r.n=0:=fun j r g m=>by
   have c:j < l.length:=by omega
   have:=(Jt c (t j g)).1;rw[aZj c] at m;injection m with m;rwa[m] at this
  rw[aGx l k v t];rcases hp with rfl|⟨b,hp⟩
  ·have m:=aGo u;have z:gI l=cC l:=Dl l (fun r y=>by have:=aGp (m r y);omega) (by
    have:=(aUJ (l:=l) (k:=l.length) (by omega) m).2;rw[S1] at this;omega)
   rw[List.drop_length,Bx];by_cases h4:cC l > 4096;all_goals simp (disch:=omega) only[go_sem,h194l0,aZa,rI,z]
  rw[jR l k b] at hp;rw[Jn b,if_pos hp];rw[S0 b] at hp ⊢;by_cases f:bO l[k].s l[k].n=0
  have a:∀ (j:Nat) q,j<=k->l[j]?=some q->-9223372036854775808<=q.s+q.n/\q.s+q.n<=9223372036854775807:=fun j q g d=>by
   by_cases x:j=k
   ·subst x;rw[aZj b] at d;injection d with d;rw[<- d];exact My f
   ·exact My (u j q (by omega) d)
  have i:=M0 (G:=G) (B:=B) l k b (by omega) a;by_cases o:0<k/\iV (l[k-1]'(by omega)) l[k]=true;have p:=a (k-1) (l[k-1]'(by omega)) (by omega) (aZj _);simp (disch:=omega) only[go_sem,h194l0,aZa,aV.e,Au,f,Pl,o]
  have h3:((l.take k).any fun q=>gD q l[k])=true:=by
   simp only[f,ne_eq,not_true_eq_false,if_false,if_neg o] at hp;cases h:(l.take k).any fun q=>gD q l[k]
   ·rw[h] at hp;simp at hp
   ·rfl
  rw[h3] at i;by_cases h0:0<k;have g:iV (l[k-1]'(by omega)) l[k]=false:=by simpa[h0] using o
  have p:=a (k-1) (l[k-1]'(by omega)) (by omega) (aZj _);simp (disch:=omega) only[go_sem,h194l0,aZa,aV.e,Au,f,Pl,g,i,h3];simp (disch:=omega) only[go_sem,h194l0,aZa,aV.e,Au,f,i,h3];simp (disch:=omega) only[go_sem,h194l0,aZa,aV.e,Au]
theorem aGy(l:L aV):EV G (Tb B) 136 [cP l] []=some (vi (mS l).2,[]):=by
 refine aB rfl ?_;simp (disch:=omega) only[go_sem,h136c,aLk,aPV]
end
section
variable {G:aF}{B:aO}
def Av(n:Int):L DC:=[.raw (.int .u8 n)]
def u8(n:Int):UInt8:=UInt8.ofNat n.toNat
def dB(l:L Int):ByteArray:=⟨(l.map u8).toArray⟩
abbrev sv(l:L Int):AV:=.one (.dc (.raw (.string (dB l))))
abbrev bl(l:L Int):L (L DC):=l.map Av
abbrev vu(n:Int):AV:=.one (.dc (.raw (.int .u8 n)))
def aK(l:L Int):Prop:=∀b∈l,0<=b/\b<=255
theorem Ca(l:L Int):gB (l.map Av)=some (l.map u8):=by
 induction l with
 |nil=>rfl
 |cons b l a=>simp only[aZl,Av,gB,u8] at a ⊢;rw[a];rfl
theorem gY(b:Int)(h:0<=b/\b<=255):((u8 b).toNat:Int)=b:=by
 simp only[u8,UInt8.toNat_ofNat'];omega
theorem aG:(⟨#[]⟩:ByteArray)=dB []:=rfl
theorem aC(l:L Int):(dB l).size=l.length:=by simp[dB,ByteArray.size]
theorem Ho(a b:L Int):dB a++dB b=dB (a++b):=by
 apply ByteArray.ext;simp[dB,ByteArray.data_append]
theorem Pm(l:L Int)(a b:Nat):(dB l).extract a b=dB ((l.take b).drop a):=by
 apply ByteArray.ext;simp[dB,ByteArray.data_extract,bAr]
theorem aLl(s:ByteArray):∃l,aK l/\s=dB l:=by
 refine⟨s.data.toList.map fun b=>(b.toNat:Int),fun b a=>?_,?_⟩
 obtain⟨x,_,rfl⟩:=List.mem_map.1 a;have:=x.toNat_lt;omega;apply ByteArray.ext;apply Array.ext';simp[dB,u8,Function.comp_def]
theorem cQ{a b:L Int}(e:aK a)(f:aK b):(dB a=dB b)=(a=b):=by
 apply propext;refine⟨fun h=>?_,fun h=>by rw[h]⟩
 have c:a.map u8=b.map u8:=by
  have:=congrArg (fun s:ByteArray=>s.data.toList) h
  simpa[dB] using this
 have d:a.length=b.length:=by simpa using congrArg List.length c
 refine List.ext_getElem d (fun i p q=>?_)
 have h3:u8 a[i]=u8 b[i]:=by
  have:=congrArg (fun l=>l[i]?) c
  simpa[p,q] using this
 rw[<- gY _ (e _ (aZk p)),<- gY _ (f _ (aZk q)),h3]
theorem aNA(l:L Int)(c:aK l)(i:Int)(h:0<=i/\i<l.length):Ia (sv l) i=some (vu (l.getD i.toNat 0)):=by
 have a:i.toNat<l.length:=by omega
 have b:(dB l).data.toList[i.toNat]?=some (u8 l[i.toNat]):=by simp[dB,a]
 have h3:l.getD i.toNat 0=l[i.toNat]:=by simp[aZo,a]
 simp only[Ia,dJ,if_pos h.1,b,dQ,gY _ (c _ (aZk a)),h3]
theorem aGz(hp:L aD)(l:L Int):nW hp (vl (bl l))=some (sv l):=by
 simp only[nW,Ca,aZg];rfl
theorem S7(l:L Int):(⟨(l.map u8).toArray⟩:ByteArray)=dB l:=rfl
attribute [go_sem 2000] aGz
theorem S8(l:L Int):(dB l).data.toList=l.map u8:=by simp[dB]
attribute [go_sem] Ca S7 Option.map_none S8 Pm gY bAE aZT List.getElem?_nil List.getElem_cons_zero List.getElem_cons_succ
attribute [go_sem] aC Ho
def sz(n:Int):Int:=if -128<=n/\n<=127 then 1 else 2
def aLm:Nat->Int
 |0=>1
 |_=>2
theorem aGA:aLm 0=1:=rfl
theorem aGB:aLm 1=2:=rfl
theorem aPZ:min 7 64=7:=rfl
theorem aLn:min 15 64=15:=rfl
theorem aP0:min 8 64=8:=rfl
theorem aLo:min 16 64=16:=rfl
theorem aP1:min 4 64=4:=rfl
theorem Ju:IntKind.i64.bits=64:=rfl
attribute [go_sem] aPZ aLn aP0 aLo aP1 Ju
theorem rJ(n:Int)(h:-32768<=n/\n<=32767):EV G (Tb B) 254 [vi n] []=some (vi (sz n),[]):=by
 refine aB rfl ?_;by_cases c:-128<=n/\n<=127
 ·rw[sz,if_pos c];simp (disch:=omega) only[go_sem,h254c];rw[aR (fun k=>⟨(vi n::jk 2 (vi (aLm k)::jk 15 [])),[]⟩) 0 ?_ ?_]
  rotate_left
  rfl;exact fun k b=>absurd b (by omega)
  simp (disch:=omega) only[go_sem,h254l0,jW,aGA,Int.reduceMul,Int.reduceSub,Int.reduceToNat,Int.reducePow,Nat.reducePow,Int.reduceNeg]
 ·rw[sz,if_neg c];simp (disch:=omega) only[go_sem,h254c];rw[aR (fun k=>⟨(vi n::jk 2 (vi (aLm k)::jk 15 [])),[]⟩) 1 ?_ ?_]
  rotate_left
  rfl
  rotate_left
  simp (disch:=omega) only[go_sem,h254l0,jW,aGB,Int.reduceMul,Int.reduceSub,Int.reduceToNat,Int.reducePow,Nat.reducePow,Int.reduceNeg];intro k b;have a:k=0:=by omega
  subst a;simp (disch:=omega) only[go_sem,h254l0,jW,aGA,aGB,Int.reduceMul,Int.reduceSub,Int.reduceToNat,Int.reducePow,Nat.reducePow,Int.reduceNeg,Int.reduceAdd]
def F9(n:Int):Nat->Int
 |0=>n
 |k+1=>F9 n k / 256
def bI(n:Int):Nat->L Int
 |0=>[]
 |k+1=>bI n k++[F9 n k % 256]
theorem aA(n:Int)(k:Nat):(bI n k).length=k:=by
 induction k with
 |zero=>rfl
 |succ k a=>simp[bI,a]
theorem Jv(n:Int)(k:Nat):(bI n k).take k=bI n k:=aZM (by rw[aA];omega)
theorem cR(n:Int)(k:Nat):aK (bI n k):=by
 induction k with
 |zero=>intro b a;cases a
 |succ k c=>
  intro b a;rcases bAv.1 a with h|h
  exact c b h;have:=List.mem_singleton.1 h;omega
theorem Dp(l:L Int)(b:Int):l.map Av++[[.raw (.int .u8 b)]]=(l++[b]).map Av:=by simp[Av]
theorem aGC(a b:L Int):a.map Av++b.map Av=(a++b).map Av:=aZR.symm
theorem aP2(l:L Int):gC 1 (l.map Av)=true:=jD (f:=Av) (fun _=>rfl) l
theorem wu8(n:Int):IntKind.u8.wrap n=n % 256:=by rw[IntKind.wrap_u8]
theorem aP3(n:Int)(h:0<=n/\n<=255):IntKind.u8.wrap n=n:=by rw[IntKind.wrap_u8];omega
theorem Hp(n:Int):n.fdiv 256=n / 256:=Int.fdiv_eq_ediv_of_nonneg _ (by decide)
attribute [go_sem] aP2
theorem Xd(n:Int)(h:-9223372036854775808<=n/\n<=9223372036854775807)(k:Nat):-9223372036854775808<=F9 n k/\F9 n k<=9223372036854775807:=by
 induction k with
 |zero=>exact h
 |succ k a=>simp only[F9];omega
theorem Jw(n:Int)(k:Nat)(c:k<=1000):EV G (Tb B) 256 [vi n,vi k] []=some (vl (bl (bI n k)),[]):=by
 refine aB rfl ?_;simp (disch:=omega) only[go_sem,h256c];rw[aR (fun j=>⟨(vi (F9 n j)::jk 4 (.one (.bld 0 j)::vi k::vi j::jk 10 [])),[.arr 0 1 (bl (bI n j))]⟩) k ?_ ?_]
 have a:=aA n k;simp (disch:=omega) only[go_sem,h256l0,aZa,aA,kC];simp only[aZM (show (bI n k).length<=k by omega),<- aZZ];rfl;intro j b;have a:=aA n j;simp (disch:=omega) only[go_sem,h256l0,aZa,aA,wu8,Int.reduceToNat,Int.reducePow,Hp,<- aZZ,Jv,Dp,F9,bI]
def nF(a:Int)(r:aV):L Int:=
 if r.s=-1 then sz r.n::bI r.n (sz r.n).toNat else (16*sz (r.s-a)+sz r.n)::(bI r.n (sz r.n).toNat++bI (r.s-a) (sz (r.s-a)).toNat)
def est(s:L Int×Int)(r:aV):L Int×Int:=(s.1++nF s.2 r,if r.s=-1 then s.2 else r.s)
def sM(l:L aV)(k:Nat):L Int×Int:=(l.take k).foldl est ([],0)
def jE(l:L aV):L Int×Int:=l.foldl est ([],0)
def Cb(l:L aV):L Int×Int:=if Di [l]≠0 then ([],Di [l]) else ((jE l).1++[0],0)
theorem E4(l:L aV)(k:Nat)(h:k<l.length):sM l (k+1)=est (sM l k) l[k]:=by
 rw[sM,bAa h,List.foldl_append];rfl
theorem Dq(l:L aV):sM l l.length=jE l:=by rw[sM,aZT];rfl
theorem tF(n:Int):sz n=1\/sz n=2:=by unfold sz;split<;>simp
theorem S9(a:Int)(r:aV):(nF a r).length<=5:=by
 have b:=tF r.n;have c:=tF (r.s-a);unfold nF;split;simp only[aZc,aA];omega;simp only[aZc,aZb,aA];omega
theorem aCT(a:Int)(r:aV):aK (nF a r):=by
 have d:=tF r.n;have e:=tF (r.s-a);intro b c;unfold nF at c;split at c;rcases bAl.1 c with h|h
 omega;exact cR _ _ b h;rcases bAl.1 c with h|h
 omega;rcases bAv.1 h with h|h
 exact cR _ _ b h;exact cR _ _ b h
theorem Aw(l:L aV)(h:∀r∈l,-1<=r.s/\r.s<=511):∀k,k<=l.length->(sM l k).1.length<=5*k/\(0<=(sM l k).2/\(sM l k).2<=511)/\aK (sM l k).1:=by
 intro k
 induction k with
 |zero=>intro _;exact⟨by simp[sM],by simp[sM],by intro b a;cases a⟩
 |succ k c=>
  intro f;obtain⟨d,e,h3⟩:=c (by omega);have h4:=h _ (aZk (show k<l.length by omega));rw[E4 l k (by omega)];refine⟨?_,?_,?_⟩;simp only[est,aZb];have:=S9 (sM l k).2 l[k];omega;simp only[est];split<;>omega;intro b a;rcases bAv.1 a with a|a
  exact h3 b a;exact aCT _ _ b a
theorem aXF(a b:Int)(c:a=1\/a=2)(d:b=1\/b=2):W9 .i64 (a*16) b=16*a+b:=by
 rcases c with rfl|rfl<;>rcases d with rfl|rfl<;>decide
theorem or0(b:Int)(a:b=1\/b=2):W9 .i64 0 b=b:=by
 rcases a with rfl|rfl<;>decide
theorem Hq{l:L aV}(h:(mS l).2=0):∀r∈l,(-1<=r.s/\r.s<=511)/\1<=r.n/\r.n<=4096:=by
 intro r b;rcases lG (Jo h r b) with a|⟨s,n,a⟩<;>omega
theorem aGD(l:L aV):EV G (Tb B) 214 [cP l] []=some (.tup [.one (.dc (.raw (.string (dB (Cb l).1)))),.one (.dc (ci (Cb l).2))],[]):=by
 refine aB rfl ?_;unfold Cb;by_cases c:Di [l]=0;have t:(mS l).2=0:=by rw[Mz] at c;exact c
 have h:=Hq t;have u:=nZ t;simp (disch:=omega) only[go_sem,h214c,Hn,c,aZa];rw[aR (fun k=>⟨(jk 5 (.one (.bld 0 (sM l k).1.length)::vi (sM l k).2::jk 10 (cP l::vi l.length::vi k::jk 46 []))),[.arr 0 1 (bl (sM l k).1)]⟩) l.length ?_ ?_]
 have f:=Aw l (fun r b=>(h r b).1) l.length (aZe _)
 rw[Dq] at f ⊢;have z:List.take ((jE l).1.length+1) (((jE l).1++[0]).map Av)=((jE l).1++[0]).map Av:=aZM (by simp);simp (disch:=omega) only[go_sem,h214l0,aZa,aZb,Dp,z];rfl;intro k f;obtain⟨m,p,q⟩:=Aw l (fun r b=>(h r b).1) k (by omega)
 have h4:=h _ (aZk f);rw[E4 l k f];generalize sM l k=s at m p q ⊢;obtain⟨o,a⟩:=s;simp only at m p q;simp only[est,nF];have y:=tF l[k].n;have v:=rJ (G:=G) (B:=B) l[k].n (by omega);by_cases j:l[k].s=-1;have d:=Jw (G:=G) (B:=B) l[k].n (sz l[k].n).toNat (by omega);rw[show (((sz l[k].n).toNat:Nat):Int)=sz l[k].n by omega] at d;have i:=or0 (sz l[k].n) y;have t1 (x:Int):List.take (o.length+1) ((o++[x]).map Av)=(o++[x]).map Av:=aZM (by simp);have g:o.length+1+(sz l[k].n).toNat=o.length+((sz l[k].n).toNat+1):=by omega
 simp (disch:=omega) only[go_sem,h214l0,aZa,aV.e,jX,j,v,d,Int.reduceToNat,Int.reducePow,Int.reduceMul,i,aP3,Dp,aGC,aA,aZb,t1,g,aZr];have C:=tF (l[k].s-a);have d:=Jw (G:=G) (B:=B) l[k].n (sz l[k].n).toNat (by omega);rw[show (((sz l[k].n).toNat:Nat):Int)=sz l[k].n by omega] at d;have A:=rJ (G:=G) (B:=B) (l[k].s-a) (by omega);have w:=Jw (G:=G) (B:=B) (l[k].s-a) (sz (l[k].s-a)).toNat (by omega);rw[show (((sz (l[k].s-a)).toNat:Nat):Int)=sz (l[k].s-a) by omega] at w;have i:=aXF (sz (l[k].s-a)) (sz l[k].n) C y;have t1 (x:Int):List.take (o.length+1) ((o++[x]).map Av)=(o++[x]).map Av:=aZM (by simp);have t2 (x:Int):List.take (o.length+1+(sz l[k].n).toNat) ((o++x::bI l[k].n (sz l[k].n).toNat).map Av)=(o++x::bI l[k].n (sz l[k].n).toNat).map Av:=aZM (by simp[aA];omega);have g:o.length+1+(sz l[k].n).toNat+(sz (l[k].s-a)).toNat=o.length+((sz l[k].n).toNat+(sz (l[k].s-a)).toNat+1):=by omega
 simp (disch:=omega) only[go_sem,h214l0,aZa,aV.e,jX,j,v,d,A,w,Int.reduceToNat,Int.reducePow,Int.reduceMul,i,aP3,Dp,aGC,aA,aZb,t1,t2,g,aZr];simp (disch:=omega) only[go_sem,h214c,Hn,c,aG]
theorem oD(a b:Int)(h:0<=a):a.tmod b=a % b:=bAN h
theorem mX(a b:Int)(h:0<=a):a.tdiv b=a / b:=bAP h
theorem aP4(n:Int)(h:0<=n)(k:Nat):0<=F9 n k:=by
 induction k with
 |zero=>exact h
 |succ k a=>simp only[F9];omega
theorem nG(n:Int)(k:Nat)(b:0<=n/\n<=9223372036854775807)(e:k<=1000):EV G (Tb B) 96 [vi n,vi k] []=some (sv (bI n k),[]):=by
 refine aB rfl ?_;simp (disch:=omega) only[go_sem,h96c];rw[aR (fun j=>⟨(vi (F9 n j)::vi k::jk 3 (.one (.bld 0 j)::vi j::jk 15 [])),[.arr 0 1 (bl (bI n j))]⟩) k ?_ ?_]
 have a:=aA n k;simp (disch:=omega) only[go_sem,h96l0,aZa,aA,<- aZZ,Jv];rfl;intro j d;have a:=aA n j;have c:=aP4 n b.1 j;have h3:=Xd n (by omega) j;simp (disch:=omega) only[go_sem,h96l0,aZa,aA,oD,mX,aP3,<- aZZ,Jv,Dp,F9,bI]
theorem aUR(n m:Int)(c:0<m):n % m=if n.tmod m<0 then n.tmod m+m else n.tmod m:=by
 have d:=Int.emod_nonneg n (show m≠0 by omega);have e:=Int.emod_lt_of_pos n c;have h3:=Int.tmod_eq_emod (a:=n) (b:=m);split at h3;rw[if_neg (by omega)];omega;rw[if_pos (by omega)];omega
theorem M4(n m:Int)(a:0<m/\m<=4611686018427387904):EV G (Tb B) 139 [vi n,vi m] []=some (vi (n % m),[]):=by
 refine aB rfl ?_;have b:=Int.emod_nonneg n (show m≠0 by omega);have d:=Int.emod_lt_of_pos n a.1;have h3:=aUR n m a.1;by_cases c:n.tmod m<0;rw[if_pos c] at h3;simp (disch:=omega) only[go_sem,h139c,h3];rw[if_neg c] at h3;simp (disch:=omega) only[go_sem,h139c,h3]
theorem oV(n:Int)(h:-32768<=n/\n<=32767):EV G (Tb B) 193 [vi n] []=some (sv (bI n (sz n).toNat),[]):=by
 refine aB rfl ?_;by_cases c:-128<=n/\n<=127;have a:=nG (G:=G) (B:=B) (n % 256) 1 (by omega) (by omega);have b:bI (n % 256) 1=bI n 1:=by simp[bI,F9]
 rw[show sz n=1 by simp[sz,c],show (1:Int).toNat=1 from rfl]
 rw[b,Int.natCast_one] at a;simp (disch:=omega) only[go_sem,h193c,bN,M4,a];have a:=nG (G:=G) (B:=B) (n % 65536) 2 (by omega) (by omega);have d:n % 65536 % 256=n % 256:=by omega
 have e:n % 65536 / 256 % 256=n / 256 % 256:=by omega
 have b:bI (n % 65536) 2=bI n 2:=by simp only[bI,F9,d,e]
 rw[show sz n=2 by simp[sz,c],show (2:Int).toNat=2 from rfl]
 rw[b,show ((2:Nat):Int)=2 from rfl] at a
 simp (disch:=omega) only[go_sem,h193c,bN,M4,a]
theorem Ta(k:Nat):gB (List.replicate k [DC.raw (.int .u8 0)])=some (List.replicate k (u8 0)):=by
 have:=Ca (List.replicate k 0);simpa[Av] using this
theorem aUS(k:Nat):(⟨(List.replicate k (u8 0)).toArray⟩:ByteArray)=dB (List.replicate k 0):=by simp[dB]
theorem Hr(n:Int)(h:0<=n/\n<=200000):EV G (Tb B) 95 [vi n] []=some (sv (List.replicate n.toNat 0),[]):=by
 refine aB rfl ?_;have e:(if n > 0 then n else 0)=n:=by split<;>omega
 simp (disch:=omega) only[go_sem,h95c,Ta,aUS,e,aZh,List.take_replicate,Nat.min_self]
theorem aP5{a b:L Int}(h:a.length+b.length<=9223372036854775807):fM .add (sv a) (sv b)=some (sv (a++b)):=by
 rw[De (by rw[aC,aC];exact h),Ho]
attribute [go_sem 2000] aP5
theorem M5(l:L aV)(m:(mS l).2=0):EV G (Tb B) 137 [cP l] []=some (sv ((jE l).1++[0]),[]):=by
 refine aB rfl ?_;have f:=Hq m;have p:=nZ m;simp (disch:=omega) only[go_sem,h137c,aG];rw[aR (fun k=>⟨(cP l::jk 2 (sv (sM l k).1::vi (sM l k).2::vi k::jk 56 [])),[]⟩) l.length ?_ ?_]
 have d:=Aw l (fun r b=>(f r b).1) l.length (aZe _)
 rw[Dq] at d ⊢;simp (disch:=first|omega|(simp only[aZb,aZc,aZd,aZa,aA];omega)) only[go_sem,h137l0,aZa,Hr,Int.reduceToNat,List.replicate_succ,List.replicate_zero]
 rfl;intro k d;obtain⟨h,i,j⟩:=Aw l (fun r b=>(f r b).1) k (by omega)
 have h4:=f _ (aZk d);rw[E4 l k d];generalize sM l k=s at h i j ⊢;obtain⟨o,a⟩:=s;simp only at h i j;simp only[est,nF];have w:=tF l[k].n;have t:=oV (G:=G) (B:=B) l[k].n (by omega);have q:(((sz l[k].n).toNat:Nat):Int)=sz l[k].n:=by omega
 by_cases g:l[k].s=-1;have c:=nG (G:=G) (B:=B) (sz l[k].n) 1 (by omega) (by omega);rw[show bI (sz l[k].n) 1=[sz l[k].n] by simp[bI,F9];omega,Int.natCast_one] at c;simp (disch:=first|omega|(simp only[aZb,aZc,aZd,aZa,aA];omega)) only[go_sem,h137l0,aZa,aZt,aV.e,g,t,c,aA,q,aZr]
 have x:=tF (l[k].s-a);have v:=oV (G:=G) (B:=B) (l[k].s-a) (by omega);have c:=nG (G:=G) (B:=B) (sz l[k].n+16*sz (l[k].s-a)) 1 (by omega) (by omega);have u:(((sz (l[k].s-a)).toNat:Nat):Int)=sz (l[k].s-a):=by omega
 rw[show bI (sz l[k].n+16*sz (l[k].s-a)) 1=[16*sz (l[k].s-a)+sz l[k].n] by simp[bI,F9];omega,Int.natCast_one] at c;simp (disch:=first|omega|(simp only[aZb,aZc,aZd,aZa,aA];omega)) only[go_sem,h137l0,aZa,aZt,aV.e,g,t,c,v,aA,q,u,aZr]
end
section
variable {G:aF}{B:aO}
theorem Xe(a b:L aV)(m:a.length<=1000000):EV G (Tb B) 32 [cP a,cP b] []=some (vb (decide (a=b)),[]):=by
 refine aB rfl ?_;by_cases h:(a.length:Int)=b.length
 ·simp (disch:=omega) only[go_sem,h32c,aZa,h];have h:a.length=b.length:=by omega
  rw[dN (fun k=>⟨(cP a::cP b::jk 3 (vi k::jk 20 [])),[]⟩) (fun k=>a.getD k ⟨0,0⟩≠b.getD k ⟨0,0⟩) a.length ?_ ?_]
  rotate_left
  rfl;intro k j f;have c:=f k (aZe _);rw[jR a k j,jR b k (by omega),Classical.not_not,aGq] at c;simp (disch:=omega) only[go_sem,h32l0,aZa,aV.e];obtain⟨j,hp,f⟩:=bE (fun k=>a.getD k ⟨0,0⟩≠b.getD k ⟨0,0⟩) a.length
  generalize ix (fun k=>a.getD k ⟨0,0⟩≠b.getD k ⟨0,0⟩) a.length=k at *
  rcases hp with hp|⟨d,hp⟩
  have g:a=b:=List.ext_getElem h (fun i c l=>by
   have:=f i (by omega);rwa[jR a i c,jR b i l,Classical.not_not] at this)
  simp (disch:=omega) only[go_sem,h32l0,aZa];simp[g];rw[jR a k d,jR b k (by omega)] at hp;have g:¬ a=b:=fun e=>by subst e;exact hp rfl
  rw[ne_eq,aGq] at hp;simp (disch:=omega) only[go_sem,h32l0,aZa,aV.e];simp[g]
 simp (disch:=omega) only[go_sem,h32c,aZa];have:¬ a=b:=fun e=>h (by rw[e])
 simp[this]
theorem aAw(l:L Int)(c:Int)(i:l.length<=1000000):EV G (Tb B) 72 [vl (el l),vi c] []=some (vb (decide (c∈l)),[]):=by
 refine aB rfl ?_;simp (disch:=omega) only[go_sem,h72c,aZa];rw[dN (fun k=>⟨(vl (el l)::vi c::jk 3 (vi k::jk 12 [])),[]⟩) (fun k=>l.getD k 0=c) l.length ?_ ?_]
 rotate_left
 rfl;intro k f b;have g:=b k (aZe _);rw[cD l k f] at g;simp (disch:=omega) only[go_sem,h72l0,aZa,tD];obtain⟨f,hp,b⟩:=bE (fun k=>l.getD k 0=c) l.length
 generalize ix (fun k=>l.getD k 0=c) l.length=k at *
 rcases hp with rfl|⟨a,hp⟩
 have d:¬ c∈l:=fun h=>by
  obtain⟨j,e,rfl⟩:=List.mem_iff_getElem.1 h;exact b j e (cD l j e)
 simp (disch:=omega) only[go_sem,h72l0,aZa];simp[d];rw[cD l k a] at hp;have d:c∈l:=by rw[<- hp];exact aZk a
 simp (disch:=omega) only[go_sem,h72l0,aZa,tD];simp[d]
