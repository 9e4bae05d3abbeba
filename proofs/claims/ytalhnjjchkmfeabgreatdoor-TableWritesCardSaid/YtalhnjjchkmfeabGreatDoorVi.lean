/- Part. Conditions: none. -/
import Derived.Test.YtalhnjjchkmfeabGreatDoorVf
namespace Go.Proofs.YtalhnjjchkmfeabGreatDoor
set_option maxHeartbeats 1000000
set_option linter.unusedSimpArgs false
set_option linter.unusedVariables false
set_option maxRecDepth 4000
section
variable {G:aE}{B:aN}
end
section
variable {G:aE}{B:aN}
theorem bQ(n a b:Int):EV G (Tb B) 63 [vi n,vi a,vi b] []=some (vb (decide (a<=n/\n<=b)),[]):=by
 refine aA rfl ?_;by_cases h:a<=n;all_goals simp (disch:=omega) only[go_sem,h63c]
 all_goals simp[h]
theorem Ay(s n:Int):EV G (Tb B) 255 [rn s n] []=some (vb (decide (bR s n=0)),[]):=by
 refine aA rfl ?_;by_cases b:s=-1
 ·by_cases a:1<=n/\n<=4096;all_goals simp (disch:=omega) only[go_sem,h255c,bQ,bR]
  all_goals simp[a]
 by_cases a:0<=s/\s<=511
 ·by_cases h3:1<=n/\n<=512-s;all_goals simp (disch:=omega) only[go_sem,h255c,bQ,bR]
  all_goals simp[h3]
 simp (disch:=omega) only[go_sem,h255c,bQ,bR];simp
theorem O6(q r:aV)(h:-9223372036854775808<=q.s+q.n/\q.s+q.n<=9223372036854775807):EV G (Tb B) 256 [q.v,r.v] []=some (vb (jF q r),[]):=by
 refine aA rfl ?_;unfold jF;by_cases a:q.s=-1;all_goals by_cases b:r.s=-1
 all_goals simp (disch:=omega) only[go_sem,h256c]
 all_goals simp[a,b,eq_comm]
theorem S5(q r:aV)(h:-9223372036854775808<=q.s+q.n/\q.s+q.n<=9223372036854775807)(c:-9223372036854775808<=r.s+r.n/\r.s+r.n<=9223372036854775807):EV G (Tb B) 285 [q.v,r.v] []=some (vb (gH q r),[]):=by
 refine aA rfl ?_;unfold gH;by_cases a:q.s=-1;simp (disch:=omega) only[go_sem,h285c];simp[a];by_cases b:r.s=-1;simp (disch:=omega) only[go_sem,h285c];simp[a,b]
 ·by_cases h3:q.s<r.s+r.n;all_goals simp (disch:=omega) only[go_sem,h285c]
  all_goals simp[a,b,h3,(by simpa using a:(q.s != -1)=true),(by simpa using b:(r.s != -1)=true)]
theorem rZ(l:L aV)(b:l.length<=1000000):EV G (Tb B) 34 [cV l] []=some (vi (gP l),[]):=by
 refine aA rfl ?_;simp (disch:=omega) only[go_sem,h34c,aY9];rw[aQ (fun k=>⟨(cV l::jk 2 (vi (gP (l.take k))::vi k::jk 14 [])),[]⟩) l.length ?_ ?_]
 simp (disch:=omega) only[go_sem,h34l0,aY9,aZO];rfl;intro k a;rw[E4 l k a];simp (disch:=omega) only[go_sem,h34l0,aY9,aV.e]
theorem Mo(l:L aV)(i:Nat)(m:i<l.length)(u:l.length<=100000)(b:∀(j:Nat) q,j<=i->l[j]?=some q->-9223372036854775808<=q.s+q.n/\q.s+q.n<=9223372036854775807):EV G (Tb B) 257 [cV l,vi i] []=some (vb ((l.take i).any fun q=>gH q l[i]),[]):=by
 refine aA rfl ?_;simp (disch:=omega) only[go_sem,h257c,aY9];have h:=b i l[i] (aZe _) (aZi m);rw[dP (fun k=>⟨(cV l::vi i::jk 3 (vi k::jk 14 [])),[]⟩) (fun k=>gH (l.getD k ⟨0,0⟩) l[i]=true) i ?_ ?_]
 rotate_left
 rfl;intro k p f;have a:=f k (aZe _);rw[kC l k (by omega)] at a;have a:gH l[k] l[i]=false:=by simpa using a
 have c:=b k l[k] (by omega) (aZi _);simp (disch:=omega) only[go_sem,h257l0,aY9,aV.e,S5,a];obtain⟨p,hp,f⟩:=bI (fun k=>gH (l.getD k ⟨0,0⟩) l[i]=true) i
 generalize ix (fun k=>gH (l.getD k ⟨0,0⟩) l[i]=true) i=k at *
 rcases hp with rfl|⟨r,hp⟩
 have g:((l.take k).any fun q=>gH q l[k])=false:=by
  rw[bAm];intro q t;obtain⟨j,o,rfl⟩:=List.mem_iff_getElem.1 t;have d:j < k:=by simp at o;omega
  have:=f j d;rw[kC l j (by omega)] at this;simpa using this
 simp (disch:=omega) only[go_sem,h257l0,aY9,g]
 rw[kC l k (by omega)] at hp;have g:((l.take i).any fun q=>gH q l[i])=true:=by
  rw[List.any_eq_true];exact⟨l[k],List.mem_iff_getElem.2 ⟨k,by simp;omega,by simp⟩,hp⟩
 have c:=b k l[k] (by omega) (aZi _);simp (disch:=omega) only[go_sem,h257l0,aY9,aV.e,S5,hp,g]
theorem aGc(l:L aV)(k:Nat)(c:k<=l.length)(h:∀j,j<k->¬ pU l j (l.getD j ⟨0,0⟩)≠0):Bw l l 0=Bw l (l.drop k) k:=by
 induction k with
 |zero=>rfl
 |succ k a=>
  have:=h k (Nat.lt_succ_self k);rw[kC l k (by omega)] at this;rw[a (by omega) (fun j b=>h j (by omega)),Jb (by omega),if_neg this]
theorem Jh{l:L aV}{k:Nat}(c:k<l.length)(h:¬ pU l k (l.getD k ⟨0,0⟩)≠0):bR l[k].s l[k].n=0/\¬ (0<k/\jF (l[k-1]'(by omega)) l[k]=true)/\((l.take k).any fun q=>gH q l[k])=false:=by
 rw[kC l k c,Sw c] at h;by_cases b:bR l[k].s l[k].n≠0;rw[if_pos b] at h;exact absurd (by decide) h;rw[if_neg b] at h;by_cases a:0<k/\jF (l[k-1]'(by omega)) l[k]=true;rw[if_pos a] at h;exact absurd (by decide) h;rw[if_neg a] at h;cases h3:(l.take k).any fun q=>gH q l[k]
 exact⟨by omega,a,rfl⟩;rw[h3] at h;exact absurd (by decide) h
theorem aLj(l:L aV):EV G (Tb B) 228 [cV l] []=some (.tup [.one (.dc (ci (aCq l).1)),.one (.dc (ci (aCq l).2))],[]):=by
 refine aA rfl ?_;by_cases x:(l.length:Int) > 64;simp only[aCq,if_pos x];simp (disch:=omega) only[go_sem,h228c,aY9]
 ·simp only[aCq,if_neg x];simp (disch:=omega) only[go_sem,h228c,aY9];rw[dP (fun k=>⟨(cV l::jk 3 (vi k::jk 38 [])),[]⟩) (fun k=>pU l k (l.getD k ⟨0,0⟩)≠0) l.length ?_ ?_]
  rotate_left
  rfl
  intro k v t;obtain⟨f,o,h3⟩:=Jh v (t k (aZe _));have a:∀ (j:Nat) q,j<=k->l[j]?=some q->-9223372036854775808<=q.s+q.n/\q.s+q.n<=9223372036854775807:=fun j q g d=>by
   have c:j < l.length:=by omega
   have:=Mm (Jh c (t j g)).1;rw[aZi c] at d;injection d with d;rwa[d] at this
  have i:=Mo (G:=G) (B:=B) l k v (by omega) a;rw[h3] at i;by_cases w:0<k;have g:jF (l[k-1]'(by omega)) l[k]=false:=by simpa[w] using o
  have p:=a (k-1) (l[k-1]'(by omega)) (by omega) (aZi _);simp (disch:=omega) only[go_sem,h228l0,aY9,aV.e,Ay,f,O6,g,i];simp (disch:=omega) only[go_sem,h228l0,aY9,aV.e,Ay,f,i];obtain⟨v,hp,t⟩:=bI (fun k=>pU l k (l.getD k ⟨0,0⟩)≠0) l.length
  generalize ix (fun k=>pU l k (l.getD k ⟨0,0⟩)≠0) l.length=k at *
  have u:∀ (j:Nat) r,j < k->l[j]?=some r->bR r.s r.n=0:=fun j r g m=>by
   have c:j < l.length:=by omega
   have:=(Jh c (t j g)).1;rw[aZi c] at m;injection m with m;rwa[m] at this
  rw[aGc l k v t];rcases hp with rfl|⟨b,hp⟩
  ·have m:=aF3 u;have A:gP l=cF l:=Dn l (fun r z=>by have:=aF4 (m r z);omega) (by
    have:=(aUB (l:=l) (k:=l.length) (by omega) m).2;rw[Sx] at this;omega)
   rw[List.drop_length,Bw];by_cases h4:cF l > 4096;all_goals simp (disch:=omega) only[go_sem,h228l0,aY9,rZ,A]
  rw[kC l k b] at hp;rw[Jb b,if_pos hp];rw[Sw b] at hp ⊢;by_cases f:bR l[k].s l[k].n=0
  have a:∀ (j:Nat) q,j<=k->l[j]?=some q->-9223372036854775808<=q.s+q.n/\q.s+q.n<=9223372036854775807:=fun j q g d=>by
   by_cases y:j=k
   ·subst y;rw[aZi b] at d;injection d with d;rw[<- d];exact Mm f
   ·exact Mm (u j q (by omega) d)
  have i:=Mo (G:=G) (B:=B) l k b (by omega) a;by_cases o:0<k/\jF (l[k-1]'(by omega)) l[k]=true;have p:=a (k-1) (l[k-1]'(by omega)) (by omega) (aZi _);simp (disch:=omega) only[go_sem,h228l0,aY9,aV.e,Ay,f,O6,o]
  have h3:((l.take k).any fun q=>gH q l[k])=true:=by
   simp only[f,ne_eq,not_true_eq_false,if_false,if_neg o] at hp;cases h:(l.take k).any fun q=>gH q l[k]
   ·rw[h] at hp;simp at hp
   ·rfl
  rw[h3] at i;by_cases w:0<k;have g:jF (l[k-1]'(by omega)) l[k]=false:=by simpa[w] using o
  have p:=a (k-1) (l[k-1]'(by omega)) (by omega) (aZi _);simp (disch:=omega) only[go_sem,h228l0,aY9,aV.e,Ay,f,O6,g,i,h3];simp (disch:=omega) only[go_sem,h228l0,aY9,aV.e,Ay,f,i,h3];simp (disch:=omega) only[go_sem,h228l0,aY9,aV.e,Ay]
theorem aGd(l:L aV):EV G (Tb B) 176 [cV l] []=some (vi (nC l).2,[]):=by
 refine aA rfl ?_;simp (disch:=omega) only[go_sem,h176c,aLj,aPV]
end
section
variable {G:aE}{B:aN}
def Az(n:Int):L DC:=[.raw (.int .u8 n)]
def u8(n:Int):UInt8:=UInt8.ofNat n.toNat
def fF(l:L Int):ByteArray:=⟨(l.map u8).toArray⟩
abbrev sv(l:L Int):AV:=.one (.dc (.raw (.string (fF l))))
abbrev bl(l:L Int):L (L DC):=l.map Az
abbrev vu(n:Int):AV:=.one (.dc (.raw (.int .u8 n)))
def aH(l:L Int):Prop:=∀b∈l,0<=b/\b<=255
theorem B9(l:L Int):gF (l.map Az)=some (l.map u8):=by
 induction l with
 |nil=>rfl
 |cons b l a=>simp only[aZl,Az,gF,u8] at a ⊢;rw[a];rfl
theorem iB(b:Int)(h:0<=b/\b<=255):((u8 b).toNat:Int)=b:=by
 simp only[u8,UInt8.toNat_ofNat'];omega
theorem aG:(⟨#[]⟩:ByteArray)=fF []:=rfl
theorem aC(l:L Int):(fF l).size=l.length:=by simp[fF,ByteArray.size]
theorem Hb(a b:L Int):fF a++fF b=fF (a++b):=by
 apply ByteArray.ext;simp[fF,ByteArray.data_append]
theorem O7(l:L Int)(a b:Nat):(fF l).extract a b=fF ((l.take b).drop a):=by
 apply ByteArray.ext;simp[fF,ByteArray.data_extract,bAn]
theorem Z9(s:ByteArray):∃l,aH l/\s=fF l:=by
 refine⟨s.data.toList.map fun b=>(b.toNat:Int),fun b a=>?_,?_⟩
 obtain⟨x,_,rfl⟩:=List.mem_map.1 a;have:=x.toNat_lt;omega;apply ByteArray.ext;apply Array.ext';simp[fF,u8,Function.comp_def]
theorem dA{a b:L Int}(e:aH a)(f:aH b):(fF a=fF b)=(a=b):=by
 apply propext;refine⟨fun h=>?_,fun h=>by rw[h]⟩
 have c:a.map u8=b.map u8:=by
  have:=congrArg (fun s:ByteArray=>s.data.toList) h
  simpa[fF] using this
 have d:a.length=b.length:=by simpa using congrArg List.length c
 refine List.ext_getElem d (fun i p q=>?_)
 have h3:u8 a[i]=u8 b[i]:=by
  have:=congrArg (fun l=>l[i]?) c
  simpa[p,q] using this
 rw[<- iB _ (e _ (aZk p)),<- iB _ (f _ (aZk q)),h3]
theorem aNz(l:L Int)(c:aH l)(i:Int)(h:0<=i/\i<l.length):Hw (sv l) i=some (vu (l.getD i.toNat 0)):=by
 have a:i.toNat<l.length:=by omega
 have b:(fF l).data.toList[i.toNat]?=some (u8 l[i.toNat]):=by simp[fF,a]
 have h3:l.getD i.toNat 0=l[i.toNat]:=by simp[aZo,a]
 simp only[Hw,dN,if_pos h.1,b,dS,iB _ (c _ (aZk a)),h3]
theorem aGe(hp:L aD)(l:L Int):oQ hp (vl (bl l))=some (sv l):=by
 simp only[oQ,B9,aZf];rfl
theorem O8(l:L Int):(⟨(l.map u8).toArray⟩:ByteArray)=fF l:=rfl
attribute [go_sem 2000] aGe
theorem S6(l:L Int):(fF l).data.toList=l.map u8:=by simp[fF]
attribute [go_sem] B9 O8 Option.map_none S6 O7 iB bAt aZO List.getElem?_nil List.getElem_cons_zero List.getElem_cons_succ
attribute [go_sem] aC Hb
def sz(n:Int):Int:=if -128<=n/\n<=127 then 1 else 2
def aLk:Nat->Int
 |0=>1
 |_=>2
theorem aGf:aLk 0=1:=rfl
theorem aGg:aLk 1=2:=rfl
theorem aPZ:min 7 64=7:=rfl
theorem aLl:min 15 64=15:=rfl
theorem aP0:min 8 64=8:=rfl
theorem aLm:min 16 64=16:=rfl
theorem aP1:min 4 64=4:=rfl
theorem Ji:IntKind.i64.bits=64:=rfl
attribute [go_sem] aPZ aLl aP0 aLm aP1 Ji
theorem sC(n:Int)(h:-32768<=n/\n<=32767):EV G (Tb B) 253 [vi n] []=some (vi (sz n),[]):=by
 refine aA rfl ?_;by_cases c:-128<=n/\n<=127
 ·rw[sz,if_pos c];simp (disch:=omega) only[go_sem,h253c];rw[aQ (fun k=>⟨(vi n::jk 2 (vi (aLk k)::jk 15 [])),[]⟩) 0 ?_ ?_]
  rotate_left
  rfl;exact fun k b=>absurd b (by omega)
  simp (disch:=omega) only[go_sem,h253l0,kE,aGf,Int.reduceMul,Int.reduceSub,Int.reduceToNat,Int.reducePow,Nat.reducePow,Int.reduceNeg]
 ·rw[sz,if_neg c];simp (disch:=omega) only[go_sem,h253c];rw[aQ (fun k=>⟨(vi n::jk 2 (vi (aLk k)::jk 15 [])),[]⟩) 1 ?_ ?_]
  rotate_left
  rfl
  rotate_left
  simp (disch:=omega) only[go_sem,h253l0,kE,aGg,Int.reduceMul,Int.reduceSub,Int.reduceToNat,Int.reducePow,Nat.reducePow,Int.reduceNeg];intro k b;have a:k=0:=by omega
  subst a;simp (disch:=omega) only[go_sem,h253l0,kE,aGf,aGg,Int.reduceMul,Int.reduceSub,Int.reduceToNat,Int.reducePow,Nat.reducePow,Int.reduceNeg,Int.reduceAdd]
def F8(n:Int):Nat->Int
 |0=>n
 |k+1=>F8 n k / 256
def bJ(n:Int):Nat->L Int
 |0=>[]
 |k+1=>bJ n k++[F8 n k % 256]
theorem aB(n:Int)(k:Nat):(bJ n k).length=k:=by
 induction k with
 |zero=>rfl
 |succ k a=>simp[bJ,a]
theorem Jj(n:Int)(k:Nat):(bJ n k).take k=bJ n k:=aZI (by rw[aB];omega)
theorem cW(n:Int)(k:Nat):aH (bJ n k):=by
 induction k with
 |zero=>intro b a;cases a
 |succ k c=>
  intro b a;rcases bAB.1 a with h|h
  exact c b h;have:=List.mem_singleton.1 h;omega
theorem Dr(l:L Int)(b:Int):l.map Az++[[.raw (.int .u8 b)]]=(l++[b]).map Az:=by simp[Az]
theorem aGh(a b:L Int):a.map Az++b.map Az=(a++b).map Az:=aZQ.symm
theorem aP2(l:L Int):gG 1 (l.map Az)=true:=jP (f:=Az) (fun _=>rfl) l
theorem wu8(n:Int):IntKind.u8.wrap n=n % 256:=by rw[IntKind.wrap_u8]
theorem aP3(n:Int)(h:0<=n/\n<=255):IntKind.u8.wrap n=n:=by rw[IntKind.wrap_u8];omega
theorem Hc(n:Int):n.fdiv 256=n / 256:=Int.fdiv_eq_ediv_of_nonneg _ (by decide)
attribute [go_sem] aP2
theorem Wv(n:Int)(h:-9223372036854775808<=n/\n<=9223372036854775807)(k:Nat):-9223372036854775808<=F8 n k/\F8 n k<=9223372036854775807:=by
 induction k with
 |zero=>exact h
 |succ k a=>simp only[F8];omega
theorem Jk(n:Int)(k:Nat)(c:k<=1000):EV G (Tb B) 254 [vi n,vi k] []=some (vl (bl (bJ n k)),[]):=by
 refine aA rfl ?_;simp (disch:=omega) only[go_sem,h254c];rw[aQ (fun j=>⟨(vi (F8 n j)::jk 4 (.one (.bld 0 j)::vi k::vi j::jk 10 [])),[.arr 0 1 (bl (bJ n j))]⟩) k ?_ ?_]
 have a:=aB n k;simp (disch:=omega) only[go_sem,h254l0,aY9,aB,jQ];simp only[aZI (show (bJ n k).length<=k by omega),<- aZZ];rfl;intro j b;have a:=aB n j;simp (disch:=omega) only[go_sem,h254l0,aY9,aB,wu8,Int.reduceToNat,Int.reducePow,Hc,<- aZZ,Jj,Dr,F8,bJ]
def nP(a:Int)(r:aV):L Int:=
 if r.s=-1 then sz r.n::bJ r.n (sz r.n).toNat else (16*sz (r.s-a)+sz r.n)::(bJ r.n (sz r.n).toNat++bJ (r.s-a) (sz (r.s-a)).toNat)
def est(s:L Int×Int)(r:aV):L Int×Int:=(s.1++nP s.2 r,if r.s=-1 then s.2 else r.s)
def tG(l:L aV)(k:Nat):L Int×Int:=(l.take k).foldl est ([],0)
def jR(l:L aV):L Int×Int:=l.foldl est ([],0)
def Ca(l:L aV):L Int×Int:=if Dk [l]≠0 then ([],Dk [l]) else ((jR l).1++[0],0)
theorem E5(l:L aV)(k:Nat)(h:k<l.length):tG l (k+1)=est (tG l k) l[k]:=by
 rw[tG,aZ5 h,List.foldl_append];rfl
theorem Ds(l:L aV):tG l l.length=jR l:=by rw[tG,aZO];rfl
theorem tY(n:Int):sz n=1\/sz n=2:=by unfold sz;split<;>simp
theorem S7(a:Int)(r:aV):(nP a r).length<=5:=by
 have b:=tY r.n;have c:=tY (r.s-a);unfold nP;split;simp only[aZb,aB];omega;simp only[aZb,aZa,aB];omega
theorem aCw(a:Int)(r:aV):aH (nP a r):=by
 have d:=tY r.n;have e:=tY (r.s-a);intro b c;unfold nP at c;split at c;rcases bAl.1 c with h|h
 omega;exact cW _ _ b h;rcases bAl.1 c with h|h
 omega;rcases bAB.1 h with h|h
 exact cW _ _ b h;exact cW _ _ b h
theorem A0(l:L aV)(h:∀r∈l,-1<=r.s/\r.s<=511):∀k,k<=l.length->(tG l k).1.length<=5*k/\(0<=(tG l k).2/\(tG l k).2<=511)/\aH (tG l k).1:=by
 intro k
 induction k with
 |zero=>intro _;exact⟨by simp[tG],by simp[tG],by intro b a;cases a⟩
 |succ k c=>
  intro f;obtain⟨d,e,h3⟩:=c (by omega);have h4:=h _ (aZk (show k<l.length by omega));rw[E5 l k (by omega)];refine⟨?_,?_,?_⟩;simp only[est,aZa];have:=S7 (tG l k).2 l[k];omega;simp only[est];split<;>omega;intro b a;rcases bAB.1 a with a|a
  exact h3 b a;exact aCw _ _ b a
theorem aXD(a b:Int)(c:a=1\/a=2)(d:b=1\/b=2):Wr .i64 (a*16) b=16*a+b:=by
 rcases c with rfl|rfl<;>rcases d with rfl|rfl<;>decide
theorem or0(b:Int)(a:b=1\/b=2):Wr .i64 0 b=b:=by
 rcases a with rfl|rfl<;>decide
theorem Hd{l:L aV}(h:(nC l).2=0):∀r∈l,(-1<=r.s/\r.s<=511)/\1<=r.n/\r.n<=4096:=by
 intro r b;rcases lS (Jc h r b) with a|⟨s,n,a⟩<;>omega
theorem aGi(l:L aV):EV G (Tb B) 222 [cV l] []=some (.tup [.one (.dc (.raw (.string (fF (Ca l).1)))),.one (.dc (ci (Ca l).2))],[]):=by
 refine aA rfl ?_;unfold Ca;by_cases c:Dk [l]=0;have t:(nC l).2=0:=by rw[Mn] at c;exact c
 have h:=Hd t;have u:=oW t;simp (disch:=omega) only[go_sem,h222c,Ha,c,aY9];rw[aQ (fun k=>⟨(jk 5 (.one (.bld 0 (tG l k).1.length)::vi (tG l k).2::jk 10 (cV l::vi l.length::vi k::jk 46 []))),[.arr 0 1 (bl (tG l k).1)]⟩) l.length ?_ ?_]
 have f:=A0 l (fun r b=>(h r b).1) l.length (aZe _)
 rw[Ds] at f ⊢;have z:List.take ((jR l).1.length+1) (((jR l).1++[0]).map Az)=((jR l).1++[0]).map Az:=aZI (by simp);simp (disch:=omega) only[go_sem,h222l0,aY9,aZa,Dr,z];rfl;intro k f;obtain⟨m,p,q⟩:=A0 l (fun r b=>(h r b).1) k (by omega)
 have h4:=h _ (aZk f);rw[E5 l k f];generalize tG l k=s at m p q ⊢;obtain⟨o,a⟩:=s;simp only at m p q;simp only[est,nP];have y:=tY l[k].n;have v:=sC (G:=G) (B:=B) l[k].n (by omega);by_cases j:l[k].s=-1;have d:=Jk (G:=G) (B:=B) l[k].n (sz l[k].n).toNat (by omega);rw[show (((sz l[k].n).toNat:Nat):Int)=sz l[k].n by omega] at d;have i:=or0 (sz l[k].n) y;have t1 (x:Int):List.take (o.length+1) ((o++[x]).map Az)=(o++[x]).map Az:=aZI (by simp);have g:o.length+1+(sz l[k].n).toNat=o.length+((sz l[k].n).toNat+1):=by omega
 simp (disch:=omega) only[go_sem,h222l0,aY9,aV.e,kF,j,v,d,Int.reduceToNat,Int.reducePow,Int.reduceMul,i,aP3,Dr,aGh,aB,aZa,t1,g,aZr];have C:=tY (l[k].s-a);have d:=Jk (G:=G) (B:=B) l[k].n (sz l[k].n).toNat (by omega);rw[show (((sz l[k].n).toNat:Nat):Int)=sz l[k].n by omega] at d;have A:=sC (G:=G) (B:=B) (l[k].s-a) (by omega);have w:=Jk (G:=G) (B:=B) (l[k].s-a) (sz (l[k].s-a)).toNat (by omega);rw[show (((sz (l[k].s-a)).toNat:Nat):Int)=sz (l[k].s-a) by omega] at w;have i:=aXD (sz (l[k].s-a)) (sz l[k].n) C y;have t1 (x:Int):List.take (o.length+1) ((o++[x]).map Az)=(o++[x]).map Az:=aZI (by simp);have t2 (x:Int):List.take (o.length+1+(sz l[k].n).toNat) ((o++x::bJ l[k].n (sz l[k].n).toNat).map Az)=(o++x::bJ l[k].n (sz l[k].n).toNat).map Az:=aZI (by simp[aB];omega);have g:o.length+1+(sz l[k].n).toNat+(sz (l[k].s-a)).toNat=o.length+((sz l[k].n).toNat+(sz (l[k].s-a)).toNat+1):=by omega
 simp (disch:=omega) only[go_sem,h222l0,aY9,aV.e,kF,j,v,d,A,w,Int.reduceToNat,Int.reducePow,Int.reduceMul,i,aP3,Dr,aGh,aB,aZa,t1,t2,g,aZr];simp (disch:=omega) only[go_sem,h222c,Ha,c,aG]
theorem oX(a b:Int)(h:0<=a):a.tmod b=a % b:=bAE h
theorem nH(a b:Int)(h:0<=a):a.tdiv b=a / b:=bAL h
theorem aP4(n:Int)(h:0<=n)(k:Nat):0<=F8 n k:=by
 induction k with
 |zero=>exact h
 |succ k a=>simp only[F8];omega
theorem nQ(n:Int)(k:Nat)(b:0<=n/\n<=9223372036854775807)(e:k<=1000):EV G (Tb B) 120 [vi n,vi k] []=some (sv (bJ n k),[]):=by
 refine aA rfl ?_;simp (disch:=omega) only[go_sem,h120c];rw[aQ (fun j=>⟨(vi (F8 n j)::vi k::jk 3 (.one (.bld 0 j)::vi j::jk 15 [])),[.arr 0 1 (bl (bJ n j))]⟩) k ?_ ?_]
 have a:=aB n k;simp (disch:=omega) only[go_sem,h120l0,aY9,aB,<- aZZ,Jj];rfl;intro j d;have a:=aB n j;have c:=aP4 n b.1 j;have h3:=Wv n (by omega) j;simp (disch:=omega) only[go_sem,h120l0,aY9,aB,oX,nH,aP3,<- aZZ,Jj,Dr,F8,bJ]
theorem aUJ(n m:Int)(c:0<m):n % m=if n.tmod m<0 then n.tmod m+m else n.tmod m:=by
 have d:=Int.emod_nonneg n (show m≠0 by omega);have e:=Int.emod_lt_of_pos n c;have h3:=Int.tmod_eq_emod (a:=n) (b:=m);split at h3;rw[if_neg (by omega)];omega;rw[if_pos (by omega)];omega
theorem Mp(n m:Int)(a:0<m/\m<=4611686018427387904):EV G (Tb B) 127 [vi n,vi m] []=some (vi (n % m),[]):=by
 refine aA rfl ?_;have b:=Int.emod_nonneg n (show m≠0 by omega);have d:=Int.emod_lt_of_pos n a.1;have h3:=aUJ n m a.1;by_cases c:n.tmod m<0;rw[if_pos c] at h3;simp (disch:=omega) only[go_sem,h127c,h3];rw[if_neg c] at h3;simp (disch:=omega) only[go_sem,h127c,h3]
theorem pG(n:Int)(h:-32768<=n/\n<=32767):EV G (Tb B) 181 [vi n] []=some (sv (bJ n (sz n).toNat),[]):=by
 refine aA rfl ?_;by_cases c:-128<=n/\n<=127;have a:=nQ (G:=G) (B:=B) (n % 256) 1 (by omega) (by omega);have b:bJ (n % 256) 1=bJ n 1:=by simp[bJ,F8]
 rw[show sz n=1 by simp[sz,c],show (1:Int).toNat=1 from rfl]
 rw[b,Int.natCast_one] at a;simp (disch:=omega) only[go_sem,h181c,bQ,Mp,a];have a:=nQ (G:=G) (B:=B) (n % 65536) 2 (by omega) (by omega);have d:n % 65536 % 256=n % 256:=by omega
 have e:n % 65536 / 256 % 256=n / 256 % 256:=by omega
 have b:bJ (n % 65536) 2=bJ n 2:=by simp only[bJ,F8,d,e]
 rw[show sz n=2 by simp[sz,c],show (2:Int).toNat=2 from rfl]
 rw[b,show ((2:Nat):Int)=2 from rfl] at a
 simp (disch:=omega) only[go_sem,h181c,bQ,Mp,a]
theorem S8(k:Nat):gF (List.replicate k [DC.raw (.int .u8 0)])=some (List.replicate k (u8 0)):=by
 have:=B9 (List.replicate k 0);simpa[Az] using this
theorem aUK(k:Nat):(⟨(List.replicate k (u8 0)).toArray⟩:ByteArray)=fF (List.replicate k 0):=by simp[fF]
theorem He(n:Int)(h:0<=n/\n<=200000):EV G (Tb B) 119 [vi n] []=some (sv (List.replicate n.toNat 0),[]):=by
 refine aA rfl ?_;have e:(if n > 0 then n else 0)=n:=by split<;>omega
 simp (disch:=omega) only[go_sem,h119c,S8,aUK,e,aZg,List.take_replicate,Nat.min_self]
theorem aP5{a b:L Int}(h:a.length+b.length<=9223372036854775807):fX .add (sv a) (sv b)=some (sv (a++b)):=by
 rw[Dh (by rw[aC,aC];exact h),Hb]
attribute [go_sem 2000] aP5
theorem Mq(l:L aV)(m:(nC l).2=0):EV G (Tb B) 125 [cV l] []=some (sv ((jR l).1++[0]),[]):=by
 refine aA rfl ?_;have f:=Hd m;have p:=oW m;simp (disch:=omega) only[go_sem,h125c,aG];rw[aQ (fun k=>⟨(cV l::jk 2 (sv (tG l k).1::vi (tG l k).2::vi k::jk 56 [])),[]⟩) l.length ?_ ?_]
 have d:=A0 l (fun r b=>(f r b).1) l.length (aZe _)
 rw[Ds] at d ⊢;simp (disch:=first|omega|(simp only[aZa,aZb,aZc,aY9,aB];omega)) only[go_sem,h125l0,aY9,He,Int.reduceToNat,List.replicate_succ,List.replicate_zero]
 rfl;intro k d;obtain⟨h,i,j⟩:=A0 l (fun r b=>(f r b).1) k (by omega)
 have h4:=f _ (aZk d);rw[E5 l k d];generalize tG l k=s at h i j ⊢;obtain⟨o,a⟩:=s;simp only at h i j;simp only[est,nP];have w:=tY l[k].n;have t:=pG (G:=G) (B:=B) l[k].n (by omega);have q:(((sz l[k].n).toNat:Nat):Int)=sz l[k].n:=by omega
 by_cases g:l[k].s=-1;have c:=nQ (G:=G) (B:=B) (sz l[k].n) 1 (by omega) (by omega);rw[show bJ (sz l[k].n) 1=[sz l[k].n] by simp[bJ,F8];omega,Int.natCast_one] at c;simp (disch:=first|omega|(simp only[aZa,aZb,aZc,aY9,aB];omega)) only[go_sem,h125l0,aY9,aZu,aV.e,g,t,c,aB,q,aZr]
 have x:=tY (l[k].s-a);have v:=pG (G:=G) (B:=B) (l[k].s-a) (by omega);have c:=nQ (G:=G) (B:=B) (sz l[k].n+16*sz (l[k].s-a)) 1 (by omega) (by omega);have u:(((sz (l[k].s-a)).toNat:Nat):Int)=sz (l[k].s-a):=by omega
 rw[show bJ (sz l[k].n+16*sz (l[k].s-a)) 1=[16*sz (l[k].s-a)+sz l[k].n] by simp[bJ,F8];omega,Int.natCast_one] at c;simp (disch:=first|omega|(simp only[aZa,aZb,aZc,aY9,aB];omega)) only[go_sem,h125l0,aY9,aZu,aV.e,g,t,c,v,aB,q,u,aZr]
end
section
variable {G:aE}{B:aN}
theorem Ww(l:L aV)(a:l.length<=1000000):EV G (Tb B) 33 [cV l] []=some (.one (.bld 0 l.length),[.arr 0 2 (l.map aV.e)]):=by
 refine aA rfl ?_;simp (disch:=omega) only[go_sem,h33c,aY9,bAg]
theorem Wx(a b:L aV)(m:a.length<=1000000):EV G (Tb B) 132 [cV a,cV b] []=some (vb (decide (a=b)),[]):=by
 refine aA rfl ?_;by_cases h:(a.length:Int)=b.length
 ·simp (disch:=omega) only[go_sem,h132c,aY9,h];have h:a.length=b.length:=by omega
  rw[dP (fun k=>⟨(cV a::cV b::jk 3 (vi k::jk 20 [])),[]⟩) (fun k=>a.getD k ⟨0,0⟩≠b.getD k ⟨0,0⟩) a.length ?_ ?_]
  rotate_left
  rfl;intro k j f;have c:=f k (aZe _);rw[kC a k j,kC b k (by omega),Classical.not_not,aF5] at c;simp (disch:=omega) only[go_sem,h132l0,aY9,aV.e];obtain⟨j,hp,f⟩:=bI (fun k=>a.getD k ⟨0,0⟩≠b.getD k ⟨0,0⟩) a.length
  generalize ix (fun k=>a.getD k ⟨0,0⟩≠b.getD k ⟨0,0⟩) a.length=k at *
  rcases hp with hp|⟨d,hp⟩
  have g:a=b:=List.ext_getElem h (fun i c l=>by
   have:=f i (by omega);rwa[kC a i c,kC b i l,Classical.not_not] at this)
  simp (disch:=omega) only[go_sem,h132l0,aY9];simp[g];rw[kC a k d,kC b k (by omega)] at hp;have g:¬ a=b:=fun e=>by subst e;exact hp rfl
  rw[ne_eq,aF5] at hp;simp (disch:=omega) only[go_sem,h132l0,aY9,aV.e];simp[g]
 simp (disch:=omega) only[go_sem,h132c,aY9];have:¬ a=b:=fun e=>h (by rw[e])
 simp[this]
theorem aAa(l:L Int)(c:Int)(i:l.length<=1000000):EV G (Tb B) 76 [vl (el l),vi c] []=some (vb (decide (c∈l)),[]):=by
 refine aA rfl ?_;simp (disch:=omega) only[go_sem,h76c,aY9];rw[dP (fun k=>⟨(vl (el l)::vi c::jk 3 (vi k::jk 12 [])),[]⟩) (fun k=>l.getD k 0=c) l.length ?_ ?_]
 rotate_left
 rfl;intro k f b;have g:=b k (aZe _);rw[bW l k f] at g;simp (disch:=omega) only[go_sem,h76l0,aY9,tX];obtain⟨f,hp,b⟩:=bI (fun k=>l.getD k 0=c) l.length
 generalize ix (fun k=>l.getD k 0=c) l.length=k at *
 rcases hp with rfl|⟨a,hp⟩
 have d:¬ c∈l:=fun h=>by
  obtain⟨j,e,rfl⟩:=List.mem_iff_getElem.1 h;exact b j e (bW l j e)
 simp (disch:=omega) only[go_sem,h76l0,aY9];simp[d];rw[bW l k a] at hp;have d:c∈l:=by rw[<- hp];exact aZk a
 simp (disch:=omega) only[go_sem,h76l0,aY9,tX];simp[d]
