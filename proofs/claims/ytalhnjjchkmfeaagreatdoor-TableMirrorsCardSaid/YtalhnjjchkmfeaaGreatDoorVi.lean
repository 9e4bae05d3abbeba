/- Part. Conditions: none. -/
import Derived.Test.YtalhnjjchkmfeaaGreatDoorVf
namespace Go.Proofs.YtalhnjjchkmfeaaGreatDoor
set_option maxHeartbeats 1000000
set_option linter.unusedSimpArgs false
set_option linter.unusedVariables false
set_option maxRecDepth 4000
section
variable {G:aF}{B:aO}
end
section
variable {G:aF}{B:aO}
theorem bM(n a b:Int):EV G (Tb B) 6 [vi n,vi a,vi b] []=some (vb (decide (a<=n/\n<=b)),[]):=by
 refine aB rfl ?_;by_cases h:a<=n;all_goals simp (disch:=omega) only[go_sem,h6c]
 all_goals simp[h]
theorem A3(s n:Int):EV G (Tb B) 267 [rn s n] []=some (vb (decide (bP s n=0)),[]):=by
 refine aB rfl ?_;by_cases b:s=-1
 ·by_cases a:1<=n/\n<=4096;all_goals simp (disch:=omega) only[go_sem,h267c,bM,bP]
  all_goals simp[a]
 by_cases a:0<=s/\s<=511
 ·by_cases h3:1<=n/\n<=512-s;all_goals simp (disch:=omega) only[go_sem,h267c,bM,bP]
  all_goals simp[h3]
 simp (disch:=omega) only[go_sem,h267c,bM,bP];simp
theorem P1(q r:aX)(h:-9223372036854775808<=q.s+q.n/\q.s+q.n<=9223372036854775807):EV G (Tb B) 268 [q.v,r.v] []=some (vb (iZ q r),[]):=by
 refine aB rfl ?_;unfold iZ;by_cases a:q.s=-1;all_goals by_cases b:r.s=-1
 all_goals simp (disch:=omega) only[go_sem,h268c]
 all_goals simp[a,b,eq_comm]
theorem Tn(q r:aX)(h:-9223372036854775808<=q.s+q.n/\q.s+q.n<=9223372036854775807)(c:-9223372036854775808<=r.s+r.n/\r.s+r.n<=9223372036854775807):EV G (Tb B) 287 [q.v,r.v] []=some (vb (gH q r),[]):=by
 refine aB rfl ?_;unfold gH;by_cases a:q.s=-1;simp (disch:=omega) only[go_sem,h287c];simp[a];by_cases b:r.s=-1;simp (disch:=omega) only[go_sem,h287c];simp[a,b]
 ·by_cases h3:q.s<r.s+r.n;all_goals simp (disch:=omega) only[go_sem,h287c]
  all_goals simp[a,b,h3,(by simpa using a:(q.s != -1)=true),(by simpa using b:(r.s != -1)=true)]
theorem rM(l:L aX)(b:l.length<=1000000):EV G (Tb B) 61 [cW l] []=some (vi (gP l),[]):=by
 refine aB rfl ?_;simp (disch:=omega) only[go_sem,h61c,aZz];rw[aT (fun k=>⟨(cW l::jk 2 (vi (gP (l.take k))::vi k::jk 14 [])),[]⟩) l.length ?_ ?_]
 simp (disch:=omega) only[go_sem,h61l0,aZz,bAi];rfl;intro k a;rw[Fd l k a];simp (disch:=omega) only[go_sem,h61l0,aZz,aX.e]
theorem Nh(l:L aX)(i:Nat)(m:i<l.length)(u:l.length<=100000)(b:∀(j:Nat) q,j<=i->l[j]?=some q->-9223372036854775808<=q.s+q.n/\q.s+q.n<=9223372036854775807):EV G (Tb B) 269 [cW l,vi i] []=some (vb ((l.take i).any fun q=>gH q l[i]),[]):=by
 refine aB rfl ?_;simp (disch:=omega) only[go_sem,h269c,aZz];have h:=b i l[i] (aZE _) (aZJ m);rw[dQ (fun k=>⟨(cW l::vi i::jk 3 (vi k::jk 14 [])),[]⟩) (fun k=>gH (l.getD k ⟨0,0⟩) l[i]=true) i ?_ ?_]
 rotate_left
 rfl;intro k p f;have a:=f k (aZE _);rw[jT l k (by omega)] at a;have a:gH l[k] l[i]=false:=by simpa using a
 have c:=b k l[k] (by omega) (aZJ _);simp (disch:=omega) only[go_sem,h269l0,aZz,aX.e,Tn,a];obtain⟨p,hp,f⟩:=bF (fun k=>gH (l.getD k ⟨0,0⟩) l[i]=true) i
 generalize ix (fun k=>gH (l.getD k ⟨0,0⟩) l[i]=true) i=k at *
 rcases hp with rfl|⟨r,hp⟩
 have g:((l.take k).any fun q=>gH q l[k])=false:=by
  rw[bAR];intro q t;obtain⟨j,o,rfl⟩:=List.mem_iff_getElem.1 t;have d:j < k:=by simp at o;omega
  have:=f j d;rw[jT l j (by omega)] at this;simpa using this
 simp (disch:=omega) only[go_sem,h269l0,aZz,g]
 rw[jT l k (by omega)] at hp;have g:((l.take i).any fun q=>gH q l[i])=true:=by
  rw[List.any_eq_true];exact⟨l[k],List.mem_iff_getElem.2 ⟨k,by simp;omega,by simp⟩,hp⟩
 have c:=b k l[k] (by omega) (aZJ _);simp (disch:=omega) only[go_sem,h269l0,aZz,aX.e,Tn,hp,g]
theorem aGP(l:L aX)(k:Nat)(c:k<=l.length)(h:∀j,j<k->¬ pI l j (l.getD j ⟨0,0⟩)≠0):B7 l l 0=B7 l (l.drop k) k:=by
 induction k with
 |zero=>rfl
 |succ k a=>
  have:=h k (Nat.lt_succ_self k);rw[jT l k (by omega)] at this;rw[a (by omega) (fun j b=>h j (by omega)),Ju (by omega),if_neg this]
theorem J0{l:L aX}{k:Nat}(c:k<l.length)(h:¬ pI l k (l.getD k ⟨0,0⟩)≠0):bP l[k].s l[k].n=0/\¬ (0<k/\iZ (l[k-1]'(by omega)) l[k]=true)/\((l.take k).any fun q=>gH q l[k])=false:=by
 rw[jT l k c,Th c] at h;by_cases b:bP l[k].s l[k].n≠0;rw[if_pos b] at h;exact absurd (by decide) h;rw[if_neg b] at h;by_cases a:0<k/\iZ (l[k-1]'(by omega)) l[k]=true;rw[if_pos a] at h;exact absurd (by decide) h;rw[if_neg a] at h;cases h3:(l.take k).any fun q=>gH q l[k]
 exact⟨by omega,a,rfl⟩;rw[h3] at h;exact absurd (by decide) h
theorem aLL(l:L aX):EV G (Tb B) 227 [cW l] []=some (.tup [.one (.dc (ci (aC3 l).1)),.one (.dc (ci (aC3 l).2))],[]):=by
 refine aB rfl ?_;by_cases x:(l.length:Int) > 64;simp only[aC3,if_pos x];simp (disch:=omega) only[go_sem,h227c,aZz]
 ·simp only[aC3,if_neg x];simp (disch:=omega) only[go_sem,h227c,aZz];rw[dQ (fun k=>⟨(cW l::jk 3 (vi k::jk 38 [])),[]⟩) (fun k=>pI l k (l.getD k ⟨0,0⟩)≠0) l.length ?_ ?_]
  rotate_left
  rfl
  intro k v t;obtain⟨f,o,h3⟩:=J0 v (t k (aZE _));have a:∀ (j:Nat) q,j<=k->l[j]?=some q->-9223372036854775808<=q.s+q.n/\q.s+q.n<=9223372036854775807:=fun j q g d=>by
   have c:j < l.length:=by omega
   have:=Nf (J0 c (t j g)).1;rw[aZJ c] at d;injection d with d;rwa[d] at this
  have i:=Nh (G:=G) (B:=B) l k v (by omega) a;rw[h3] at i;by_cases w:0<k;have g:iZ (l[k-1]'(by omega)) l[k]=false:=by simpa[w] using o
  have p:=a (k-1) (l[k-1]'(by omega)) (by omega) (aZJ _);simp (disch:=omega) only[go_sem,h227l0,aZz,aX.e,A3,f,P1,g,i];simp (disch:=omega) only[go_sem,h227l0,aZz,aX.e,A3,f,i];obtain⟨v,hp,t⟩:=bF (fun k=>pI l k (l.getD k ⟨0,0⟩)≠0) l.length
  generalize ix (fun k=>pI l k (l.getD k ⟨0,0⟩)≠0) l.length=k at *
  have u:∀ (j:Nat) r,j < k->l[j]?=some r->bP r.s r.n=0:=fun j r g m=>by
   have c:j < l.length:=by omega
   have:=(J0 c (t j g)).1;rw[aZJ c] at m;injection m with m;rwa[m] at this
  rw[aGP l k v t];rcases hp with rfl|⟨b,hp⟩
  ·have m:=aGG u;have A:gP l=cE l:=Du l (fun r z=>by have:=aGH (m r z);omega) (by
    have:=(aU4 (l:=l) (k:=l.length) (by omega) m).2;rw[Ti] at this;omega)
   rw[List.drop_length,B7];by_cases h4:cE l > 4096;all_goals simp (disch:=omega) only[go_sem,h227l0,aZz,rM,A]
  rw[jT l k b] at hp;rw[Ju b,if_pos hp];rw[Th b] at hp ⊢;by_cases f:bP l[k].s l[k].n=0
  have a:∀ (j:Nat) q,j<=k->l[j]?=some q->-9223372036854775808<=q.s+q.n/\q.s+q.n<=9223372036854775807:=fun j q g d=>by
   by_cases y:j=k
   ·subst y;rw[aZJ b] at d;injection d with d;rw[<- d];exact Nf f
   ·exact Nf (u j q (by omega) d)
  have i:=Nh (G:=G) (B:=B) l k b (by omega) a;by_cases o:0<k/\iZ (l[k-1]'(by omega)) l[k]=true;have p:=a (k-1) (l[k-1]'(by omega)) (by omega) (aZJ _);simp (disch:=omega) only[go_sem,h227l0,aZz,aX.e,A3,f,P1,o]
  have h3:((l.take k).any fun q=>gH q l[k])=true:=by
   simp only[f,ne_eq,not_true_eq_false,if_false,if_neg o] at hp;cases h:(l.take k).any fun q=>gH q l[k]
   ·rw[h] at hp;simp at hp
   ·rfl
  rw[h3] at i;by_cases w:0<k;have g:iZ (l[k-1]'(by omega)) l[k]=false:=by simpa[w] using o
  have p:=a (k-1) (l[k-1]'(by omega)) (by omega) (aZJ _);simp (disch:=omega) only[go_sem,h227l0,aZz,aX.e,A3,f,P1,g,i,h3];simp (disch:=omega) only[go_sem,h227l0,aZz,aX.e,A3,f,i,h3];simp (disch:=omega) only[go_sem,h227l0,aZz,aX.e,A3]
theorem aGQ(l:L aX):EV G (Tb B) 179 [cW l] []=some (vi (mU l).2,[]):=by
 refine aB rfl ?_;simp (disch:=omega) only[go_sem,h179c,aLL,aQn]
end
section
variable {G:aF}{B:aO}
def A4(n:Int):L DC:=[.raw (.int .u8 n)]
def u8(n:Int):UInt8:=UInt8.ofNat n.toNat
def dI(l:L Int):ByteArray:=⟨(l.map u8).toArray⟩
abbrev sv(l:L Int):AV:=.one (.dc (.raw (.string (dI l))))
abbrev bl(l:L Int):L (L DC):=l.map A4
abbrev vu(n:Int):AV:=.one (.dc (.raw (.int .u8 n)))
def aJ(l:L Int):Prop:=∀b∈l,0<=b/\b<=255
theorem Ci(l:L Int):gF (l.map A4)=some (l.map u8):=by
 induction l with
 |nil=>rfl
 |cons b l a=>simp only[aZL,A4,gF,u8] at a ⊢;rw[a];rfl
theorem iB(b:Int)(h:0<=b/\b<=255):((u8 b).toNat:Int)=b:=by
 simp only[u8,UInt8.toNat_ofNat'];omega
theorem aG:(⟨#[]⟩:ByteArray)=dI []:=rfl
theorem aC(l:L Int):(dI l).size=l.length:=by simp[dI,ByteArray.size]
theorem Hx(a b:L Int):dI a++dI b=dI (a++b):=by
 apply ByteArray.ext;simp[dI,ByteArray.data_append]
theorem P2(l:L Int)(a b:Nat):(dI l).extract a b=dI ((l.take b).drop a):=by
 apply ByteArray.ext;simp[dI,ByteArray.data_extract,bAJ]
theorem aLM(s:ByteArray):∃l,aJ l/\s=dI l:=by
 refine⟨s.data.toList.map fun b=>(b.toNat:Int),fun b a=>?_,?_⟩
 obtain⟨x,_,rfl⟩:=List.mem_map.1 a;have:=x.toNat_lt;omega;apply ByteArray.ext;apply Array.ext';simp[dI,u8,Function.comp_def]
theorem cR{a b:L Int}(e:aJ a)(f:aJ b):(dI a=dI b)=(a=b):=by
 apply propext;refine⟨fun h=>?_,fun h=>by rw[h]⟩
 have c:a.map u8=b.map u8:=by
  have:=congrArg (fun s:ByteArray=>s.data.toList) h
  simpa[dI] using this
 have d:a.length=b.length:=by simpa using congrArg List.length c
 refine List.ext_getElem d (fun i p q=>?_)
 have h3:u8 a[i]=u8 b[i]:=by
  have:=congrArg (fun l=>l[i]?) c
  simpa[p,q] using this
 rw[<- iB _ (e _ (aZG p)),<- iB _ (f _ (aZG q)),h3]
theorem aGR(l:L Int)(c:aJ l)(i:Int)(h:0<=i/\i<l.length):Gz (sv l) i=some (vu (l.getD i.toNat 0)):=by
 have a:i.toNat<l.length:=by omega
 have b:(dI l).data.toList[i.toNat]?=some (u8 l[i.toNat]):=by simp[dI,a]
 have h3:l.getD i.toNat 0=l[i.toNat]:=by simp[aZN,a]
 simp only[Gz,dO,if_pos h.1,b,dX,iB _ (c _ (aZG a)),h3]
theorem aGS(hp:L aD)(l:L Int):nZ hp (vl (bl l))=some (sv l):=by
 simp only[nZ,Ci,aZF];rfl
theorem To(l:L Int):(⟨(l.map u8).toArray⟩:ByteArray)=dI l:=rfl
attribute [go_sem 2000] aGS
theorem Tp(l:L Int):(dI l).data.toList=l.map u8:=by simp[dI]
attribute [go_sem] Ci To Option.map_none Tp P2 iB bAP bAi List.getElem?_nil List.getElem_cons_zero List.getElem_cons_succ
attribute [go_sem] aC Hx
def sz(n:Int):Int:=if -128<=n/\n<=127 then 1 else 2
def aLN:Nat->Int
 |0=>1
 |_=>2
theorem aGT:aLN 0=1:=rfl
theorem aGU:aLN 1=2:=rfl
theorem aQr:min 7 64=7:=rfl
theorem aLO:min 15 64=15:=rfl
theorem aQs:min 8 64=8:=rfl
theorem aLP:min 16 64=16:=rfl
theorem aQt:min 4 64=4:=rfl
theorem J1:IntKind.i64.bits=64:=rfl
attribute [go_sem] aQr aLO aQs aLP aQt J1
theorem rN(n:Int)(h:-32768<=n/\n<=32767):EV G (Tb B) 252 [vi n] []=some (vi (sz n),[]):=by
 refine aB rfl ?_;by_cases c:-128<=n/\n<=127
 ·rw[sz,if_pos c];simp (disch:=omega) only[go_sem,h252c];rw[aT (fun k=>⟨(vi n::jk 2 (vi (aLN k)::jk 15 [])),[]⟩) 0 ?_ ?_]
  rotate_left
  rfl;exact fun k b=>absurd b (by omega)
  simp (disch:=omega) only[go_sem,h252l0,jX,aGT,Int.reduceMul,Int.reduceSub,Int.reduceToNat,Int.reducePow,Nat.reducePow,Int.reduceNeg]
 ·rw[sz,if_neg c];simp (disch:=omega) only[go_sem,h252c];rw[aT (fun k=>⟨(vi n::jk 2 (vi (aLN k)::jk 15 [])),[]⟩) 1 ?_ ?_]
  rotate_left
  rfl
  rotate_left
  simp (disch:=omega) only[go_sem,h252l0,jX,aGU,Int.reduceMul,Int.reduceSub,Int.reduceToNat,Int.reducePow,Nat.reducePow,Int.reduceNeg];intro k b;have a:k=0:=by omega
  subst a;simp (disch:=omega) only[go_sem,h252l0,jX,aGT,aGU,Int.reduceMul,Int.reduceSub,Int.reduceToNat,Int.reducePow,Nat.reducePow,Int.reduceNeg,Int.reduceAdd]
def Fe(n:Int):Nat->Int
 |0=>n
 |k+1=>Fe n k / 256
def bJ(n:Int):Nat->L Int
 |0=>[]
 |k+1=>bJ n k++[Fe n k % 256]
theorem aA(n:Int)(k:Nat):(bJ n k).length=k:=by
 induction k with
 |zero=>rfl
 |succ k a=>simp[bJ,a]
theorem J2(n:Int)(k:Nat):(bJ n k).take k=bJ n k:=aZ6 (by rw[aA];omega)
theorem cV(n:Int)(k:Nat):aJ (bJ n k):=by
 induction k with
 |zero=>intro b a;cases a
 |succ k c=>
  intro b a;rcases bAY.1 a with h|h
  exact c b h;have:=List.mem_singleton.1 h;omega
theorem Dy(l:L Int)(b:Int):l.map A4++[[.raw (.int .u8 b)]]=(l++[b]).map A4:=by simp[A4]
theorem aGV(a b:L Int):a.map A4++b.map A4=(a++b).map A4:=bAg.symm
theorem aQu(l:L Int):gG 1 (l.map A4)=true:=jH (f:=A4) (fun _=>rfl) l
theorem wu8(n:Int):IntKind.u8.wrap n=n % 256:=by rw[IntKind.wrap_u8]
theorem aQv(n:Int)(h:0<=n/\n<=255):IntKind.u8.wrap n=n:=by rw[IntKind.wrap_u8];omega
theorem Hy(n:Int):n.fdiv 256=n / 256:=Int.fdiv_eq_ediv_of_nonneg _ (by decide)
attribute [go_sem] aQu
theorem Xy(n:Int)(h:-9223372036854775808<=n/\n<=9223372036854775807)(k:Nat):-9223372036854775808<=Fe n k/\Fe n k<=9223372036854775807:=by
 induction k with
 |zero=>exact h
 |succ k a=>simp only[Fe];omega
theorem J3(n:Int)(k:Nat)(c:k<=1000):EV G (Tb B) 254 [vi n,vi k] []=some (vl (bl (bJ n k)),[]):=by
 refine aB rfl ?_;simp (disch:=omega) only[go_sem,h254c];rw[aT (fun j=>⟨(vi (Fe n j)::jk 4 (.one (.bld 0 j)::vi k::vi j::jk 10 [])),[.arr 0 1 (bl (bJ n j))]⟩) k ?_ ?_]
 have a:=aA n k;simp (disch:=omega) only[go_sem,h254l0,aZz,aA,kF];simp only[aZ6 (show (bJ n k).length<=k by omega),<- bAo];rfl;intro j b;have a:=aA n j;simp (disch:=omega) only[go_sem,h254l0,aZz,aA,wu8,Int.reduceToNat,Int.reducePow,Hy,<- bAo,J2,Dy,Fe,bJ]
def nJ(a:Int)(r:aX):L Int:=
 if r.s=-1 then sz r.n::bJ r.n (sz r.n).toNat else (16*sz (r.s-a)+sz r.n)::(bJ r.n (sz r.n).toNat++bJ (r.s-a) (sz (r.s-a)).toNat)
def est(s:L Int×Int)(r:aX):L Int×Int:=(s.1++nJ s.2 r,if r.s=-1 then s.2 else r.s)
def sS(l:L aX)(k:Nat):L Int×Int:=(l.take k).foldl est ([],0)
def jI(l:L aX):L Int×Int:=l.foldl est ([],0)
def Cj(l:L aX):L Int×Int:=if Dr [l]≠0 then ([],Dr [l]) else ((jI l).1++[0],0)
theorem Ff(l:L aX)(k:Nat)(h:k<l.length):sS l (k+1)=est (sS l k) l[k]:=by
 rw[sS,bAB h,List.foldl_append];rfl
theorem Dz(l:L aX):sS l l.length=jI l:=by rw[sS,bAi];rfl
theorem tL(n:Int):sz n=1\/sz n=2:=by unfold sz;split<;>simp
theorem Tq(a:Int)(r:aX):(nJ a r).length<=5:=by
 have b:=tL r.n;have c:=tL (r.s-a);unfold nJ;split;simp only[aZB,aA];omega;simp only[aZB,aZA,aA];omega
theorem aC9(a:Int)(r:aX):aJ (nJ a r):=by
 have d:=tL r.n;have e:=tL (r.s-a);intro b c;unfold nJ at c;split at c;rcases bAQ.1 c with h|h
 omega;exact cV _ _ b h;rcases bAQ.1 c with h|h
 omega;rcases bAY.1 h with h|h
 exact cV _ _ b h;exact cV _ _ b h
theorem A5(l:L aX)(h:∀r∈l,-1<=r.s/\r.s<=511):∀k,k<=l.length->(sS l k).1.length<=5*k/\(0<=(sS l k).2/\(sS l k).2<=511)/\aJ (sS l k).1:=by
 intro k
 induction k with
 |zero=>intro _;exact⟨by simp[sS],by simp[sS],by intro b a;cases a⟩
 |succ k c=>
  intro f;obtain⟨d,e,h3⟩:=c (by omega);have h4:=h _ (aZG (show k<l.length by omega));rw[Ff l k (by omega)];refine⟨?_,?_,?_⟩;simp only[est,aZA];have:=Tq (sS l k).2 l[k];omega;simp only[est];split<;>omega;intro b a;rcases bAY.1 a with a|a
  exact h3 b a;exact aC9 _ _ b a
theorem aX4(a b:Int)(c:a=1\/a=2)(d:b=1\/b=2):Xu .i64 (a*16) b=16*a+b:=by
 rcases c with rfl|rfl<;>rcases d with rfl|rfl<;>decide
theorem or0(b:Int)(a:b=1\/b=2):Xu .i64 0 b=b:=by
 rcases a with rfl|rfl<;>decide
theorem Hz{l:L aX}(h:(mU l).2=0):∀r∈l,(-1<=r.s/\r.s<=511)/\1<=r.n/\r.n<=4096:=by
 intro r b;rcases lK (Jv h r b) with a|⟨s,n,a⟩<;>omega
theorem aGW(l:L aX):EV G (Tb B) 215 [cW l] []=some (.tup [.one (.dc (.raw (.string (dI (Cj l).1)))),.one (.dc (ci (Cj l).2))],[]):=by
 refine aB rfl ?_;unfold Cj;by_cases c:Dr [l]=0;have t:(mU l).2=0:=by rw[Ng] at c;exact c
 have h:=Hz t;have u:=oH t;simp (disch:=omega) only[go_sem,h215c,Hw,c,aZz];rw[aT (fun k=>⟨(jk 5 (.one (.bld 0 (sS l k).1.length)::vi (sS l k).2::jk 10 (cW l::vi l.length::vi k::jk 46 []))),[.arr 0 1 (bl (sS l k).1)]⟩) l.length ?_ ?_]
 have f:=A5 l (fun r b=>(h r b).1) l.length (aZE _)
 rw[Dz] at f ⊢;have z:List.take ((jI l).1.length+1) (((jI l).1++[0]).map A4)=((jI l).1++[0]).map A4:=aZ6 (by simp);simp (disch:=omega) only[go_sem,h215l0,aZz,aZA,Dy,z];rfl;intro k f;obtain⟨m,p,q⟩:=A5 l (fun r b=>(h r b).1) k (by omega)
 have h4:=h _ (aZG f);rw[Ff l k f];generalize sS l k=s at m p q ⊢;obtain⟨o,a⟩:=s;simp only at m p q;simp only[est,nJ];have y:=tL l[k].n;have v:=rN (G:=G) (B:=B) l[k].n (by omega);by_cases j:l[k].s=-1;have d:=J3 (G:=G) (B:=B) l[k].n (sz l[k].n).toNat (by omega);rw[show (((sz l[k].n).toNat:Nat):Int)=sz l[k].n by omega] at d;have i:=or0 (sz l[k].n) y;have t1 (x:Int):List.take (o.length+1) ((o++[x]).map A4)=(o++[x]).map A4:=aZ6 (by simp);have g:o.length+1+(sz l[k].n).toNat=o.length+((sz l[k].n).toNat+1):=by omega
 simp (disch:=omega) only[go_sem,h215l0,aZz,aX.e,jY,j,v,d,Int.reduceToNat,Int.reducePow,Int.reduceMul,i,aQv,Dy,aGV,aA,aZA,t1,g,aZP];have C:=tL (l[k].s-a);have d:=J3 (G:=G) (B:=B) l[k].n (sz l[k].n).toNat (by omega);rw[show (((sz l[k].n).toNat:Nat):Int)=sz l[k].n by omega] at d;have A:=rN (G:=G) (B:=B) (l[k].s-a) (by omega);have w:=J3 (G:=G) (B:=B) (l[k].s-a) (sz (l[k].s-a)).toNat (by omega);rw[show (((sz (l[k].s-a)).toNat:Nat):Int)=sz (l[k].s-a) by omega] at w;have i:=aX4 (sz (l[k].s-a)) (sz l[k].n) C y;have t1 (x:Int):List.take (o.length+1) ((o++[x]).map A4)=(o++[x]).map A4:=aZ6 (by simp);have t2 (x:Int):List.take (o.length+1+(sz l[k].n).toNat) ((o++x::bJ l[k].n (sz l[k].n).toNat).map A4)=(o++x::bJ l[k].n (sz l[k].n).toNat).map A4:=aZ6 (by simp[aA];omega);have g:o.length+1+(sz l[k].n).toNat+(sz (l[k].s-a)).toNat=o.length+((sz l[k].n).toNat+(sz (l[k].s-a)).toNat+1):=by omega
 simp (disch:=omega) only[go_sem,h215l0,aZz,aX.e,jY,j,v,d,A,w,Int.reduceToNat,Int.reducePow,Int.reduceMul,i,aQv,Dy,aGV,aA,aZA,t1,t2,g,aZP];simp (disch:=omega) only[go_sem,h215c,Hw,c,aG]
theorem oO(a b:Int)(h:0<=a):a.tmod b=a % b:=bBg h
theorem nA(a b:Int)(h:0<=a):a.tdiv b=a / b:=bBk h
theorem aQw(n:Int)(h:0<=n)(k:Nat):0<=Fe n k:=by
 induction k with
 |zero=>exact h
 |succ k a=>simp only[Fe];omega
theorem kR(n:Int)(k:Nat)(b:0<=n/\n<=9223372036854775807)(e:k<=1000):EV G (Tb B) 13 [vi n,vi k] []=some (sv (bJ n k),[]):=by
 refine aB rfl ?_;simp (disch:=omega) only[go_sem,h13c];rw[aT (fun j=>⟨(vi (Fe n j)::vi k::jk 3 (.one (.bld 0 j)::vi j::jk 15 [])),[.arr 0 1 (bl (bJ n j))]⟩) k ?_ ?_]
 have a:=aA n k;simp (disch:=omega) only[go_sem,h13l0,aZz,aA,<- bAo,J2];rfl;intro j d;have a:=aA n j;have c:=aQw n b.1 j;have h3:=Xy n (by omega) j;simp (disch:=omega) only[go_sem,h13l0,aZz,aA,oO,nA,aQv,<- bAo,J2,Dy,Fe,bJ]
theorem aVc(n m:Int)(c:0<m):n % m=if n.tmod m<0 then n.tmod m+m else n.tmod m:=by
 have d:=Int.emod_nonneg n (show m≠0 by omega);have e:=Int.emod_lt_of_pos n c;have h3:=Int.tmod_eq_emod (a:=n) (b:=m);split at h3;rw[if_neg (by omega)];omega;rw[if_pos (by omega)];omega
theorem Gm(n m:Int)(a:0<m/\m<=4611686018427387904):EV G (Tb B) 14 [vi n,vi m] []=some (vi (n % m),[]):=by
 refine aB rfl ?_;have b:=Int.emod_nonneg n (show m≠0 by omega);have d:=Int.emod_lt_of_pos n a.1;have h3:=aVc n m a.1;by_cases c:n.tmod m<0;rw[if_pos c] at h3;simp (disch:=omega) only[go_sem,h14c,h3];rw[if_neg c] at h3;simp (disch:=omega) only[go_sem,h14c,h3]
theorem oY(n:Int)(h:-32768<=n/\n<=32767):EV G (Tb B) 226 [vi n] []=some (sv (bJ n (sz n).toNat),[]):=by
 refine aB rfl ?_;by_cases c:-128<=n/\n<=127;have a:=kR (G:=G) (B:=B) (n % 256) 1 (by omega) (by omega);have b:bJ (n % 256) 1=bJ n 1:=by simp[bJ,Fe]
 rw[show sz n=1 by simp[sz,c],show (1:Int).toNat=1 from rfl]
 rw[b,Int.natCast_one] at a;simp (disch:=omega) only[go_sem,h226c,bM,Gm,a];have a:=kR (G:=G) (B:=B) (n % 65536) 2 (by omega) (by omega);have d:n % 65536 % 256=n % 256:=by omega
 have e:n % 65536 / 256 % 256=n / 256 % 256:=by omega
 have b:bJ (n % 65536) 2=bJ n 2:=by simp only[bJ,Fe,d,e]
 rw[show sz n=2 by simp[sz,c],show (2:Int).toNat=2 from rfl]
 rw[b,show ((2:Nat):Int)=2 from rfl] at a
 simp (disch:=omega) only[go_sem,h226c,bM,Gm,a]
theorem Tr(k:Nat):gF (List.replicate k [DC.raw (.int .u8 0)])=some (List.replicate k (u8 0)):=by
 have:=Ci (List.replicate k 0);simpa[A4] using this
theorem aVd(k:Nat):(⟨(List.replicate k (u8 0)).toArray⟩:ByteArray)=dI (List.replicate k 0):=by simp[dI]
theorem H0(n:Int)(h:0<=n/\n<=200000):EV G (Tb B) 30 [vi n] []=some (sv (List.replicate n.toNat 0),[]):=by
 refine aB rfl ?_;have e:(if n > 0 then n else 0)=n:=by split<;>omega
 simp (disch:=omega) only[go_sem,h30c,Tr,aVd,e,aZH,List.take_replicate,Nat.min_self]
theorem aQx{a b:L Int}(h:a.length+b.length<=9223372036854775807):fX .add (sv a) (sv b)=some (sv (a++b)):=by
 rw[Dn (by rw[aC,aC];exact h),Hx]
attribute [go_sem 2000] aQx
theorem Ni(l:L aX)(m:(mU l).2=0):EV G (Tb B) 180 [cW l] []=some (sv ((jI l).1++[0]),[]):=by
 refine aB rfl ?_;have f:=Hz m;have p:=oH m;simp (disch:=omega) only[go_sem,h180c,aG];rw[aT (fun k=>⟨(cW l::jk 2 (sv (sS l k).1::vi (sS l k).2::vi k::jk 56 [])),[]⟩) l.length ?_ ?_]
 have d:=A5 l (fun r b=>(f r b).1) l.length (aZE _)
 rw[Dz] at d ⊢;simp (disch:=first|omega|(simp only[aZA,aZB,aZC,aZz,aA];omega)) only[go_sem,h180l0,aZz,H0,Int.reduceToNat,List.replicate_succ,List.replicate_zero]
 rfl;intro k d;obtain⟨h,i,j⟩:=A5 l (fun r b=>(f r b).1) k (by omega)
 have h4:=f _ (aZG d);rw[Ff l k d];generalize sS l k=s at h i j ⊢;obtain⟨o,a⟩:=s;simp only at h i j;simp only[est,nJ];have w:=tL l[k].n;have t:=oY (G:=G) (B:=B) l[k].n (by omega);have q:(((sz l[k].n).toNat:Nat):Int)=sz l[k].n:=by omega
 by_cases g:l[k].s=-1;have c:=kR (G:=G) (B:=B) (sz l[k].n) 1 (by omega) (by omega);rw[show bJ (sz l[k].n) 1=[sz l[k].n] by simp[bJ,Fe];omega,Int.natCast_one] at c;simp (disch:=first|omega|(simp only[aZA,aZB,aZC,aZz,aA];omega)) only[go_sem,h180l0,aZz,aZS,aX.e,g,t,c,aA,q,aZP]
 have x:=tL (l[k].s-a);have v:=oY (G:=G) (B:=B) (l[k].s-a) (by omega);have c:=kR (G:=G) (B:=B) (sz l[k].n+16*sz (l[k].s-a)) 1 (by omega) (by omega);have u:(((sz (l[k].s-a)).toNat:Nat):Int)=sz (l[k].s-a):=by omega
 rw[show bJ (sz l[k].n+16*sz (l[k].s-a)) 1=[16*sz (l[k].s-a)+sz l[k].n] by simp[bJ,Fe];omega,Int.natCast_one] at c;simp (disch:=first|omega|(simp only[aZA,aZB,aZC,aZz,aA];omega)) only[go_sem,h180l0,aZz,aZS,aX.e,g,t,c,v,aA,q,u,aZP]
end
section
variable {G:aF}{B:aO}
theorem Xz(a b:L aX)(m:a.length<=1000000):EV G (Tb B) 98 [cW a,cW b] []=some (vb (decide (a=b)),[]):=by
 refine aB rfl ?_;by_cases h:(a.length:Int)=b.length
 ·simp (disch:=omega) only[go_sem,h98c,aZz,h];have h:a.length=b.length:=by omega
  rw[dQ (fun k=>⟨(cW a::cW b::jk 3 (vi k::jk 20 [])),[]⟩) (fun k=>a.getD k ⟨0,0⟩≠b.getD k ⟨0,0⟩) a.length ?_ ?_]
  rotate_left
  rfl;intro k j f;have c:=f k (aZE _);rw[jT a k j,jT b k (by omega),Classical.not_not,aGI] at c;simp (disch:=omega) only[go_sem,h98l0,aZz,aX.e];obtain⟨j,hp,f⟩:=bF (fun k=>a.getD k ⟨0,0⟩≠b.getD k ⟨0,0⟩) a.length
  generalize ix (fun k=>a.getD k ⟨0,0⟩≠b.getD k ⟨0,0⟩) a.length=k at *
  rcases hp with hp|⟨d,hp⟩
  have g:a=b:=List.ext_getElem h (fun i c l=>by
   have:=f i (by omega);rwa[jT a i c,jT b i l,Classical.not_not] at this)
  simp (disch:=omega) only[go_sem,h98l0,aZz];simp[g];rw[jT a k d,jT b k (by omega)] at hp;have g:¬ a=b:=fun e=>by subst e;exact hp rfl
  rw[ne_eq,aGI] at hp;simp (disch:=omega) only[go_sem,h98l0,aZz,aX.e];simp[g]
 simp (disch:=omega) only[go_sem,h98c,aZz];have:¬ a=b:=fun e=>h (by rw[e])
 simp[this]
theorem aAO(l:L Int)(c:Int)(i:l.length<=1000000):EV G (Tb B) 87 [vl (el l),vi c] []=some (vb (decide (c∈l)),[]):=by
 refine aB rfl ?_;simp (disch:=omega) only[go_sem,h87c,aZz];rw[dQ (fun k=>⟨(vl (el l)::vi c::jk 3 (vi k::jk 12 [])),[]⟩) (fun k=>l.getD k 0=c) l.length ?_ ?_]
 rotate_left
 rfl;intro k f b;have g:=b k (aZE _);rw[bU l k f] at g;simp (disch:=omega) only[go_sem,h87l0,aZz,uC];obtain⟨f,hp,b⟩:=bF (fun k=>l.getD k 0=c) l.length
 generalize ix (fun k=>l.getD k 0=c) l.length=k at *
 rcases hp with rfl|⟨a,hp⟩
 have d:¬ c∈l:=fun h=>by
  obtain⟨j,e,rfl⟩:=List.mem_iff_getElem.1 h;exact b j e (bU l j e)
 simp (disch:=omega) only[go_sem,h87l0,aZz];simp[d];rw[bU l k a] at hp;have d:c∈l:=by rw[<- hp];exact aZG a
 simp (disch:=omega) only[go_sem,h87l0,aZz,uC];simp[d]
