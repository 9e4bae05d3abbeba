/- Part. Conditions: none. -/
import Derived.Test.YtgdjbbnicgfohabGreatDoorVf
namespace Go.Proofs.YtgdjbbnicgfohabGreatDoor
set_option maxHeartbeats 1000000
set_option linter.unusedSimpArgs false
set_option linter.unusedVariables false
set_option maxRecDepth 4000
section
variable {G:aF}{B:aO}
end
section
variable {G:aF}{B:aO}
theorem bN(n a b:Int):EV G (Tb B) 49 [vi n,vi a,vi b] []=some (vb (decide (a<=n/\n<=b)),[]):=by
 refine aB rfl ?_;by_cases h:a<=n;all_goals simp (disch:=omega) only[go_sem,h49c]
 all_goals simp[h]
theorem Av(s n:Int):EV G (Tb B) 268 [rn s n] []=some (vb (decide (bO s n=0)),[]):=by
 refine aB rfl ?_;by_cases b:s=-1
 ·by_cases a:1<=n/\n<=4096;all_goals simp (disch:=omega) only[go_sem,h268c,bN,bO]
  all_goals simp[a]
 by_cases a:0<=s/\s<=511
 ·by_cases h3:1<=n/\n<=512-s;all_goals simp (disch:=omega) only[go_sem,h268c,bN,bO]
  all_goals simp[h3]
 simp (disch:=omega) only[go_sem,h268c,bN,bO];simp
theorem Py(q r:aW)(h:-9223372036854775808<=q.s+q.n/\q.s+q.n<=9223372036854775807):EV G (Tb B) 269 [q.v,r.v] []=some (vb (iY q r),[]):=by
 refine aB rfl ?_;unfold iY;by_cases a:q.s=-1;all_goals by_cases b:r.s=-1
 all_goals simp (disch:=omega) only[go_sem,h269c]
 all_goals simp[a,b,eq_comm]
theorem To(q r:aW)(h:-9223372036854775808<=q.s+q.n/\q.s+q.n<=9223372036854775807)(c:-9223372036854775808<=r.s+r.n/\r.s+r.n<=9223372036854775807):EV G (Tb B) 288 [q.v,r.v] []=some (vb (gH q r),[]):=by
 refine aB rfl ?_;unfold gH;by_cases a:q.s=-1;simp (disch:=omega) only[go_sem,h288c];simp[a];by_cases b:r.s=-1;simp (disch:=omega) only[go_sem,h288c];simp[a,b]
 ·by_cases h3:q.s<r.s+r.n;all_goals simp (disch:=omega) only[go_sem,h288c]
  all_goals simp[a,b,h3,(by simpa using a:(q.s != -1)=true),(by simpa using b:(r.s != -1)=true)]
theorem rM(l:L aW)(b:l.length<=1000000):EV G (Tb B) 56 [cQ l] []=some (vi (gQ l),[]):=by
 refine aB rfl ?_;simp (disch:=omega) only[go_sem,h56c,aZA];rw[aR (fun k=>⟨(cQ l::jk 2 (vi (gQ (l.take k))::vi k::jk 14 [])),[]⟩) l.length ?_ ?_]
 simp (disch:=omega) only[go_sem,h56l0,aZA,bAj];rfl;intro k a;rw[E7 l k a];simp (disch:=omega) only[go_sem,h56l0,aZA,aW.e]
theorem Nf(l:L aW)(i:Nat)(m:i<l.length)(u:l.length<=100000)(b:∀(j:Nat) q,j<=i->l[j]?=some q->-9223372036854775808<=q.s+q.n/\q.s+q.n<=9223372036854775807):EV G (Tb B) 270 [cQ l,vi i] []=some (vb ((l.take i).any fun q=>gH q l[i]),[]):=by
 refine aB rfl ?_;simp (disch:=omega) only[go_sem,h270c,aZA];have h:=b i l[i] (aZE _) (aZJ m);rw[dE (fun k=>⟨(cQ l::vi i::jk 3 (vi k::jk 14 [])),[]⟩) (fun k=>gH (l.getD k ⟨0,0⟩) l[i]=true) i ?_ ?_]
 rotate_left
 rfl;intro k p f;have a:=f k (aZE _);rw[jT l k (by omega)] at a;have a:gH l[k] l[i]=false:=by simpa using a
 have c:=b k l[k] (by omega) (aZJ _);simp (disch:=omega) only[go_sem,h270l0,aZA,aW.e,To,a];obtain⟨p,hp,f⟩:=bD (fun k=>gH (l.getD k ⟨0,0⟩) l[i]=true) i
 generalize ix (fun k=>gH (l.getD k ⟨0,0⟩) l[i]=true) i=k at *
 rcases hp with rfl|⟨r,hp⟩
 have g:((l.take k).any fun q=>gH q l[k])=false:=by
  rw[bAM];intro q t;obtain⟨j,o,rfl⟩:=List.mem_iff_getElem.1 t;have d:j < k:=by simp at o;omega
  have:=f j d;rw[jT l j (by omega)] at this;simpa using this
 simp (disch:=omega) only[go_sem,h270l0,aZA,g]
 rw[jT l k (by omega)] at hp;have g:((l.take i).any fun q=>gH q l[i])=true:=by
  rw[List.any_eq_true];exact⟨l[k],List.mem_iff_getElem.2 ⟨k,by simp;omega,by simp⟩,hp⟩
 have c:=b k l[k] (by omega) (aZJ _);simp (disch:=omega) only[go_sem,h270l0,aZA,aW.e,To,hp,g]
theorem aGL(l:L aW)(k:Nat)(c:k<=l.length)(h:∀j,j<k->¬ pJ l j (l.getD j ⟨0,0⟩)≠0):B5 l l 0=B5 l (l.drop k) k:=by
 induction k with
 |zero=>rfl
 |succ k a=>
  have:=h k (Nat.lt_succ_self k);rw[jT l k (by omega)] at this;rw[a (by omega) (fun j b=>h j (by omega)),Jv (by omega),if_neg this]
theorem J1{l:L aW}{k:Nat}(c:k<l.length)(h:¬ pJ l k (l.getD k ⟨0,0⟩)≠0):bO l[k].s l[k].n=0/\¬ (0<k/\iY (l[k-1]'(by omega)) l[k]=true)/\((l.take k).any fun q=>gH q l[k])=false:=by
 rw[jT l k c,Ti c] at h;by_cases b:bO l[k].s l[k].n≠0;rw[if_pos b] at h;exact absurd (by decide) h;rw[if_neg b] at h;by_cases a:0<k/\iY (l[k-1]'(by omega)) l[k]=true;rw[if_pos a] at h;exact absurd (by decide) h;rw[if_neg a] at h;cases h3:(l.take k).any fun q=>gH q l[k]
 exact⟨by omega,a,rfl⟩;rw[h3] at h;exact absurd (by decide) h
theorem aLH(l:L aW):EV G (Tb B) 224 [cQ l] []=some (.tup [.one (.dc (ci (aC3 l).1)),.one (.dc (ci (aC3 l).2))],[]):=by
 refine aB rfl ?_;by_cases x:(l.length:Int) > 64;simp only[aC3,if_pos x];simp (disch:=omega) only[go_sem,h224c,aZA]
 ·simp only[aC3,if_neg x];simp (disch:=omega) only[go_sem,h224c,aZA];rw[dE (fun k=>⟨(cQ l::jk 3 (vi k::jk 38 [])),[]⟩) (fun k=>pJ l k (l.getD k ⟨0,0⟩)≠0) l.length ?_ ?_]
  rotate_left
  rfl
  intro k v t;obtain⟨f,o,h3⟩:=J1 v (t k (aZE _));have a:∀ (j:Nat) q,j<=k->l[j]?=some q->-9223372036854775808<=q.s+q.n/\q.s+q.n<=9223372036854775807:=fun j q g d=>by
   have c:j < l.length:=by omega
   have:=Nc (J1 c (t j g)).1;rw[aZJ c] at d;injection d with d;rwa[d] at this
  have i:=Nf (G:=G) (B:=B) l k v (by omega) a;rw[h3] at i;by_cases w:0<k;have g:iY (l[k-1]'(by omega)) l[k]=false:=by simpa[w] using o
  have p:=a (k-1) (l[k-1]'(by omega)) (by omega) (aZJ _);simp (disch:=omega) only[go_sem,h224l0,aZA,aW.e,Av,f,Py,g,i];simp (disch:=omega) only[go_sem,h224l0,aZA,aW.e,Av,f,i];obtain⟨v,hp,t⟩:=bD (fun k=>pJ l k (l.getD k ⟨0,0⟩)≠0) l.length
  generalize ix (fun k=>pJ l k (l.getD k ⟨0,0⟩)≠0) l.length=k at *
  have u:∀ (j:Nat) r,j < k->l[j]?=some r->bO r.s r.n=0:=fun j r g m=>by
   have c:j < l.length:=by omega
   have:=(J1 c (t j g)).1;rw[aZJ c] at m;injection m with m;rwa[m] at this
  rw[aGL l k v t];rcases hp with rfl|⟨b,hp⟩
  ·have m:=aGC u;have A:gQ l=cC l:=Dq l (fun r z=>by have:=aGD (m r z);omega) (by
    have:=(aU8 (l:=l) (k:=l.length) (by omega) m).2;rw[Tj] at this;omega)
   rw[List.drop_length,B5];by_cases h4:cC l > 4096;all_goals simp (disch:=omega) only[go_sem,h224l0,aZA,rM,A]
  rw[jT l k b] at hp;rw[Jv b,if_pos hp];rw[Ti b] at hp ⊢;by_cases f:bO l[k].s l[k].n=0
  have a:∀ (j:Nat) q,j<=k->l[j]?=some q->-9223372036854775808<=q.s+q.n/\q.s+q.n<=9223372036854775807:=fun j q g d=>by
   by_cases y:j=k
   ·subst y;rw[aZJ b] at d;injection d with d;rw[<- d];exact Nc f
   ·exact Nc (u j q (by omega) d)
  have i:=Nf (G:=G) (B:=B) l k b (by omega) a;by_cases o:0<k/\iY (l[k-1]'(by omega)) l[k]=true;have p:=a (k-1) (l[k-1]'(by omega)) (by omega) (aZJ _);simp (disch:=omega) only[go_sem,h224l0,aZA,aW.e,Av,f,Py,o]
  have h3:((l.take k).any fun q=>gH q l[k])=true:=by
   simp only[f,ne_eq,not_true_eq_false,if_false,if_neg o] at hp;cases h:(l.take k).any fun q=>gH q l[k]
   ·rw[h] at hp;simp at hp
   ·rfl
  rw[h3] at i;by_cases w:0<k;have g:iY (l[k-1]'(by omega)) l[k]=false:=by simpa[w] using o
  have p:=a (k-1) (l[k-1]'(by omega)) (by omega) (aZJ _);simp (disch:=omega) only[go_sem,h224l0,aZA,aW.e,Av,f,Py,g,i,h3];simp (disch:=omega) only[go_sem,h224l0,aZA,aW.e,Av,f,i,h3];simp (disch:=omega) only[go_sem,h224l0,aZA,aW.e,Av]
theorem aGM(l:L aW):EV G (Tb B) 180 [cQ l] []=some (vi (mT l).2,[]):=by
 refine aB rfl ?_;simp (disch:=omega) only[go_sem,h180c,aLH,aQo]
end
section
variable {G:aF}{B:aO}
def Aw(n:Int):L DC:=[.raw (.int .u8 n)]
def u8(n:Int):UInt8:=UInt8.ofNat n.toNat
def dO(l:L Int):ByteArray:=⟨(l.map u8).toArray⟩
abbrev sv(l:L Int):AV:=.one (.dc (.raw (.string (dO l))))
abbrev bl(l:L Int):L (L DC):=l.map Aw
abbrev vu(n:Int):AV:=.one (.dc (.raw (.int .u8 n)))
def aI(l:L Int):Prop:=∀b∈l,0<=b/\b<=255
theorem Cg(l:L Int):gF (l.map Aw)=some (l.map u8):=by
 induction l with
 |nil=>rfl
 |cons b l a=>simp only[aZM,Aw,gF,u8] at a ⊢;rw[a];rfl
theorem iA(b:Int)(h:0<=b/\b<=255):((u8 b).toNat:Int)=b:=by
 simp only[u8,UInt8.toNat_ofNat'];omega
theorem aG:(⟨#[]⟩:ByteArray)=dO []:=rfl
theorem aC(l:L Int):(dO l).size=l.length:=by simp[dO,ByteArray.size]
theorem Hv(a b:L Int):dO a++dO b=dO (a++b):=by
 apply ByteArray.ext;simp[dO,ByteArray.data_append]
theorem Pz(l:L Int)(a b:Nat):(dO l).extract a b=dO ((l.take b).drop a):=by
 apply ByteArray.ext;simp[dO,ByteArray.data_extract,bAS]
theorem aLI(s:ByteArray):∃l,aI l/\s=dO l:=by
 refine⟨s.data.toList.map fun b=>(b.toNat:Int),fun b a=>?_,?_⟩
 obtain⟨x,_,rfl⟩:=List.mem_map.1 a;have:=x.toNat_lt;omega;apply ByteArray.ext;apply Array.ext';simp[dO,u8,Function.comp_def]
theorem cR{a b:L Int}(e:aI a)(f:aI b):(dO a=dO b)=(a=b):=by
 apply propext;refine⟨fun h=>?_,fun h=>by rw[h]⟩
 have c:a.map u8=b.map u8:=by
  have:=congrArg (fun s:ByteArray=>s.data.toList) h
  simpa[dO] using this
 have d:a.length=b.length:=by simpa using congrArg List.length c
 refine List.ext_getElem d (fun i p q=>?_)
 have h3:u8 a[i]=u8 b[i]:=by
  have:=congrArg (fun l=>l[i]?) c
  simpa[p,q] using this
 rw[<- iA _ (e _ (aZK p)),<- iA _ (f _ (aZK q)),h3]
theorem aN0(l:L Int)(c:aI l)(i:Int)(h:0<=i/\i<l.length):Ik (sv l) i=some (vu (l.getD i.toNat 0)):=by
 have a:i.toNat<l.length:=by omega
 have b:(dO l).data.toList[i.toNat]?=some (u8 l[i.toNat]):=by simp[dO,a]
 have h3:l.getD i.toNat 0=l[i.toNat]:=by simp[aZO,a]
 simp only[Ik,dN,if_pos h.1,b,dU,iA _ (c _ (aZK a)),h3]
theorem aGN(hp:L aD)(l:L Int):nZ hp (vl (bl l))=some (sv l):=by
 simp only[nZ,Cg,aZG];rfl
theorem Tp(l:L Int):(⟨(l.map u8).toArray⟩:ByteArray)=dO l:=rfl
attribute [go_sem 2000] aGN
theorem Tq(l:L Int):(dO l).data.toList=l.map u8:=by simp[dO]
attribute [go_sem] Cg Tp Option.map_none Tq Pz iA bA4 bAj List.getElem?_nil List.getElem_cons_zero List.getElem_cons_succ
attribute [go_sem] aC Hv
def sz(n:Int):Int:=if -128<=n/\n<=127 then 1 else 2
def aLJ:Nat->Int
 |0=>1
 |_=>2
theorem aGO:aLJ 0=1:=rfl
theorem aGP:aLJ 1=2:=rfl
theorem aQs:min 7 64=7:=rfl
theorem aLK:min 15 64=15:=rfl
theorem aQt:min 8 64=8:=rfl
theorem aLL:min 16 64=16:=rfl
theorem aQu:min 4 64=4:=rfl
theorem J2:IntKind.i64.bits=64:=rfl
attribute [go_sem] aQs aLK aQt aLL aQu J2
theorem rN(n:Int)(h:-32768<=n/\n<=32767):EV G (Tb B) 250 [vi n] []=some (vi (sz n),[]):=by
 refine aB rfl ?_;by_cases c:-128<=n/\n<=127
 ·rw[sz,if_pos c];simp (disch:=omega) only[go_sem,h250c];rw[aR (fun k=>⟨(vi n::jk 2 (vi (aLJ k)::jk 15 [])),[]⟩) 0 ?_ ?_]
  rotate_left
  rfl;exact fun k b=>absurd b (by omega)
  simp (disch:=omega) only[go_sem,h250l0,kA,aGO,Int.reduceMul,Int.reduceSub,Int.reduceToNat,Int.reducePow,Nat.reducePow,Int.reduceNeg]
 ·rw[sz,if_neg c];simp (disch:=omega) only[go_sem,h250c];rw[aR (fun k=>⟨(vi n::jk 2 (vi (aLJ k)::jk 15 [])),[]⟩) 1 ?_ ?_]
  rotate_left
  rfl
  rotate_left
  simp (disch:=omega) only[go_sem,h250l0,kA,aGP,Int.reduceMul,Int.reduceSub,Int.reduceToNat,Int.reducePow,Nat.reducePow,Int.reduceNeg];intro k b;have a:k=0:=by omega
  subst a;simp (disch:=omega) only[go_sem,h250l0,kA,aGO,aGP,Int.reduceMul,Int.reduceSub,Int.reduceToNat,Int.reducePow,Nat.reducePow,Int.reduceNeg,Int.reduceAdd]
def Gg(n:Int):Nat->Int
 |0=>n
 |k+1=>Gg n k / 256
def bI(n:Int):Nat->L Int
 |0=>[]
 |k+1=>bI n k++[Gg n k % 256]
theorem aA(n:Int)(k:Nat):(bI n k).length=k:=by
 induction k with
 |zero=>rfl
 |succ k a=>simp[bI,a]
theorem J3(n:Int)(k:Nat):(bI n k).take k=bI n k:=bAc (by rw[aA];omega)
theorem cU(n:Int)(k:Nat):aI (bI n k):=by
 induction k with
 |zero=>intro b a;cases a
 |succ k c=>
  intro b a;rcases bAV.1 a with h|h
  exact c b h;have:=List.mem_singleton.1 h;omega
theorem Du(l:L Int)(b:Int):l.map Aw++[[.raw (.int .u8 b)]]=(l++[b]).map Aw:=by simp[Aw]
theorem aGQ(a b:L Int):a.map Aw++b.map Aw=(a++b).map Aw:=bAh.symm
theorem aQv(l:L Int):gG 1 (l.map Aw)=true:=jG (f:=Aw) (fun _=>rfl) l
theorem wu8(n:Int):IntKind.u8.wrap n=n % 256:=by rw[IntKind.wrap_u8]
theorem aQw(n:Int)(h:0<=n/\n<=255):IntKind.u8.wrap n=n:=by rw[IntKind.wrap_u8];omega
theorem Hw(n:Int):n.fdiv 256=n / 256:=Int.fdiv_eq_ediv_of_nonneg _ (by decide)
attribute [go_sem] aQv
theorem Xz(n:Int)(h:-9223372036854775808<=n/\n<=9223372036854775807)(k:Nat):-9223372036854775808<=Gg n k/\Gg n k<=9223372036854775807:=by
 induction k with
 |zero=>exact h
 |succ k a=>simp only[Gg];omega
theorem J4(n:Int)(k:Nat)(c:k<=1000):EV G (Tb B) 252 [vi n,vi k] []=some (vl (bl (bI n k)),[]):=by
 refine aB rfl ?_;simp (disch:=omega) only[go_sem,h252c];rw[aR (fun j=>⟨(vi (Gg n j)::jk 4 (.one (.bld 0 j)::vi k::vi j::jk 10 [])),[.arr 0 1 (bl (bI n j))]⟩) k ?_ ?_]
 have a:=aA n k;simp (disch:=omega) only[go_sem,h252l0,aZA,aA,kF];simp only[bAc (show (bI n k).length<=k by omega),<- bAp];rfl;intro j b;have a:=aA n j;simp (disch:=omega) only[go_sem,h252l0,aZA,aA,wu8,Int.reduceToNat,Int.reducePow,Hw,<- bAp,J3,Du,Gg,bI]
def nH(a:Int)(r:aW):L Int:=
 if r.s=-1 then sz r.n::bI r.n (sz r.n).toNat else (16*sz (r.s-a)+sz r.n)::(bI r.n (sz r.n).toNat++bI (r.s-a) (sz (r.s-a)).toNat)
def est(s:L Int×Int)(r:aW):L Int×Int:=(s.1++nH s.2 r,if r.s=-1 then s.2 else r.s)
def sP(l:L aW)(k:Nat):L Int×Int:=(l.take k).foldl est ([],0)
def jH(l:L aW):L Int×Int:=l.foldl est ([],0)
def Ch(l:L aW):L Int×Int:=if Dn [l]≠0 then ([],Dn [l]) else ((jH l).1++[0],0)
theorem E8(l:L aW)(k:Nat)(h:k<l.length):sP l (k+1)=est (sP l k) l[k]:=by
 rw[sP,bAA h,List.foldl_append];rfl
theorem Dv(l:L aW):sP l l.length=jH l:=by rw[sP,bAj];rfl
theorem tG(n:Int):sz n=1\/sz n=2:=by unfold sz;split<;>simp
theorem Tr(a:Int)(r:aW):(nH a r).length<=5:=by
 have b:=tG r.n;have c:=tG (r.s-a);unfold nH;split;simp only[aZC,aA];omega;simp only[aZC,aZB,aA];omega
theorem aC9(a:Int)(r:aW):aI (nH a r):=by
 have d:=tG r.n;have e:=tG (r.s-a);intro b c;unfold nH at c;split at c;rcases bAL.1 c with h|h
 omega;exact cU _ _ b h;rcases bAL.1 c with h|h
 omega;rcases bAV.1 h with h|h
 exact cU _ _ b h;exact cU _ _ b h
theorem Ax(l:L aW)(h:∀r∈l,-1<=r.s/\r.s<=511):∀k,k<=l.length->(sP l k).1.length<=5*k/\(0<=(sP l k).2/\(sP l k).2<=511)/\aI (sP l k).1:=by
 intro k
 induction k with
 |zero=>intro _;exact⟨by simp[sP],by simp[sP],by intro b a;cases a⟩
 |succ k c=>
  intro f;obtain⟨d,e,h3⟩:=c (by omega);have h4:=h _ (aZK (show k<l.length by omega));rw[E8 l k (by omega)];refine⟨?_,?_,?_⟩;simp only[est,aZB];have:=Tr (sP l k).2 l[k];omega;simp only[est];split<;>omega;intro b a;rcases bAV.1 a with a|a
  exact h3 b a;exact aC9 _ _ b a
theorem aX4(a b:Int)(c:a=1\/a=2)(d:b=1\/b=2):Xv .i64 (a*16) b=16*a+b:=by
 rcases c with rfl|rfl<;>rcases d with rfl|rfl<;>decide
theorem or0(b:Int)(a:b=1\/b=2):Xv .i64 0 b=b:=by
 rcases a with rfl|rfl<;>decide
theorem Hx{l:L aW}(h:(mT l).2=0):∀r∈l,(-1<=r.s/\r.s<=511)/\1<=r.n/\r.n<=4096:=by
 intro r b;rcases lL (Jw h r b) with a|⟨s,n,a⟩<;>omega
theorem aGR(l:L aW):EV G (Tb B) 208 [cQ l] []=some (.tup [.one (.dc (.raw (.string (dO (Ch l).1)))),.one (.dc (ci (Ch l).2))],[]):=by
 refine aB rfl ?_;unfold Ch;by_cases c:Dn [l]=0;have t:(mT l).2=0:=by rw[Nd] at c;exact c
 have h:=Hx t;have u:=oH t;simp (disch:=omega) only[go_sem,h208c,Hu,c,aZA];rw[aR (fun k=>⟨(jk 5 (.one (.bld 0 (sP l k).1.length)::vi (sP l k).2::jk 10 (cQ l::vi l.length::vi k::jk 46 []))),[.arr 0 1 (bl (sP l k).1)]⟩) l.length ?_ ?_]
 have f:=Ax l (fun r b=>(h r b).1) l.length (aZE _)
 rw[Dv] at f ⊢;have z:List.take ((jH l).1.length+1) (((jH l).1++[0]).map Aw)=((jH l).1++[0]).map Aw:=bAc (by simp);simp (disch:=omega) only[go_sem,h208l0,aZA,aZB,Du,z];rfl;intro k f;obtain⟨m,p,q⟩:=Ax l (fun r b=>(h r b).1) k (by omega)
 have h4:=h _ (aZK f);rw[E8 l k f];generalize sP l k=s at m p q ⊢;obtain⟨o,a⟩:=s;simp only at m p q;simp only[est,nH];have y:=tG l[k].n;have v:=rN (G:=G) (B:=B) l[k].n (by omega);by_cases j:l[k].s=-1;have d:=J4 (G:=G) (B:=B) l[k].n (sz l[k].n).toNat (by omega);rw[show (((sz l[k].n).toNat:Nat):Int)=sz l[k].n by omega] at d;have i:=or0 (sz l[k].n) y;have t1 (x:Int):List.take (o.length+1) ((o++[x]).map Aw)=(o++[x]).map Aw:=bAc (by simp);have g:o.length+1+(sz l[k].n).toNat=o.length+((sz l[k].n).toNat+1):=by omega
 simp (disch:=omega) only[go_sem,h208l0,aZA,aW.e,kB,j,v,d,Int.reduceToNat,Int.reducePow,Int.reduceMul,i,aQw,Du,aGQ,aA,aZB,t1,g,aZS];have C:=tG (l[k].s-a);have d:=J4 (G:=G) (B:=B) l[k].n (sz l[k].n).toNat (by omega);rw[show (((sz l[k].n).toNat:Nat):Int)=sz l[k].n by omega] at d;have A:=rN (G:=G) (B:=B) (l[k].s-a) (by omega);have w:=J4 (G:=G) (B:=B) (l[k].s-a) (sz (l[k].s-a)).toNat (by omega);rw[show (((sz (l[k].s-a)).toNat:Nat):Int)=sz (l[k].s-a) by omega] at w;have i:=aX4 (sz (l[k].s-a)) (sz l[k].n) C y;have t1 (x:Int):List.take (o.length+1) ((o++[x]).map Aw)=(o++[x]).map Aw:=bAc (by simp);have t2 (x:Int):List.take (o.length+1+(sz l[k].n).toNat) ((o++x::bI l[k].n (sz l[k].n).toNat).map Aw)=(o++x::bI l[k].n (sz l[k].n).toNat).map Aw:=bAc (by simp[aA];omega);have g:o.length+1+(sz l[k].n).toNat+(sz (l[k].s-a)).toNat=o.length+((sz l[k].n).toNat+(sz (l[k].s-a)).toNat+1):=by omega
 simp (disch:=omega) only[go_sem,h208l0,aZA,aW.e,kB,j,v,d,A,w,Int.reduceToNat,Int.reducePow,Int.reduceMul,i,aQw,Du,aGQ,aA,aZB,t1,t2,g,aZS];simp (disch:=omega) only[go_sem,h208c,Hu,c,aG]
theorem oO(a b:Int)(h:0<=a):a.tmod b=a % b:=bBd h
theorem mZ(a b:Int)(h:0<=a):a.tdiv b=a / b:=bBf h
theorem aQx(n:Int)(h:0<=n)(k:Nat):0<=Gg n k:=by
 induction k with
 |zero=>exact h
 |succ k a=>simp only[Gg];omega
theorem nI(n:Int)(k:Nat)(b:0<=n/\n<=9223372036854775807)(e:k<=1000):EV G (Tb B) 126 [vi n,vi k] []=some (sv (bI n k),[]):=by
 refine aB rfl ?_;simp (disch:=omega) only[go_sem,h126c];rw[aR (fun j=>⟨(vi (Gg n j)::vi k::jk 3 (.one (.bld 0 j)::vi j::jk 15 [])),[.arr 0 1 (bl (bI n j))]⟩) k ?_ ?_]
 have a:=aA n k;simp (disch:=omega) only[go_sem,h126l0,aZA,aA,<- bAp,J3];rfl;intro j d;have a:=aA n j;have c:=aQx n b.1 j;have h3:=Xz n (by omega) j;simp (disch:=omega) only[go_sem,h126l0,aZA,aA,oO,mZ,aQw,<- bAp,J3,Du,Gg,bI]
theorem aVg(n m:Int)(c:0<m):n % m=if n.tmod m<0 then n.tmod m+m else n.tmod m:=by
 have d:=Int.emod_nonneg n (show m≠0 by omega);have e:=Int.emod_lt_of_pos n c;have h3:=Int.tmod_eq_emod (a:=n) (b:=m);split at h3;rw[if_neg (by omega)];omega;rw[if_pos (by omega)];omega
theorem Ng(n m:Int)(a:0<m/\m<=4611686018427387904):EV G (Tb B) 183 [vi n,vi m] []=some (vi (n % m),[]):=by
 refine aB rfl ?_;have b:=Int.emod_nonneg n (show m≠0 by omega);have d:=Int.emod_lt_of_pos n a.1;have h3:=aVg n m a.1;by_cases c:n.tmod m<0;rw[if_pos c] at h3;simp (disch:=omega) only[go_sem,h183c,h3];rw[if_neg c] at h3;simp (disch:=omega) only[go_sem,h183c,h3]
theorem oZ(n:Int)(h:-32768<=n/\n<=32767):EV G (Tb B) 223 [vi n] []=some (sv (bI n (sz n).toNat),[]):=by
 refine aB rfl ?_;by_cases c:-128<=n/\n<=127;have a:=nI (G:=G) (B:=B) (n % 256) 1 (by omega) (by omega);have b:bI (n % 256) 1=bI n 1:=by simp[bI,Gg]
 rw[show sz n=1 by simp[sz,c],show (1:Int).toNat=1 from rfl]
 rw[b,Int.natCast_one] at a;simp (disch:=omega) only[go_sem,h223c,bN,Ng,a];have a:=nI (G:=G) (B:=B) (n % 65536) 2 (by omega) (by omega);have d:n % 65536 % 256=n % 256:=by omega
 have e:n % 65536 / 256 % 256=n / 256 % 256:=by omega
 have b:bI (n % 65536) 2=bI n 2:=by simp only[bI,Gg,d,e]
 rw[show sz n=2 by simp[sz,c],show (2:Int).toNat=2 from rfl]
 rw[b,show ((2:Nat):Int)=2 from rfl] at a
 simp (disch:=omega) only[go_sem,h223c,bN,Ng,a]
theorem Ts(k:Nat):gF (List.replicate k [DC.raw (.int .u8 0)])=some (List.replicate k (u8 0)):=by
 have:=Cg (List.replicate k 0);simpa[Aw] using this
theorem aVh(k:Nat):(⟨(List.replicate k (u8 0)).toArray⟩:ByteArray)=dO (List.replicate k 0):=by simp[dO]
theorem Hy(n:Int)(h:0<=n/\n<=200000):EV G (Tb B) 125 [vi n] []=some (sv (List.replicate n.toNat 0),[]):=by
 refine aB rfl ?_;have e:(if n > 0 then n else 0)=n:=by split<;>omega
 simp (disch:=omega) only[go_sem,h125c,Ts,aVh,e,aZI,List.take_replicate,Nat.min_self]
theorem aQy{a b:L Int}(h:a.length+b.length<=9223372036854775807):fX .add (sv a) (sv b)=some (sv (a++b)):=by
 rw[Dj (by rw[aC,aC];exact h),Hv]
attribute [go_sem 2000] aQy
theorem Nh(l:L aW)(m:(mT l).2=0):EV G (Tb B) 181 [cQ l] []=some (sv ((jH l).1++[0]),[]):=by
 refine aB rfl ?_;have f:=Hx m;have p:=oH m;simp (disch:=omega) only[go_sem,h181c,aG];rw[aR (fun k=>⟨(cQ l::jk 2 (sv (sP l k).1::vi (sP l k).2::vi k::jk 56 [])),[]⟩) l.length ?_ ?_]
 have d:=Ax l (fun r b=>(f r b).1) l.length (aZE _)
 rw[Dv] at d ⊢;simp (disch:=first|omega|(simp only[aZB,aZC,aZD,aZA,aA];omega)) only[go_sem,h181l0,aZA,Hy,Int.reduceToNat,List.replicate_succ,List.replicate_zero]
 rfl;intro k d;obtain⟨h,i,j⟩:=Ax l (fun r b=>(f r b).1) k (by omega)
 have h4:=f _ (aZK d);rw[E8 l k d];generalize sP l k=s at h i j ⊢;obtain⟨o,a⟩:=s;simp only at h i j;simp only[est,nH];have w:=tG l[k].n;have t:=oZ (G:=G) (B:=B) l[k].n (by omega);have q:(((sz l[k].n).toNat:Nat):Int)=sz l[k].n:=by omega
 by_cases g:l[k].s=-1;have c:=nI (G:=G) (B:=B) (sz l[k].n) 1 (by omega) (by omega);rw[show bI (sz l[k].n) 1=[sz l[k].n] by simp[bI,Gg];omega,Int.natCast_one] at c;simp (disch:=first|omega|(simp only[aZB,aZC,aZD,aZA,aA];omega)) only[go_sem,h181l0,aZA,aZU,aW.e,g,t,c,aA,q,aZS]
 have x:=tG (l[k].s-a);have v:=oZ (G:=G) (B:=B) (l[k].s-a) (by omega);have c:=nI (G:=G) (B:=B) (sz l[k].n+16*sz (l[k].s-a)) 1 (by omega) (by omega);have u:(((sz (l[k].s-a)).toNat:Nat):Int)=sz (l[k].s-a):=by omega
 rw[show bI (sz l[k].n+16*sz (l[k].s-a)) 1=[16*sz (l[k].s-a)+sz l[k].n] by simp[bI,Gg];omega,Int.natCast_one] at c;simp (disch:=first|omega|(simp only[aZB,aZC,aZD,aZA,aA];omega)) only[go_sem,h181l0,aZA,aZU,aW.e,g,t,c,v,aA,q,u,aZS]
end
section
variable {G:aF}{B:aO}
theorem X0(a b:L aW)(m:a.length<=1000000):EV G (Tb B) 91 [cQ a,cQ b] []=some (vb (decide (a=b)),[]):=by
 refine aB rfl ?_;by_cases h:(a.length:Int)=b.length
 ·simp (disch:=omega) only[go_sem,h91c,aZA,h];have h:a.length=b.length:=by omega
  rw[dE (fun k=>⟨(cQ a::cQ b::jk 3 (vi k::jk 20 [])),[]⟩) (fun k=>a.getD k ⟨0,0⟩≠b.getD k ⟨0,0⟩) a.length ?_ ?_]
  rotate_left
  rfl;intro k j f;have c:=f k (aZE _);rw[jT a k j,jT b k (by omega),Classical.not_not,aGE] at c;simp (disch:=omega) only[go_sem,h91l0,aZA,aW.e];obtain⟨j,hp,f⟩:=bD (fun k=>a.getD k ⟨0,0⟩≠b.getD k ⟨0,0⟩) a.length
  generalize ix (fun k=>a.getD k ⟨0,0⟩≠b.getD k ⟨0,0⟩) a.length=k at *
  rcases hp with hp|⟨d,hp⟩
  have g:a=b:=List.ext_getElem h (fun i c l=>by
   have:=f i (by omega);rwa[jT a i c,jT b i l,Classical.not_not] at this)
  simp (disch:=omega) only[go_sem,h91l0,aZA];simp[g];rw[jT a k d,jT b k (by omega)] at hp;have g:¬ a=b:=fun e=>by subst e;exact hp rfl
  rw[ne_eq,aGE] at hp;simp (disch:=omega) only[go_sem,h91l0,aZA,aW.e];simp[g]
 simp (disch:=omega) only[go_sem,h91c,aZA];have:¬ a=b:=fun e=>h (by rw[e])
 simp[this]
theorem Tt(l:L Int)(c:Int)(i:l.length<=1000000):EV G (Tb B) 32 [vl (el l),vi c] []=some (vb (decide (c∈l)),[]):=by
 refine aB rfl ?_;simp (disch:=omega) only[go_sem,h32c,aZA];rw[dE (fun k=>⟨(vl (el l)::vi c::jk 3 (vi k::jk 12 [])),[]⟩) (fun k=>l.getD k 0=c) l.length ?_ ?_]
 rotate_left
 rfl;intro k f b;have g:=b k (aZE _);rw[cE l k f] at g;simp (disch:=omega) only[go_sem,h32l0,aZA,tL];obtain⟨f,hp,b⟩:=bD (fun k=>l.getD k 0=c) l.length
 generalize ix (fun k=>l.getD k 0=c) l.length=k at *
 rcases hp with rfl|⟨a,hp⟩
 have d:¬ c∈l:=fun h=>by
  obtain⟨j,e,rfl⟩:=List.mem_iff_getElem.1 h;exact b j e (cE l j e)
 simp (disch:=omega) only[go_sem,h32l0,aZA];simp[d];rw[cE l k a] at hp;have d:c∈l:=by rw[<- hp];exact aZK a
 simp (disch:=omega) only[go_sem,h32l0,aZA,tL];simp[d]
