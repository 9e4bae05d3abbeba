/- The reference's lists. Conditions: none. -/
import Derived.Test.YtcplecjhmnblpaaGreatDoorVg
namespace Go.Proofs.YtcplecjhmnblpaaGreatDoor
set_option linter.unusedSimpArgs false
set_option linter.unusedVariables false
set_option maxRecDepth 4000
section
variable {G:aH} {B:aW}
theorem bQ(n lo hi:Int):EV G (Tb B) 19 [vi n,vi lo,vi hi] []=some (vb (decide (lo<=n/\n<=hi)),[]):=by
 refine aB rfl ?_;by_cases h:lo<=n
 all_goals simp (disch:=omega) only[go_sem,h19c]
 all_goals simp[h]
theorem sN(s n:Int):EV G (Tb B) 226 [rn s n] []=some (vb (decide (bM s n=0)),[]):=by
 refine aB rfl ?_;by_cases h1:s=-1
 ·by_cases h2:1<=n/\n<=4096
  all_goals simp (disch:=omega) only[go_sem,h226c,bQ,bM]
  all_goals simp[h2]
 ·by_cases h2:0<=s/\s<=511
  ·by_cases h3:1<=n/\n<=512 - s
   all_goals simp (disch:=omega) only[go_sem,h226c,bQ,bM]
   all_goals simp[h3]
  ·simp (disch:=omega) only[go_sem,h226c,bQ,bM];simp
theorem Gw(q r:bI)(h:-9223372036854775808<=q.s+q.n/\q.s+q.n<=9223372036854775807):EV G (Tb B) 227 [q.v,r.v] []=some (vb (gY q r),[]):=by
 refine aB rfl ?_;unfold gY;by_cases h1:q.s=-1
 all_goals by_cases h2:r.s=-1
 all_goals simp (disch:=omega) only[go_sem,h227c]
 all_goals simp[h1,h2,eq_comm]
theorem Kf(q r:bI)(h:-9223372036854775808<=q.s+q.n/\q.s+q.n<=9223372036854775807)(h':-9223372036854775808<=r.s+r.n/\r.s+r.n<=9223372036854775807):EV G (Tb B) 258 [q.v,r.v] []=some (vb (fJ q r),[]):=by
 refine aB rfl ?_;unfold fJ;by_cases h1:q.s=-1
 ·simp (disch:=omega) only[go_sem,h258c];simp[h1]
 ·by_cases h2:r.s=-1
  ·simp (disch:=omega) only[go_sem,h258c];simp[h1,h2]
  ·by_cases h3:q.s < r.s+r.n
   all_goals simp (disch:=omega) only[go_sem,h258c]
   all_goals simp[h1,h2,h3,(by simpa using h1:(q.s != -1)=true),(by simpa using h2:(r.s != -1)=true)]
theorem vV(l:List bI)(hl:l.length<=1000000):EV G (Tb B) 92 [iW l] []=some (vi (gZ l),[]):=by
 refine aB rfl ?_;simp (disch:=omega) only[go_sem,h92c,aQb];rw[bG (fun k=>⟨(iW l::jk 2 (vi (gZ (l.take k))::vi k::jk 14 [])),[]⟩) l.length ?_ ?_]
 ·simp (disch:=omega) only[go_sem,h92l0,aQb,aQR]
 ·rfl
 ·intro k hk;rw[xH l k hk];simp (disch:=omega) only[go_sem,h92l0,aQb,bI.e]
theorem Ey(l:List bI)(i:Nat)(hi:i < l.length)(hl:l.length<=100000)(hb:∀ (j:Nat) q,j<=i->l[j]?=some q->-9223372036854775808<=q.s+q.n/\q.s+q.n<=9223372036854775807):
  EV G (Tb B) 228 [iW l,vi i] []=some (vb ((l.take i).any fun q=>fJ q l[i]),[]):=by
 refine aB rfl ?_;simp (disch:=omega) only[go_sem,h228c,aQb];have hbi:=hb i l[i] (aQf _) (aQi hi);rw[gA (fun k=>⟨(iW l::vi i::jk 3 (vi k::jk 14 [])),[]⟩) (fun k=>fJ (l.getD k ⟨0,0⟩) l[i]=true) i ?_ ?_]
 rotate_left
 ·rfl
 ·intro k hk hn;have h1:=hn k (aQf _);rw[nV l k (by omega)] at h1;have h1:fJ l[k] l[i]=false:=by simpa using h1
  have hbk:=hb k l[k] (by omega) (aQi _);simp (disch:=omega) only[go_sem,h228l0,aQb,bI.e,Kf,h1]
 obtain⟨hk,hp,hn⟩:=bW (fun k=>fJ (l.getD k ⟨0,0⟩) l[i]=true) i
 generalize ix (fun k=>fJ (l.getD k ⟨0,0⟩) l[i]=true) i=k at *
 rcases hp with rfl | ⟨hk',hp⟩
 ·have hz:((l.take k).any fun q=>fJ q l[k])=false:=by
   rw[aRD];intro q hq;obtain⟨j,hj,rfl⟩:=List.mem_iff_getElem.1 hq;have hj2:j < k:=by simp at hj;omega
   have:=hn j hj2;rw[nV l j (by omega)] at this;simpa using this
  simp (disch:=omega) only[go_sem,h228l0,aQb,hz]
 ·rw[nV l k (by omega)] at hp;have hz:((l.take i).any fun q=>fJ q l[i])=true:=by
   rw[List.any_eq_true];exact⟨l[k],List.mem_iff_getElem.2 ⟨k,by simp;omega,by simp⟩,hp⟩
  have hbk:=hb k l[k] (by omega) (aQi _);simp (disch:=omega) only[go_sem,h228l0,aQb,bI.e,Kf,hp,hz]
theorem aAx(l:List bI)(k:Nat)(hk:k<=l.length)(h:∀ j,j < k->¬ nI l j (l.getD j ⟨0,0⟩)≠0):tP l l 0=tP l (l.drop k) k:=by
 induction k with
 | zero=>rfl
 | succ k ih=>
  have:=h k (Nat.lt_succ_self k);rw[nV l k (by omega)] at this;rw[ih (by omega) (fun j hj=>h j (by omega)),Bs (by omega),if_neg this]
theorem Bz{l:List bI}{k:Nat}(hk:k < l.length)(h:¬ nI l k (l.getD k ⟨0,0⟩)≠0):bM l[k].s l[k].n=0/\¬ (0 < k/\gY (l[k-1]'(by omega)) l[k]=true)/\((l.take k).any fun q=>fJ q l[k])=false:=by
 rw[nV l k hk,J9 hk] at h;by_cases h1:bM l[k].s l[k].n≠0
 ·rw[if_pos h1] at h;exact absurd (by decide) h
 ·rw[if_neg h1] at h;by_cases h2:0 < k/\gY (l[k-1]'(by omega)) l[k]=true
  ·rw[if_pos h2] at h;exact absurd (by decide) h
  ·rw[if_neg h2] at h;cases h3:(l.take k).any fun q=>fJ q l[k]
   ·exact⟨by omega,h2,rfl⟩
   ·rw[h3] at h;exact absurd (by decide) h
theorem aEK(l:List bI):EV G (Tb B) 183 [iW l] []=some (.tup [.one (.dc (ci (Uu l).1)),.one (.dc (ci (Uu l).2))],[]):=by
 refine aB rfl ?_;by_cases hl:(l.length:Int) > 64
 ·simp only[Uu,if_pos hl];simp (disch:=omega) only[go_sem,h183c,aQb]
 ·simp only[Uu,if_neg hl];simp (disch:=omega) only[go_sem,h183c,aQb];rw[gA (fun k=>⟨(iW l::jk 3 (vi k::jk 38 [])),[]⟩) (fun k=>nI l k (l.getD k ⟨0,0⟩)≠0) l.length ?_ ?_]
  rotate_left
  ·rfl
  ·intro k hk hn;obtain⟨h1,h2,h3⟩:=Bz hk (hn k (aQf _));have hbd:∀ (j:Nat) q,j<=k->l[j]?=some q->-9223372036854775808<=q.s+q.n/\q.s+q.n<=9223372036854775807:=fun j q hj hq=>by
    have hlt:j < l.length:=by omega
    have:=Ex (Bz hlt (hn j hj)).1;rw[aQi hlt] at hq;injection hq with hq;rwa[hq] at this
   have hD:=Ey (G:=G) (B:=B) l k hk (by omega) hbd;rw[h3] at hD;by_cases h0:0 < k
   ·have hj:gY (l[k-1]'(by omega)) l[k]=false:=by simpa[h0] using h2
    have hb2:=hbd (k-1) (l[k-1]'(by omega)) (by omega) (aQi _);simp (disch:=omega) only[go_sem,h183l0,aQb,bI.e,sN,h1,Gw,hj,hD]
   ·simp (disch:=omega) only[go_sem,h183l0,aQb,bI.e,sN,h1,hD]
  obtain⟨hk,hp,hn⟩:=bW (fun k=>nI l k (l.getD k ⟨0,0⟩)≠0) l.length
  generalize ix (fun k=>nI l k (l.getD k ⟨0,0⟩)≠0) l.length=k at *
  have hrg:∀ (j:Nat) r,j < k->l[j]?=some r->bM r.s r.n=0:=fun j r hj hr=>by
   have hlt:j < l.length:=by omega
   have:=(Bz hlt (hn j hj)).1;rw[aQi hlt] at hr;injection hr with hr;rwa[hr] at this
  rw[aAx l k hk hn];rcases hp with rfl | ⟨hk',hp⟩
  ·have hr:=aAo hrg;have hw:gZ l=dH l:=zX l (fun r hm=>by have:=aAp (hr r hm);omega) (by
    have:=(aMp (l:=l) (k:=l.length) (by omega) hr).2;rw[Ka] at this;omega)
   rw[List.drop_length,tP];by_cases h4:dH l > 4096
   all_goals simp (disch:=omega) only[go_sem,h183l0,aQb,vV,hw]
  ·rw[nV l k hk'] at hp;rw[Bs hk',if_pos hp];rw[J9 hk'] at hp ⊢;by_cases h1:bM l[k].s l[k].n=0
   ·have hbd:∀ (j:Nat) q,j<=k->l[j]?=some q->-9223372036854775808<=q.s+q.n/\q.s+q.n<=9223372036854775807:=fun j q hj hq=>by
     by_cases he:j=k
     ·subst he;rw[aQi hk'] at hq;injection hq with hq;rw[<- hq];exact Ex h1
     ·exact Ex (hrg j q (by omega) hq)
    have hD:=Ey (G:=G) (B:=B) l k hk' (by omega) hbd;by_cases h2:0 < k/\gY (l[k-1]'(by omega)) l[k]=true
    ·have hb2:=hbd (k-1) (l[k-1]'(by omega)) (by omega) (aQi _);simp (disch:=omega) only[go_sem,h183l0,aQb,bI.e,sN,h1,Gw,h2]
    ·have h3:((l.take k).any fun q=>fJ q l[k])=true:=by
      simp only[h1,ne_eq,not_true_eq_false,if_false,if_neg h2] at hp;cases h:(l.take k).any fun q=>fJ q l[k]
      ·rw[h] at hp;simp at hp
      ·rfl
     rw[h3] at hD;by_cases h0:0 < k
     ·have hj:gY (l[k-1]'(by omega)) l[k]=false:=by simpa[h0] using h2
      have hb2:=hbd (k-1) (l[k-1]'(by omega)) (by omega) (aQi _);simp (disch:=omega) only[go_sem,h183l0,aQb,bI.e,sN,h1,Gw,hj,hD,h3]
     ·simp (disch:=omega) only[go_sem,h183l0,aQb,bI.e,sN,h1,hD,h3]
   ·simp (disch:=omega) only[go_sem,h183l0,aQb,bI.e,sN]
theorem aAy(l:List bI):EV G (Tb B) 139 [iW l] []=some (vi (mU l).2,[]):=by
 refine aB rfl ?_;simp (disch:=omega) only[go_sem,h139c,aEK,aIP]
end
section
variable {G:aH} {B:aW}
def tR(n:Int):List DC:=[.raw (.int .u8 n)]
def u8(n:Int):UInt8:=UInt8.ofNat n.toNat
def eG(l:List Int):ByteArray:=⟨(l.map u8).toArray⟩
abbrev sv(l:List Int):AV:=.one (.dc (.raw (.string (eG l))))
abbrev bl(l:List Int):List (List DC):=l.map tR
abbrev vu(n:Int):AV:=.one (.dc (.raw (.int .u8 n)))
def aM(l:List Int):Prop:=∀ b∈l,0<=b/\b<=255
theorem tZ(l:List Int):fH (l.map tR)=some (l.map u8):=by
 induction l with
 | nil=>rfl
 | cons b l ih=>simp only[aQo,tR,fH,u8] at ih ⊢;rw[ih];rfl
theorem jJ(b:Int)(h:0<=b/\b<=255):((u8 b).toNat:Int)=b:=by
 simp only[u8,UInt8.toNat_ofNat'];omega
theorem aF:(⟨#[]⟩:ByteArray)=eG []:=rfl
theorem aL(l:List Int):(eG l).size=l.length:=by simp[eG,ByteArray.size]
theorem zZ(a b:List Int):eG a++eG b=eG (a++b):=by
 apply ByteArray.ext;simp[eG,ByteArray.data_append]
theorem Gx(l:List Int)(a b:Nat):(eG l).extract a b=eG ((l.take b).drop a):=by
 apply ByteArray.ext;simp[eG,ByteArray.data_extract,List.drop_take]
theorem Q3(s:ByteArray):∃ l,aM l/\s=eG l:=by
 refine⟨s.data.toList.map fun b=>(b.toNat:Int),fun b hb=>?_, ?_⟩
 ·obtain⟨x,_,rfl⟩:=List.mem_map.1 hb;have:=x.toNat_lt;omega
 ·apply ByteArray.ext;apply Array.ext';simp[eG,u8,Function.comp_def]
theorem cW{a b:List Int}(ha:aM a)(hb:aM b):(eG a=eG b)=(a=b):=by
 apply propext;refine⟨fun h=>?_,fun h=>by rw[h]⟩
 have h1:a.map u8=b.map u8:=by
  have:=congrArg (fun s:ByteArray=>s.data.toList) h
  simpa[eG] using this
 have h2:a.length=b.length:=by simpa using congrArg List.length h1
 refine List.ext_getElem h2 (fun i p q=>?_)
 have h3:u8 a[i]=u8 b[i]:=by
  have:=congrArg (fun l=>l[i]?) h1
  simpa[p,q] using this
 rw[<- jJ _ (ha _ (aQm p)),<- jJ _ (hb _ (aQm q)),h3]
theorem aGA(l:List Int)(hl:aM l)(i:Int)(h:0<=i/\i < l.length):Dn (sv l) i=some (vu (l.getD i.toNat 0)):=by
 have h1:i.toNat < l.length:=by omega
 have h2:(eG l).data.toList[i.toNat]?=some (u8 l[i.toNat]):=by simp[eG,h1]
 have h3:l.getD i.toNat 0=l[i.toNat]:=by simp[aQl,h1]
 simp only[Dn,cS,if_pos h.1,h2,cX,jJ _ (hl _ (aQm h1)),h3]
theorem aAz(hp:List aC)(l:List Int):mF hp (vl (bl l))=some (sv l):=by
 simp only[mF,tZ,aQg];rfl
theorem aAA(l:List Int):(⟨(l.map u8).toArray⟩:ByteArray)=eG l:=rfl
attribute [go_sem 2000] aAz
theorem Kg(l:List Int):(eG l).data.toList=l.map u8:=by simp[eG]
attribute [go_sem] tZ aAA Option.map_none Kg Gx jJ aRx aQR List.getElem?_nil List.getElem_cons_zero List.getElem_cons_succ
attribute [go_sem] aL zZ
def sz(n:Int):Int:=if -128<=n/\n<=127 then 1 else 2
def aEL:Nat->Int
 | 0=>1
 | _=>2
theorem aAB:aEL 0=1:=rfl
theorem aAC:aEL 1=2:=rfl
theorem aIT:min 7 64=7:=rfl
theorem aEM:min 15 64=15:=rfl
theorem aIU:min 8 64=8:=rfl
theorem aEN:min 16 64=16:=rfl
theorem aIV:min 4 64=4:=rfl
theorem Gy:IntKind.i64.bits=64:=rfl
attribute [go_sem] aIT aEM aIU aEN aIV Gy
theorem pE(n:Int)(h:-32768<=n/\n<=32767):EV G (Tb B) 213 [vi n] []=some (vi (sz n),[]):=by
 refine aB rfl ?_;by_cases c:-128<=n/\n<=127
 ·rw[sz,if_pos c];simp (disch:=omega) only[go_sem,h213c];rw[bG (fun k=>⟨(vi n::jk 2 (vi (aEL k)::jk 15 [])),[]⟩) 0 ?_ ?_]
  rotate_left
  ·rfl
  ·exact fun k hk=>absurd hk (by omega)
  simp (disch:=omega) only[go_sem,h213l0,iX,aAB,Int.reduceMul,Int.reduceSub,Int.reduceToNat,Int.reducePow,Nat.reducePow,Int.reduceNeg]
 ·rw[sz,if_neg c];simp (disch:=omega) only[go_sem,h213c];rw[bG (fun k=>⟨(vi n::jk 2 (vi (aEL k)::jk 15 [])),[]⟩) 1 ?_ ?_]
  rotate_left
  ·rfl
  rotate_left
  ·simp (disch:=omega) only[go_sem,h213l0,iX,aAC,Int.reduceMul,Int.reduceSub,Int.reduceToNat,Int.reducePow,Nat.reducePow,Int.reduceNeg]
  ·intro k hk;have hk0:k=0:=by omega
   subst hk0;simp (disch:=omega) only[go_sem,h213l0,iX,aAB,aAC,Int.reduceMul,Int.reduceSub,Int.reduceToNat,Int.reducePow,Nat.reducePow,Int.reduceNeg,Int.reduceAdd]
def B0(n:Int):Nat->Int
 | 0=>n
 | k+1=>B0 n k / 256
def bU(n:Int):Nat->List Int
 | 0=>[]
 | k+1=>bU n k++[B0 n k % 256]
theorem aA(n:Int)(k:Nat):(bU n k).length=k:=by
 induction k with
 | zero=>rfl
 | succ k ih=>simp[bU,ih]
theorem B1(n:Int)(k:Nat):(bU n k).take k=bU n k:=aQM (by rw[aA];omega)
theorem cV(n:Int)(k:Nat):aM (bU n k):=by
 induction k with
 | zero=>intro b hb;cases hb
 | succ k ih=>
  intro b hb;rcases List.mem_append.1 hb with h | h
  ·exact ih b h
  ·have:=List.mem_singleton.1 h;omega
theorem vW(l:List Int)(b:Int):l.map tR++[[.raw (.int .u8 b)]]=(l++[b]).map tR:=by simp[tR]
theorem aAD(a b:List Int):a.map tR++b.map tR=(a++b).map tR:=aQL.symm
theorem aIW(l:List Int):fZ 1 (l.map tR)=true:=iV (f:=tR) (fun _=>rfl) l
theorem wu8(n:Int):IntKind.u8.wrap n=n % 256:=by rw[IntKind.wrap_u8]
theorem aIX(n:Int)(h:0<=n/\n<=255):IntKind.u8.wrap n=n:=by rw[IntKind.wrap_u8];omega
theorem Aa(n:Int):n.fdiv 256=n / 256:=Int.fdiv_eq_ediv_of_nonneg _ (by decide)
attribute [go_sem] aIW
theorem Nj(n:Int)(h:-9223372036854775808<=n/\n<=9223372036854775807)(k:Nat):-9223372036854775808<=B0 n k/\B0 n k<=9223372036854775807:=by
 induction k with
 | zero=>exact h
 | succ k ih=>simp only[B0];omega
theorem B2(n:Int)(k:Nat)(hk:k<=1000):EV G (Tb B) 215 [vi n,vi k] []=some (vl (bl (bU n k)),[]):=by
 refine aB rfl ?_;simp (disch:=omega) only[go_sem,h215c];rw[bG (fun j=>⟨(vi (B0 n j)::jk 4 (.one (.bld 0 j)::vi k::vi j::jk 10 [])),[.arr 0 1 (bl (bU n j))]⟩) k ?_ ?_]
 ·have h1:=aA n k;simp (disch:=omega) only[go_sem,h215l0,aQb,aA,iE];simp only[aQM (show (bU n k).length<=k by omega),<- aQY]
 ·rfl
 ·intro j hj;have h1:=aA n j;simp (disch:=omega) only[go_sem,h215l0,aQb,aA,wu8,Int.reduceToNat,Int.reducePow,Aa,<- aQY,B1,vW,B0,bU]
def lV(last:Int)(r:bI):List Int:=
 if r.s=-1 then sz r.n::bU r.n (sz r.n).toNat else (16 * sz (r.s - last)+sz r.n)::(bU r.n (sz r.n).toNat++bU (r.s - last) (sz (r.s - last)).toNat)
def est(s:List Int × Int)(r:bI):List Int × Int:=(s.1++lV s.2 r,if r.s=-1 then s.2 else r.s)
def qB(l:List bI)(k:Nat):List Int × Int:=(l.take k).foldl est ([],0)
def iJ(l:List bI):List Int × Int:=l.foldl est ([],0)
def xI(l:List bI):List Int × Int:=if vQ [l]≠0 then ([],vQ [l]) else ((iJ l).1++[0],0)
theorem xJ(l:List bI)(k:Nat)(h:k < l.length):qB l (k+1)=est (qB l k) l[k]:=by
 rw[qB,aRb h,List.foldl_append];rfl
theorem vX(l:List bI):qB l l.length=iJ l:=by rw[qB,aQR];rfl
theorem qJ(n:Int):sz n=1\/sz n=2:=by unfold sz;split<;>simp
theorem aAE(a:Int)(r:bI):(lV a r).length<=5:=by
 have h1:=qJ r.n;have h2:=qJ (r.s - a);unfold lV;split
 ·simp only[aQd,aA];omega
 ·simp only[aQd,aQc,aA];omega
theorem U2(a:Int)(r:bI):aM (lV a r):=by
 have h1:=qJ r.n;have h2:=qJ (r.s - a);intro b hb;unfold lV at hb;split at hb
 ·rcases List.mem_cons.1 hb with h | h
  ·omega
  ·exact cV _ _ b h
 ·rcases List.mem_cons.1 hb with h | h
  ·omega
  ·rcases List.mem_append.1 h with h | h
   ·exact cV _ _ b h
   ·exact cV _ _ b h
theorem sO(l:List bI)(h:∀ r∈l,-1<=r.s/\r.s<=511):∀ k,k<=l.length->(qB l k).1.length<=5 * k/\(0<=(qB l k).2/\(qB l k).2<=511)/\aM (qB l k).1:=by
 intro k
 induction k with
 | zero=>intro _;exact⟨by simp[qB],by simp[qB],by intro b hb;cases hb⟩
 | succ k ih=>
  intro hk;obtain⟨h1,h2,h3⟩:=ih (by omega);have h4:=h _ (aQm (show k < l.length by omega));rw[xJ l k (by omega)];refine⟨?_, ?_, ?_⟩
  ·simp only[est,aQc];have:=aAE (qB l k).2 l[k];omega
  ·simp only[est];split<;>omega
  ·intro b hb;rcases List.mem_append.1 hb with hb | hb
   ·exact h3 b hb
   ·exact U2 _ _ b hb
theorem aO3(a b:Int)(ha:a=1\/a=2)(hb:b=1\/b=2):Wd .i64 (a * 16) b=16 * a+b:=by
 rcases ha with rfl | rfl<;>rcases hb with rfl | rfl<;>decide
theorem or0(b:Int)(hb:b=1\/b=2):Wd .i64 0 b=b:=by
 rcases hb with rfl | rfl<;>decide
theorem Ab{l:List bI}(h:(mU l).2=0):∀ r∈l,(-1<=r.s/\r.s<=511)/\1<=r.n/\r.n<=4096:=by
 intro r hr;rcases kD (Bt h r hr) with h1 | ⟨s,n,h1⟩<;>omega
set_option maxHeartbeats 1000000 in
theorem aAF(l:List bI):EV G (Tb B) 176 [iW l] []=some (.tup [.one (.dc (.raw (.string (eG (xI l).1)))),.one (.dc (ci (xI l).2))],[]):=by
 refine aB rfl ?_;unfold xI;by_cases c:vQ [l]=0
 ·have hc:(mU l).2=0:=by rw[Ke] at c;exact c
  have hr:=Ab hc;have hlen:=mL hc;simp (disch:=omega) only[go_sem,h176c,zY,c,aQb];rw[bG (fun k=>⟨(jk 5 (.one (.bld 0 (qB l k).1.length)::vi (qB l k).2::jk 10 (iW l::vi l.length::vi k::jk 46 []))),[.arr 0 1 (bl (qB l k).1)]⟩) l.length ?_ ?_]
  ·have hk:=sO l (fun r hr'=>(hr r hr').1) l.length (aQf _)
   rw[vX] at hk ⊢;have hz:List.take ((iJ l).1.length+1) (((iJ l).1++[0]).map tR)=((iJ l).1++[0]).map tR:=aQM (by simp);simp (disch:=omega) only[go_sem,h176l0,aQb,aQc,vW,hz]
  ·rfl
  ·intro k hk;obtain⟨g1,g2,g3⟩:=sO l (fun r hr'=>(hr r hr').1) k (by omega)
   have h4:=hr _ (aQm hk);rw[xJ l k hk];generalize qB l k=s at g1 g2 g3 ⊢;obtain⟨o,a⟩:=s;simp only at g1 g2 g3;simp only[est,lV];have z1:=qJ l[k].n;have s1:=pE (G:=G) (B:=B) l[k].n (by omega);by_cases c1:l[k].s=-1
   ·have s2:=B2 (G:=G) (B:=B) l[k].n (sz l[k].n).toNat (by omega);rw[show (((sz l[k].n).toNat:Nat):Int)=sz l[k].n by omega] at s2;have o1:=or0 (sz l[k].n) z1;have t1 (x:Int):List.take (o.length+1) ((o++[x]).map tR)=(o++[x]).map tR:=aQM (by simp);have e1:o.length+1+(sz l[k].n).toNat=o.length+((sz l[k].n).toNat+1):=by omega
    simp (disch:=omega) only[go_sem,h176l0,aQb,bI.e,iY,c1,s1,s2,Int.reduceToNat,Int.reducePow,Int.reduceMul,o1,aIX,vW,aAD,aA,aQc,t1,e1,aQs]
   ·have z2:=qJ (l[k].s - a);have s2:=B2 (G:=G) (B:=B) l[k].n (sz l[k].n).toNat (by omega);rw[show (((sz l[k].n).toNat:Nat):Int)=sz l[k].n by omega] at s2;have s3:=pE (G:=G) (B:=B) (l[k].s - a) (by omega);have s4:=B2 (G:=G) (B:=B) (l[k].s - a) (sz (l[k].s - a)).toNat (by omega);rw[show (((sz (l[k].s - a)).toNat:Nat):Int)=sz (l[k].s - a) by omega] at s4;have o1:=aO3 (sz (l[k].s - a)) (sz l[k].n) z2 z1;have t1 (x:Int):List.take (o.length+1) ((o++[x]).map tR)=(o++[x]).map tR:=aQM (by simp);have t2 (x:Int):List.take (o.length+1+(sz l[k].n).toNat) ((o++x::bU l[k].n (sz l[k].n).toNat).map tR)=(o++x::bU l[k].n (sz l[k].n).toNat).map tR:=aQM (by simp[aA];omega);have e1:o.length+1+(sz l[k].n).toNat+(sz (l[k].s - a)).toNat=o.length+((sz l[k].n).toNat+(sz (l[k].s - a)).toNat+1):=by omega
    simp (disch:=omega) only[go_sem,h176l0,aQb,bI.e,iY,c1,s1,s2,s3,s4,Int.reduceToNat,Int.reducePow,Int.reduceMul,o1,aIX,vW,aAD,aA,aQc,t1,t2,e1,aQs]
 ·simp (disch:=omega) only[go_sem,h176c,zY,c,aF]
theorem mM(a b:Int)(h:0<=a):a.tmod b=a % b:=aRJ h
theorem lQ(a b:Int)(h:0<=a):a.tdiv b=a / b:=Int.tdiv_eq_ediv_of_nonneg h
theorem aIY(n:Int)(h:0<=n)(k:Nat):0<=B0 n k:=by
 induction k with
 | zero=>exact h
 | succ k ih=>simp only[B0];omega
theorem nJ(n:Int)(k:Nat)(hn:0<=n/\n<=9223372036854775807)(hk:k<=1000):EV G (Tb B) 90 [vi n,vi k] []=some (sv (bU n k),[]):=by
 refine aB rfl ?_;simp (disch:=omega) only[go_sem,h90c];rw[bG (fun j=>⟨(vi (B0 n j)::vi k::jk 3 (.one (.bld 0 j)::vi j::jk 15 [])),[.arr 0 1 (bl (bU n j))]⟩) k ?_ ?_]
 ·have h1:=aA n k;simp (disch:=omega) only[go_sem,h90l0,aQb,aA,<- aQY,B1]
 ·rfl
 ·intro j hj;have h1:=aA n j;have h2:=aIY n hn.1 j;have h3:=Nj n (by omega) j;simp (disch:=omega) only[go_sem,h90l0,aQb,aA,mM,lQ,aIX,<- aQY,B1,vW,B0,bU]
theorem aMv(n m:Int)(hm:0 < m):n % m=if n.tmod m < 0 then n.tmod m+m else n.tmod m:=by
 have h1:=Int.emod_nonneg n (show m≠0 by omega);have h2:=Int.emod_lt_of_pos n hm;have h3:=Int.tmod_eq_emod (a:=n) (b:=m);split at h3
 ·rw[if_neg (by omega)];omega
 ·rw[if_pos (by omega)];omega
theorem Kh(n m:Int)(hm:0 < m/\m<=4611686018427387904):EV G (Tb B) 45 [vi n,vi m] []=some (vi (n % m),[]):=by
 refine aB rfl ?_;have h1:=Int.emod_nonneg n (show m≠0 by omega);have h2:=Int.emod_lt_of_pos n hm.1;have h3:=aMv n m hm.1;by_cases c:n.tmod m < 0
 ·rw[if_pos c] at h3;simp (disch:=omega) only[go_sem,h45c,h3]
 ·rw[if_neg c] at h3;simp (disch:=omega) only[go_sem,h45c,h3]
theorem mW(n:Int)(h:-32768<=n/\n<=32767):EV G (Tb B) 140 [vi n] []=some (sv (bU n (sz n).toNat),[]):=by
 refine aB rfl ?_;by_cases c:-128<=n/\n<=127
 ·have h1:=nJ (G:=G) (B:=B) (n % 256) 1 (by omega) (by omega);have h2:bU (n % 256) 1=bU n 1:=by simp[bU,B0]
  rw[show sz n=1 by simp[sz,c],show (1:Int).toNat=1 from rfl]
  rw[h2,Int.natCast_one] at h1;simp (disch:=omega) only[go_sem,h140c,bQ,Kh,h1]
 ·have h1:=nJ (G:=G) (B:=B) (n % 65536) 2 (by omega) (by omega);have a1:n % 65536 % 256=n % 256:=by omega
  have a2:n % 65536 / 256 % 256=n / 256 % 256:=by omega
  have h2:bU (n % 65536) 2=bU n 2:=by simp only[bU,B0,a1,a2]
  rw[show sz n=2 by simp[sz,c],show (2:Int).toNat=2 from rfl]
  rw[h2,show ((2:Nat):Int)=2 from rfl] at h1
  simp (disch:=omega) only[go_sem,h140c,bQ,Kh,h1]
theorem Kj(k:Nat):fH (List.replicate k [DC.raw (.int .u8 0)])=some (List.replicate k (u8 0)):=by
 have:=tZ (List.replicate k 0);simpa[tR] using this
theorem aMw(k:Nat):(⟨(List.replicate k (u8 0)).toArray⟩:ByteArray)=eG (List.replicate k 0):=by simp[eG]
theorem Gz(n:Int)(h:0<=n/\n<=200000):EV G (Tb B) 93 [vi n] []=some (sv (List.replicate n.toNat 0),[]):=by
 refine aB rfl ?_;have e:(if n > 0 then n else 0)=n:=by split<;>omega
 simp (disch:=omega) only[go_sem,h93c,Kj,aMw,e,aQk,List.take_replicate,Nat.min_self]
theorem aIZ{a b:List Int}(h:a.length+b.length<=9223372036854775807):eK .add (sv a) (sv b)=some (sv (a++b)):=by
 rw[vN (by rw[aL,aL];exact h),zZ]
attribute [go_sem 2000] aIZ
set_option maxHeartbeats 1000000 in
theorem Ez(l:List bI)(hc:(mU l).2=0):EV G (Tb B) 88 [iW l] []=some (sv ((iJ l).1++[0]),[]):=by
 refine aB rfl ?_;have hr:=Ab hc;have hlen:=mL hc;simp (disch:=omega) only[go_sem,h88c,aF];rw[bG (fun k=>⟨(iW l::jk 2 (sv (qB l k).1::vi (qB l k).2::vi k::jk 56 [])),[]⟩) l.length ?_ ?_]
 ·have hk:=sO l (fun r hr'=>(hr r hr').1) l.length (aQf _)
  rw[vX] at hk ⊢;simp (disch:=first | omega | (simp only[aQc,aQd,aQe,aQb,aA];omega)) only[go_sem,h88l0,aQb,Gz,Int.reduceToNat,List.replicate_succ,List.replicate_zero]
 ·rfl
 ·intro k hk;obtain⟨g1,g2,g3⟩:=sO l (fun r hr'=>(hr r hr').1) k (by omega)
  have h4:=hr _ (aQm hk);rw[xJ l k hk];generalize qB l k=s at g1 g2 g3 ⊢;obtain⟨o,a⟩:=s;simp only at g1 g2 g3;simp only[est,lV];have z1:=qJ l[k].n;have s1:=mW (G:=G) (B:=B) l[k].n (by omega);have q1:(((sz l[k].n).toNat:Nat):Int)=sz l[k].n:=by omega
  by_cases c1:l[k].s=-1
  ·have s2:=nJ (G:=G) (B:=B) (sz l[k].n) 1 (by omega) (by omega);rw[show bU (sz l[k].n) 1=[sz l[k].n] by simp[bU,B0];omega,Int.natCast_one] at s2;simp (disch:=first | omega | (simp only[aQc,aQd,aQe,aQb,aA];omega)) only[go_sem,h88l0,aQb,aQw,bI.e,c1,s1,s2,aA,q1,aQs]
  ·have z2:=qJ (l[k].s - a);have s3:=mW (G:=G) (B:=B) (l[k].s - a) (by omega);have s2:=nJ (G:=G) (B:=B) (sz l[k].n+16 * sz (l[k].s - a)) 1 (by omega) (by omega);have q2:(((sz (l[k].s - a)).toNat:Nat):Int)=sz (l[k].s - a):=by omega
   rw[show bU (sz l[k].n+16 * sz (l[k].s - a)) 1=[16 * sz (l[k].s - a)+sz l[k].n] by simp[bU,B0];omega,Int.natCast_one] at s2;simp (disch:=first | omega | (simp only[aQc,aQd,aQe,aQb,aA];omega)) only[go_sem,h88l0,aQb,aQw,bI.e,c1,s1,s2,s3,aA,q1,q2,aQs]
end
section
variable {G:aH} {B:aW}
theorem Nk(l:List bI)(hl:l.length<=1000000):EV G (Tb B) 76 [iW l] []=some (.one (.bld 0 l.length),[.arr 0 2 (l.map bI.e)]):=by
 refine aB rfl ?_;simp (disch:=omega) only[go_sem,h76c,aQb,aRq]
theorem Nl(a b:List bI)(hl:a.length<=1000000):EV G (Tb B) 83 [iW a,iW b] []=some (vb (decide (a=b)),[]):=by
 refine aB rfl ?_;by_cases h:(a.length:Int)=b.length
 ·simp (disch:=omega) only[go_sem,h83c,aQb,h];have h:a.length=b.length:=by omega
  rw[gA (fun k=>⟨(iW a::iW b::jk 3 (vi k::jk 20 [])),[]⟩) (fun k=>a.getD k ⟨0,0⟩≠b.getD k ⟨0,0⟩) a.length ?_ ?_]
  rotate_left
  ·rfl
  ·intro k hk hn;have h1:=hn k (aQf _);rw[nV a k hk,nV b k (by omega),Classical.not_not,aAq] at h1;simp (disch:=omega) only[go_sem,h83l0,aQb,bI.e]
  obtain⟨hk,hp,hn⟩:=bW (fun k=>a.getD k ⟨0,0⟩≠b.getD k ⟨0,0⟩) a.length
  generalize ix (fun k=>a.getD k ⟨0,0⟩≠b.getD k ⟨0,0⟩) a.length=k at *
  rcases hp with hp | ⟨hk',hp⟩
  ·have hz:a=b:=List.ext_getElem h (fun i h1 h2=>by
    have:=hn i (by omega);rwa[nV a i h1,nV b i h2,Classical.not_not] at this)
   simp (disch:=omega) only[go_sem,h83l0,aQb];simp[hz]
  ·rw[nV a k hk',nV b k (by omega)] at hp;have hz:¬ a=b:=fun e=>by subst e;exact hp rfl
   rw[ne_eq,aAq] at hp;simp (disch:=omega) only[go_sem,h83l0,aQb,bI.e];simp[hz]
 ·simp (disch:=omega) only[go_sem,h83c,aQb];have:¬ a=b:=fun e=>h (by rw[e])
  simp[this]
theorem aGB(l:List Int)(c:Int)(hl:l.length<=1000000):EV G (Tb B) 136 [vl (el l),vi c] []=some (vb (decide (c∈l)),[]):=by
 refine aB rfl ?_;simp (disch:=omega) only[go_sem,h136c,aQb];rw[gA (fun k=>⟨(vl (el l)::vi c::jk 3 (vi k::jk 12 [])),[]⟩) (fun k=>l.getD k 0=c) l.length ?_ ?_]
 rotate_left
 ·rfl
 ·intro k hk hn;have h1:=hn k (aQf _);rw[eY l k hk] at h1;simp (disch:=omega) only[go_sem,h136l0,aQb,Qu]
 obtain⟨hk,hp,hn⟩:=bW (fun k=>l.getD k 0=c) l.length
 generalize ix (fun k=>l.getD k 0=c) l.length=k at *
 rcases hp with rfl | ⟨hk',hp⟩
 ·have hz:¬ c∈l:=fun hc=>by
   obtain⟨j,hj,rfl⟩:=List.mem_iff_getElem.1 hc;exact hn j hj (eY l j hj)
  simp (disch:=omega) only[go_sem,h136l0,aQb];simp[hz]
 ·rw[eY l k hk'] at hp;have hz:c∈l:=by rw[<- hp];exact aQm hk'
  simp (disch:=omega) only[go_sem,h136l0,aQb,Qu];simp[hz]
end
end Go.Proofs.YtcplecjhmnblpaaGreatDoor
