/- Attributes; small contracts of chapter 8. Conditions: none. -/
import Derived.Test.YthepfneloomngaaGreatDoorVf
import Derived.Test.YthepfneloomngaaGreatDoorTa
namespace Go.Proofs.YthepfneloomngaaGreatDoor
set_option linter.unusedSimpArgs false
set_option linter.unusedVariables false
set_option maxRecDepth 4000
section
variable {G:aE}{B:aO}
end
section
variable {G:aE}{B:aO}
theorem cB(n lo hi:Int):EV G (Tb B) 19 [vi n,vi lo,vi hi] []=some (vb (decide (lo<=n/\n<=hi)),[]):=by
 refine aA rfl ?_;by_cases h:lo<=n;all_goals simp (disch:=omega) only[go_sem,h19c]
 all_goals simp[h]
theorem uK(s n:Int):EV G (Tb B) 332 [rn s n] []=some (vb (decide (bO s n=0)),[]):=by
 refine aA rfl ?_;by_cases h1:s=-1
 ·by_cases h2:1<=n/\n<=4096;all_goals simp (disch:=omega) only[go_sem,h332c,cB,bO]
  all_goals simp[h2]
 by_cases h2:0<=s/\s<=511
 ·by_cases h3:1<=n/\n<=512-s;all_goals simp (disch:=omega) only[go_sem,h332c,cB,bO]
  all_goals simp[h3]
 simp (disch:=omega) only[go_sem,h332c,cB,bO];simp
theorem Nb(q r:aY)(h:-9223372036854775808<=q.s+q.n/\q.s+q.n<=9223372036854775807):EV G (Tb B) 166 [q.v,r.v] []=some (vb (iC q r),[]):=by
 refine aA rfl ?_;unfold iC;by_cases h1:q.s=-1;all_goals by_cases h2:r.s=-1
 all_goals simp (disch:=omega) only[go_sem,h166c]
 all_goals simp[h1,h2,eq_comm]
theorem Q1(q r:aY)(h:-9223372036854775808<=q.s+q.n/\q.s+q.n<=9223372036854775807)(h':-9223372036854775808<=r.s+r.n/\r.s+r.n<=9223372036854775807):EV G (Tb B) 345 [q.v,r.v] []=some (vb (fJ q r),[]):=by
 refine aA rfl ?_;unfold fJ;by_cases h1:q.s=-1;simp (disch:=omega) only[go_sem,h345c];simp[h1];by_cases h2:r.s=-1;simp (disch:=omega) only[go_sem,h345c];simp[h1,h2]
 ·by_cases h3:q.s<r.s+r.n;all_goals simp (disch:=omega) only[go_sem,h345c]
  all_goals simp[h1,h2,h3,(by simpa using h1:(q.s != -1)=true),(by simpa using h2:(r.s != -1)=true)]
theorem H5(l:List aY)(hl:l.length<=1000000):EV G (Tb B) 112 [eB l] []=some (vi (iF l),[]):=by
 refine aA rfl ?_;simp (disch:=omega) only[go_sem,h112c,aXC];rw[aR (fun k=>⟨(eB l::jk 2 (vi (iF (l.take k))::vi k::jk 14 [])),[]⟩) l.length ?_ ?_]
 simp (disch:=omega) only[go_sem,h112l0,aXC,aYh];rfl;intro k hk;rw[De l k hk];simp (disch:=omega) only[go_sem,h112l0,aXC,aY.e]
theorem K9(l:List aY)(i:Nat)(hi:i<l.length)(hl:l.length<=100000)(hb:∀(j:Nat) q,j<=i->l[j]?=some q->-9223372036854775808<=q.s+q.n/\q.s+q.n<=9223372036854775807):
  EV G (Tb B) 333 [eB l,vi i] []=some (vb ((l.take i).any fun q=>fJ q l[i]),[]):=by
 refine aA rfl ?_;simp (disch:=omega) only[go_sem,h333c,aXC];have hbi:=hb i l[i] (aXF _) (aXJ hi);rw[gF (fun k=>⟨(eB l::vi i::jk 3 (vi k::jk 14 [])),[]⟩) (fun k=>fJ (l.getD k ⟨0,0⟩) l[i]=true) i ?_ ?_]
 rotate_left
 rfl;intro k hk hn;have h1:=hn k (aXF _);rw[pG l k (by omega)] at h1;have h1:fJ l[k] l[i]=false:=by simpa using h1
 have hbk:=hb k l[k] (by omega) (aXJ _);simp (disch:=omega) only[go_sem,h333l0,aXC,aY.e,Q1,h1];obtain⟨hk,hp,hn⟩:=bT (fun k=>fJ (l.getD k ⟨0,0⟩) l[i]=true) i
 generalize ix (fun k=>fJ (l.getD k ⟨0,0⟩) l[i]=true) i=k at *
 rcases hp with rfl|⟨hk',hp⟩
 have hz:((l.take k).any fun q=>fJ q l[k])=false:=by
  rw[aYW];intro q hq;obtain⟨j,hj,rfl⟩:=List.mem_iff_getElem.1 hq;have hj2:j < k:=by simp at hj;omega
  have:=hn j hj2;rw[pG l j (by omega)] at this;simpa using this
 simp (disch:=omega) only[go_sem,h333l0,aXC,hz]
 rw[pG l k (by omega)] at hp;have hz:((l.take i).any fun q=>fJ q l[i])=true:=by
  rw[List.any_eq_true];exact⟨l[k],List.mem_iff_getElem.2 ⟨k,by simp;omega,by simp⟩,hp⟩
 have hbk:=hb k l[k] (by omega) (aXJ _);simp (disch:=omega) only[go_sem,h333l0,aXC,aY.e,Q1,hp,hz]
theorem aEO(l:List aY)(k:Nat)(hk:k<=l.length)(h:∀j,j<k->¬ oF l j (l.getD j ⟨0,0⟩)≠0):zV l l 0=zV l (l.drop k) k:=by
 induction k with
 |zero=>rfl
 |succ k ih=>
  have:=h k (Nat.lt_succ_self k);rw[pG l k (by omega)] at this;rw[ih (by omega) (fun j hj=>h j (by omega)),Hw (by omega),if_neg this]
theorem H6{l:List aY}{k:Nat}(hk:k<l.length)(h:¬ oF l k (l.getD k ⟨0,0⟩)≠0):bO l[k].s l[k].n=0/\¬ (0<k/\iC (l[k-1]'(by omega)) l[k]=true)/\((l.take k).any fun q=>fJ q l[k])=false:=by
 rw[pG l k hk,Qv hk] at h;by_cases h1:bO l[k].s l[k].n≠0;rw[if_pos h1] at h;exact absurd (by decide) h;rw[if_neg h1] at h;by_cases h2:0<k/\iC (l[k-1]'(by omega)) l[k]=true;rw[if_pos h2] at h;exact absurd (by decide) h;rw[if_neg h2] at h;cases h3:(l.take k).any fun q=>fJ q l[k]
 exact⟨by omega,h2,rfl⟩;rw[h3] at h;exact absurd (by decide) h
theorem aJz(l:List aY):EV G (Tb B) 299 [eB l] []=some (.tup [.one (.dc (ci (aA9 l).1)),.one (.dc (ci (aA9 l).2))],[]):=by
 refine aA rfl ?_;by_cases hl:(l.length:Int) > 64;simp only[aA9,if_pos hl];simp (disch:=omega) only[go_sem,h299c,aXC]
 ·simp only[aA9,if_neg hl];simp (disch:=omega) only[go_sem,h299c,aXC];rw[gF (fun k=>⟨(eB l::jk 3 (vi k::jk 38 [])),[]⟩) (fun k=>oF l k (l.getD k ⟨0,0⟩)≠0) l.length ?_ ?_]
  rotate_left
  rfl
  intro k hk hn;obtain⟨h1,h2,h3⟩:=H6 hk (hn k (aXF _));have hbd:∀ (j:Nat) q,j<=k->l[j]?=some q->-9223372036854775808<=q.s+q.n/\q.s+q.n<=9223372036854775807:=fun j q hj hq=>by
   have hlt:j < l.length:=by omega
   have:=K7 (H6 hlt (hn j hj)).1;rw[aXJ hlt] at hq;injection hq with hq;rwa[hq] at this
  have hD:=K9 (G:=G) (B:=B) l k hk (by omega) hbd;rw[h3] at hD;by_cases h0:0<k;have hj:iC (l[k-1]'(by omega)) l[k]=false:=by simpa[h0] using h2
  have hb2:=hbd (k-1) (l[k-1]'(by omega)) (by omega) (aXJ _);simp (disch:=omega) only[go_sem,h299l0,aXC,aY.e,uK,h1,Nb,hj,hD];simp (disch:=omega) only[go_sem,h299l0,aXC,aY.e,uK,h1,hD];obtain⟨hk,hp,hn⟩:=bT (fun k=>oF l k (l.getD k ⟨0,0⟩)≠0) l.length
  generalize ix (fun k=>oF l k (l.getD k ⟨0,0⟩)≠0) l.length=k at *
  have hrg:∀ (j:Nat) r,j < k->l[j]?=some r->bO r.s r.n=0:=fun j r hj hr=>by
   have hlt:j < l.length:=by omega
   have:=(H6 hlt (hn j hj)).1;rw[aXJ hlt] at hr;injection hr with hr;rwa[hr] at this
  rw[aEO l k hk hn];rcases hp with rfl|⟨hk',hp⟩
  ·have hr:=aEE hrg;have hw:iF l=cA l:=Bs l (fun r hm=>by have:=aEF (hr r hm);omega) (by
    have:=(aS8 (l:=l) (k:=l.length) (by omega) hr).2;rw[Qw] at this;omega)
   rw[List.drop_length,zV];by_cases h4:cA l > 4096;all_goals simp (disch:=omega) only[go_sem,h299l0,aXC,H5,hw]
  rw[pG l k hk'] at hp;rw[Hw hk',if_pos hp];rw[Qv hk'] at hp ⊢;by_cases h1:bO l[k].s l[k].n=0
  have hbd:∀ (j:Nat) q,j<=k->l[j]?=some q->-9223372036854775808<=q.s+q.n/\q.s+q.n<=9223372036854775807:=fun j q hj hq=>by
   by_cases he:j=k
   ·subst he;rw[aXJ hk'] at hq;injection hq with hq;rw[<- hq];exact K7 h1
   ·exact K7 (hrg j q (by omega) hq)
  have hD:=K9 (G:=G) (B:=B) l k hk' (by omega) hbd;by_cases h2:0<k/\iC (l[k-1]'(by omega)) l[k]=true;have hb2:=hbd (k-1) (l[k-1]'(by omega)) (by omega) (aXJ _);simp (disch:=omega) only[go_sem,h299l0,aXC,aY.e,uK,h1,Nb,h2]
  have h3:((l.take k).any fun q=>fJ q l[k])=true:=by
   simp only[h1,ne_eq,not_true_eq_false,if_false,if_neg h2] at hp;cases h:(l.take k).any fun q=>fJ q l[k]
   ·rw[h] at hp;simp at hp
   ·rfl
  rw[h3] at hD;by_cases h0:0<k;have hj:iC (l[k-1]'(by omega)) l[k]=false:=by simpa[h0] using h2
  have hb2:=hbd (k-1) (l[k-1]'(by omega)) (by omega) (aXJ _);simp (disch:=omega) only[go_sem,h299l0,aXC,aY.e,uK,h1,Nb,hj,hD,h3];simp (disch:=omega) only[go_sem,h299l0,aXC,aY.e,uK,h1,hD,h3];simp (disch:=omega) only[go_sem,h299l0,aXC,aY.e,uK]
theorem aTf(l:List aY):EV G (Tb B) 255 [eB l] []=some (vi (nA l).2,[]):=by
 refine aA rfl ?_;simp (disch:=omega) only[go_sem,h255c,aJz,aOx]
end
section
variable {G:aE}{B:aO}
def uL(n:Int):List DC:=[.raw (.int .u8 n)]
def u8(n:Int):UInt8:=UInt8.ofNat n.toNat
def dL(l:List Int):ByteArray:=⟨(l.map u8).toArray⟩
abbrev sv(l:List Int):AV:=.one (.dc (.raw (.string (dL l))))
abbrev bl(l:List Int):List (List DC):=l.map uL
abbrev vu(n:Int):AV:=.one (.dc (.raw (.int .u8 n)))
def aM(l:List Int):Prop:=∀b∈l,0<=b/\b<=255
theorem Ak(l:List Int):fH (l.map uL)=some (l.map u8):=by
 induction l with
 |nil=>rfl
 |cons b l ih=>simp only[aXL,uL,fH,u8] at ih ⊢;rw[ih];rfl
theorem iW(b:Int)(h:0<=b/\b<=255):((u8 b).toNat:Int)=b:=by
 simp only[u8,UInt8.toNat_ofNat'];omega
theorem aL:(⟨#[]⟩:ByteArray)=dL []:=rfl
theorem aF(l:List Int):(dL l).size=l.length:=by simp[dL,ByteArray.size]
theorem Fw(a b:List Int):dL a++dL b=dL (a++b):=by
 apply ByteArray.ext;simp[dL,ByteArray.data_append]
theorem Nc(l:List Int)(a b:Nat):(dL l).extract a b=dL ((l.take b).drop a):=by
 apply ByteArray.ext;simp[dL,ByteArray.data_extract,List.drop_take]
theorem dR{a b:List Int}(ha:aM a)(hb:aM b):(dL a=dL b)=(a=b):=by
 apply propext;refine⟨fun h=>?_,fun h=>by rw[h]⟩
 have h1:a.map u8=b.map u8:=by
  have:=congrArg (fun s:ByteArray=>s.data.toList) h
  simpa[dL] using this
 have h2:a.length=b.length:=by simpa using congrArg List.length h1
 refine List.ext_getElem h2 (fun i p q=>?_)
 have h3:u8 a[i]=u8 b[i]:=by
  have:=congrArg (fun l=>l[i]?) h1
  simpa[p,q] using this
 rw[<- iW _ (ha _ (aXM p)),<- iW _ (hb _ (aXM q)),h3]
theorem aLY(l:List Int)(hl:aM l)(i:Int)(h:0<=i/\i<l.length):Gm (sv l) i=some (vu (l.getD i.toNat 0)):=by
 have h1:i.toNat<l.length:=by omega
 have h2:(dL l).data.toList[i.toNat]?=some (u8 l[i.toNat]):=by simp[dL,h1]
 have h3:l.getD i.toNat 0=l[i.toNat]:=by simp[aXN,h1]
 simp only[Gm,dB,if_pos h.1,h2,dG,iW _ (hl _ (aXM h1)),h3]
theorem aEP(hp:List aC)(l:List Int):mU hp (vl (bl l))=some (sv l):=by
 simp only[mU,Ak,aXG];rfl
theorem Q2(l:List Int):(⟨(l.map u8).toArray⟩:ByteArray)=dL l:=rfl
attribute [go_sem 2000] aEP
theorem Q3(l:List Int):(dL l).data.toList=l.map u8:=by simp[dL]
attribute [go_sem] Ak Q2 Option.map_none Q3 Nc iW aZb aYh List.getElem?_nil List.getElem_cons_zero List.getElem_cons_succ
attribute [go_sem] aF Fw
def sz(n:Int):Int:=if -128<=n/\n<=127 then 1 else 2
def aJA:Nat->Int
 |0=>1
 |_=>2
theorem aEQ:aJA 0=1:=rfl
theorem aER:aJA 1=2:=rfl
theorem aOB:min 7 64=7:=rfl
theorem aJB:min 15 64=15:=rfl
theorem aOC:min 8 64=8:=rfl
theorem aJC:min 16 64=16:=rfl
theorem aOD:min 4 64=4:=rfl
theorem H7:IntKind.i64.bits=64:=rfl
attribute [go_sem] aOB aJB aOC aJC aOD H7
theorem qB(n:Int)(h:-32768<=n/\n<=32767):EV G (Tb B) 316 [vi n] []=some (vi (sz n),[]):=by
 refine aA rfl ?_;by_cases c:-128<=n/\n<=127
 ·rw[sz,if_pos c];simp (disch:=omega) only[go_sem,h316c];rw[aR (fun k=>⟨(vi n::jk 2 (vi (aJA k)::jk 15 [])),[]⟩) 0 ?_ ?_]
  rotate_left
  rfl;exact fun k hk=>absurd hk (by omega)
  simp (disch:=omega) only[go_sem,h316l0,jG,aEQ,Int.reduceMul,Int.reduceSub,Int.reduceToNat,Int.reducePow,Nat.reducePow,Int.reduceNeg]
 ·rw[sz,if_neg c];simp (disch:=omega) only[go_sem,h316c];rw[aR (fun k=>⟨(vi n::jk 2 (vi (aJA k)::jk 15 [])),[]⟩) 1 ?_ ?_]
  rotate_left
  rfl
  rotate_left
  simp (disch:=omega) only[go_sem,h316l0,jG,aER,Int.reduceMul,Int.reduceSub,Int.reduceToNat,Int.reducePow,Nat.reducePow,Int.reduceNeg];intro k hk;have hk0:k=0:=by omega
  subst hk0;simp (disch:=omega) only[go_sem,h316l0,jG,aEQ,aER,Int.reduceMul,Int.reduceSub,Int.reduceToNat,Int.reducePow,Nat.reducePow,Int.reduceNeg,Int.reduceAdd]
def Ee(n:Int):Nat->Int
 |0=>n
 |k+1=>Ee n k / 256
def bK(n:Int):Nat->List Int
 |0=>[]
 |k+1=>bK n k++[Ee n k % 256]
theorem aB(n:Int)(k:Nat):(bK n k).length=k:=by
 induction k with
 |zero=>rfl
 |succ k ih=>simp[bK,ih]
theorem H8(n:Int)(k:Nat):(bK n k).take k=bK n k:=aYe (by rw[aB];omega)
theorem cM(n:Int)(k:Nat):aM (bK n k):=by
 induction k with
 |zero=>intro b hb;cases hb
 |succ k ih=>
  intro b hb;rcases aYV.1 hb with h|h
  exact ih b h;have:=List.mem_singleton.1 h;omega
theorem Bx(l:List Int)(b:Int):l.map uL++[[.raw (.int .u8 b)]]=(l++[b]).map uL:=by simp[uL]
theorem aES(a b:List Int):a.map uL++b.map uL=(a++b).map uL:=aYg.symm
theorem aOE(l:List Int):gE 1 (l.map uL)=true:=kJ (f:=uL) (fun _=>rfl) l
theorem wu8(n:Int):IntKind.u8.wrap n=n % 256:=by rw[IntKind.wrap_u8]
theorem aOF(n:Int)(h:0<=n/\n<=255):IntKind.u8.wrap n=n:=by rw[IntKind.wrap_u8];omega
theorem Fx(n:Int):n.fdiv 256=n / 256:=Int.fdiv_eq_ediv_of_nonneg _ (by decide)
attribute [go_sem] aOE
theorem Uo(n:Int)(h:-9223372036854775808<=n/\n<=9223372036854775807)(k:Nat):-9223372036854775808<=Ee n k/\Ee n k<=9223372036854775807:=by
 induction k with
 |zero=>exact h
 |succ k ih=>simp only[Ee];omega
theorem H9(n:Int)(k:Nat)(hk:k<=1000):EV G (Tb B) 318 [vi n,vi k] []=some (vl (bl (bK n k)),[]):=by
 refine aA rfl ?_;simp (disch:=omega) only[go_sem,h318c];rw[aR (fun j=>⟨(vi (Ee n j)::jk 4 (.one (.bld 0 j)::vi k::vi j::jk 10 [])),[.arr 0 1 (bl (bK n j))]⟩) k ?_ ?_]
 have h1:=aB n k;simp (disch:=omega) only[go_sem,h318l0,aXC,aB,kZ];simp only[aYe (show (bK n k).length<=k by omega),<- aYr];rfl;intro j hj;have h1:=aB n j;simp (disch:=omega) only[go_sem,h318l0,aXC,aB,wu8,Int.reduceToNat,Int.reducePow,Fx,<- aYr,H8,Bx,Ee,bK]
def Bz(last:Int)(r:aY):List Int:=
 if r.s=-1 then sz r.n::bK r.n (sz r.n).toNat else (16*sz (r.s-last)+sz r.n)::(bK r.n (sz r.n).toNat++bK (r.s-last) (sz (r.s-last)).toNat)
def est(s:List Int×Int)(r:aY):List Int×Int:=(s.1++Bz s.2 r,if r.s=-1 then s.2 else r.s)
def rB(l:List aY)(k:Nat):List Int×Int:=(l.take k).foldl est ([],0)
def lF(l:List aY):List Int×Int:=l.foldl est ([],0)
def Al(l:List aY):List Int×Int:=if Bp [l]≠0 then ([],Bp [l]) else ((lF l).1++[0],0)
theorem Df(l:List aY)(k:Nat)(h:k<l.length):rB l (k+1)=est (rB l k) l[k]:=by
 rw[rB,aYx h,List.foldl_append];rfl
theorem B0(l:List aY):rB l l.length=lF l:=by rw[rB,aYh];rfl
theorem Ef(n:Int):sz n=1\/sz n=2:=by unfold sz;split<;>simp
theorem Q4(a:Int)(r:aY):(Bz a r).length<=5:=by
 have h1:=Ef r.n;have h2:=Ef (r.s-a);unfold Bz;split;simp only[aXE,aB];omega;simp only[aXE,aXD,aB];omega
theorem aBf(a:Int)(r:aY):aM (Bz a r):=by
 have h1:=Ef r.n;have h2:=Ef (r.s-a);intro b hb;unfold Bz at hb;split at hb;rcases aYR.1 hb with h|h
 omega;exact cM _ _ b h;rcases aYR.1 hb with h|h
 omega;rcases aYV.1 h with h|h
 exact cM _ _ b h;exact cM _ _ b h
theorem uM(l:List aY)(h:∀r∈l,-1<=r.s/\r.s<=511):∀k,k<=l.length->(rB l k).1.length<=5*k/\(0<=(rB l k).2/\(rB l k).2<=511)/\aM (rB l k).1:=by
 intro k
 induction k with
 |zero=>intro _;exact⟨by simp[rB],by simp[rB],by intro b hb;cases hb⟩
 |succ k ih=>
  intro hk;obtain⟨h1,h2,h3⟩:=ih (by omega);have h4:=h _ (aXM (show k<l.length by omega));rw[Df l k (by omega)];refine⟨?_,?_,?_⟩;simp only[est,aXD];have:=Q4 (rB l k).2 l[k];omega;simp only[est];split<;>omega;intro b hb;rcases aYV.1 hb with hb|hb
  exact h3 b hb;exact aBf _ _ b hb
theorem aVZ(a b:Int)(ha:a=1\/a=2)(hb:b=1\/b=2):Ui .i64 (a*16) b=16*a+b:=by
 rcases ha with rfl|rfl<;>rcases hb with rfl|rfl<;>decide
theorem or0(b:Int)(hb:b=1\/b=2):Ui .i64 0 b=b:=by
 rcases hb with rfl|rfl<;>decide
theorem Fy{l:List aY}(h:(nA l).2=0):∀r∈l,(-1<=r.s/\r.s<=511)/\1<=r.n/\r.n<=4096:=by
 intro r hr;rcases kM (M7 h r hr) with h1|⟨s,n,h1⟩<;>omega
set_option maxHeartbeats 1000000 in
theorem aET(l:List aY):EV G (Tb B) 284 [eB l] []=some (.tup [.one (.dc (.raw (.string (dL (Al l).1)))),.one (.dc (ci (Al l).2))],[]):=by
 refine aA rfl ?_;unfold Al;by_cases c:Bp [l]=0;have hc:(nA l).2=0:=by rw[K8] at c;exact c
 have hr:=Fy hc;have hlen:=nC hc;simp (disch:=omega) only[go_sem,h284c,Fv,c,aXC];rw[aR (fun k=>⟨(jk 5 (.one (.bld 0 (rB l k).1.length)::vi (rB l k).2::jk 10 (eB l::vi l.length::vi k::jk 46 []))),[.arr 0 1 (bl (rB l k).1)]⟩) l.length ?_ ?_]
 have hk:=uM l (fun r hr'=>(hr r hr').1) l.length (aXF _)
 rw[B0] at hk ⊢;have hz:List.take ((lF l).1.length+1) (((lF l).1++[0]).map uL)=((lF l).1++[0]).map uL:=aYe (by simp);simp (disch:=omega) only[go_sem,h284l0,aXC,aXD,Bx,hz];rfl;intro k hk;obtain⟨g1,g2,g3⟩:=uM l (fun r hr'=>(hr r hr').1) k (by omega)
 have h4:=hr _ (aXM hk);rw[Df l k hk];generalize rB l k=s at g1 g2 g3 ⊢;obtain⟨o,a⟩:=s;simp only at g1 g2 g3;simp only[est,Bz];have z1:=Ef l[k].n;have s1:=qB (G:=G) (B:=B) l[k].n (by omega);by_cases c1:l[k].s=-1;have s2:=H9 (G:=G) (B:=B) l[k].n (sz l[k].n).toNat (by omega);rw[show (((sz l[k].n).toNat:Nat):Int)=sz l[k].n by omega] at s2;have o1:=or0 (sz l[k].n) z1;have t1 (x:Int):List.take (o.length+1) ((o++[x]).map uL)=(o++[x]).map uL:=aYe (by simp);have e1:o.length+1+(sz l[k].n).toNat=o.length+((sz l[k].n).toNat+1):=by omega
 simp (disch:=omega) only[go_sem,h284l0,aXC,aY.e,jH,c1,s1,s2,Int.reduceToNat,Int.reducePow,Int.reduceMul,o1,aOF,Bx,aES,aB,aXD,t1,e1,aXR];have z2:=Ef (l[k].s-a);have s2:=H9 (G:=G) (B:=B) l[k].n (sz l[k].n).toNat (by omega);rw[show (((sz l[k].n).toNat:Nat):Int)=sz l[k].n by omega] at s2;have s3:=qB (G:=G) (B:=B) (l[k].s-a) (by omega);have s4:=H9 (G:=G) (B:=B) (l[k].s-a) (sz (l[k].s-a)).toNat (by omega);rw[show (((sz (l[k].s-a)).toNat:Nat):Int)=sz (l[k].s-a) by omega] at s4;have o1:=aVZ (sz (l[k].s-a)) (sz l[k].n) z2 z1;have t1 (x:Int):List.take (o.length+1) ((o++[x]).map uL)=(o++[x]).map uL:=aYe (by simp);have t2 (x:Int):List.take (o.length+1+(sz l[k].n).toNat) ((o++x::bK l[k].n (sz l[k].n).toNat).map uL)=(o++x::bK l[k].n (sz l[k].n).toNat).map uL:=aYe (by simp[aB];omega);have e1:o.length+1+(sz l[k].n).toNat+(sz (l[k].s-a)).toNat=o.length+((sz l[k].n).toNat+(sz (l[k].s-a)).toNat+1):=by omega
 simp (disch:=omega) only[go_sem,h284l0,aXC,aY.e,jH,c1,s1,s2,s3,s4,Int.reduceToNat,Int.reducePow,Int.reduceMul,o1,aOF,Bx,aES,aB,aXD,t1,t2,e1,aXR];simp (disch:=omega) only[go_sem,h284c,Fv,c,aL]
theorem aJE(a b:Int)(h:0<=a):a.tmod b=a % b:=Int.tmod_eq_emod_of_nonneg h
theorem X6(a b:Int)(h:0<=a):a.tdiv b=a / b:=Int.tdiv_eq_ediv_of_nonneg h
theorem aOG(n:Int)(h:0<=n)(k:Nat):0<=Ee n k:=by
 induction k with
 |zero=>exact h
 |succ k ih=>simp only[Ee];omega
theorem mF(n:Int)(k:Nat)(hn:0<=n/\n<=9223372036854775807)(hk:k<=1000):EV G (Tb B) 25 [vi n,vi k] []=some (sv (bK n k),[]):=by
 refine aA rfl ?_;simp (disch:=omega) only[go_sem,h25c];rw[aR (fun j=>⟨(vi (Ee n j)::vi k::jk 3 (.one (.bld 0 j)::vi j::jk 15 [])),[.arr 0 1 (bl (bK n j))]⟩) k ?_ ?_]
 have h1:=aB n k;simp (disch:=omega) only[go_sem,h25l0,aXC,aB,<- aYr,H8];rfl;intro j hj;have h1:=aB n j;have h2:=aOG n hn.1 j;have h3:=Uo n (by omega) j;simp (disch:=omega) only[go_sem,h25l0,aXC,aB,aJE,X6,aOF,<- aYr,H8,Bx,Ee,bK]
theorem aTh(n m:Int)(hm:0<m):n % m=if n.tmod m<0 then n.tmod m+m else n.tmod m:=by
 have h1:=Int.emod_nonneg n (show m≠0 by omega);have h2:=Int.emod_lt_of_pos n hm;have h3:=Int.tmod_eq_emod (a:=n) (b:=m);split at h3;rw[if_neg (by omega)];omega;rw[if_pos (by omega)];omega
theorem Q5(n m:Int)(hm:0<m/\m<=4611686018427387904):EV G (Tb B) 26 [vi n,vi m] []=some (vi (n % m),[]):=by
 refine aA rfl ?_;have h1:=Int.emod_nonneg n (show m≠0 by omega);have h2:=Int.emod_lt_of_pos n hm.1;have h3:=aTh n m hm.1;by_cases c:n.tmod m<0;rw[if_pos c] at h3;simp (disch:=omega) only[go_sem,h26c,h3];rw[if_neg c] at h3;simp (disch:=omega) only[go_sem,h26c,h3]
theorem La(n:Int)(h:-32768<=n/\n<=32767):EV G (Tb B) 252 [vi n] []=some (sv (bK n (sz n).toNat),[]):=by
 refine aA rfl ?_;by_cases c:-128<=n/\n<=127;have h1:=mF (G:=G) (B:=B) (n % 256) 1 (by omega) (by omega);have h2:bK (n % 256) 1=bK n 1:=by simp[bK,Ee]
 rw[show sz n=1 by simp[sz,c],show (1:Int).toNat=1 from rfl]
 rw[h2,Int.natCast_one] at h1;simp (disch:=omega) only[go_sem,h252c,cB,Q5,h1];have h1:=mF (G:=G) (B:=B) (n % 65536) 2 (by omega) (by omega);have a1:n % 65536 % 256=n % 256:=by omega
 have a2:n % 65536 / 256 % 256=n / 256 % 256:=by omega
 have h2:bK (n % 65536) 2=bK n 2:=by simp only[bK,Ee,a1,a2]
 rw[show sz n=2 by simp[sz,c],show (2:Int).toNat=2 from rfl]
 rw[h2,show ((2:Nat):Int)=2 from rfl] at h1
 simp (disch:=omega) only[go_sem,h252c,cB,Q5,h1]
theorem Q6(k:Nat):fH (List.replicate k [DC.raw (.int .u8 0)])=some (List.replicate k (u8 0)):=by
 have:=Ak (List.replicate k 0);simpa[uL] using this
theorem aTi(k:Nat):(⟨(List.replicate k (u8 0)).toArray⟩:ByteArray)=dL (List.replicate k 0):=by simp[dL]
theorem uN(n:Int)(h:0<=n/\n<=200000):EV G (Tb B) 77 [vi n] []=some (sv (List.replicate n.toNat 0),[]):=by
 refine aA rfl ?_;have e:(if n > 0 then n else 0)=n:=by split<;>omega
 simp (disch:=omega) only[go_sem,h77c,Q6,aTi,e,aXO,List.take_replicate,Nat.min_self]
theorem aOH{a b:List Int}(h:a.length+b.length<=9223372036854775807):eP .add (sv a) (sv b)=some (sv (a++b)):=by
 rw[Bl (by rw[aF,aF];exact h),Fw]
attribute [go_sem 2000] aOH
set_option maxHeartbeats 1000000 in
theorem aBg(l:List aY)(hc:(nA l).2=0):EV G (Tb B) 198 [eB l] []=some (sv ((lF l).1++[0]),[]):=by
 refine aA rfl ?_;have hr:=Fy hc;have hlen:=nC hc;simp (disch:=omega) only[go_sem,h198c,aL];rw[aR (fun k=>⟨(eB l::jk 2 (sv (rB l k).1::vi (rB l k).2::vi k::jk 56 [])),[]⟩) l.length ?_ ?_]
 have hk:=uM l (fun r hr'=>(hr r hr').1) l.length (aXF _)
 rw[B0] at hk ⊢;simp (disch:=first|omega|(simp only[aXD,aXE,aXH,aXC,aB];omega)) only[go_sem,h198l0,aXC,uN,Int.reduceToNat,List.replicate_succ,List.replicate_zero]
 rfl;intro k hk;obtain⟨g1,g2,g3⟩:=uM l (fun r hr'=>(hr r hr').1) k (by omega)
 have h4:=hr _ (aXM hk);rw[Df l k hk];generalize rB l k=s at g1 g2 g3 ⊢;obtain⟨o,a⟩:=s;simp only at g1 g2 g3;simp only[est,Bz];have z1:=Ef l[k].n;have s1:=La (G:=G) (B:=B) l[k].n (by omega);have q1:(((sz l[k].n).toNat:Nat):Int)=sz l[k].n:=by omega
 by_cases c1:l[k].s=-1;have s2:=mF (G:=G) (B:=B) (sz l[k].n) 1 (by omega) (by omega);rw[show bK (sz l[k].n) 1=[sz l[k].n] by simp[bK,Ee];omega,Int.natCast_one] at s2;simp (disch:=first|omega|(simp only[aXD,aXE,aXH,aXC,aB];omega)) only[go_sem,h198l0,aXC,aYo,aY.e,c1,s1,s2,aB,q1,aXR]
 have z2:=Ef (l[k].s-a);have s3:=La (G:=G) (B:=B) (l[k].s-a) (by omega);have s2:=mF (G:=G) (B:=B) (sz l[k].n+16*sz (l[k].s-a)) 1 (by omega) (by omega);have q2:(((sz (l[k].s-a)).toNat:Nat):Int)=sz (l[k].s-a):=by omega
 rw[show bK (sz l[k].n+16*sz (l[k].s-a)) 1=[16*sz (l[k].s-a)+sz l[k].n] by simp[bK,Ee];omega,Int.natCast_one] at s2;simp (disch:=first|omega|(simp only[aXD,aXE,aXH,aXC,aB];omega)) only[go_sem,h198l0,aXC,aYo,aY.e,c1,s1,s2,s3,aB,q1,q2,aXR]
end
section
variable {G:aE}{B:aO}
theorem Uq(l:List aY)(hl:l.length<=1000000):EV G (Tb B) 111 [eB l] []=some (.one (.bld 0 l.length),[.arr 0 2 (l.map aY.e)]):=by
 refine aA rfl ?_;simp (disch:=omega) only[go_sem,h111c,aXC,aYQ]
theorem aLZ(l:List Int)(c:Int)(hl:l.length<=1000000):EV G (Tb B) 94 [vl (el l),vi c] []=some (vb (decide (c∈l)),[]):=by
 refine aA rfl ?_;simp (disch:=omega) only[go_sem,h94c,aXC];rw[gF (fun k=>⟨(vl (el l)::vi c::jk 3 (vi k::jk 12 [])),[]⟩) (fun k=>l.getD k 0=c) l.length ?_ ?_]
 rotate_left
 rfl;intro k hk hn;have h1:=hn k (aXF _);rw[cL l k hk] at h1;simp (disch:=omega) only[go_sem,h94l0,aXC,E4];obtain⟨hk,hp,hn⟩:=bT (fun k=>l.getD k 0=c) l.length
 generalize ix (fun k=>l.getD k 0=c) l.length=k at *
 rcases hp with rfl|⟨hk',hp⟩
 have hz:¬ c∈l:=fun hc=>by
  obtain⟨j,hj,rfl⟩:=List.mem_iff_getElem.1 hc;exact hn j hj (cL l j hj)
 simp (disch:=omega) only[go_sem,h94l0,aXC];simp[hz];rw[cL l k hk'] at hp;have hz:c∈l:=by rw[<- hp];exact aXM hk'
 simp (disch:=omega) only[go_sem,h94l0,aXC,E4];simp[hz]
end
section
variable {G:aE}{bb:Bool}
structure aJ where
 ty:Int
 nm:List Int
 id:Int
 fl:Int
 res:Bool
 va:List Int
 fi:Int
 rs:List aY
 al:Int
 sz:Int
 vd:Int
abbrev aJ.e(a:aJ):List DC:=[ci a.ty,.raw (.string (dL a.nm)),ci a.id,ci a.fl,.raw (.bool a.res),.raw (.string (dL a.va)),ci a.fi,.slc (a.rs.map aY.e),ci a.al,ci a.sz,ci a.vd]
abbrev aJ.c(a:aJ):List aT:=[.dc (ci a.ty),.dc (.raw (.string (dL a.nm))),.dc (ci a.id),.dc (ci a.fl),.dc (.raw (.bool a.res)),.dc (.raw (.string (dL a.va))),.dc (ci a.fi),.dc (.slc (a.rs.map aY.e)),.dc (ci a.al),.dc (ci a.sz),.dc (ci a.vd)]
abbrev aJ.v(a:aJ):AV:=.agg a.c
abbrev aJ.t(a:aJ):TV:=.agg a.c
def aJ.nil:aJ:=⟨0,[],0,0,false,[],0,[],0,0,0⟩
theorem bX(n lo hi:Int):EV G (Tb (bs bb)) 235 [vi n,vi lo,vi hi] []=some (vb (decide (lo<=n/\n<=hi)),[]):=by
 refine aA rfl ?_;by_cases h:lo<=n;all_goals simp (disch:=omega) only[go_sem,h235c]
 all_goals simp[h]
theorem gH(b:Bool)(e:Int):EV G (Tb (bs bb)) 232 [vb b,vi e] []=some (vi (if b=true then 0 else e),[]):=by
 refine aA rfl ?_;cases b;all_goals simp (disch:=omega) only[go_sem,h232c]
 all_goals rfl
theorem aBh(b:Bool)(e:Int):EV G (Tb (bs bb)) 314 [vb b,vi e] []=some (vi (if b=true then 0 else e),[]):=by
 refine aA rfl ?_;cases b;all_goals simp (disch:=omega) only[go_sem,h314c]
 all_goals rfl
theorem Ia(l:List Int)(hl:l.length<=1000):EV G (Tb (bs bb)) 231 [vl (el l)] []=some (vi (aS l),[]):=by
 refine aA rfl ?_;simp (disch:=omega) only[go_sem,h231c,aXC];have round:∀ k (hk:k < l.length),¬ l.getD k 0≠0->K6 [5,0,0] 0 (EC (EV G (Tb (bs bb))) G h231l0 ⟨(jk 5 (vl (el l)::vi l.length::vi k::jk 7 [])),[]⟩)=some ⟨(jk 5 (vl (el l)::vi l.length::vi (k+1:Nat)::jk 7 [])),[]⟩:=fun k hk hz=>by
  rw[cL l k hk] at hz;simp (disch:=omega) only[go_sem,h231l0,aXC,E4]
 rcases M8 (fun k=>l.getD k 0≠0) l.length with h|⟨j,hj,h1,h2⟩
 rw[aR (fun k=>⟨(jk 5 (vl (el l)::vi l.length::vi k::jk 7 [])),[]⟩) l.length ?_ ?_]
 rw[gR l h];simp (disch:=omega) only[go_sem,h231l0];rfl;exact fun k hk=>round k hk (h k hk)
 rw[aR (fun k=>⟨(jk 5 (vl (el l)::vi l.length::vi k::jk 7 [])),[]⟩) j ?_ ?_]
 rw[jQ l j hj h2 h1];rw[cL l j hj] at h1;simp (disch:=omega) only[go_sem,h231l0,aXC,E4];rfl;exact fun k hk=>round k (by omega) (h2 k hk)
theorem aEU(l:List Int)(hl:l.length<=1000):EV G (Tb (bs bb)) 313 [vl (el l)] []=some (vi (aS l),[]):=by
 refine aA rfl ?_;simp (disch:=omega) only[go_sem,h313c,aXC];have round:∀ k (hk:k < l.length),¬ l.getD k 0≠0->K6 [5,0,0] 0 (EC (EV G (Tb (bs bb))) G h313l0 ⟨(jk 5 (vl (el l)::vi l.length::vi k::jk 7 [])),[]⟩)=some ⟨(jk 5 (vl (el l)::vi l.length::vi (k+1:Nat)::jk 7 [])),[]⟩:=fun k hk hz=>by
  rw[cL l k hk] at hz;simp (disch:=omega) only[go_sem,h313l0,aXC,E4]
 rcases M8 (fun k=>l.getD k 0≠0) l.length with h|⟨j,hj,h1,h2⟩
 rw[aR (fun k=>⟨(jk 5 (vl (el l)::vi l.length::vi k::jk 7 [])),[]⟩) l.length ?_ ?_]
 rw[gR l h];simp (disch:=omega) only[go_sem,h313l0];rfl;exact fun k hk=>round k hk (h k hk)
 rw[aR (fun k=>⟨(jk 5 (vl (el l)::vi l.length::vi k::jk 7 [])),[]⟩) j ?_ ?_]
 rw[jQ l j hj h2 h1];rw[cL l j hj] at h1;simp (disch:=omega) only[go_sem,h313l0,aXC,E4];rfl;exact fun k hk=>round k (by omega) (h2 k hk)
theorem aJF(a b:Int):EV G (Tb (bs bb)) 313 [vl [[ci a],[ci b]]] []=some (vi (aS [a,b]),[]):=aEU [a,b] (by simp)
theorem mG(a b:Int):EV G (Tb (bs bb)) 231 [vl [[ci a],[ci b]]] []=some (vi (aS [a,b]),[]):=Ia [a,b] (by simp)
theorem bY(a b c:Int):EV G (Tb (bs bb)) 231 [vl [[ci a],[ci b],[ci c]]] []=some (vi (aS [a,b,c]),[]):=Ia [a,b,c] (by simp)
theorem iO(a b c d e:Int):EV G (Tb (bs bb)) 231 [vl [[ci a],[ci b],[ci c],[ci d],[ci e]]] []=some (vi (aS [a,b,c,d,e]),[]):=Ia [a,b,c,d,e] (by simp)
def Lb:List Int:=[16,32,48,64,96,112,128,144,160,176,192]
def E7:List Int:=[16,48,96,112,144]
theorem gB:EV G (Tb (bs bb)) 281 [] []=some (.one (.mpc tyL),[]):=gP rfl rfl
theorem Q7(n:Int):zO tyL n=if n∈Lb then some (.bool (decide (n∈E7))) else none:=by
 unfold tyL Lb E7;simp only[zO,aYR,List.not_mem_nil,or_false];split<;>rename_i h1;subst h1;simp;split<;>rename_i h2;subst h2;simp;split<;>rename_i h3;subst h3;simp;split<;>rename_i h4;subst h4;simp;split<;>rename_i h5;subst h5;simp;split<;>rename_i h6;subst h6;simp;split<;>rename_i h7;subst h7;simp;split<;>rename_i h8;subst h8;simp;split<;>rename_i h9;subst h9;simp;split<;>rename_i h10;subst h10;simp;split<;>rename_i h11;subst h11;simp;rw[if_neg (by omega)]
theorem aEV(n:Int):EV G (Tb (bs bb)) 233 [vi n] []=some (vb (decide (n∈Lb)),[]):=by
 refine aA rfl ?_;have hm:=Q7 n;by_cases h:n∈Lb;rw[if_pos h] at hm;simp (disch:=omega) only[go_sem,h233c,gB,Ox,mpR,hm,h];rw[if_neg h] at hm;simp (disch:=omega) only[go_sem,h233c,gB,Ox,mpR,hm,h]
theorem Eg(a:aJ)(hl:a.rs.length<=1000000):EV G (Tb (bs bb)) 283 [a.v] []=some (vi (iF a.rs),[]):=by
 refine aA rfl ?_;simp (disch:=omega) only[go_sem,h283c,aXC];rw[aR (fun k=>⟨(jk 3 (vi (iF (a.rs.take k))::jk 3 (eB a.rs::vi a.rs.length::vi k::jk 9 []))),[.box a.c]⟩) a.rs.length ?_ ?_]
 simp (disch:=omega) only[go_sem,h283l0,aYh];rfl;intro k hk;rw[De a.rs k hk];simp (disch:=omega) only[go_sem,h283l0,aXC,aY.e]
theorem Am(b:Bool):EV G (Tb (bs bb)) 285 [vb b] []=some (vi (if b=true then 24 else 40),[]):=by
 refine aA rfl ?_;cases b;all_goals simp (disch:=omega) only[go_sem,h285c]
 all_goals rfl
def X7(n:Int):Int:=(n+7) / 8*8
theorem uO(n:Int)(h:0<=n/\n<=1000000000):EV G (Tb (bs bb)) 286 [vi n] []=some (vi (X7 n),[]):=by
 refine aA rfl ?_;have e:n+8-1=n+7:=by omega
 simp (disch:=omega) only[go_sem,h286c,X6,X7,e]
end
end Go.Proofs.YthepfneloomngaaGreatDoor
