/- Names of attributes. Conditions: none. -/
import Derived.Test.YthepfneloomngaaGreatDoorVh
import Derived.Test.YthepfneloomngaaGreatDoorTa
namespace Go.Proofs.YthepfneloomngaaGreatDoor
set_option linter.unusedSimpArgs false
set_option linter.unusedVariables false
set_option maxRecDepth 4000
section
variable {G:aF} {B:aO}
def sZ(n:Int):List DC:=[.raw (.int .u8 n)]
def u8(n:Int):UInt8:=UInt8.ofNat n.toNat
def dO(l:List Int):ByteArray:=⟨(l.map u8).toArray⟩
abbrev sv(l:List Int):AV:=.one (.dc (.raw (.string (dO l))))
abbrev bl(l:List Int):List (List DC):=l.map sZ
abbrev vu(n:Int):AV:=.one (.dc (.raw (.int .u8 n)))
def aL(l:List Int):Prop:=∀ b∈l,0<=b/\b<=255
theorem uU(l:List Int):eU (l.map sZ)=some (l.map u8):=by
 induction l with
 | nil=>rfl
 | cons b l ih=>simp only[aWp,sZ,eU,u8] at ih ⊢;rw[ih];rfl
theorem iD(b:Int)(h:0<=b/\b<=255):((u8 b).toNat:Int)=b:=by
 simp only[u8,UInt8.toNat_ofNat'];omega
theorem bD:(⟨#[]⟩:ByteArray)=dO []:=rfl
theorem aC(l:List Int):(dO l).size=l.length:=by simp[dO,ByteArray.size]
theorem Ej(a b:List Int):dO a++dO b=dO (a++b):=by
 apply ByteArray.ext;simp[dO,ByteArray.data_append]
theorem Ld(l:List Int)(a b:Nat):(dO l).extract a b=dO ((l.take b).drop a):=by
 apply ByteArray.ext;simp[dO,ByteArray.data_extract,List.drop_take]
theorem aIo(s:ByteArray):∃ l,aL l/\s=dO l:=by
 refine⟨s.data.toList.map fun b=>(b.toNat:Int),fun b hb=>?_, ?_⟩
 ·obtain⟨x,_,rfl⟩:=List.mem_map.1 hb;have:=x.toNat_lt;omega
 ·apply ByteArray.ext;apply Array.ext';simp[dO,u8,Function.comp_def]
theorem gJ{a b:List Int}(ha:aL a)(hb:aL b):(dO a=dO b)=(a=b):=by
 apply propext;refine⟨fun h=>?_,fun h=>by rw[h]⟩
 have h1:a.map u8=b.map u8:=by
  have:=congrArg (fun s:ByteArray=>s.data.toList) h
  simpa[dO] using this
 have h2:a.length=b.length:=by simpa using congrArg List.length h1
 refine List.ext_getElem h2 (fun i p q=>?_)
 have h3:u8 a[i]=u8 b[i]:=by
  have:=congrArg (fun l=>l[i]?) h1
  simpa[p,q] using this
 rw[<- iD _ (ha _ (aWq p)),<- iD _ (hb _ (aWq q)),h3]
theorem aKx(l:List Int)(hl:aL l)(i:Int)(h:0<=i/\i < l.length):E1 (sv l) i=some (vu (l.getD i.toNat 0)):=by
 have h1:i.toNat < l.length:=by omega
 have h2:(dO l).data.toList[i.toNat]?=some (u8 l[i.toNat]):=by simp[dO,h1]
 have h3:l.getD i.toNat 0=l[i.toNat]:=by simp[aWn,h1]
 simp only[E1,dA,if_pos h.1,h2,dD,iD _ (hl _ (aWq h1)),h3]
theorem aDF(hp:List aD)(l:List Int):mC hp (vl (bl l))=some (sv l):=by
 simp only[mC,uU,aWi];rfl
theorem Le(l:List Int):(⟨(l.map u8).toArray⟩:ByteArray)=dO l:=rfl
attribute [go_sem 2000] aDF
theorem O1(l:List Int):(dO l).data.toList=l.map u8:=by simp[dO]
attribute [go_sem] uU Le Option.map_none O1 Ld iD aXO aWY List.getElem?_nil List.getElem_cons_zero List.getElem_cons_succ
attribute [go_sem] aC Ej
def sz(n:Int):Int:=if -128<=n/\n<=127 then 1 else 2
def aIp:Nat->Int
 | 0=>1
 | _=>2
theorem aDG:aIp 0=1:=rfl
theorem aDH:aIp 1=2:=rfl
theorem aM6:min 7 64=7:=rfl
theorem aIq:min 15 64=15:=rfl
theorem aM7:min 8 64=8:=rfl
theorem aIr:min 16 64=16:=rfl
theorem aM8:min 4 64=4:=rfl
theorem Gl:IntKind.i64.bits=64:=rfl
attribute [go_sem] aM6 aIq aM7 aIr aM8 Gl
theorem pL(n:Int)(h:-32768<=n/\n<=32767):EV G (Tb B) 316 [vi n] []=some (vi (sz n),[]):=by
 refine aA rfl ?_;by_cases c:-128<=n/\n<=127
 ·rw[sz,if_pos c];simp (disch:=omega) only[go_sem,h316c];rw[aU (fun k=>⟨(vi n::jk 2 (vi (aIp k)::jk 15 [])),[]⟩) 0 ?_ ?_]
  rotate_left
  ·rfl
  ·exact fun k hk=>absurd hk (by omega)
  simp (disch:=omega) only[go_sem,h316l0,iM,aDG,Int.reduceMul,Int.reduceSub,Int.reduceToNat,Int.reducePow,Nat.reducePow,Int.reduceNeg]
 ·rw[sz,if_neg c];simp (disch:=omega) only[go_sem,h316c];rw[aU (fun k=>⟨(vi n::jk 2 (vi (aIp k)::jk 15 [])),[]⟩) 1 ?_ ?_]
  rotate_left
  ·rfl
  rotate_left
  ·simp (disch:=omega) only[go_sem,h316l0,iM,aDH,Int.reduceMul,Int.reduceSub,Int.reduceToNat,Int.reducePow,Nat.reducePow,Int.reduceNeg]
  ·intro k hk;have hk0:k=0:=by omega
   subst hk0;simp (disch:=omega) only[go_sem,h316l0,iM,aDG,aDH,Int.reduceMul,Int.reduceSub,Int.reduceToNat,Int.reducePow,Nat.reducePow,Int.reduceNeg,Int.reduceAdd]
def H4(n:Int):Nat->Int
 | 0=>n
 | k+1=>H4 n k / 256
def cC(n:Int):Nat->List Int
 | 0=>[]
 | k+1=>cC n k++[H4 n k % 256]
theorem aB(n:Int)(k:Nat):(cC n k).length=k:=by
 induction k with
 | zero=>rfl
 | succ k ih=>simp[cC,ih]
theorem Gm(n:Int)(k:Nat):(cC n k).take k=cC n k:=aWP (by rw[aB];omega)
theorem cL(n:Int)(k:Nat):aL (cC n k):=by
 induction k with
 | zero=>intro b hb;cases hb
 | succ k ih=>
  intro b hb;rcases aXy.1 hb with h | h
  ·exact ih b h
  ·have:=List.mem_singleton.1 h;omega
theorem Aj(l:List Int)(b:Int):l.map sZ++[[.raw (.int .u8 b)]]=(l++[b]).map sZ:=by simp[sZ]
theorem aDI(a b:List Int):a.map sZ++b.map sZ=(a++b).map sZ:=aWW.symm
theorem aM9(l:List Int):fM 1 (l.map sZ)=true:=jZ (f:=sZ) (fun _=>rfl) l
theorem wu8(n:Int):IntKind.u8.wrap n=n % 256:=by rw[IntKind.wrap_u8]
theorem aNa(n:Int)(h:0<=n/\n<=255):IntKind.u8.wrap n=n:=by rw[IntKind.wrap_u8];omega
theorem Ek(n:Int):n.fdiv 256=n / 256:=Int.fdiv_eq_ediv_of_nonneg _ (by decide)
attribute [go_sem] aM9
theorem Sy(n:Int)(h:-9223372036854775808<=n/\n<=9223372036854775807)(k:Nat):-9223372036854775808<=H4 n k/\H4 n k<=9223372036854775807:=by
 induction k with
 | zero=>exact h
 | succ k ih=>simp only[H4];omega
theorem Gn(n:Int)(k:Nat)(hk:k<=1000):EV G (Tb B) 318 [vi n,vi k] []=some (vl (bl (cC n k)),[]):=by
 refine aA rfl ?_;simp (disch:=omega) only[go_sem,h318c];rw[aU (fun j=>⟨(vi (H4 n j)::jk 4 (.one (.bld 0 j)::vi k::vi j::jk 10 [])),[.arr 0 1 (bl (cC n j))]⟩) k ?_ ?_]
 ·have h1:=aB n k;simp (disch:=omega) only[go_sem,h318l0,aWf,aB,kP];simp only[aWP (show (cC n k).length<=k by omega),<- aW2]
 ·rfl
 ·intro j hj;have h1:=aB n j;simp (disch:=omega) only[go_sem,h318l0,aWf,aB,wu8,Int.reduceToNat,Int.reducePow,Ek,<- aW2,Gm,Aj,H4,cC]
def Bx(last:Int)(r:bF):List Int:=
 if r.s=-1 then sz r.n::cC r.n (sz r.n).toNat else (16 * sz (r.s - last)+sz r.n)::(cC r.n (sz r.n).toNat++cC (r.s - last) (sz (r.s - last)).toNat)
def est(s:List Int × Int)(r:bF):List Int × Int:=(s.1++Bx s.2 r,if r.s=-1 then s.2 else r.s)
def tQ(l:List bF)(k:Nat):List Int × Int:=(l.take k).foldl est ([],0)
def nI(l:List bF):List Int × Int:=l.foldl est ([],0)
def Ak(l:List bF):List Int × Int:=if Ae [l]≠0 then ([],Ae [l]) else ((nI l).1++[0],0)
theorem Ji(l:List bF)(k:Nat)(h:k < l.length):tQ l (k+1)=est (tQ l k) l[k]:=by
 rw[tQ,aXe h,List.foldl_append];rfl
theorem Gp(l:List bF):tQ l l.length=nI l:=by rw[tQ,aWY];rfl
theorem Jj(n:Int):sz n=1\/sz n=2:=by unfold sz;split<;>simp
theorem O2(a:Int)(r:bF):(Bx a r).length<=5:=by
 have h1:=Jj r.n;have h2:=Jj (r.s - a);unfold Bx;split
 ·simp only[aWh,aB];omega
 ·simp only[aWh,aWg,aB];omega
theorem aAe(a:Int)(r:bF):aL (Bx a r):=by
 have h1:=Jj r.n;have h2:=Jj (r.s - a);intro b hb;unfold Bx at hb;split at hb
 ·rcases aXn.1 hb with h | h
  ·omega
  ·exact cL _ _ b h
 ·rcases aXn.1 hb with h | h
  ·omega
  ·rcases aXy.1 h with h | h
   ·exact cL _ _ b h
   ·exact cL _ _ b h
theorem El(l:List bF)(h:∀ r∈l,-1<=r.s/\r.s<=511):∀ k,k<=l.length->(tQ l k).1.length<=5 * k/\(0<=(tQ l k).2/\(tQ l k).2<=511)/\aL (tQ l k).1:=by
 intro k
 induction k with
 | zero=>intro _;exact⟨by simp[tQ],by simp[tQ],by intro b hb;cases hb⟩
 | succ k ih=>
  intro hk;obtain⟨h1,h2,h3⟩:=ih (by omega);have h4:=h _ (aWq (show k < l.length by omega));rw[Ji l k (by omega)];refine⟨?_, ?_, ?_⟩
  ·simp only[est,aWg];have:=O2 (tQ l k).2 l[k];omega
  ·simp only[est];split<;>omega
  ·intro b hb;rcases aXy.1 hb with hb | hb
   ·exact h3 b hb
   ·exact aAe _ _ b hb
theorem aUv(a b:Int)(ha:a=1\/a=2)(hb:b=1\/b=2):Sv .i64 (a * 16) b=16 * a+b:=by
 rcases ha with rfl | rfl<;>rcases hb with rfl | rfl<;>decide
theorem or0(b:Int)(hb:b=1\/b=2):Sv .i64 0 b=b:=by
 rcases hb with rfl | rfl<;>decide
theorem Lf{l:List bF}(h:(oQ l).2=0):∀ r∈l,(-1<=r.s/\r.s<=511)/\1<=r.n/\r.n<=4096:=by
 intro r hr;rcases kB (K8 h r hr) with h1 | ⟨s,n,h1⟩<;>omega
set_option maxHeartbeats 1000000 in
theorem aDJ(l:List bF):EV G (Tb B) 284 [gF l] []=some (.tup [.one (.dc (.raw (.string (dO (Ak l).1)))),.one (.dc (ci (Ak l).2))],[]):=by
 refine aA rfl ?_;unfold Ak;by_cases c:Ae [l]=0
 ·have hc:(oQ l).2=0:=by rw[Oz] at c;exact c
  have hr:=Lf hc;have hlen:=oR hc;simp (disch:=omega) only[go_sem,h284c,Ei,c,aWf];rw[aU (fun k=>⟨(jk 5 (.one (.bld 0 (tQ l k).1.length)::vi (tQ l k).2::jk 10 (gF l::vi l.length::vi k::jk 46 []))),[.arr 0 1 (bl (tQ l k).1)]⟩) l.length ?_ ?_]
  ·have hk:=El l (fun r hr'=>(hr r hr').1) l.length (aWj _)
   rw[Gp] at hk ⊢;have hz:List.take ((nI l).1.length+1) (((nI l).1++[0]).map sZ)=((nI l).1++[0]).map sZ:=aWP (by simp);simp (disch:=omega) only[go_sem,h284l0,aWf,aWg,Aj,hz]
  ·rfl
  ·intro k hk;obtain⟨g1,g2,g3⟩:=El l (fun r hr'=>(hr r hr').1) k (by omega)
   have h4:=hr _ (aWq hk);rw[Ji l k hk];generalize tQ l k=s at g1 g2 g3 ⊢;obtain⟨o,a⟩:=s;simp only at g1 g2 g3;simp only[est,Bx];have z1:=Jj l[k].n;have s1:=pL (G:=G) (B:=B) l[k].n (by omega);by_cases c1:l[k].s=-1
   ·have s2:=Gn (G:=G) (B:=B) l[k].n (sz l[k].n).toNat (by omega);rw[show (((sz l[k].n).toNat:Nat):Int)=sz l[k].n by omega] at s2;have o1:=or0 (sz l[k].n) z1;have t1 (x:Int):List.take (o.length+1) ((o++[x]).map sZ)=(o++[x]).map sZ:=aWP (by simp);have e1:o.length+1+(sz l[k].n).toNat=o.length+((sz l[k].n).toNat+1):=by omega
    simp (disch:=omega) only[go_sem,h284l0,aWf,bF.e,iN,c1,s1,s2,Int.reduceToNat,Int.reducePow,Int.reduceMul,o1,aNa,Aj,aDI,aB,aWg,t1,e1,aWv]
   ·have z2:=Jj (l[k].s - a);have s2:=Gn (G:=G) (B:=B) l[k].n (sz l[k].n).toNat (by omega);rw[show (((sz l[k].n).toNat:Nat):Int)=sz l[k].n by omega] at s2;have s3:=pL (G:=G) (B:=B) (l[k].s - a) (by omega);have s4:=Gn (G:=G) (B:=B) (l[k].s - a) (sz (l[k].s - a)).toNat (by omega);rw[show (((sz (l[k].s - a)).toNat:Nat):Int)=sz (l[k].s - a) by omega] at s4;have o1:=aUv (sz (l[k].s - a)) (sz l[k].n) z2 z1;have t1 (x:Int):List.take (o.length+1) ((o++[x]).map sZ)=(o++[x]).map sZ:=aWP (by simp);have t2 (x:Int):List.take (o.length+1+(sz l[k].n).toNat) ((o++x::cC l[k].n (sz l[k].n).toNat).map sZ)=(o++x::cC l[k].n (sz l[k].n).toNat).map sZ:=aWP (by simp[aB];omega);have e1:o.length+1+(sz l[k].n).toNat+(sz (l[k].s - a)).toNat=o.length+((sz l[k].n).toNat+(sz (l[k].s - a)).toNat+1):=by omega
    simp (disch:=omega) only[go_sem,h284l0,aWf,bF.e,iN,c1,s1,s2,s3,s4,Int.reduceToNat,Int.reducePow,Int.reduceMul,o1,aNa,Aj,aDI,aB,aWg,t1,t2,e1,aWv]
 ·simp (disch:=omega) only[go_sem,h284c,Ei,c,bD]
theorem aIs(a b:Int)(h:0<=a):a.tmod b=a % b:=Int.tmod_eq_emod_of_nonneg h
theorem Wh(a b:Int)(h:0<=a):a.tdiv b=a / b:=Int.tdiv_eq_ediv_of_nonneg h
theorem aNb(n:Int)(h:0<=n)(k:Nat):0<=H4 n k:=by
 induction k with
 | zero=>exact h
 | succ k ih=>simp only[H4];omega
theorem aDK(n:Int)(k:Nat)(hn:0<=n/\n<=9223372036854775807)(hk:k<=1000):EV G (Tb B) 25 [vi n,vi k] []=some (sv (cC n k),[]):=by
 refine aA rfl ?_;simp (disch:=omega) only[go_sem,h25c];rw[aU (fun j=>⟨(vi (H4 n j)::vi k::jk 3 (.one (.bld 0 j)::vi j::jk 15 [])),[.arr 0 1 (bl (cC n j))]⟩) k ?_ ?_]
 ·have h1:=aB n k;simp (disch:=omega) only[go_sem,h25l0,aWf,aB,<- aW2,Gm]
 ·rfl
 ·intro j hj;have h1:=aB n j;have h2:=aNb n hn.1 j;have h3:=Sy n (by omega) j;simp (disch:=omega) only[go_sem,h25l0,aWf,aB,aIs,Wh,aNa,<- aW2,Gm,Aj,H4,cC]
theorem aUw(n m:Int)(hm:0 < m):n % m=if n.tmod m < 0 then n.tmod m+m else n.tmod m:=by
 have h1:=Int.emod_nonneg n (show m≠0 by omega);have h2:=Int.emod_lt_of_pos n hm;have h3:=Int.tmod_eq_emod (a:=n) (b:=m);split at h3
 ·rw[if_neg (by omega)];omega
 ·rw[if_pos (by omega)];omega
theorem aKz(n m:Int)(hm:0 < m/\m<=4611686018427387904):EV G (Tb B) 26 [vi n,vi m] []=some (vi (n % m),[]):=by
 refine aA rfl ?_;have h1:=Int.emod_nonneg n (show m≠0 by omega);have h2:=Int.emod_lt_of_pos n hm.1;have h3:=aUw n m hm.1;by_cases c:n.tmod m < 0
 ·rw[if_pos c] at h3;simp (disch:=omega) only[go_sem,h26c,h3]
 ·rw[if_neg c] at h3;simp (disch:=omega) only[go_sem,h26c,h3]
theorem O3(k:Nat):eU (List.replicate k [DC.raw (.int .u8 0)])=some (List.replicate k (u8 0)):=by
 have:=uU (List.replicate k 0);simpa[sZ] using this
theorem aRy(k:Nat):(⟨(List.replicate k (u8 0)).toArray⟩:ByteArray)=dO (List.replicate k 0):=by simp[dO]
theorem aIt(n:Int)(h:0<=n/\n<=200000):EV G (Tb B) 77 [vi n] []=some (sv (List.replicate n.toNat 0),[]):=by
 refine aA rfl ?_;have e:(if n > 0 then n else 0)=n:=by split<;>omega
 simp (disch:=omega) only[go_sem,h77c,O3,aRy,e,aWu,List.take_replicate,Nat.min_self]
theorem aNc{a b:List Int}(h:a.length+b.length<=9223372036854775807):eC .add (sv a) (sv b)=some (sv (a++b)):=by
 rw[zZ (by rw[aC,aC];exact h),Ej]
attribute [go_sem 2000] aNc
end
section
variable {G:aF} {B:aO}
theorem Sz(l:List bF)(hl:l.length<=1000000):EV G (Tb B) 111 [gF l] []=some (.one (.bld 0 l.length),[.arr 0 2 (l.map bF.e)]):=by
 refine aA rfl ?_;simp (disch:=omega) only[go_sem,h111c,aWf,aXq]
end
section
variable {G:aF} {bb:Bool}
structure aK where
 ty:Int
 nm:List Int
 id:Int
 fl:Int
 res:Bool
 va:List Int
 fi:Int
 rs:List bF
 al:Int
 sz:Int
 vd:Int
abbrev aK.e(a:aK):List DC:=[ci a.ty,.raw (.string (dO a.nm)),ci a.id,ci a.fl,.raw (.bool a.res),.raw (.string (dO a.va)),ci a.fi,.slc (a.rs.map bF.e),ci a.al,ci a.sz,ci a.vd]
abbrev aK.c(a:aK):List aR:=[.dc (ci a.ty),.dc (.raw (.string (dO a.nm))),.dc (ci a.id),.dc (ci a.fl),.dc (.raw (.bool a.res)),.dc (.raw (.string (dO a.va))),.dc (ci a.fi),.dc (.slc (a.rs.map bF.e)),.dc (ci a.al),.dc (ci a.sz),.dc (ci a.vd)]
abbrev aK.v(a:aK):AV:=.agg a.c
abbrev aK.t(a:aK):TV:=.agg a.c
def aK.nil:aK:=⟨0,[],0,0,false,[],0,[],0,0,0⟩
theorem bU(n lo hi:Int):EV G (Tb (bs bb)) 235 [vi n,vi lo,vi hi] []=some (vb (decide (lo<=n/\n<=hi)),[]):=by
 refine aA rfl ?_;by_cases h:lo<=n
 all_goals simp (disch:=omega) only[go_sem,h235c]
 all_goals simp[h]
theorem fQ(b:Bool)(e:Int):EV G (Tb (bs bb)) 232 [vb b,vi e] []=some (vi (if b=true then 0 else e),[]):=by
 refine aA rfl ?_;cases b
 all_goals simp (disch:=omega) only[go_sem,h232c]
 all_goals rfl
theorem aAf(b:Bool)(e:Int):EV G (Tb (bs bb)) 314 [vb b,vi e] []=some (vi (if b=true then 0 else e),[]):=by
 refine aA rfl ?_;cases b
 all_goals simp (disch:=omega) only[go_sem,h314c]
 all_goals rfl
theorem Gq(l:List Int)(hl:l.length<=1000):EV G (Tb (bs bb)) 231 [vl (el l)] []=some (vi (aQ l),[]):=by
 refine aA rfl ?_;simp (disch:=omega) only[go_sem,h231c,aWf];have round:∀ k (hk:k < l.length),¬ l.getD k 0≠0->K1 [5,0,0] 0 (EC (EV G (Tb (bs bb))) G h231l0 ⟨(jk 5 (vl (el l)::vi l.length::vi k::jk 7 [])),[]⟩)=some ⟨(jk 5 (vl (el l)::vi l.length::vi (k+1:Nat)::jk 7 [])),[]⟩:=fun k hk hz=>by
  rw[cY l k hk] at hz;simp (disch:=omega) only[go_sem,h231l0,aWf,Gc]
 rcases La (fun k=>l.getD k 0≠0) l.length with h | ⟨j,hj,h1,h2⟩
 ·rw[aU (fun k=>⟨(jk 5 (vl (el l)::vi l.length::vi k::jk 7 [])),[]⟩) l.length ?_ ?_]
  ·rw[fX l h];simp (disch:=omega) only[go_sem,h231l0]
  ·rfl
  ·exact fun k hk=>round k hk (h k hk)
 ·rw[aU (fun k=>⟨(jk 5 (vl (el l)::vi l.length::vi k::jk 7 [])),[]⟩) j ?_ ?_]
  ·rw[iY l j hj h2 h1];rw[cY l j hj] at h1;simp (disch:=omega) only[go_sem,h231l0,aWf,Gc]
  ·rfl
  ·exact fun k hk=>round k (by omega) (h2 k hk)
theorem aDL(l:List Int)(hl:l.length<=1000):EV G (Tb (bs bb)) 313 [vl (el l)] []=some (vi (aQ l),[]):=by
 refine aA rfl ?_;simp (disch:=omega) only[go_sem,h313c,aWf];have round:∀ k (hk:k < l.length),¬ l.getD k 0≠0->K1 [5,0,0] 0 (EC (EV G (Tb (bs bb))) G h313l0 ⟨(jk 5 (vl (el l)::vi l.length::vi k::jk 7 [])),[]⟩)=some ⟨(jk 5 (vl (el l)::vi l.length::vi (k+1:Nat)::jk 7 [])),[]⟩:=fun k hk hz=>by
  rw[cY l k hk] at hz;simp (disch:=omega) only[go_sem,h313l0,aWf,Gc]
 rcases La (fun k=>l.getD k 0≠0) l.length with h | ⟨j,hj,h1,h2⟩
 ·rw[aU (fun k=>⟨(jk 5 (vl (el l)::vi l.length::vi k::jk 7 [])),[]⟩) l.length ?_ ?_]
  ·rw[fX l h];simp (disch:=omega) only[go_sem,h313l0]
  ·rfl
  ·exact fun k hk=>round k hk (h k hk)
 ·rw[aU (fun k=>⟨(jk 5 (vl (el l)::vi l.length::vi k::jk 7 [])),[]⟩) j ?_ ?_]
  ·rw[iY l j hj h2 h1];rw[cY l j hj] at h1;simp (disch:=omega) only[go_sem,h313l0,aWf,Gc]
  ·rfl
  ·exact fun k hk=>round k (by omega) (h2 k hk)
theorem aIu(a b:Int):EV G (Tb (bs bb)) 313 [vl [[ci a],[ci b]]] []=some (vi (aQ [a,b]),[]):=aDL [a,b] (by simp)
theorem lR(a b:Int):EV G (Tb (bs bb)) 231 [vl [[ci a],[ci b]]] []=some (vi (aQ [a,b]),[]):=Gq [a,b] (by simp)
theorem bV(a b c:Int):EV G (Tb (bs bb)) 231 [vl [[ci a],[ci b],[ci c]]] []=some (vi (aQ [a,b,c]),[]):=Gq [a,b,c] (by simp)
theorem iB(a b c d e:Int):EV G (Tb (bs bb)) 231 [vl [[ci a],[ci b],[ci c],[ci d],[ci e]]] []=some (vi (aQ [a,b,c,d,e]),[]):=Gq [a,b,c,d,e] (by simp)
def S0:List Int:=[16,32,48,64,96,112,128,144,160,176,192]
def S1:List Int:=[16,48,96,112,144]
theorem fE:EV G (Tb (bs bb)) 281 [] []=some (.one (.mpc tyL),[]):=iI rfl rfl
theorem O4(n:Int):uD tyL n=if n∈S0 then some (.bool (decide (n∈S1))) else none:=by
 unfold tyL S0 S1;simp only[uD,aXn,aXF,or_false];split<;>rename_i h1
 ·subst h1;simp
 split<;>rename_i h2
 ·subst h2;simp
 split<;>rename_i h3
 ·subst h3;simp
 split<;>rename_i h4
 ·subst h4;simp
 split<;>rename_i h5
 ·subst h5;simp
 split<;>rename_i h6
 ·subst h6;simp
 split<;>rename_i h7
 ·subst h7;simp
 split<;>rename_i h8
 ·subst h8;simp
 split<;>rename_i h9
 ·subst h9;simp
 split<;>rename_i h10
 ·subst h10;simp
 split<;>rename_i h11
 ·subst h11;simp
 rw[if_neg (by omega)]
theorem aDM(n:Int):EV G (Tb (bs bb)) 233 [vi n] []=some (vb (decide (n∈S0)),[]):=by
 refine aA rfl ?_;have hm:=O4 n;by_cases h:n∈S0
 ·rw[if_pos h] at hm;simp (disch:=omega) only[go_sem,h233c,fE,Mo,mpR,hm,h]
 ·rw[if_neg h] at hm;simp (disch:=omega) only[go_sem,h233c,fE,Mo,mpR,hm,h]
theorem C4(a:aK)(hl:a.rs.length<=1000000):EV G (Tb (bs bb)) 283 [a.v] []=some (vi (jO a.rs),[]):=by
 refine aA rfl ?_;simp (disch:=omega) only[go_sem,h283c,aWf];rw[aU (fun k=>⟨(jk 3 (vi (jO (a.rs.take k))::jk 3 (gF a.rs::vi a.rs.length::vi k::jk 9 []))),[.box a.c]⟩) a.rs.length ?_ ?_]
 ·simp (disch:=omega) only[go_sem,h283l0,aWY]
 ·rfl
 ·intro k hk;rw[Jh a.rs k hk];simp (disch:=omega) only[go_sem,h283l0,aWf,bF.e]
theorem uV(b:Bool):EV G (Tb (bs bb)) 285 [vb b] []=some (vi (if b=true then 24 else 40),[]):=by
 refine aA rfl ?_;cases b
 all_goals simp (disch:=omega) only[go_sem,h285c]
 all_goals rfl
def Wi(n:Int):Int:=(n+7) / 8 * 8
theorem tA(n:Int)(h:0<=n/\n<=1000000000):EV G (Tb (bs bb)) 286 [vi n] []=some (vi (Wi n),[]):=by
 refine aA rfl ?_;have e:n+8 - 1=n+7:=by omega
 simp (disch:=omega) only[go_sem,h286c,Wh,Wi,e]
end
section
variable {G:aF} {bb:Bool}
def aNd:List Int:=[34,42,47,58,60,62,63,92,124]
def rY(c:Int):Bool:=decide (32<=c/\c<=126/\c∉aNd)
theorem aIv:∀ n:_root_.Fin 256,(Lib.indexByte (ByteArray.mk #[34,42,47,58,60,62,63,92,124]).data.toList ((n.val:Int).toNat.toUInt8) < 0)↔((n.val:Int)∉aNd):=by decide
theorem aIw(c:Int)(h:0<=c/\c<=255):(Lib.indexByte (ByteArray.mk #[34,42,47,58,60,62,63,92,124]).data.toList c.toNat.toUInt8 < 0)=(c∉aNd):=by
 have:=aIv ⟨c.toNat,by omega⟩;simp only[show ((c.toNat:Nat):Int)=c by omega] at this;exact propext this
theorem aRz(s:ByteArray)(c:Int):EV G (Tb (bs bb)) 312 [.one (.dc (.raw (.string s))),vu c] []=some (vi (Lib.indexByte s.data.toList c.toNat.toUInt8),[]):=iI rfl rfl
theorem S2(s:ByteArray)(c:Int):EV G (Tb (bs bb)) 275 [.one (.dc (.raw (.string s))),vu c] []=some (vi (Lib.indexByte s.data.toList c.toNat.toUInt8),[]):=by
 refine aA rfl ?_;simp (disch:=omega) only[go_sem,h275c,aRz]
theorem aNe(c:Int)(h:0<=c/\c<=255):EV G (Tb (bs bb)) 338 [vu c] []=some (vb (rY c),[]):=by
 refine aA rfl ?_;have h1:=aIw c h;unfold rY;by_cases c1:32<=c
 ·by_cases c2:c<=126
  ·simp (disch:=omega) only[go_sem,h338c,S2,c1,c2];simp only[h1,true_and]
  ·simp (disch:=omega) only[go_sem,h338c,S2,c1,c2]
 ·simp (disch:=omega) only[go_sem,h338c,S2,c1]
theorem aNf{id:Nat}:jU [] id=true:=rfl
theorem aNg{j id:Nat}{J:List Nat}:jU (j::J) id=(!nq id j&&jU J id):=by
 simp only[jU,iA,List.contains_cons,Bool.not_or]
attribute [go_sem] aNf aNg
theorem O5(c:Int)(h:0<=c/\c<=255):EV G (Tb (bs bb)) 348 [vu c,.one (.ptr 0 0)] [.box [.fn 338 []]]=some (vb (!rY c),[.box [.fn 338 []]]):=by
 refine aA rfl ?_;have h1:=aNe (G:=G) (bb:=bb) c h;simp (disch:=omega) only[go_sem,h348c,h1]
theorem Wj(l:List Int)(k:Nat)(h:k < l.length):l.getD k 0=l[k]:=cY l k h
theorem aIx(l:List Int)(hB:aL l)(hl:l.length<=1000000):
  EV G (Tb (bs bb)) 351 [vl (bl l),.one (.fn 348 [.ptr 0 0])] [.box [.fn 338 []]]=some (vi (if ix (fun k=>¬ rY (l.getD k 0)=true) l.length=l.length then -1 else (ix (fun k=>¬ rY (l.getD k 0)=true) l.length:Nat)),[.box [.fn 338 []]]):=by
 refine aA rfl ?_;simp (disch:=omega) only[go_sem,h351c,aWf];rw[jH (fun k=>⟨(vl (bl l)::.one (.fn 348 [.ptr 0 0])::jk 5 (vi l.length::vi k::jk 10 [])),[.box [.fn 338 []]]⟩) (fun k=>¬ rY (l.getD k 0)=true) l.length ?_ ?_]
 rotate_left
 ·rfl
 ·intro k hk hn;have h1:=hn k (aWj _);rw[Wj l k hk] at h1;have h0:=hB _ (aWq hk);have h2:=O5 (G:=G) (bb:=bb) l[k] h0;have h3:rY l[k]=true:=Classical.not_not.1 h1;simp (disch:=omega) only[go_sem,h351l0,aWf,sZ,h2,h3]
 obtain⟨hk,hp,hn⟩:=bZ (fun k=>¬ rY (l.getD k 0)=true) l.length
 generalize ix (fun k=>¬ rY (l.getD k 0)=true) l.length=k at *
 rcases hp with rfl | ⟨hk',hp⟩
 ·simp (disch:=omega) only[go_sem,h351l0,aWf]
 ·rw[Wj l k hk'] at hp;have h0:=hB _ (aWq hk');have h2:=O5 (G:=G) (bb:=bb) l[k] h0;have h3:rY l[k]=false:=by simpa using hp
  rw[if_neg (by omega)];simp (disch:=omega) only[go_sem,h351l0,aWf,sZ,h2,h3]
def O6(l:List Int):Bool:=l.all rY
theorem aIy(l:List Int):(if ix (fun k=>¬ rY (l.getD k 0)=true) l.length=l.length then (-1:Int) else (ix (fun k=>¬ rY (l.getD k 0)=true) l.length:Nat)) < 0↔O6 l=true:=by
 obtain⟨hk,hp,hn⟩:=bZ (fun k=>¬ rY (l.getD k 0)=true) l.length
 generalize ix (fun k=>¬ rY (l.getD k 0)=true) l.length=k at *
 rcases hp with rfl | ⟨hk',hp⟩
 ·rw[if_pos rfl];refine⟨fun _=>?_,fun _=>by decide⟩
  unfold O6;rw[List.all_eq_true];intro x hx;obtain⟨j,hj,rfl⟩:=List.mem_iff_getElem.1 hx;have:=hn j hj;rw[Wj l j hj] at this;exact Classical.not_not.1 this
 ·rw[if_neg (by omega)];refine⟨fun h=>by omega,fun h=>?_⟩
  rw[Wj l k hk'] at hp;exact absurd (List.all_eq_true.1 h _ (aWq hk')) hp
theorem S3(l:List Int)(hB:aL l):fK (dO l)=l.map sZ:=by
 unfold fK;rw[O1,aWE];refine aWC (fun b hb=>?_)
 simp only[Function.comp_apply,sZ,iD b (hB b hb)]
theorem aIz(l:List Int)(hB:aL l)(hl:l.length<=1000000):
  EV G (Tb (bs bb)) 347 [vl (bl l),.one (.fn 348 [.ptr 0 0])] [.box [.fn 338 []]]=some (vb (!O6 l),[.box [.fn 338 []]]):=by
 refine aA rfl ?_;have h1:=aIx (G:=G) (bb:=bb) l hB hl;have h2:=aIy l;generalize (if ix (fun k=>¬ rY (l.getD k 0)=true) l.length=l.length then (-1:Int) else (ix (fun k=>¬ rY (l.getD k 0)=true) l.length:Nat))=z at h1 h2
 cases ha:O6 l with
 | true=>
  have h3:=h2.2 ha;simp (disch:=omega) only[go_sem,h347c,h1];simp;omega
 | false=>
  have h3:¬ z < 0:=fun h=>by rw[h2.1 h] at ha;cases ha
  simp (disch:=omega) only[go_sem,h347c,h1];simp;omega
theorem aKA{α β:Type}(f:α->Option β)(x:α):[x].mapM f=(f x).map fun c=>[c]:=by
 cases h:f x<;>simp[aW9,h]
theorem S4(l:List Int)(hB:aL l)(hl:l.length<=1000000):EV G (Tb (bs bb)) 337 [sv l,.one (.fn 338 [])] []=some (vb (O6 l),[]):=by
 refine aA rfl ?_;have h1:=aIz (G:=G) (bb:=bb) l hB hl;have h2:=S3 l hB;cases ha:O6 l
 all_goals rw[ha] at h1
 all_goals simp (disch:=omega) only[go_sem,h337c,h1,h2,aKA,gO]
theorem aRA(l:List Int)(c:Int)(hB:aL l)(hc:0<=c/\c<=255)(hl:l.length<=1000000):EV G (Tb (bs bb)) 349 [sv l,sv [c]] []=some (vb (decide (l≠[]/\l.getLast?=some c)),[]):=by
 refine aA rfl ?_;by_cases h:l=[]
 ·subst h;simp (disch:=omega) only[go_sem,h349c,aWh,aWk]
 ·have hp:1<=l.length:=by have:=List.length_pos_iff.2 h;omega
  have hd:l.drop (l.length - 1)=[l[l.length - 1]]:=by
   rw[aXo (by omega),List.drop_eq_nil_of_le (by omega)]
  have hB1:aL [l[l.length - 1]]:=fun b hb=>by rw[List.mem_singleton.1 hb];exact hB _ (aWq _)
  have hB2:aL [c]:=fun b hb=>by rw[List.mem_singleton.1 hb];exact hc
  have e:=gJ hB1 hB2;have e2:l.getLast?=some l[l.length - 1]:=by rw[List.getLast?_eq_getElem?,aWo (by omega)]
  simp (disch:=omega) only[go_sem,h349c,aWh,aWk,hd,e,e2];simp[h]
theorem aDN(l:List Int)(c:Int)(hB:aL l)(hc:0<=c/\c<=255)(hl:l.length<=1000000):EV G (Tb (bs bb)) 339 [sv l,sv [c]] []=some (vb (decide (l≠[]/\l.getLast?=some c)),[]):=by
 refine aA rfl ?_;have h1:=aRA (G:=G) (bb:=bb) l c hB hc hl;simp (disch:=omega) only[go_sem,h339c,h1]
def Bz(l:List Int):Prop:=l≠[]/\l.length<=32/\O6 l=true/\l≠[46,46]/\l.getLast?≠some 32/\l.getLast?≠some 46
instance (l:List Int):Decidable (Bz l):=by unfold Bz;infer_instance
theorem s46:(⟨#[46,46]⟩:ByteArray)=dO [46,46]:=rfl
theorem Gr:(⟨#[46]⟩:ByteArray)=dO [46]:=rfl
theorem Gs:(⟨#[32]⟩:ByteArray)=dO [32]:=rfl
theorem aDO(l:List Int)(h:(l.all fun b=>decide (0<=b/\b<=255))=true):aL l:=fun b hb=>by simpa using List.all_eq_true.1 h b hb
theorem lS:aL []:=fun b hb=>by cases hb
theorem aAg(l:List Int)(hB:aL l)(hl:l.length<=1000000):EV G (Tb (bs bb)) 315 [sv l] []=some (vb (decide (Bz l)),[]):=by
 refine aA rfl ?_;have e0:=gJ hB lS;have e1:=gJ hB (aDO [46,46] (by decide));have h1:=S4 (G:=G) (bb:=bb) l hB hl;have h2:=aDN (G:=G) (bb:=bb) l 32 hB (by omega) hl;have h3:=aDN (G:=G) (bb:=bb) l 46 hB (by omega) hl;by_cases c0:l=[]
 ·rw[decide_eq_false (fun h:Bz l=>h.1 c0)]
  simp (disch:=omega) only[go_sem,h315c,bD,s46,Gr,Gs,e0,e1,c0]
 ·by_cases c1:l.length<=32
  ·by_cases c2:O6 l=true
   ·rw[c2] at h1;by_cases c3:l=[46,46]
    ·rw[decide_eq_false (fun h:Bz l=>h.2.2.2.1 c3)]
     replace c3:=eq_true c3;simp (disch:=omega) only[go_sem,h315c,bD,s46,Gr,Gs,e0,e1,c0,c1,h1,c3]
    ·by_cases c4:l.getLast?=some 32
     ·rw[decide_eq_false (fun h:Bz l=>h.2.2.2.2.1 c4)]
      rw[decide_eq_true (⟨c0,c4⟩:l≠[]/\l.getLast?=some 32)] at h2;simp (disch:=omega) only[go_sem,h315c,bD,s46,Gr,Gs,e0,e1,c0,c1,h1,c3,h2]
     ·rw[decide_eq_false (fun h:l≠[]/\l.getLast?=some 32=>c4 h.2)] at h2
      by_cases c5:l.getLast?=some 46
      ·rw[decide_eq_false (fun h:Bz l=>h.2.2.2.2.2 c5)]
       rw[decide_eq_true (⟨c0,c5⟩:l≠[]/\l.getLast?=some 46)] at h3;simp (disch:=omega) only[go_sem,h315c,bD,s46,Gr,Gs,e0,e1,c0,c1,h1,c3,h2,h3]
      ·rw[show decide (Bz l)=true from decide_eq_true ⟨c0,c1,c2,c3,c4,c5⟩]
       rw[decide_eq_false (fun h:l≠[]/\l.getLast?=some 46=>c5 h.2)] at h3
       simp (disch:=omega) only[go_sem,h315c,bD,s46,Gr,Gs,e0,e1,c0,c1,h1,c3,h2,h3]
   ·rw[decide_eq_false (fun h:Bz l=>c2 h.2.2.1)]
    rw[aXA.2 c2] at h1;simp (disch:=omega) only[go_sem,h315c,bD,s46,Gr,Gs,e0,e1,c0,c1,h1]
  ·rw[decide_eq_false (fun h:Bz l=>c1 h.2.1)]
   simp (disch:=omega) only[go_sem,h315c,bD,s46,Gr,Gs,e0,e1,c0,c1]
theorem O7(l:List Int)(hB:aL l)(hl:l.length<=1000000):EV G (Tb (bs bb)) 282 [sv l] []=some (vi (aQ [if l.length<=32 then 0 else 8,if Bz l then 0 else 4]),[]):=by
 refine aA rfl ?_;have h1:=aAg (G:=G) (bb:=bb) l hB hl;have e:((l.length:Int)<=32)=(l.length<=32):=by apply propext;omega
 simp (disch:=omega) only[go_sem,h282c,h1,aAf,aIu,decide_eq_true_eq,e]
def Wk(l:List Int):Bool:=decide (l=[]\/Bz l)
theorem aAh(l:List Int)(hB:aL l)(hl:l.length<=1000000):EV G (Tb (bs bb)) 234 [sv l] []=some (vi (if Wk l=true then 0 else 4),[]):=by
 refine aA rfl ?_;have e0:=gJ hB lS;have h1:=O7 (G:=G) (bb:=bb) l hB hl;by_cases c0:l=[]
 ·rw[show Wk l=true from decide_eq_true (.inl c0)]
  simp (disch:=omega) only[go_sem,h234c,bD,e0,c0,fQ]
 ·by_cases c1:Bz l
  ·rw[show Wk l=true from decide_eq_true (.inr c1)]
   have c2:=c1.2.1;rw[if_pos c1,if_pos c2,show aQ [0,0]=0 from rfl] at h1
   simp (disch:=omega) only[go_sem,h234c,bD,e0,c0,h1,fQ]
  ·rw[show Wk l=false from decide_eq_false (fun h=>h.elim c0 c1)]
   rw[if_neg c1] at h1;by_cases c2:l.length<=32
   ·rw[if_pos c2,show aQ [0,4]=4 from rfl] at h1
    simp (disch:=omega) only[go_sem,h234c,bD,e0,c0,h1,fQ]
   ·rw[if_neg c2,show aQ [8,4]=8 from rfl] at h1
    simp (disch:=omega) only[go_sem,h234c,bD,e0,c0,h1,fQ]
end
end Go.Proofs.YthepfneloomngaaGreatDoor
