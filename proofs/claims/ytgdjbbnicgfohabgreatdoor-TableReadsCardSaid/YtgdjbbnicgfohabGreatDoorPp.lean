/- Part. Conditions: none. -/
import Derived.Test.YtgdjbbnicgfohabGreatDoorPa
import Derived.Test.YtgdjbbnicgfohabGreatDoorVi
import Derived.Test.YtgdjbbnicgfohabGreatDoorTu
import Derived.Test.YtgdjbbnicgfohabGreatDoorSo
namespace Go.Proofs.YtgdjbbnicgfohabGreatDoor
set_option maxHeartbeats 2000000
set_option linter.unusedSimpArgs false
set_option linter.unusedVariables false
set_option maxRecDepth 4000
section
variable {G:aF}{B:aO}
theorem aH7(n:Int):EV G (Tb B) 177 [vi n] []=some (vb (decide (0<=n/\n<=2147483647)),[]):=by
 have w:=fun n b a=>bN (G:=G) (B:=B) n b a
 refine aB rfl ?_;by_cases h:0<=n;all_goals simp (disch:=omega) only[go_sem,h177c,w]
 all_goals simp[h]
theorem Eg(a m b n:Int)(h:-1000000<=a/\a<=1000000)(d:-1000000<=m/\m<=1000000)(e:-1000000<=b/\b<=1000000)(c:-1000000<=n/\n<=1000000):EV G (Tb B) 90 [vi a,vi m,vi b,vi n] []=some (vb (Er a m b n),[]):=by
 refine aB rfl ?_;by_cases h:a<b+n;all_goals simp (disch:=omega) only[go_sem,h90c]
 all_goals simp[h,Er]
theorem aDF(x:Bt):EV G (Tb B) 123 [x.v] []=some (vi (jQ x),[]):=by
 have w:=fun n y c=>bN (G:=G) (B:=B) n y c
 have s:=aH7 (G:=G) (B:=B);by_cases a:64<=x.cl/\x.cl<=512
 rotate_left
 have d:x.num=false:=by rw[bA0];exact fun h=>a (mG.1 h).1
 rw[rZ d];refine aB rfl ?_;simp (disch:=omega) only[go_sem,h123c,w,s,a];by_cases h3:8<=x.lc/\x.lc<=64
 rotate_left
 have d:x.num=false:=by rw[bA0];exact fun h=>h3 (mG.1 h).2.2.1
 rw[rZ d];refine aB rfl ?_;simp (disch:=omega) only[go_sem,h123c,w,s,a,h3];by_cases b:x.lc.tmod 2=0
 rotate_left
 have d:x.num=false:=by rw[bA0];exact fun h=>b (mG.1 h).2.1
 rw[rZ d];refine aB rfl ?_;simp (disch:=omega) only[go_sem,h123c,w,s,a,h3,b];by_cases h4:0<=x.se/\x.se<=2147483647
 rotate_left
 have d:x.num=false:=by rw[bA0];exact fun h=>h4 (mG.1 h).2.2.2
 rw[rZ d];refine aB rfl ?_;simp (disch:=omega) only[go_sem,h123c,w,s,a,h3,b,h4];have d:x.num=true:=mG.2 ⟨a,b,h3,h4⟩;by_cases e:1<=x.tb/\x.tb<=x.cl-2
 rotate_left
 have c:x.ins=false:=by rw[bA0];exact fun h=>e (qN.1 h).1
 rw[Ai c];refine aB rfl ?_;simp (disch:=omega) only[go_sem,h123c,w,s,a,h3,b,h4,e];by_cases f:1<=x.mi/\x.mi<=x.cl-2
 rotate_left
 have c:x.ins=false:=by rw[bA0];exact fun h=>f (qN.1 h).2.1
 rw[Ai c];refine aB rfl ?_;simp (disch:=omega) only[go_sem,h123c,w,s,a,h3,b,h4,e,f];by_cases g:1<=x.lg/\x.lg<=x.cl-2
 rotate_left
 have c:x.ins=false:=by rw[bA0];exact fun h=>g (qN.1 h).2.2
 rw[Ai c];refine aB rfl ?_;simp (disch:=omega) only[go_sem,h123c,w,s,a,h3,b,h4,e,f,g];have c:x.ins=true:=qN.2 ⟨e,f,g⟩;by_cases p:x.mi+8<x.cl
 rotate_left
 have hf:x.fit=false:=by rw[bA0];exact fun h=>p (Ef.1 h).1
 have j:x.mi+8 > x.cl-1:=by omega
 rw[K6 d c hf];refine aB rfl ?_;simp (disch:=omega) only[go_sem,h123c,w,s,a,h3,b,h4,e,f,g,j];by_cases q:x.lg+x.lc<x.cl
 rotate_left
 have hf:x.fit=false:=by rw[bA0];exact fun h=>q (Ef.1 h).2
 have j:¬ x.mi+8 > x.cl-1:=by omega
 have i:x.lg+x.lc > x.cl-1:=by omega
 rw[K6 d c hf];refine aB rfl ?_;simp (disch:=omega) only[go_sem,h123c,w,s,a,h3,b,h4,e,f,g,j,i];have j:¬ x.mi+8 > x.cl-1:=by omega
 have i:¬ x.lg+x.lc > x.cl-1:=by omega
 have hf:x.fit=true:=Ef.2 ⟨p,q⟩;have l:=Eg (G:=G) (B:=B) x.tb 2 x.mi 8 (by omega) (by omega) (by omega) (by omega);have m:=Eg (G:=G) (B:=B) x.tb 2 x.lg x.lc (by omega) (by omega) (by omega) (by omega);have o:=Eg (G:=G) (B:=B) x.mi 8 x.lg x.lc (by omega) (by omega) (by omega) (by omega);have k:x.cla=(!Er x.tb 2 x.mi 8&&!Er x.tb 2 x.lg x.lc&&!Er x.mi 8 x.lg x.lc):=rfl;generalize Er x.tb 2 x.mi 8=r at l k;generalize Er x.tb 2 x.lg x.lc=t at m k;generalize Er x.mi 8 x.lg x.lc=u at o k;rw[Vo d c hf,k];refine aB rfl ?_;cases r;cases t
 ·cases u;all_goals simp (disch:=omega) only[go_sem,h123c,w,s,a,h3,b,h4,e,f,g,j,i,l,m,o]
  all_goals rfl
 simp (disch:=omega) only[go_sem,h123c,w,s,a,h3,b,h4,e,f,g,j,i,l,m,o];rfl;simp (disch:=omega) only[go_sem,h123c,w,s,a,h3,b,h4,e,f,g,j,i,l,m,o];rfl
end
section
variable {G:aF}{B:aO}
theorem Fo(n a b:Int):EV G (Tb B) 134 [vi n,vi a,vi b] []=some (vb (decide (a<=n/\n<=b)),[]):=by
 refine aB rfl ?_;by_cases h:a<=n;all_goals simp (disch:=omega) only[go_sem,h134c]
 all_goals simp[h]
theorem Fp(b:Bool)(e:Int):EV G (Tb B) 95 [vb b,vi e] []=some (vi (qB b e),[]):=by
 refine aB rfl ?_;cases b;all_goals simp (disch:=omega) only[go_sem,h95c]
 all_goals rfl
theorem Fq(l:L Int)(h:l.length<=200000):EV G (Tb B) 94 [sv l] []=some (vi 0,[]):=by
 have u:=Fp (G:=G) (B:=B);refine aB rfl ?_;have e:(l.length:Int)<=200000:=by omega
 simp (disch:=omega) only[go_sem,h94c,u,e,eB]
theorem Od(n:Int)(h:1<=n/\n<=6):EV G (Tb B) 133 [vi n] []=some (vi 0,[]):=by
 have u:=Fp (G:=G) (B:=B);have w:=fun n b a=>Fo (G:=G) (B:=B) n b a
 refine aB rfl ?_;simp (disch:=omega) only[go_sem,h133c,u,w,eB,h]
theorem aH8(l:L Int)(g:l.length<=1000):EV G (Tb B) 93 [vl (el l)] []=some (vi (aT l),[]):=by
 refine aB rfl ?_;simp (disch:=omega) only[go_sem,h93c,aZA];have a:∀ k (b:k < l.length),¬ l.getD k 0≠0->Ls [5,0,0] 0 (EC (EV G (Tb B)) G h93l0 ⟨(jk 5 (vl (el l)::vi l.length::vi k::jk 7 [])),[]⟩)=some ⟨(jk 5 (vl (el l)::vi l.length::vi (k+1:Nat)::jk 7 [])),[]⟩:=fun k b f=>by
  rw[cE l k b] at f;simp (disch:=omega) only[go_sem,h93l0,aZA,tL]
 rcases Pv (fun k=>l.getD k 0≠0) l.length with h|⟨j,e,c,d⟩
 rw[aR (fun k=>⟨(jk 5 (vl (el l)::vi l.length::vi k::jk 7 [])),[]⟩) l.length ?_ ?_]
 rw[iH l h];simp (disch:=omega) only[go_sem,h93l0];rfl;exact fun k b=>a k b (h k b)
 rw[aR (fun k=>⟨(jk 5 (vl (el l)::vi l.length::vi k::jk 7 [])),[]⟩) j ?_ ?_]
 rw[kH l j e d c];rw[cE l j e] at c;simp (disch:=omega) only[go_sem,h93l0,aZA,tL];rfl;exact fun k b=>a k (by omega) (d k b)
theorem Vp(a b:Int):EV G (Tb B) 93 [vl [[ci a],[ci b]]] []=some (vi (aT [a,b]),[]):=aH8 [a,b] (by simp)
theorem aH9:EV G (Tb B) 135 [vi 4] []=some (vi 4294967296,[]):=by
 refine aB rfl ?_;have e:(1:Int)*2 ^ min 32 64=4294967296:=rfl;simp (disch:=omega) only[go_sem,h135c,Int.reduceMul,Int.reduceToNat,IntKind.bits,e]
theorem aMF(n:Int)(j:Nat)(p:Int)(hp:0<p)(h:(2:Int) ^ min (8*(j:Int)).toNat 64=p):n.fdiv (2 ^ min (8*(j:Int)).toNat 64)=n / p:=by
 rw[h,Int.fdiv_eq_ediv_of_nonneg _ (by omega)]
theorem aDG(n:Int)(k:0<=n/\n<=4294967295):EV G (Tb B) 136 [vi n,vi 4] []=some (sv (bI n 4),[]):=by
 refine aB rfl ?_;simp (disch:=omega) only[go_sem,h136c];rw[aR (fun j=>⟨(vi n::jk 4 (.one (.bld 0 4)::jk 4 (vi 4::vi j::jk 13 []))),[.arr 0 1 (bl (bI n j++(zl 4).drop j))]⟩) 4 ?_ ?_]
 have e:bI n 4++List.drop 4 (zl 4)=bI n 4:=by simp[zl]
 have a:List.take 4 (bl (bI n 4))=bl (bI n 4):=bAc (by simp[aA]);simp (disch:=omega) only[go_sem,h136l0,e,a,aZA,aA];rfl
 ·intro j i;have b:=aMF n 0 1 (by decide) rfl;have d:=aMF n 1 256 (by decide) rfl;have a:=aMF n 2 65536 (by decide) rfl;have c:=aMF n 3 16777216 (by decide) rfl;have f:n / 65536=n / 256 / 256:=by omega
  have g:n / 16777216=n / 256 / 256 / 256:=by omega
  rw[Int.ediv_one] at b;rw[f] at a;rw[g] at c;simp only[bA5,Int.natCast_one,show ((2:Nat):Int)=2 from rfl,show ((3:Nat):Int)=3 from rfl] at b d a c
  have h:(2:Int).toNat=2:=rfl;have t3:(3:Int).toNat=3:=rfl;rcases (show j=0\/j=1\/j=2\/j=3 by omega) with rfl|rfl|rfl|rfl
  all_goals simp (disch:=omega) only[go_sem,h136l0,h,t3,bI,Gg,zl,List.replicate,bAr,bBa,aZP,aZT,aZM,aZN,Aw,wu8,b,d,a,c,bAg,Int.reduceAdd]
abbrev tS(l:L Int):TV:=.one (.dc (.raw (.string (dO l))))
abbrev tI(n:Int):TV:=.one (.dc (.raw (.int .i64 n)))
theorem Y5(n:Int)(a:0<=n/\n<=4294967295):EV G (Tb B) 92 [vi n,vi 4] []=some (.tup [tS (bI n 4),tI 0],[]):=by
 have c:=Od (G:=G) (B:=B) 4 (by omega);have l:=aH9 (G:=G) (B:=B);have w:=Fo (G:=G) (B:=B) n 0 4294967295;have q:=aDG (G:=G) (B:=B) n a;refine aB rfl ?_;simp (disch:=omega) only[go_sem,h92c,c,l,w,q,a,Int.reduceSub]
theorem kK(n:Int)(a:0<=n/\n<=4294967295):EV G (Tb B) 63 [vi n] []=some (sv (bI n 4),[]):=by
 have q:=Y5 (G:=G) (B:=B) n a;refine aB rfl ?_;simp (disch:=omega) only[go_sem,h63c,q]
def aRk(s:Int):Int:=(2*s) % 2147483648+s / 1073741824
def Md(s c:Int):Int:=(aRk s+c) % 2147483648
def kO(l:L Int):Int:=l.foldl Md 0
theorem aMG(s c:Int):0<=Md s c/\Md s c<=2147483647:=by unfold Md;omega
theorem Fr(l:L Int)(a:Int):kO (l++[a])=Md (kO l) a:=by simp[kO]
theorem Eh:∀l:L Int,0<=kO l/\kO l<=2147483647:=by
 intro l;rcases List.eq_nil_or_concat l with rfl|⟨l,a,rfl⟩
 simp[kO];rw[List.concat_eq_append,Fr];exact aMG _ _
theorem aX9(x:Int)(h:0<=x/\x<=4294967296):Xu .i64 x 2147483647=x % 2147483648:=by
 obtain⟨x,rfl⟩:=bAH h.1;have a:(BitVec.ofInt 64 (x:Int) &&& BitVec.ofInt 64 2147483647).toNat=x % 2147483648:=by
  rw[BitVec.toNat_and,show (BitVec.ofInt 64 2147483647).toNat=2 ^ 31-1 from rfl,Nat.and_two_pow_sub_one_eq_mod,BitVec.ofInt_natCast,BitVec.toNat_ofNat]
  omega
 show IntKind.i64.wrap (((BitVec.ofInt 64 (x:Int) &&& BitVec.ofInt 64 2147483647).toNat:Nat):Int)=_;rw[a,Bv (by omega)];omega
theorem orS(n b:Int)(e:0<=n/\n<=4294967296)(d:0<=b/\b<=1):Xv .i64 (n*2) b=n*2+b:=by
 obtain⟨n,rfl⟩:=bAH e.1;obtain⟨b,rfl⟩:=bAH d.1;have a:((n:Int)*2)=((n*2:Nat):Int):=by simp
 have c:n*2 ||| b=n*2+b:=by
  have:=Nat.shiftLeft_add_eq_or_of_lt (show b<2 ^ 1 by omega) n;rw[Nat.shiftLeft_eq] at this;exact this.symm
 rw[Xv,a,J2,BitVec.ofInt_natCast,BitVec.ofInt_natCast,BitVec.toNat_or,BitVec.toNat_ofNat,BitVec.toNat_ofNat,bAy (by omega),bAy (by omega),c,Bv (by omega)];simp
theorem aDH(s c:Int)(i:0<=s/\s<=2147483647)(h:0<=c/\c<=255):EV G (Tb B) 98 [vi s,vi c] []=some (vi (Md s c),[]):=by
 have a:s*2 ^ min 1 64=s*2:=rfl;have b:s.fdiv (2 ^ min 30 64)=s / 1073741824:=Int.fdiv_eq_ediv_of_nonneg _ (by decide);have d:Xu .i64 (s*2) 2147483647=s % 1073741824*2:=by rw[aX9 _ (by omega)];omega
 have e:=orS (s % 1073741824) (s / 1073741824) (by omega) (by omega);have f:Md s c=(s % 1073741824*2+s / 1073741824+c) % 2147483648:=by unfold Md aRk;omega
 have g:(s % 1073741824*2+s / 1073741824+c).tmod 2147483648=(s % 1073741824*2+s / 1073741824+c) % 2147483648:=bBd (by omega);refine aB rfl ?_;simp (disch:=omega) only[go_sem,h98c,Int.reduceToNat,IntKind.bits,a,b,d,e,f,g]
theorem aMH(l:L Int)(a:aI l)(e:l.length<=200000):EV G (Tb B) 97 [sv l,vi 0,.one (.fn 98 [])] []=some (.tup [tI (kO l),tI 0],[]):=by
 have q:=Fq (G:=G) (B:=B) l e;have d:=nP l a;refine aB rfl ?_;simp (disch:=omega) only[go_sem,h97c,q,d,aZA];rw[aR (fun k=>⟨(jk 1 (vi (kO (l.take k))::.one (.fn 98 [])::jk 14 (vl (bl l)::vi l.length::vi k::jk 10 []))),[]⟩) l.length ?_ ?_]
 simp (disch:=omega) only[go_sem,h97l0,bAj];rfl;intro k c;have b:=a _ (aZK c);have s:=aDH (G:=G) (B:=B) (kO (l.take k)) l[k] (Eh _) b;have f:=iA _ b;rw[bAA c,Fr];simp (disch:=omega) only[go_sem,h97l0,aZA,Aw,s,f,aZU]
theorem aIa(l:L Int)(a:aI l)(b:l.length<=200000):EV G (Tb B) 65 [sv l] []=some (.tup [tI (kO l),tI 0],[]):=by
 have q:=aMH (G:=G) (B:=B) l a b;refine aB rfl ?_;simp (disch:=omega) only[go_sem,h65c,q]
theorem aRl(l:L Int)(b:aI l)(m:l.length<=4):EV G (Tb B) 266 [sv l] []=some (vi (gv l),[]):=by
 refine aB rfl ?_;have g:gv l=gL l 0 l.length:=by unfold gL;rw[bAr,bAj]
 rw[g];simp (disch:=first|omega|(simp only[aZB,aZC,aZD,aZA,aA];omega)) only[go_sem,h266c]
 rw[aR (fun j=>⟨(sv l::jk 2 (vi (gL l (l.length-j) j)::vi ((l.length:Int)-1-j)::jk 15 [])),[]⟩) l.length ?_ ?_]
 have a:¬ 0<=(l.length:Int)-1-(l.length:Int):=by omega
 have e:l.length-l.length=0:=by omega
 simp (disch:=first|omega|(simp only[aZB,aZC,aZD,aZA,aA];omega)) only[go_sem,h266l0,a,e]
 simp[gL,gv,jk];intro j k;have c:=b _ (aZK (show l.length-1-j<l.length by omega));have h:=kV b (l.length-j) j (by omega);have d:gL l (l.length-(j+1)) (j+1)=gL l (l.length-j) j*256+l[l.length-1-j]'(by omega):=by
  have:l.length-(j+1)<l.length:=by omega
  rw[aHw l _ j this,show l.length-(j+1)+1=l.length-j by omega,Int.mul_comm];rw[Int.add_comm];congr 1;congr 1;omega
 have a:0<=(l.length:Int)-1-(j:Int):=by omega
 rw[d];generalize gL l (l.length-j) j=z at h ⊢;have f:((l.length:Int)-1-(j:Int)).toNat=l.length-1-j:=by omega
 have i:=iA _ c;have o:=orL z _ (by omega) c;simp (disch:=first|omega|(simp only[aZB,aZC,aZD,aZA,aA];omega)) only[go_sem,h266l0,eq_true a,aZU,f,i,Int.reduceToNat,Int.reducePow,o]
 rw[show (l.length:Int)-1-(j:Int)-1=(l.length:Int)-1-((j:Int)+1) by omega]
theorem aRm(l:L Int)(a k:Nat)(h:a+k<=l.length)(g:1<=k/\k<=6)(d:l.length<=200000):EV G (Tb B) 265 [sv l,vi a,vi k] []=some (.tup [tS ((l.drop a).take k),tI 0],[]):=by
 have q:=Fq (G:=G) (B:=B) l d;have c:=Od (G:=G) (B:=B) k (by omega);have f:=Vp (G:=G) (B:=B) 0 0;have w:=Fo (G:=G) (B:=B) a 0 ((l.length:Int)-k);have e:(0:Int)<=a/\(a:Int)<=(l.length:Int)-k:=by omega
 rw[decide_eq_true e] at w;have b:aT [0,0]=0:=rfl;rw[b] at f;refine aB rfl ?_;simp (disch:=first|omega|(simp only[aZB,aZC,aZD,aZA,aA,aZI,aZF,aZL,aC,aS]<;>omega)|fail) only[go_sem,h265c,q,c,f,w]
theorem A9(l:L Int)(b:aI l)(a:Nat)(h:a+4<=l.length)(d:l.length<=200000):EV G (Tb B) 218 [sv l,vi a,vi 4] []=some (.tup [tI (gL l a 4),tI 0],[]):=by
 have c:=aRm (G:=G) (B:=B) l a 4 h (by omega) d;have n:=aRl (G:=G) (B:=B) ((l.drop a).take 4) (Ab b a 4) (by rw[aZF];omega);rw[show ((4:Nat):Int)=4 from rfl] at c
 refine aB rfl ?_;simp (disch:=omega) only[go_sem,h218c,c,n,gL]
theorem aRn(d:B 96 [.one (.dc (.raw (.string ⟨#[0]⟩))),vi 28] []=some (sv (zl 28),[]))(l:L Int)(h:l.length=32):EV G (Tb B) 64 [sv l,vi 60] []=some (.tup [tS (l++zl 28),tI 0],[]):=by
 have q:=Fq (G:=G) (B:=B) l (by omega);have u:=Fp (G:=G) (B:=B) true 11;have f:=Vp (G:=G) (B:=B) 0 0;have b:aT [0,0]=0:=rfl;rw[b] at f;have a:EV G (Tb B) 96 [.one (.dc (.raw (.string ⟨#[0]⟩))),vi 28] []=some (sv (zl 28),[]):=jF rfl d;refine aB rfl ?_;have c:(l.length:Int)=32:=by omega
 have m:(32:Int).tmod 60=32:=rfl;simp (disch:=first|omega|(simp only[aZB,aZC,aZD,aZA,aA,aZI,aZF,aZL,aC,aS]<;>omega)|fail) only[go_sem,h64c,q,u,f,c,m,a,eB,Int.reduceLT,Int.reduceSub,Int.reduceGT,decide_true,decide_false,Int.reduceEq]
end
section
variable {G:aF}{B:aO}
abbrev ptB:L aU:=[.ptr 0 0,.ptr 0 1,.ptr 0 2,.ptr 0 3,.ptr 0 4,.ptr 0 5]
theorem aDI(x:Bt):qC true h62.rs 1 (EC (EV G (Tb B)) G h62.code ⟨[.one (.ptr 0 0)]++tF (h62.nt-1),[x.o]⟩)=some (.one (.bls 1 0 6 1),[x.o,.box ptB]):=by
 simp (maxSteps:=2000000) (disch:=omega) only[go_sem,h62c]
def Ak:L Int:=[68,69,80,79,83,73,84,49]
def Bt.fs(x:Bt):L Int:=[x.cl,x.tb,x.mi,x.lg,x.lc,x.se]
def Bt.hd(x:Bt)(k:Nat):L Int:=Ak++((x.fs.take k).flatMap fun n=>bI n 4)
def Bt.s60(x:Bt):L Int:=x.hd 6++zl 28
def Bt.bs(x:Bt):L Int:=x.s60++bI (kO x.s60) 4
theorem aVS(x:Bt):x.hd 0=Ak:=by simp[Bt.hd]
theorem aMJ(x:Bt):x.hd 1=x.hd 0++bI x.cl 4:=by simp[Bt.hd,Bt.fs]
theorem aMK(x:Bt):x.hd 2=x.hd 1++bI x.tb 4:=by simp[Bt.hd,Bt.fs]
theorem aML(x:Bt):x.hd 3=x.hd 2++bI x.mi 4:=by simp[Bt.hd,Bt.fs]
theorem aMM(x:Bt):x.hd 4=x.hd 3++bI x.lg 4:=by simp[Bt.hd,Bt.fs]
theorem aMN(x:Bt):x.hd 5=x.hd 4++bI x.lc 4:=by simp[Bt.hd,Bt.fs]
theorem aMO(x:Bt):x.hd 6=x.hd 5++bI x.se 4:=by simp[Bt.hd,Bt.fs]
theorem K7(x:Bt)(k:Nat)(h:k<=6):(x.hd k).length=8+4*k:=by
 rcases (show k=0\/k=1\/k=2\/k=3\/k=4\/k=5\/k=6 by omega) with rfl|rfl|rfl|rfl|rfl|rfl|rfl<;>simp[Bt.hd,Bt.fs,aA,Ak]
theorem Oe:aI Ak:=by unfold aI Ak;decide
theorem aMP(x:Bt)(k:Nat):aI (x.hd k):=by
 intro b c;rcases bAV.1 c with h|h
 exact Oe b h;obtain⟨n,_,a⟩:=List.mem_flatMap.1 h;exact cU _ _ b a
theorem K8(x:Bt):aI x.s60:=by
 intro b a;rcases bAV.1 a with h|h
 exact aMP x 6 b h;have:=(List.mem_replicate.1 h).2;omega
theorem Ba(x:Bt):x.s60.length=60:=by rw[Bt.s60,aZB,K7 x 6 (by omega),aS]
theorem K9(x:Bt):x.bs.length=64:=by rw[Bt.bs,aZB,Ba,aA]
theorem Bb(x:Bt):aI x.bs:=by
 intro b a;rcases bAV.1 a with h|h
 exact K8 x b h;exact cU _ _ b h
theorem Oh(x:Bt)(hf:EV G (Tb B) 62 [.one (.ptr 0 0)] [x.o]=some (.one (.bls 1 0 6 1),[x.o,.box ptB]))(w:B 96 [.one (.dc (.raw (.string ⟨#[0]⟩))),vi 28] []=some (sv (zl 28),[])) (f:∀n∈x.fs,0<=n/\n<=4294967295):EV G (Tb B) 34 [x.v] []=some (sv x.bs,[]):=by
 refine aB rfl ?_;simp (maxSteps:=2000000) (disch:=omega) only[go_sem,h34c,hf];rw[aR (fun k=>⟨(jk 3 (sv (x.hd k)::jk 4 (.one (.bls 1 0 6 1)::vi 6::vi k::jk 24 []))),[x.o,.box ptB]⟩) 6 ?_ ?_]
 have h:=K7 x 6 (by omega);have p:=aRn (G:=G) w (x.hd 6) h;have s:=aIa (G:=G) (B:=B) x.s60 (K8 x) (by rw[Ba];omega);have q:=kK (G:=G) (B:=B) (kO x.s60) (by have:=Eh x.s60;omega);have e:x.bs=x.s60++bI (kO x.s60) 4:=rfl;have d:=Ba x;change EV G (Tb B) _ _ _=some (.tup [tS x.s60,tI 0],[]) at p;rw[e];generalize x.s60=S at p s q d ⊢;generalize x.hd 6=H at p h ⊢;simp (maxSteps:=2000000) (disch:=first|omega|(simp only[aZB,aZC,aZD,aZA,aA,aZI,aZF,aZL,aC,aS]<;>omega)|fail) only[go_sem,h34l0,p,s,q]
 rfl;intro j y;have g:=fun n=>kK (G:=G) (B:=B) n
 simp only[Bt.fs,bAL,bA6,or_false,forall_eq_or_imp,forall_eq] at f;obtain⟨i,l,m,r,t,u⟩:=f;have a:=K7 x j (by omega);have b:(2:Int).toNat=2:=rfl;have t3:(3:Int).toNat=3:=rfl;have c:(4:Int).toNat=4:=rfl;have t5:(5:Int).toNat=5:=rfl;rcases (show j=0\/j=1\/j=2\/j=3\/j=4\/j=5 by omega) with rfl|rfl|rfl|rfl|rfl|rfl
 have q:=kK (G:=G) (B:=B) x.cl i;rw[aMJ];generalize x.hd 0=H at a ⊢;simp (maxSteps:=2000000) (disch:=first|omega|(simp only[aZB,aZC,aZD,aZA,aA,aZI,aZF,aZL,aC,aS]<;>omega)|fail) only[go_sem,h34l0,q,Int.reduceAdd,bAg,b,t3,c,t5]
 have q:=kK (G:=G) (B:=B) x.tb l;rw[aMK];generalize x.hd 1=H at a ⊢;simp (maxSteps:=2000000) (disch:=first|omega|(simp only[aZB,aZC,aZD,aZA,aA,aZI,aZF,aZL,aC,aS]<;>omega)|fail) only[go_sem,h34l0,q,Int.reduceAdd,bAg,b,t3,c,t5]
 have q:=kK (G:=G) (B:=B) x.mi m;rw[aML];generalize x.hd 2=H at a ⊢;simp (maxSteps:=2000000) (disch:=first|omega|(simp only[aZB,aZC,aZD,aZA,aA,aZI,aZF,aZL,aC,aS]<;>omega)|fail) only[go_sem,h34l0,q,Int.reduceAdd,bAg,b,t3,c,t5]
 have q:=kK (G:=G) (B:=B) x.lg r;rw[aMM];generalize x.hd 3=H at a ⊢;simp (maxSteps:=2000000) (disch:=first|omega|(simp only[aZB,aZC,aZD,aZA,aA,aZI,aZF,aZL,aC,aS]<;>omega)|fail) only[go_sem,h34l0,q,Int.reduceAdd,bAg,b,t3,c,t5]
 have q:=kK (G:=G) (B:=B) x.lc t;rw[aMN];generalize x.hd 4=H at a ⊢;simp (maxSteps:=2000000) (disch:=first|omega|(simp only[aZB,aZC,aZD,aZA,aA,aZI,aZF,aZL,aC,aS]<;>omega)|fail) only[go_sem,h34l0,q,Int.reduceAdd,bAg,b,t3,c,t5]
 have q:=kK (G:=G) (B:=B) x.se u;rw[aMO];generalize x.hd 5=H at a ⊢;simp (maxSteps:=2000000) (disch:=first|omega|(simp only[aZB,aZC,aZD,aZA,aA,aZI,aZF,aZL,aC,aS]<;>omega)|fail) only[go_sem,h34l0,q,Int.reduceAdd,bAg,b,t3,c,t5]
end
section
variable {G:aF}{B:aO}
noncomputable def Y6(l:L Int):Nat:=ix (fun k=>¬ l.getD (l.length-1-k) 0=0) l.length
noncomputable def lzN(l:L Int):Nat:=ix (fun k=>¬ l.getD k 0=0) l.length
theorem H9{l:L Int}{k:Nat}{x:Int}(h:k<l.length)(e:l.getD k 0=x):l[k]?=some x:=by
 simp only[aZO,aZJ h,bAm] at e ⊢;rw[e]
theorem aIb(l:L Int)(d:aI l)(o:l.length<=1000000):EV G (Tb B) 234 [sv l,vu 0] []=some (sv (l.take (l.length-Y6 l)),[]):=by
 refine aB rfl ?_;have h6:((u8 0).toNat:Int)=0:=rfl;simp (disch:=omega) only[go_sem,h234c];rw[dE (fun k=>⟨(sv (l.take (l.length-k))::vu 0::jk 21 []),[]⟩) (fun k=>¬ l.getD (l.length-1-k) 0=0) l.length ?_ ?_]
 rotate_left
 simp[jk];intro k h b;have c:=Classical.not_not.1 (b k (aZE _));have a:(l.take (l.length-k)).length=l.length-k:=by rw[aZF];omega
 have g:(l.take (l.length-k))[l.length-k-1]?=some 0:=by
  rw[bAa,if_pos (by omega),show l.length-k-1=l.length-1-k by omega];exact H9 (by omega) c
 have e:(l.take (l.length-k)).take (l.length-k-1)=l.take (l.length-(k+1)):=by
  rw[List.take_take];congr 1;omega
 have hp:((l.length-k:Nat):Int) > 0:=by omega
 have j:l.length-k<=1000000:=by omega
 generalize l.take (l.length-k)=T at a g e ⊢;generalize l.take (l.length-(k+1))=T' at e ⊢;generalize l.length-k=n at *;simp (disch:=omega) only[go_sem,h234l0,aC,a,g,e,eq_true hp,h6];obtain⟨h,hp,b⟩:=bD (fun k=>¬ l.getD (l.length-1-k) 0=0) l.length
 rw[show Y6 l=ix (fun k=>¬ l.getD (l.length-1-k) 0=0) l.length from rfl]
 generalize ix (fun k=>¬ l.getD (l.length-1-k) 0=0) l.length=k at *
 have a:(l.take (l.length-k)).length=l.length-k:=by rw[aZF];omega
 rcases hp with rfl|⟨i,hp⟩;rw[bAs] at a ⊢;simp (disch:=omega) only[go_sem,h234l0,aC,a];have g:(l.take (l.length-k))[l.length-k-1]?=some (l.getD (l.length-1-k) 0):=by
  rw[bAa,if_pos (by omega),show l.length-k-1=l.length-1-k by omega];exact H9 (by omega) rfl
 have f:0<=l.getD (l.length-1-k) 0/\l.getD (l.length-1-k) 0<=255:=by
  rw[cE l _ (by omega)];exact d _ (aZK _)
 have hp':((l.length-k:Nat):Int) > 0:=by omega
 have j:l.length-k<=1000000:=by omega
 generalize l.getD (l.length-1-k) 0=x at *;have m:=iA x f;generalize l.take (l.length-k)=T at a g ⊢;generalize l.length-k=n at *;simp (disch:=omega) only[go_sem,h234l0,aC,a,g,eq_true hp',m,eq_false hp]
theorem aIc(l:L Int)(d:aI l)(p:l.length<=1000000):EV G (Tb B) 233 [sv l,vu 0] []=some (sv (l.drop (lzN l)),[]):=by
 refine aB rfl ?_;have h6:((u8 0).toNat:Int)=0:=rfl;simp (disch:=omega) only[go_sem,h233c];rw[dE (fun k=>⟨(sv (l.drop k)::vu 0::jk 15 []),[]⟩) (fun k=>¬ l.getD k 0=0) l.length ?_ ?_]
 rotate_left
 simp[jk];intro k h b;have c:=Classical.not_not.1 (b k (aZE _));have a:(l.drop k).length=l.length-k:=aZL;have g:(l.drop k)[0]?=some 0:=by
  rw[aZ9];exact H9 (by omega) c
 have e:(l.drop k).drop 1=l.drop (k+1):=by rw[bAE]
 have hp:((l.length-k:Nat):Int) > 0:=by omega
 have j:l.length-k<=1000000:=by omega
 have q:1<=l.length-k:=by omega
 generalize l.drop k=T at a g e ⊢;generalize l.drop (k+1)=T' at e ⊢;generalize l.length-k=n at *;have o:T.take n=T:=by rw[<- a,bAj]
 simp (disch:=omega) only[go_sem,h233l0,aC,a,g,e,eq_true hp,h6,o];obtain⟨h,hp,b⟩:=bD (fun k=>¬ l.getD k 0=0) l.length
 rw[show lzN l=ix (fun k=>¬ l.getD k 0=0) l.length from rfl]
 generalize ix (fun k=>¬ l.getD k 0=0) l.length=k at *
 have a:(l.drop k).length=l.length-k:=aZL;rcases hp with rfl|⟨i,hp⟩
 rw[bAs] at a;simp (disch:=omega) only[go_sem,h233l0,aC,a];have g:(l.drop k)[0]?=some (l.getD k 0):=by
  rw[aZ9];exact H9 (by omega) rfl
 have f:0<=l.getD k 0/\l.getD k 0<=255:=by
  rw[cE l _ (by omega)];exact d _ (aZK _)
 have hp':((l.length-k:Nat):Int) > 0:=by omega
 have j:l.length-k<=1000000:=by omega
 generalize l.getD k 0=x at *;have m:=iA x f;generalize l.drop k=T at a g ⊢;generalize l.length-k=n at *;simp (disch:=omega) only[go_sem,h233l0,aC,a,g,eq_true hp',m,eq_false hp]
noncomputable def trZ(l:L Int):L Int:=(l.take (l.length-Y6 l)).drop (lzN (l.take (l.length-Y6 l)))
theorem aMQ(l:L Int):trZ l=[]↔l=zl l.length:=by
 obtain⟨j,hp,b⟩:=bD (fun k=>¬ l.getD (l.length-1-k) 0=0) l.length
 have e:Y6 l=ix (fun k=>¬ l.getD (l.length-1-k) 0=0) l.length:=rfl
 rw[<- e] at j hp b;constructor;intro h;rcases hp with hp|⟨g,a⟩
 refine List.ext_getElem (by rw[aS]) fun i h3 h4=>?_
 have h5:=Classical.not_not.1 (b (l.length-1-i) (by omega));rw[show l.length-1-(l.length-1-i)=i by omega,cE l i h3] at h5;rw[h5];simp[zl];exfalso;unfold trZ at h;obtain⟨o,p,d⟩:=bD (fun k=>¬ (l.take (l.length-Y6 l)).getD k 0=0) (l.take (l.length-Y6 l)).length
 have f:lzN (l.take (l.length-Y6 l))=ix (fun k=>¬ (l.take (l.length-Y6 l)).getD k 0=0) (l.take (l.length-Y6 l)).length:=rfl
 rw[<- f] at o p d;have q:(l.take (l.length-Y6 l)).length=l.length-Y6 l:=by rw[aZF];omega
 rw[List.drop_eq_nil_iff] at h;have h3:=d (l.length-1-Y6 l) (by omega);apply a;have h4:=Classical.not_not.1 h3;simp only[aZO,bAa] at h4 ⊢;rw[if_pos (by omega)] at h4;exact h4;intro h;have n:Y6 l=l.length:=by
  rcases hp with hp|⟨g,a⟩;exact hp
  exfalso;apply a;have m:∀ x∈l,x=0:=fun x c=>by
   rw[h] at c;exact (List.mem_replicate.1 c).2
  rw[cE l _ (by omega)];exact m _ (aZK _)
 unfold trZ;rw[n,bAs,bAQ,List.drop_nil]
theorem aId{l:L Int}(h:aI l):aI (trZ l):=fun x a=>h x (aZ0 (bAb a))
theorem aMR(l:L Int)(a:aI l)(g:l.length<=1000000)(f:l≠[]):EV G (Tb B) 199 [sv l,.one (.dc (.raw (.string ⟨#[0]⟩)))] []=some (sv (trZ l),[]):=by
 have k:=aIb (G:=G) (B:=B) l a g;have m:=aIc (G:=G) (B:=B) (l.take (l.length-Y6 l)) (fun x i=>a x (aZ0 i)) (by rw[aZF];omega)
 have j:Ik (.one (.dc (.raw (.string ⟨#[0]⟩)))) 0=some (vu 0):=by rfl
 have b:¬ dO l=⟨#[]⟩:=by
  intro h;have:=congrArg ByteArray.size h;rw[aC] at this;exact f (List.length_eq_zero_iff.1 this)
 have c:¬ (⟨#[0]⟩:ByteArray)=⟨#[]⟩:=by decide
 have e:((UInt8.toNat 0:Nat):Int)=0:=rfl;have d:(((#[0]:Array UInt8).size:Nat):Int)=1:=rfl;refine aB rfl ?_;simp (disch:=omega) only[go_sem,h199c,k,m,j,b,c,d,e,trZ]
theorem aMS(s p:L Int)(a:aI s)(hp:aI p)(d:s.length<=1000000)(h:p.length<=s.length):EV G (Tb B) 138 [sv s,sv p] []=some (vb (decide (s.take p.length=p)),[]):=by
 have b:aI (s.take p.length):=fun x c=>a x (aZ0 c)
 have e:=cR b hp;have l:EV G (Tb B) 194 [sv s,sv p] []=some (vb (decide (s.take p.length=p)),[]):=by
  refine aB rfl ?_;simp (disch:=first|omega|(simp only[aZB,aZC,aZD,aZA,aA,aZI,aZF,aZL,aC,aS]<;>omega)|fail) only[go_sem,h194c,aC,e]
 refine aB rfl ?_;simp (disch:=omega) only[go_sem,h138c,l]
end
section
variable {G:aF}{B:aO}
def nB:Bt:=⟨0,0,0,0,0,0⟩
def oR(s:L Int)(k:Nat):Bt:=⟨if 0<k then gL s 8 4 else 0,if 1<k then gL s 12 4 else 0,if 2<k then gL s 16 4 else 0,if 3<k then gL s 20 4 else 0,if 4<k then gL s 24 4 else 0,if 5<k then gL s 28 4 else 0⟩
noncomputable def aRo(s:L Int):Bool:=decide (s.take 8=Ak)&&decide (trZ ((s.take 60).drop 32)=[])&&decide (s.drop 60=bI (kO (s.take 60)) 4)
noncomputable def fU(s:L Int):Bt×Int:=if s.length=64 then if aRo s=true then (if jQ (oR s 6)=0 then (oR s 6,0) else (nB,jQ (oR s 6))) else (nB,3) else (nB,10)
abbrev ptC:L aU:=[.ptr 1 0,.ptr 1 1,.ptr 1 2,.ptr 1 3,.ptr 1 4,.ptr 1 5]
theorem aVT(s:L Int):oR s 0=⟨0,0,0,0,0,0⟩:=by simp[oR]
theorem aVU(s:L Int):oR s 1=⟨gL s 8 4,0,0,0,0,0⟩:=by simp[oR]
theorem aVV(s:L Int):oR s 2=⟨gL s 8 4,gL s 12 4,0,0,0,0⟩:=by simp[oR]
theorem aVW(s:L Int):oR s 3=⟨gL s 8 4,gL s 12 4,gL s 16 4,0,0,0⟩:=by simp[oR]
theorem aVX(s:L Int):oR s 4=⟨gL s 8 4,gL s 12 4,gL s 16 4,gL s 20 4,0,0⟩:=by simp[oR]
theorem aVY(s:L Int):oR s 5=⟨gL s 8 4,gL s 12 4,gL s 16 4,gL s 20 4,gL s 24 4,0⟩:=by simp[oR]
theorem aIe(s:L Int):oR s 6=⟨gL s 8 4,gL s 12 4,gL s 16 4,gL s 20 4,gL s 24 4,gL s 28 4⟩:=by simp[oR]
theorem Oi(hf:∀x:Bt,EV G (Tb B) 62 [.one (.ptr 0 0)] [x.o]=some (.one (.bls 1 0 6 1),[x.o,.box ptB]))(s:L Int)(m:aI s)(w:s.length<=200000):EV G (Tb B) 166 [sv s] []=some (.tup [.agg (fU s).1.cs,tI (fU s).2],[]):=by
 have Q:EV G (Tb B) 62 [.one (.ptr 0 0)] [.box [.dc (.raw (Zi 0)),.dc (.raw (Zi 0)),.dc (.raw (Zi 0)),.dc (.raw (Zi 0)),.dc (.raw (Zi 0)),.dc (.raw (Zi 0))]]=some (.one (.bls 1 0 6 1),[.box [.dc (.raw (Zi 0)),.dc (.raw (Zi 0)),.dc (.raw (Zi 0)),.dc (.raw (Zi 0)),.dc (.raw (Zi 0)),.dc (.raw (Zi 0))],.box ptB]):=hf nB;by_cases h:s.length=64
 rotate_left
 rw[show fU s=(nB,10) by unfold fU;rw[if_neg h]];refine aB rfl ?_;have e:¬ (s.length:Int)=64:=by omega
 simp (disch:=omega) only[go_sem,h166c,aC,e];rfl;have v:(s.length:Int)=64:=by omega
 refine aB rfl ?_;simp (maxSteps:=2000000) (disch:=omega) only[go_sem,h166c,aC,v,Q,Int.reduceEq];rw[aR (fun k=>⟨(sv s::jk 1 (.one (.ptr 0 0)::jk 1 (.one (.ptr 1 0)::jk 10 (.one (.bls 2 0 6 1)::vi 6::vi k::jk 51 [])))),[nB.o,(oR s k).o,.box ptC]⟩) 6 ?_ ?_]
 rotate_left
 rw[aVT];rfl;intro j T;have A:(2:Int).toNat=2:=rfl;have t3:(3:Int).toNat=3:=rfl;have C:(4:Int).toNat=4:=rfl;have t5:(5:Int).toNat=5:=rfl;rcases (show j=0\/j=1\/j=2\/j=3\/j=4\/j=5 by omega) with rfl|rfl|rfl|rfl|rfl|rfl
 have q:=A9 (G:=G) (B:=B) s m 8 (by omega) w;rw[show ((8:Nat):Int)=8 from rfl] at q
 rw[aVT,aVU];generalize gL s 8 4=z at q ⊢;simp (maxSteps:=2000000) (disch:=omega) only[go_sem,h166l0,q,Bt.o,Bt.cs,nB,Int.reduceAdd,Int.reduceMul,bAg,A,t3,C,t5];have q:=A9 (G:=G) (B:=B) s m 12 (by omega) w;rw[show ((12:Nat):Int)=12 from rfl] at q
 rw[aVU,aVV];generalize gL s 12 4=z at q ⊢;simp (maxSteps:=2000000) (disch:=omega) only[go_sem,h166l0,q,Bt.o,Bt.cs,nB,Int.reduceAdd,Int.reduceMul,bAg,A,t3,C,t5];have q:=A9 (G:=G) (B:=B) s m 16 (by omega) w;rw[show ((16:Nat):Int)=16 from rfl] at q
 rw[aVV,aVW];generalize gL s 16 4=z at q ⊢;simp (maxSteps:=2000000) (disch:=omega) only[go_sem,h166l0,q,Bt.o,Bt.cs,nB,Int.reduceAdd,Int.reduceMul,bAg,A,t3,C,t5];have q:=A9 (G:=G) (B:=B) s m 20 (by omega) w;rw[show ((20:Nat):Int)=20 from rfl] at q
 rw[aVW,aVX];generalize gL s 20 4=z at q ⊢;simp (maxSteps:=2000000) (disch:=omega) only[go_sem,h166l0,q,Bt.o,Bt.cs,nB,Int.reduceAdd,Int.reduceMul,bAg,A,t3,C,t5];have q:=A9 (G:=G) (B:=B) s m 24 (by omega) w;rw[show ((24:Nat):Int)=24 from rfl] at q
 rw[aVX,aVY];generalize gL s 24 4=z at q ⊢;simp (maxSteps:=2000000) (disch:=omega) only[go_sem,h166l0,q,Bt.o,Bt.cs,nB,Int.reduceAdd,Int.reduceMul,bAg,A,t3,C,t5];have q:=A9 (G:=G) (B:=B) s m 28 (by omega) w;rw[show ((28:Nat):Int)=28 from rfl] at q
 rw[aVY,aIe];generalize gL s 28 4=z at q ⊢;simp (maxSteps:=2000000) (disch:=omega) only[go_sem,h166l0,q,Bt.o,Bt.cs,nB,Int.reduceAdd,Int.reduceMul,bAg,A,t3,C,t5];have a:(s.take 60).length=60:=by rw[aZF];omega
 have M:=aIa (G:=G) (B:=B) (s.take 60) (fun x p=>m x (aZ0 p)) (by omega)
 have d:=hf (oR s 6);have I:aI (s.take 60):=fun x p=>m x (aZ0 p)
 have J:aI ((s.take 60).drop 32):=fun x p=>I x (bAb p)
 have K:((s.take 60).drop 32).length=28:=by rw[aZL];omega
 have N:=aMR (G:=G) (B:=B) ((s.take 60).drop 32) J (by omega) (by intro e;rw[e] at K;cases K);have y:EV G (Tb B) 138 [sv s,.one (.dc (.raw (.string ⟨#[68,69,80,79,83,73,84,49]⟩)))] []=some (vb (decide (s.take 8=Ak)),[]):=aMS s Ak m Oe (by omega) (by rw[h];decide);have O:=kK (G:=G) (B:=B) (kO (s.take 60)) (by have:=Eh (s.take 60);omega);have u:=jB (G:=G) (B:=B);have f:=pW (G:=G) (B:=B);have c:=Aj (G:=G) (B:=B) (oR s 6);have H:(dO (trZ ((s.take 60).drop 32))=⟨#[]⟩)=(trZ ((s.take 60).drop 32)=[]):=cR (b:=[]) (aId J) (fun b S=>by cases S)
 have F:(dO (s.drop 60)=dO (bI (kO (s.take 60)) 4))=(s.drop 60=bI (kO (s.take 60)) 4):=cR (fun x p=>m x (bAb p)) (cU _ _)
 have r:fU s=if (decide (s.take 8=Ak)&&decide (trZ ((s.take 60).drop 32)=[])&&decide (s.drop 60=bI (kO (s.take 60)) 4))=true then (if jQ (oR s 6)=0 then (oR s 6,0) else (nB,jQ (oR s 6))) else (nB,3):=by
  unfold fU;rw[if_pos h];rfl
 have g:(8:Int)+4*6=32:=rfl;have l:(60:Int).toNat=60:=rfl;have i:(32:Int).toNat=32:=rfl;generalize oR s 6=X at d c r ⊢;generalize fU s=D at r ⊢;generalize decide (s.take 8=Ak)=R at y r;cases R;have n:D=(nB,3):=by rw[r];rfl
 rw[n];simp (maxSteps:=2000000) (disch:=omega) only[go_sem,h166l0,M,N,y,O,u,c,f,d,v,a,H,F,g,l,i,Bt.o,Bt.cs,nB,bY,eB,fF,Int.reduceMul,Int.reduceAdd,Int.reduceEq,if_true,if_false];by_cases t:trZ ((s.take 60).drop 32)=[];by_cases E:s.drop 60=bI (kO (s.take 60)) 4;rw[decide_eq_true t,decide_eq_true E] at r;by_cases P:jQ X=0;have n:D=(X,0):=by rw[r];simp[P]
 rw[n];simp (maxSteps:=2000000) (disch:=omega) only[go_sem,h166l0,M,N,y,O,u,c,f,d,v,a,H,F,g,l,i,Bt.o,Bt.cs,nB,bY,eB,fF,Int.reduceMul,Int.reduceAdd,Int.reduceEq,if_true,if_false,eq_true t,eq_true E,P];have n:D=(nB,jQ X):=by rw[r];simp[P]
 rw[n];simp (maxSteps:=2000000) (disch:=omega) only[go_sem,h166l0,M,N,y,O,u,c,f,d,v,a,H,F,g,l,i,Bt.o,Bt.cs,nB,bY,eB,fF,Int.reduceMul,Int.reduceAdd,Int.reduceEq,if_true,if_false,eq_true t,eq_true E,P];rw[decide_eq_false E] at r;have n:D=(nB,3):=by rw[r];simp
 rw[n];simp (maxSteps:=2000000) (disch:=omega) only[go_sem,h166l0,M,N,y,O,u,c,f,d,v,a,H,F,g,l,i,Bt.o,Bt.cs,nB,bY,eB,fF,Int.reduceMul,Int.reduceAdd,Int.reduceEq,if_true,if_false,eq_true t,eq_false E];rw[decide_eq_false t] at r;have n:D=(nB,3):=by rw[r];simp
 rw[n];simp (maxSteps:=2000000) (disch:=omega) only[go_sem,h166l0,M,N,y,O,u,c,f,d,v,a,H,F,g,l,i,Bt.o,Bt.cs,nB,bY,eB,fF,Int.reduceMul,Int.reduceAdd,Int.reduceEq,if_true,if_false,eq_false t]
end
section
variable {G:aF}{B:aO}
theorem aRp(l:L Int)(c:aI l)(a k:Nat)(m:a+k<=l.length)(o:k<=4)(p:l.length<=1000000):EV G (Tb B) 85 [sv l,vi a,vi k] []=some (vi (gL l a k),[]):=by
 refine aB rfl ?_;simp (disch:=first|omega|(simp only[aZB,aZC,aZD,aZA,aA];omega)) only[go_sem,h85c]
 rw[aR (fun j=>⟨(sv l::vi a::jk 5 (vi (gL l (a+k-j) j)::vi ((k:Int)-1-j)::jk 16 [])),[]⟩) k ?_ ?_]
 have e:a+k-k=a:=by omega
 have b:¬ 0<=(k:Int)-1-(k:Int):=by omega
 simp (disch:=first|omega|(simp only[aZB,aZC,aZD,aZA,aA];omega)) only[go_sem,h85l0,e,b]
 simp[gL,gv,jk];intro j n;have i:=c _ (aZK (show a+k-1-j<l.length by omega));have g:=kV c (a+k-j) j (by omega);have d:gL l (a+k-(j+1)) (j+1)=gL l (a+k-j) j*256+l[a+k-1-j]'(by omega):=by
  have:a+k-(j+1)<l.length:=by omega
  rw[aHw l _ j this,show a+k-(j+1)+1=a+k-j by omega,Int.mul_comm];rw[Int.add_comm];congr 1;congr 1;omega
 have b:0<=(k:Int)-1-(j:Int):=by omega
 rw[d];generalize gL l (a+k-j) j=z at g ⊢;have f:((a:Int)+((k:Int)-1-(j:Int))).toNat=a+k-1-j:=by omega
 have h:=iA _ i;simp (disch:=first|omega|(simp only[aZB,aZC,aZD,aZA,aA];omega)) only[go_sem,h85l0,eq_true b,aZU,f,h]
 rw[show (k:Int)-1-(j:Int)-1=(k:Int)-1-((j:Int)+1) by omega]
theorem aRq(l:L Int)(c:aI l)(j:l.length<=200000):EV G (Tb B) 176 [sv l] []=some (vi (kO l),[]):=by
 refine aB rfl ?_;simp (disch:=omega) only[go_sem,h176c];rw[aR (fun k=>⟨(sv l::jk 2 (vi (kO (l.take k))::vi k::jk 20 [])),[]⟩) l.length ?_ ?_]
 simp (disch:=omega) only[go_sem,h176l0,bAj,aC];rfl;intro k a;have f:=c _ (aZK a);have g:=iA _ f;have b:=Eh (l.take k);rw[bAA a,Fr];generalize kO (l.take k)=z at b ⊢;have h:=Ng (G:=G) (B:=B) (z*2) 2147483648;have i:=Ng (G:=G) (B:=B) ((z*2) % 2147483648+z / 1073741824+l[k]) 2147483648;have d:z.tdiv 1073741824=z / 1073741824:=bBf b.1;have e:Md z l[k]=((z*2) % 2147483648+z / 1073741824+l[k]) % 2147483648:=by unfold Md aRk;rw[Int.mul_comm 2 z]
 rw[e];simp (disch:=omega) only[go_sem,h176l0,aC,g,h,i,d,aZU]
theorem aIf(x:Bt)(p:Int->Prop)(h:∀n∈x.fs,p n):p x.cl/\p x.tb/\p x.mi/\p x.lg/\p x.lc/\p x.se:=by
 simpa only[Bt.fs,bAL,bA6,or_false,forall_eq_or_imp,forall_eq] using h
theorem aDJ(x:Bt)(u:∀n∈x.fs,0<=n/\n<=4294967295):EV G (Tb B) 122 [x.v] []=some (sv x.bs,[]):=by
 obtain⟨l,m,o,p,r,t⟩:=aIf x _ u;have q:=fun n (h:0<=n/\n<=4294967295)=>nI (G:=G) (B:=B) n 4 (by omega) (by omega)
 have a:=q _ l;have b:=q _ m;have c:=q _ o;have d:=q _ p;have e:=q _ r;have f:=q _ t;have g:=q (kO x.s60) (by have:=Eh x.s60;omega);rw[show ((4:Nat):Int)=4 from rfl] at a b c d e f g
 have z:=Hy (G:=G) (B:=B) 28 (by omega);rw[show (28:Int).toNat=28 from rfl] at z
 have s:=aRq (G:=G) (B:=B) x.s60 (K8 x) (by rw[Ba];omega);have i:Ak++bI x.cl 4++bI x.tb 4++bI x.mi 4++bI x.lg 4++bI x.lc 4++bI x.se 4=x.hd 6:=by
  rw[aMO,aMN,aMM,aML,aMK,aMJ,aVS]
 have C:=K7 x 6 (by omega);have j:x.hd 6++List.replicate 28 0=x.s60:=rfl;have k:x.s60++bI (kO x.s60) 4=x.bs:=rfl;have es:(⟨#[68,69,80,79,83,73,84,49]⟩:ByteArray)=dO Ak:=rfl;have A:Ak.length=8:=rfl;have w:=Ba x;generalize x.s60=S at *;generalize x.hd 6=H at *;refine aB rfl ?_;have y:(H.length:Int)=32:=by omega
 simp (maxSteps:=2000000) (disch:=first|omega|(simp only[aZB,aZC,aZD,aZA,aA,aZI,aZF,aZL,aC,aS]<;>omega)|fail) only[go_sem,h122c,es,a,b,c,d,e,f,g,z,s,A,i,j,k,y,Int.reduceSub]
noncomputable def Me(s:L Int):Bt×Int:=if s.length=64 then if (oR s 6).bs=s then (if jQ (oR s 6)=0 then (oR s 6,0) else (nB,jQ (oR s 6))) else (nB,3) else (nB,10)
theorem aVZ{s:L Int}(b:aI s):∀n∈(oR s 6).fs,0<=n/\n<=4294967295:=by
 have h:=fun a=>kV b a 4 (by omega)
 rw[aIe];simp only[Bt.fs,bAL,bA6,or_false,forall_eq_or_imp,forall_eq];exact⟨by have:=h 8;omega,by have:=h 12;omega,by have:=h 16;omega,by have:=h 20;omega,by have:=h 24;omega,by have:=h 28;omega⟩
theorem Vq(s:L Int)(p:aI s)(F:s.length<=200000):EV G (Tb B) 82 [sv s] []=some (.tup [.agg (Me s).1.cs,tI (Me s).2],[]):=by
 by_cases h:s.length=64
 rotate_left
 rw[show Me s=(nB,10) by unfold Me;rw[if_neg h]];refine aB rfl ?_;have e:¬ (s.length:Int)=64:=by omega
 simp (disch:=omega) only[go_sem,h82c,aC,e];rfl;have t:(s.length:Int)=64:=by omega
 have q:=fun a (u:a+4<=s.length)=>aRp (G:=G) (B:=B) s p a 4 u (by omega) (by omega)
 have i:=q 8 (by omega);have j:=q 12 (by omega);have k:=q 16 (by omega);have l:=q 20 (by omega);have m:=q 24 (by omega);have n:=q 28 (by omega);simp only[show ((4:Nat):Int)=4 from rfl,show ((8:Nat):Int)=8 from rfl,show ((12:Nat):Int)=12 from rfl,show ((16:Nat):Int)=16 from rfl,show ((20:Nat):Int)=20 from rfl,show ((24:Nat):Int)=24 from rfl,show ((28:Nat):Int)=28 from rfl] at i j k l m n
 have b:=aDJ (G:=G) (B:=B) (oR s 6) (aVZ p);have c:=aDF (G:=G) (B:=B) (oR s 6);have r:Me s=if (oR s 6).bs=s then (if jQ (oR s 6)=0 then (oR s 6,0) else (nB,jQ (oR s 6))) else (nB,3):=by unfold Me;rw[if_pos h]
 have g:(dO (oR s 6).bs=dO s)=((oR s 6).bs=s):=cR (Bb _) p;generalize Me s=D at r ⊢;generalize E:(oR s 6).bs=Y at b r g;rw[aIe] at b c r;generalize gL s 8 4=w at *;generalize gL s 12 4=x at *;generalize gL s 16 4=y at *;generalize gL s 20 4=z at *;generalize gL s 24 4=A at *;generalize gL s 28 4=C at *;refine aB rfl ?_;by_cases d:Y=s;rw[if_pos d] at r;by_cases f:jQ ⟨w,x,y,z,A,C⟩=0;rw[if_pos f] at r;rw[r];simp (maxSteps:=2000000) (disch:=omega) only[go_sem,h82c,aC,t,i,j,k,l,m,n,b,c,g,d,f,Bt.v,Bt.o,Bt.cs,nB,Int.reduceEq];rw[if_neg f] at r;rw[r];simp (maxSteps:=2000000) (disch:=omega) only[go_sem,h82c,aC,t,i,j,k,l,m,n,b,c,g,d,f,Bt.v,Bt.o,Bt.cs,nB,Int.reduceEq];rw[if_neg d] at r;rw[r];simp (maxSteps:=2000000) (disch:=omega) only[go_sem,h82c,aC,t,i,j,k,l,m,n,b,c,g,d,Bt.v,Bt.o,Bt.cs,nB,Int.reduceEq]
end
section
variable {G:aF}{B:aO}
theorem aMT{x:Bt}(h:jQ x=0):x.num=true/\x.ins=true/\x.fit=true/\x.cla=true:=by
 cases b:x.num with
 |false=>rw[rZ b] at h;cases h
 | true=>cases a:x.ins with
  | false=>rw[Ai a] at h;cases h
  | true=>cases hf:x.fit with
   | false=>rw[K6 b a hf] at h;cases h
   | true=>cases c:x.cla with
    | false=>rw[Vo b a hf,c] at h;cases h
    | true=>exact⟨rfl,rfl,rfl,rfl⟩
theorem Qu{x:Bt}(h:jQ x=0):∀n∈x.fs,0<=n/\n<=2147483647:=by
 obtain⟨b,a,_,_⟩:=aMT h;obtain⟨c,d,h3,h4⟩:=mG.1 b;obtain⟨e,f,g⟩:=qN.1 a;simp only[Bt.fs,bAL,bA6,or_false,forall_eq_or_imp,forall_eq];omega
theorem aDK(x:Bt)(hf:EV G (Tb B) 62 [.one (.ptr 0 0)] [x.o]=some (.one (.bls 1 0 6 1),[x.o,.box ptB]))(a:B 96 [.one (.dc (.raw (.string ⟨#[0]⟩))),vi 28] []=some (sv (zl 28),[])):EV G (Tb B) 16 [x.v] []=some (.tup [tS (if jQ x=0 then x.bs else []),tI (jQ x)],[]):=by
 have c:=Aj (G:=G) (B:=B) x;refine aB rfl ?_;by_cases h:jQ x=0;have d:∀n∈x.fs,0<=n/\n<=4294967295:=fun n b=>by have:=Qu h n b;omega
 have e:=Oh (G:=G) x hf a d;rw[if_pos h];rw[h] at c ⊢;simp (maxSteps:=2000000) (disch:=omega) only[go_sem,h16c,c,e]
 ·rw[if_neg h];simp (maxSteps:=2000000) (disch:=omega) only[go_sem,h16c,c,h];try rfl
theorem aYa(n:Int)(h:0<=n/\n<=4294967295):gv (bI n 4)=n:=by
 simp only[bI,Gg,aZP,aZT,gv];omega
theorem aYb{l:L Int}(h:l.length=4):∃a b c d,l=[a,b,c,d]:=by
 match l,h with
 |[a,b,c,d],_=>exact⟨a,b,c,d,rfl⟩
theorem sg4(l:L Int)(h:l.length=4)(e:aI l):bI (gv l) 4=l:=by
 obtain⟨a,b,c,d,rfl⟩:=aYb h;have f:=e a (by simp);have g:=e b (by simp);have h3:=e c (by simp);have h4:=e d (by simp);simp only[bI,Gg,aZP,aZT,gv,List.cons.injEq,and_true];omega
theorem sgL(s:L Int)(b:aI s)(a:Nat)(h:a+4<=s.length):bI (gL s a 4) 4=(s.drop a).take 4:=by
 unfold gL;exact sg4 _ (by rw[aZF,aZL];omega) (Ab b a 4)
theorem pY(s:L Int)(a b n:Nat):(s.drop a).take b++(s.drop (a+b)).take n=(s.drop a).take (b+n):=by
 rw[List.take_add,bAE]
theorem aV0(s:L Int)(a:aI s)(h:s.length=64):(oR s 6).hd 6=Ak++(s.drop 8).take 24:=by
 rw[aIe,aMO,aMN,aMM,aML,aMK,aMJ,aVS,sgL s a 8 (by omega),sgL s a 12 (by omega),sgL s a 16 (by omega),sgL s a 20 (by omega),sgL s a 24 (by omega),sgL s a 28 (by omega)];simp only[aZS];rw[pY s 24 4 4,pY s 20 4 8,pY s 16 4 12,pY s 12 4 16,pY s 8 4 20]
theorem aBp(s:L Int)(k:aI s)(h:s.length=64):aRo s=true↔(oR s 6).bs=s:=by
 have e:(oR s 6).s60=Ak++(s.drop 8).take 24++zl 28:=by rw[Bt.s60,aV0 s k h]
 have g:s.take 8++(s.drop 8).take 24++(s.take 60).drop 32=s.take 60:=by
  have a:s.take 8++(s.drop 8).take 24=s.take 32:=by rw[show (32:Nat)=8+24 from rfl,List.take_add]
  have j:s.take 32=(s.take 60).take 32:=by rw[List.take_take];rfl
  rw[a,j,bAX]
 have l:((s.take 60).drop 32).length=28:=by rw[aZL,aZF];omega
 have z:trZ ((s.take 60).drop 32)=[]↔(s.take 60).drop 32=zl 28:=by rw[aMQ,l]
 have b:(oR s 6).s60=s.take 60↔s.take 8=Ak/\(s.take 60).drop 32=zl 28:=by
  rw[e,<- g];have i:Ak.length=(s.take 8).length:=by rw[aZF,h];rfl
  constructor;intro q;obtain⟨f,d⟩:=List.append_inj q (by rw[aZB,aZB,i]);obtain⟨n,_⟩:=List.append_inj f i;refine⟨n.symm,?_⟩;rw[g];exact d.symm;rintro⟨f,d⟩;rw[g] at d;rw[f,d]
 have c:(oR s 6).bs=s↔(oR s 6).s60=s.take 60/\bI (kO (oR s 6).s60) 4=s.drop 60:=by
  constructor;intro q;have m:(oR s 6).s60++bI (kO (oR s 6).s60) 4=s.take 60++s.drop 60:=by rw[bAX];exact q
  exact List.append_inj m (by rw[Ba,aZF];omega);rintro⟨f,d⟩;rw[Bt.bs,d,f,bAX]
 rw[c,b];unfold aRo;simp only[aZQ,decide_eq_true_eq];rw[z];constructor;rintro⟨a,h3⟩;refine⟨a,?_⟩;rw[b.2 a];exact h3.symm;rintro⟨a,h3⟩;refine⟨a,?_⟩;rw[b.2 a] at h3;exact h3.symm
theorem Qv(s:L Int)(a:aI s):fU s=Me s:=by
 unfold fU Me;by_cases h:s.length=64;rw[if_pos h,if_pos h];by_cases b:(oR s 6).bs=s;rw[if_pos b,if_pos ((aBp s a h).2 b)];rw[if_neg b,if_neg (fun q=>b ((aBp s a h).1 q))]
 rw[if_neg h,if_neg h]
theorem aRr(p z q:L Int)(k:Nat)(h:z.length=k):gL (p++(z++q)) p.length k=gv z:=by
 unfold gL;rw[List.drop_left,<- h,List.take_left]
theorem aV1(x:Bt)(t:∀n∈x.fs,0<=n/\n<=4294967295):oR x.bs 6=x:=by
 obtain⟨i,j,l,m,o,p⟩:=aIf x _ t;have e:∀k (n:Int) q,x.bs=x.hd k++(bI n 4++q)->k<=6->0<=n/\n<=4294967295->gL x.bs (8+4*k) 4=n:=by
  intro k n q r s h3;rw[r,<- K7 x k s,aRr _ _ _ _ (aA _ _),aYa n h3]
 have f:x.bs=x.hd 6++(zl 28++bI (kO x.s60) 4):=by rw[Bt.bs,Bt.s60,aZS]
 have g:x.bs=x.hd 5++(bI x.se 4++(zl 28++bI (kO x.s60) 4)):=by rw[f,aMO,aZS]
 have d:x.bs=x.hd 4++(bI x.lc 4++(bI x.se 4++(zl 28++bI (kO x.s60) 4))):=by rw[g,aMN,aZS]
 have c:x.bs=x.hd 3++(bI x.lg 4++(bI x.lc 4++(bI x.se 4++(zl 28++bI (kO x.s60) 4)))):=by rw[d,aMM,aZS]
 have b:x.bs=x.hd 2++(bI x.mi 4++(bI x.lg 4++(bI x.lc 4++(bI x.se 4++(zl 28++bI (kO x.s60) 4))))):=by rw[c,aML,aZS]
 have a:x.bs=x.hd 1++(bI x.tb 4++(bI x.mi 4++(bI x.lg 4++(bI x.lc 4++(bI x.se 4++(zl 28++bI (kO x.s60) 4)))))):=by rw[b,aMK,aZS]
 have h:x.bs=x.hd 0++(bI x.cl 4++(bI x.tb 4++(bI x.mi 4++(bI x.lg 4++(bI x.lc 4++(bI x.se 4++(zl 28++bI (kO x.s60) 4))))))):=by rw[a,aMJ,aZS]
 rw[aIe,e 0 _ _ h (by omega) i,e 1 _ _ a (by omega) j,e 2 _ _ b (by omega) l,e 3 _ _ c (by omega) m,e 4 _ _ d (by omega) o,e 5 _ _ g (by omega) p]
theorem aRs(x:Bt)(h:jQ x=0):fU x.bs=(x,0):=by
 rw[Qv _ (Bb x)];unfold Me;have r:=aV1 x (fun n a=>by have:=Qu h n a;omega)
 rw[if_pos (K9 x),r,if_pos rfl,if_pos h]
end
section
variable {G:aF}{B:aO}
theorem aDL(b:Bool)(e:Int):EV G (Tb B) 198 [vb b,vi e] []=some (vi (qB b e),[]):=by
 refine aB rfl ?_;cases b;all_goals simp (disch:=omega) only[go_sem,h198c]
 all_goals rfl
theorem aIg(l:L Int)(g:l.length<=1000):EV G (Tb B) 197 [vl (el l)] []=some (vi (aT l),[]):=by
 refine aB rfl ?_;simp (disch:=omega) only[go_sem,h197c,aZA];have a:∀ k (b:k < l.length),¬ l.getD k 0≠0->Ls [5,0,0] 0 (EC (EV G (Tb B)) G h197l0 ⟨(jk 5 (vl (el l)::vi l.length::vi k::jk 7 [])),[]⟩)=some ⟨(jk 5 (vl (el l)::vi l.length::vi (k+1:Nat)::jk 7 [])),[]⟩:=fun k b f=>by
  rw[cE l k b] at f;simp (disch:=omega) only[go_sem,h197l0,aZA,tL]
 rcases Pv (fun k=>l.getD k 0≠0) l.length with h|⟨j,e,c,d⟩
 rw[aR (fun k=>⟨(jk 5 (vl (el l)::vi l.length::vi k::jk 7 [])),[]⟩) l.length ?_ ?_]
 rw[iH l h];simp (disch:=omega) only[go_sem,h197l0];rfl;exact fun k b=>a k b (h k b)
 rw[aR (fun k=>⟨(jk 5 (vl (el l)::vi l.length::vi k::jk 7 [])),[]⟩) j ?_ ?_]
 rw[kH l j e d c];rw[cE l j e] at c;simp (disch:=omega) only[go_sem,h197l0,aZA,tL];rfl;exact fun k b=>a k (by omega) (d k b)
theorem aIh(a b:Int):EV G (Tb B) 197 [vl [[ci a],[ci b]]] []=some (vi (aT [a,b]),[]):=aIg [a,b] (by simp)
theorem La(l:L Int):(dO l=⟨#[]⟩)=(l=[]):=by
 apply propext;refine⟨fun h=>?_,fun h=>by rw[h];rfl⟩
 have:=congrArg ByteArray.size h;rw[aC] at this;exact List.length_eq_zero_iff.1 this
def Ia(n:Nat):Int:=if n=0\/n % 64≠0 then 10 else if 131072<n then 8 else 0
def Lt(n:Nat):Int:=if Ia n≠0 then Ia n else if n % 256=0/\64<=n / 256/\n / 256<=512 then 0 else 10
theorem Fs(n m:Nat):(n:Int).tmod (m:Int)=((n % m:Nat):Int):=by
 rw[bBd (by omega)];simp
theorem Qw(n m:Nat):(n:Int).tdiv (m:Int)=((n / m:Nat):Int):=by
 rw[bBf (by omega)];simp
theorem aDM(l:L Int)(i:l.length<=200000):EV G (Tb B) 165 [sv l] []=some (vi (Ia l.length),[]):=by
 have u:=aDL (G:=G) (B:=B);have f:=aIh (G:=G) (B:=B);have m:(l.length:Int).tmod 64=((l.length % 64:Nat):Int):=Fs l.length 64;have e:=La l;refine aB rfl ?_;by_cases b:l=[];have c:(dO l=⟨#[]⟩)=True:=by rw[e];exact eq_true b
 have d:(l.length:Int)=0:=by rw[b];rfl
 have a:Ia l.length=10:=by rw[b];rfl
 have h4:(0:Int)<=131072:=by omega
 simp (disch:=omega) only[go_sem,h165c,aC,u,f,d,c,a,h4,eB,fF,bY,decide_false,decide_true,aZ6,not_true_eq_false];have g:l.length≠0:=fun q=>b (List.length_eq_zero_iff.1 q)
 by_cases h:l.length % 64=0;by_cases h3:131072<l.length;have a:Ia l.length=8:=by unfold Ia;rw[if_neg (by omega),if_pos h3]
 have h4:¬ (l.length:Int)<=131072:=by omega
 have h5:((l.length % 64:Nat):Int)=0:=by omega
 simp (disch:=omega) only[go_sem,h165c,aC,u,f,m,e,b,h4,h5,a,eB,fF,bY,decide_false,decide_true,aZ6];have a:Ia l.length=0:=by unfold Ia;rw[if_neg (by omega),if_neg h3]
 have h4:(l.length:Int)<=131072:=by omega
 have h5:((l.length % 64:Nat):Int)=0:=by omega
 simp (disch:=omega) only[go_sem,h165c,aC,u,f,m,e,b,h4,h5,a,eB,fF,bY,decide_false,decide_true,aZ6];have a:Ia l.length=10:=by unfold Ia;rw[if_pos (by omega)]
 have h5:¬ ((l.length % 64:Nat):Int)=0:=by omega
 simp (disch:=omega) only[go_sem,h165c,aC,u,f,m,e,b,h5,a,eB,fF,bY,decide_false,decide_true,aZ6]
theorem Vr(l:L Int)(a:l.length<=200000):EV G (Tb B) 164 [sv l] []=some (vi (l.length / 256:Nat),[]):=by
 have d:(l.length:Int).tdiv 256=((l.length / 256:Nat):Int):=Qw l.length 256;refine aB rfl ?_;simp (disch:=omega) only[go_sem,h164c,aC,d]
theorem Vs(l:L Int)(a:l.length<=200000):EV G (Tb B) 83 [sv l] []=some (vi (l.length / 256:Nat),[]):=by
 have d:(l.length:Int).tdiv 256=((l.length / 256:Nat):Int):=Qw l.length 256;refine aB rfl ?_;simp (disch:=omega) only[go_sem,h83c,aC,d]
theorem aDN(l:L Int)(b:l.length<=200000):EV G (Tb B) 111 [sv l] []=some (vi (Lt l.length),[]):=by
 have u:=jB (G:=G) (B:=B);have f:=pW (G:=G) (B:=B);have k:=aDM (G:=G) (B:=B) l b;have n:=Vr (G:=G) (B:=B) l b;have w:=kJ (G:=G) (B:=B) (l.length / 256:Nat) 64 512;have m:(l.length:Int).tmod 256=((l.length % 256:Nat):Int):=Fs l.length 256;refine aB rfl ?_;have e:Lt l.length=if Ia l.length=0 then qB (decide (l.length % 256=0/\64<=l.length / 256/\l.length / 256<=512)) 10 else Ia l.length:=by
  unfold Lt qB;by_cases h:Ia l.length=0;rw[if_neg (by simp[h]),if_pos h];simp;rw[if_pos h,if_neg h]
 rw[e];generalize l.length / 256=c at *;by_cases d:l.length % 256=0;have h5:((l.length % 256:Nat):Int)=0:=by omega
 have a:decide (l.length % 256=0/\64<=c/\c<=512)=decide ((64:Int)<=(c:Int)/\(c:Int)<=512):=by
  rw[decide_eq_decide];omega
 rw[a];simp (disch:=omega) only[go_sem,h111c,aC,u,f,k,n,w,m,h5,bY,decide_true];have h5:¬ ((l.length % 256:Nat):Int)=0:=by omega
 have a:decide (l.length % 256=0/\64<=c/\c<=512)=false:=by simp[d]
 rw[a];simp (disch:=omega) only[go_sem,h111c,aC,u,f,k,n,w,m,h5,bY,decide_false]
theorem aRt(l:L Int)(a:l.length<=200000):EV G (Tb B) 175 [sv l] []=some (vi (l.length / 64:Nat),[]):=by
 have d:(l.length:Int).tdiv 64=((l.length / 64:Nat):Int):=Qw l.length 64;refine aB rfl ?_;simp (disch:=omega) only[go_sem,h175c,aC,d]
theorem aRu(l:L Int)(d:l.length<=200000):EV G (Tb B) 121 [sv l] []=some (vi (Ia l.length),[]):=by
 have s:=aRt (G:=G) (B:=B) l d;have m:(l.length:Int).tmod 64=((l.length % 64:Nat):Int):=Fs l.length 64;have e:=La l;refine aB rfl ?_;by_cases c:l=[];have b:(dO l=⟨#[]⟩)=True:=by rw[e];exact eq_true c
 have a:Ia l.length=10:=by rw[c];rfl
 simp (disch:=omega) only[go_sem,h121c,b,a];have b:(dO l=⟨#[]⟩)=False:=by rw[e];exact eq_false c
 have f:l.length≠0:=fun q=>c (List.length_eq_zero_iff.1 q)
 by_cases g:l.length % 64=0;have h5:((l.length % 64:Nat):Int)=0:=by omega
 by_cases h3:131072<l.length;have a:Ia l.length=8:=by unfold Ia;rw[if_neg (by omega),if_pos h3]
 have h4:((l.length / 64:Nat):Int) > 2048:=by omega
 simp (disch:=omega) only[go_sem,h121c,aC,b,a,m,s,h5,eq_true h4];have a:Ia l.length=0:=by unfold Ia;rw[if_neg (by omega),if_neg h3]
 have h4:¬ ((l.length / 64:Nat):Int) > 2048:=by omega
 simp (disch:=omega) only[go_sem,h121c,aC,b,a,m,s,h5,h4];have a:Ia l.length=10:=by unfold Ia;rw[if_pos (by omega)]
 have h5:¬ ((l.length % 64:Nat):Int)=0:=by omega
 simp (disch:=omega) only[go_sem,h121c,aC,b,a,m,h5]
theorem aIi(l:L Int)(b:l.length<=200000):EV G (Tb B) 81 [sv l] []=some (vi (Lt l.length),[]):=by
 have k:=aRu (G:=G) (B:=B) l b;have n:=Vs (G:=G) (B:=B) l b;have w:=bN (G:=G) (B:=B) (l.length / 256:Nat) 64 512;have m:(l.length:Int).tmod 256=((l.length % 256:Nat):Int):=Fs l.length 256;refine aB rfl ?_;by_cases h:Ia l.length=0;by_cases a:l.length % 256=0;have h5:((l.length % 256:Nat):Int)=0:=by omega
 by_cases h3:64<=l.length / 256/\l.length / 256<=512;have e:Lt l.length=0:=by unfold Lt;rw[if_neg (by simp[h]),if_pos ⟨a,h3⟩]
 have h6:(64:Int)<=(l.length / 256:Nat)/\((l.length / 256:Nat):Int)<=512:=by omega
 rw[decide_eq_true h6] at w;generalize l.length / 256=c at *;simp (disch:=omega) only[go_sem,h81c,aC,k,n,w,m,h,h5,e,aZ5];have e:Lt l.length=10:=by unfold Lt;rw[if_neg (by simp[h]),if_neg (fun q=>h3 q.2)]
 have h6:¬ ((64:Int)<=(l.length / 256:Nat)/\((l.length / 256:Nat):Int)<=512):=by omega
 rw[decide_eq_false h6] at w;generalize l.length / 256=c at *;simp (disch:=omega) only[go_sem,h81c,aC,k,n,w,m,h,h5,e,aZ6];have h5:¬ ((l.length % 256:Nat):Int)=0:=by omega
 have e:Lt l.length=10:=by unfold Lt;rw[if_neg (by simp[h]),if_neg (fun q=>a q.1)]
 simp (disch:=omega) only[go_sem,h81c,aC,k,m,h,h5,e];have e:Lt l.length=Ia l.length:=by unfold Lt;rw[if_pos h]
 simp (disch:=omega) only[go_sem,h81c,k,h,e]
end
section
variable {G:aF}{B:aO}
noncomputable def Al(l:L Int):Bt×Int×Bool:=
 if (fU (l.take 64)).2=0/\(fU (l.take 64)).1.cl=(l.length / 256:Nat) then ((fU (l.take 64)).1,0,true)
 else if (fU (l.drop (l.length-64))).2=0/\(fU (l.drop (l.length-64))).1.cl=(l.length / 256:Nat) then ((fU (l.drop (l.length-64))).1,1,true) else (nB,0,false)
abbrev tB(b:Bool):TV:=.one (.dc (.raw (.bool b)))
theorem nV{n:Nat}{v:AV}{i:Int}:aOJ n v (some i)=Wm n v i:=rfl
theorem qY{a b:aU}:Wm 2 (.agg [a,b]) 0=some (.one a):=rfl
theorem sZ{a b:aU}:Wm 2 (.agg [a,b]) 1=some (.one b):=rfl
theorem aRv(hf:∀x:Bt,EV G (Tb B) 62 [.one (.ptr 0 0)] [x.o]=some (.one (.bls 1 0 6 1),[x.o,.box ptB]))(l:L Int)(s:aI l)(A:64<=l.length/\l.length<=200000):EV G (Tb B) 112 [sv l] []=some (.tup [.agg (Al l).1.cs,tI (Al l).2.1,tB (Al l).2.2],[]):=by
 have e:=Oi (G:=G) (B:=B) hf (l.take 64) (fun x j=>s x (aZ0 j)) (by rw[aZF];omega)
 have d:=Oi (G:=G) (B:=B) hf (l.drop (l.length-64)) (fun x j=>s x (bAb j)) (by rw[aZL];omega)
 have n:=Vr (G:=G) (B:=B) l A.2;unfold Al;generalize fU (l.take 64)=v at e ⊢;generalize fU (l.drop (l.length-64))=w at d ⊢;obtain⟨p,f⟩:=v;obtain⟨r,g⟩:=w;have m:(64:Int).toNat=64:=rfl;have D:((l.length:Int)-64).toNat=l.length-64:=by omega
 refine aB rfl ?_;simp (maxSteps:=2000000) (disch:=first|omega|(simp only[aZB,aZC,aZD,aZA,aA,aZI,aZF,aZL,aC,aS]<;>omega)|fail) only[go_sem,h112c,aC,m,D]
 have u:¬ (f=0/\p.cl=(l.length / 256:Nat))->Ls [0,1,13,0] 1 (EC (EV G (Tb B)) G h112l0 ⟨(sv l::jk 1 (.one (.ptr 0 0)::jk 13 (.agg [.dc (.raw (.string (dO (l.take 64)))),.dc (.raw (.string (dO (l.drop (l.length-64)))))]::vi (0:Nat)::jk 21 []))),[nB.o]⟩)=some ⟨(sv l::jk 1 (.one (.ptr 0 0)::jk 13 (.agg [.dc (.raw (.string (dO (l.take 64)))),.dc (.raw (.string (dO (l.drop (l.length-64)))))]::vi (1:Nat)::jk 21 []))),[nB.o]⟩:=by
  intro h;by_cases b:f=0;have i:¬ p.cl=(l.length / 256:Nat):=fun q=>h ⟨b,q⟩
  simp (maxSteps:=2000000) (disch:=omega) only[go_sem,h112l0,n,nV,qY,sZ,Bt.o,Bt.cs,nB,Int.reduceAdd,Int.reduceLT,bAg,bH,e,b,i];simp (maxSteps:=2000000) (disch:=omega) only[go_sem,h112l0,n,nV,qY,sZ,Bt.o,Bt.cs,nB,Int.reduceAdd,Int.reduceLT,bAg,bH,e,b]
 have C:¬ (g=0/\r.cl=(l.length / 256:Nat))->Ls [0,1,13,0] 1 (EC (EV G (Tb B)) G h112l0 ⟨(sv l::jk 1 (.one (.ptr 0 0)::jk 13 (.agg [.dc (.raw (.string (dO (l.take 64)))),.dc (.raw (.string (dO (l.drop (l.length-64)))))]::vi (1:Nat)::jk 21 []))),[nB.o]⟩)=some ⟨(sv l::jk 1 (.one (.ptr 0 0)::jk 13 (.agg [.dc (.raw (.string (dO (l.take 64)))),.dc (.raw (.string (dO (l.drop (l.length-64)))))]::vi (2:Nat)::jk 21 []))),[nB.o]⟩:=by
  intro h;by_cases b:g=0;have i:¬ r.cl=(l.length / 256:Nat):=fun q=>h ⟨b,q⟩
  simp (maxSteps:=2000000) (disch:=omega) only[go_sem,h112l0,n,nV,qY,sZ,Bt.o,Bt.cs,nB,Int.reduceAdd,Int.reduceLT,bAg,bH,d,b,i];simp (maxSteps:=2000000) (disch:=omega) only[go_sem,h112l0,n,nV,qY,sZ,Bt.o,Bt.cs,nB,Int.reduceAdd,Int.reduceLT,bAg,bH,d,b]
 by_cases a:f=0/\p.cl=(l.length / 256:Nat);rw[if_pos a];obtain⟨a,y⟩:=a;rw[aR (fun k=>⟨(sv l::jk 1 (.one (.ptr 0 0)::jk 13 (.agg [.dc (.raw (.string (dO (l.take 64)))),.dc (.raw (.string (dO (l.drop (l.length-64)))))]::vi k::jk 21 []))),[nB.o]⟩) 0 ?_ ?_]
 simp (maxSteps:=2000000) (disch:=omega) only[go_sem,h112l0,n,nV,qY,sZ,Bt.o,Bt.cs,nB,Int.reduceAdd,Int.reduceLT,bAg,bH,h112c,e,a,y];rfl;intro k t;omega;rw[if_neg a];by_cases c:g=0/\r.cl=(l.length / 256:Nat);rw[if_pos c];obtain⟨c,z⟩:=c;rw[aR (fun k=>⟨(sv l::jk 1 (.one (.ptr 0 0)::jk 13 (.agg [.dc (.raw (.string (dO (l.take 64)))),.dc (.raw (.string (dO (l.drop (l.length-64)))))]::vi k::jk 21 []))),[nB.o]⟩) 1 ?_ ?_]
 simp (maxSteps:=2000000) (disch:=omega) only[go_sem,h112l0,n,nV,qY,sZ,Bt.o,Bt.cs,nB,Int.reduceAdd,Int.reduceLT,bAg,bH,h112c,d,c,z];rfl;intro k t;rw[show k=0 by omega];exact u a;rw[if_neg c];rw[aR (fun k=>⟨(sv l::jk 1 (.one (.ptr 0 0)::jk 13 (.agg [.dc (.raw (.string (dO (l.take 64)))),.dc (.raw (.string (dO (l.drop (l.length-64)))))]::vi k::jk 21 []))),[nB.o]⟩) 2 ?_ ?_]
 simp (maxSteps:=2000000) (disch:=omega) only[go_sem,h112l0,n,nV,qY,sZ,Bt.o,Bt.cs,nB,Int.reduceAdd,Int.reduceLT,bAg,bH,h112c,d];rfl;intro k t;rcases (show k=0\/k=1 by omega) with rfl|rfl
 exact u a;exact C c
noncomputable def bB(l:L Int):Bt×Int×Int:=if Lt l.length=0 then ((Al l).1,(Al l).2.1,qB (Al l).2.2 6) else (nB,0,Lt l.length)
theorem dk0{n:Nat}(h:Lt n=0):n % 256=0/\64<=n / 256/\n / 256<=512:=by
 unfold Lt at h;split at h;rename_i q;exact absurd h q;split at h
 assumption
 cases h
theorem Vt(hf:∀x:Bt,EV G (Tb B) 62 [.one (.ptr 0 0)] [x.o]=some (.one (.bls 1 0 6 1),[x.o,.box ptB]))(l:L Int)(a:aI l)(c:l.length<=200000):EV G (Tb B) 72 [sv l] []=some (.tup [.agg (bB l).1.cs,tI (bB l).2.1,tI (bB l).2.2],[]):=by
 have d:=aDN (G:=G) (B:=B) l c;have u:=jB (G:=G) (B:=B);unfold bB;by_cases h:Lt l.length=0;rw[if_pos h];have k:=dk0 h;have b:=aRv (G:=G) hf l a (by omega);generalize Al l=V at b ⊢;obtain⟨x,i,q⟩:=V;refine aB rfl ?_;simp (maxSteps:=2000000) (disch:=omega) only[go_sem,h72c,d,h,b,u,Bt.cs,nB];rw[if_neg h];refine aB rfl ?_;simp (maxSteps:=2000000) (disch:=omega) only[go_sem,h72c,d,h,Bt.cs,nB]
theorem aDO(l:L Int)(p:aI l)(y:l.length<=200000):EV G (Tb B) 50 [sv l] []=some (.tup [.agg (bB l).1.cs,tI (bB l).2.1,tI (bB l).2.2],[]):=by
 have d:=aIi (G:=G) (B:=B) l y;have n:=Vs (G:=G) (B:=B) l y;have c:=Vq (G:=G) (B:=B) (l.take 64) (fun x j=>p x (aZ0 j)) (by rw[aZF];omega)
 have f:=Vq (G:=G) (B:=B) (l.drop (l.length-64)) (fun x j=>p x (bAb j)) (by rw[aZL];omega)
 rw[<- Qv _ (fun x j=>p x (aZ0 j))] at c
 rw[<- Qv _ (fun x j=>p x (bAb j))] at f
 unfold bB Al;by_cases h:Lt l.length=0;rw[if_pos h];have k:=dk0 h;have a:(64:Int).toNat=64:=rfl;have m:((l.length:Int)-64).toNat=l.length-64:=by omega
 generalize fU (l.take 64)=z at c ⊢;generalize fU (l.drop (l.length-64))=A at f ⊢;obtain⟨u,r⟩:=z;obtain⟨v,s⟩:=A;refine aB rfl ?_;by_cases g:r=0/\u.cl=(l.length / 256:Nat);rw[if_pos g];obtain⟨g,C⟩:=g;simp (maxSteps:=2000000) (disch:=first|omega|(simp only[aZB,aZC,aZD,aZA,aA,aZI,aZF,aZL,aC,aS]<;>omega)|fail) only[go_sem,h50c,aC,a,m,d,h,n,c,g,C,Bt.cs,nB,eB]
 rw[if_neg g];by_cases e:s=0/\v.cl=(l.length / 256:Nat);rw[if_pos e];obtain⟨e,w⟩:=e;by_cases b:r=0;have o:¬ u.cl=(l.length / 256:Nat):=fun q=>g ⟨b,q⟩
 simp (maxSteps:=2000000) (disch:=first|omega|(simp only[aZB,aZC,aZD,aZA,aA,aZI,aZF,aZL,aC,aS]<;>omega)|fail) only[go_sem,h50c,aC,a,m,d,h,n,c,f,b,o,e,w,Bt.cs,nB,eB]
 simp (maxSteps:=2000000) (disch:=first|omega|(simp only[aZB,aZC,aZD,aZA,aA,aZI,aZF,aZL,aC,aS]<;>omega)|fail) only[go_sem,h50c,aC,a,m,d,h,n,c,f,b,e,w,Bt.cs,nB,eB]
 rw[if_neg e];by_cases b:r=0;have o:¬ u.cl=(l.length / 256:Nat):=fun q=>g ⟨b,q⟩
 by_cases i:s=0;have t:¬ v.cl=(l.length / 256:Nat):=fun q=>e ⟨i,q⟩
 simp (maxSteps:=2000000) (disch:=first|omega|(simp only[aZB,aZC,aZD,aZA,aA,aZI,aZF,aZL,aC,aS]<;>omega)|fail) only[go_sem,h50c,aC,a,m,d,h,n,c,f,b,o,i,t,Bt.cs,nB,fF]
 simp (maxSteps:=2000000) (disch:=first|omega|(simp only[aZB,aZC,aZD,aZA,aA,aZI,aZF,aZL,aC,aS]<;>omega)|fail) only[go_sem,h50c,aC,a,m,d,h,n,c,f,b,o,i,Bt.cs,nB,fF]
 by_cases i:s=0;have t:¬ v.cl=(l.length / 256:Nat):=fun q=>e ⟨i,q⟩
 simp (maxSteps:=2000000) (disch:=first|omega|(simp only[aZB,aZC,aZD,aZA,aA,aZI,aZF,aZL,aC,aS]<;>omega)|fail) only[go_sem,h50c,aC,a,m,d,h,n,c,f,b,i,t,Bt.cs,nB,fF]
 simp (maxSteps:=2000000) (disch:=first|omega|(simp only[aZB,aZC,aZD,aZA,aA,aZI,aZF,aZL,aC,aS]<;>omega)|fail) only[go_sem,h50c,aC,a,m,d,h,n,c,f,b,i,Bt.cs,nB,fF]
 rw[if_neg h];refine aB rfl ?_;simp (maxSteps:=2000000) (disch:=omega) only[go_sem,h50c,d,h,Bt.cs,nB]
end
section
variable {G:aF}{B:aO}
theorem Ei(x:Bt):EV G (Tb B) 62 [.one (.ptr 0 0)] [x.o]=some (.one (.bls 1 0 6 1),[x.o,.box ptB]):=aB rfl (aDI x)
def Mf(l:L Int)(x:Bt):L Int:=iZ (iZ l 0 x.bs) (l.length-64) x.bs
theorem aRw(l:L Int)(x:Bt)(N:Nat)(b:l.length=N)(f:B 96 [.one (.dc (.raw (.string ⟨#[0]⟩))),vi 28] []=some (sv (zl 28),[]))(g:∀n∈x.fs,0<=n/\n<=4294967295)(o:64<=N/\N<=200000):EV G (Tb B) 40 [.one (.bls 0 0 N 1),x.v] [yb l]=some (.tup [],[yb (Mf l x)]):=by
 have e:=Oh (G:=G) (B:=B) x (Ei x) f g;have j:=K9 x;have c:=pL l x.bs 0 N (Bb x) (by omega);have h:(iZ l 0 x.bs).length=N:=by rw[cY (by omega),b]
 have d:=pL (iZ l 0 x.bs) x.bs (N-64) 64 (Bb x) (by omega);have r:Mf l x=iZ (iZ l 0 x.bs) (N-64) x.bs:=by rw[Mf,b]
 rw[r];generalize iZ l 0 x.bs=M at *;generalize iZ M (N-64) x.bs=m at *;generalize x.bs=X at *;have k:((N:Int)-64).toNat=N-64:=by omega
 have i:(X.length:Int)=64:=by omega
 have a:N-(N-64)=64:=by omega
 refine aB rfl ?_;simp (maxSteps:=2000000) (disch:=omega) only[go_sem,h40c,e,c,d,aZA,k,i,b,h,j,a]
end
section
variable {G:aF}{B:aO}
theorem aMU{b s:L Int}{k:Nat}(c:aI b)(d:aI s):aI (iZ b k s):=fun x a=>by
 unfold iZ at a;rcases bAV.1 a with a|a
 rcases bAV.1 a with a|a;exact c x (aZ0 a);exact d x a;exact c x (bAb a)
theorem aMV(l:L Int)(x:Bt)(h:64<=l.length):(Mf l x).length=l.length:=by
 have:=K9 x;rw[Mf,cY (by rw[cY (by omega)];omega),cY (by omega)]
theorem aIj(l:L Int)(x:Bt)(h:128<=l.length):(Mf l x).take 64=x.bs:=by
 have b:=K9 x;have a:(iZ l 0 x.bs).length=l.length:=cY (by omega);unfold Mf;rw[iZ,aZS,bAZ (by rw[aZF];omega),List.take_take,Nat.min_eq_left (by omega)];rw[iZ,bAQ,aZP,bAZ (by omega),bAc (by omega)]
theorem aMW(l:L Int):EV G (Tb B) 5 [sv l] []=some (vb (decide (l.length<=24576\/l.length % 256≠0/\l.length<=200000)),[]):=by
 have m:(l.length:Int).tmod 256=((l.length % 256:Nat):Int):=Fs l.length 256;refine aB rfl ?_;by_cases a:l.length<=24576;have b:(l.length:Int)<=24576:=by omega
 simp (disch:=omega) only[go_sem,h5c,aC,b,a,true_or];have b:¬ (l.length:Int)<=24576:=by omega
 by_cases e:l.length % 256=0;have c:((l.length % 256:Nat):Int)=0:=by omega
 simp (disch:=omega) only[go_sem,h5c,aC,b,a,m,c];simp[e];have c:¬ ((l.length % 256:Nat):Int)=0:=by omega
 by_cases h3:l.length<=200000;have d:(l.length:Int)<=200000:=by omega
 simp (disch:=omega) only[go_sem,h5c,aC,b,a,m,c,d];simp[a,e,h3];have d:¬ (l.length:Int)<=200000:=by omega
 simp (disch:=omega) only[go_sem,h5c,aC,b,a,m,c,d];simp[a,e,h3]
end
section
variable {G:aF}{B:aO}
def aMX(x:Bt)(n:Int):Int:=if jQ x=0 then if 16<=n/\n<=96 then if x.tb+2*n<x.cl then if Er x.tb (2*n) x.mi 8=true\/Er x.tb (2*n) x.lg x.lc=true then 13 else 0 else 37 else 2 else jQ x
end
section
variable {G:aF}{B:aO}
theorem Lb(n:Int)(h:-1000000<=n/\n<=1000000):EV G (Tb B) 44 [vi n] []=some (.agg [.dc (ci n),.dc (ci (n+1))],[]):=by
 refine aB rfl ?_;simp (disch:=omega) only[go_sem,h44c]
theorem Qx(l:L Int)(N k:Nat)(a:l.length=N)(h:k*256+256<=N)(c:N<=200000):EV G (Tb B) 71 [.one (.bls 0 0 N 1),vi k] [yb l]=some (.one (.bls 0 (k*256) 256 1),[yb l]):=by
 have e:((k:Int)*256).toNat=k*256:=by omega
 have w:(k:Int)*256=((k*256:Nat):Int):=by omega
 generalize d:k*256=m at *;have b:(256:Int).toNat=256:=rfl;refine aB rfl ?_;simp (maxSteps:=2000000) (disch:=omega) only[go_sem,h71c,aZA,a,w,e,b]
