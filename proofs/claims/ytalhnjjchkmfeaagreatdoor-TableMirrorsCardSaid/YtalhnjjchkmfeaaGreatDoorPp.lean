/- Part. Conditions: none. -/
import Derived.Test.YtalhnjjchkmfeaaGreatDoorPa
import Derived.Test.YtalhnjjchkmfeaaGreatDoorVi
import Derived.Test.YtalhnjjchkmfeaaGreatDoorTu
import Derived.Test.YtalhnjjchkmfeaaGreatDoorSo
namespace Go.Proofs.YtalhnjjchkmfeaaGreatDoor
set_option maxHeartbeats 2000000
set_option linter.unusedSimpArgs false
set_option linter.unusedVariables false
set_option maxRecDepth 4000
section
variable {G:aF}{B:aO}
theorem aIc(n:Int):EV G (Tb B) 89 [vi n] []=some (vb (decide (0<=n/\n<=2147483647)),[]):=by
 have w:=fun n b a=>bM (G:=G) (B:=B) n b a
 refine aB rfl ?_;by_cases h:0<=n;all_goals simp (disch:=omega) only[go_sem,h89c,w]
 all_goals simp[h]
theorem Ek(a m b n:Int)(h:-1000000<=a/\a<=1000000)(d:-1000000<=m/\m<=1000000)(e:-1000000<=b/\b<=1000000)(c:-1000000<=n/\n<=1000000):EV G (Tb B) 88 [vi a,vi m,vi b,vi n] []=some (vb (Ev a m b n),[]):=by
 refine aB rfl ?_;by_cases h:a<b+n;all_goals simp (disch:=omega) only[go_sem,h88c]
 all_goals simp[h,Ev]
theorem aDH(x:Bt):EV G (Tb B) 63 [x.v] []=some (vi (jP x),[]):=by
 have w:=fun n y c=>bM (G:=G) (B:=B) n y c
 have s:=aIc (G:=G) (B:=B);by_cases a:64<=x.cl/\x.cl<=512
 rotate_left
 have d:x.num=false:=by rw[bA2];exact fun h=>a (mG.1 h).1
 rw[sC d];refine aB rfl ?_;simp (disch:=omega) only[go_sem,h63c,w,s,a];by_cases h3:8<=x.lc/\x.lc<=64
 rotate_left
 have d:x.num=false:=by rw[bA2];exact fun h=>h3 (mG.1 h).2.2.1
 rw[sC d];refine aB rfl ?_;simp (disch:=omega) only[go_sem,h63c,w,s,a,h3];by_cases b:x.lc.tmod 2=0
 rotate_left
 have d:x.num=false:=by rw[bA2];exact fun h=>b (mG.1 h).2.1
 rw[sC d];refine aB rfl ?_;simp (disch:=omega) only[go_sem,h63c,w,s,a,h3,b];by_cases h4:0<=x.se/\x.se<=2147483647
 rotate_left
 have d:x.num=false:=by rw[bA2];exact fun h=>h4 (mG.1 h).2.2.2
 rw[sC d];refine aB rfl ?_;simp (disch:=omega) only[go_sem,h63c,w,s,a,h3,b,h4];have d:x.num=true:=mG.2 ⟨a,b,h3,h4⟩;by_cases e:1<=x.tb/\x.tb<=x.cl-2
 rotate_left
 have c:x.ins=false:=by rw[bA2];exact fun h=>e (qM.1 h).1
 rw[Ap c];refine aB rfl ?_;simp (disch:=omega) only[go_sem,h63c,w,s,a,h3,b,h4,e];by_cases f:1<=x.mi/\x.mi<=x.cl-2
 rotate_left
 have c:x.ins=false:=by rw[bA2];exact fun h=>f (qM.1 h).2.1
 rw[Ap c];refine aB rfl ?_;simp (disch:=omega) only[go_sem,h63c,w,s,a,h3,b,h4,e,f];by_cases g:1<=x.lg/\x.lg<=x.cl-2
 rotate_left
 have c:x.ins=false:=by rw[bA2];exact fun h=>g (qM.1 h).2.2
 rw[Ap c];refine aB rfl ?_;simp (disch:=omega) only[go_sem,h63c,w,s,a,h3,b,h4,e,f,g];have c:x.ins=true:=qM.2 ⟨e,f,g⟩;by_cases p:x.mi+8<x.cl
 rotate_left
 have hf:x.fit=false:=by rw[bA2];exact fun h=>p (Ej.1 h).1
 have j:x.mi+8 > x.cl-1:=by omega
 rw[K5 d c hf];refine aB rfl ?_;simp (disch:=omega) only[go_sem,h63c,w,s,a,h3,b,h4,e,f,g,j];by_cases q:x.lg+x.lc<x.cl
 rotate_left
 have hf:x.fit=false:=by rw[bA2];exact fun h=>q (Ej.1 h).2
 have j:¬ x.mi+8 > x.cl-1:=by omega
 have i:x.lg+x.lc > x.cl-1:=by omega
 rw[K5 d c hf];refine aB rfl ?_;simp (disch:=omega) only[go_sem,h63c,w,s,a,h3,b,h4,e,f,g,j,i];have j:¬ x.mi+8 > x.cl-1:=by omega
 have i:¬ x.lg+x.lc > x.cl-1:=by omega
 have hf:x.fit=true:=Ej.2 ⟨p,q⟩;have l:=Ek (G:=G) (B:=B) x.tb 2 x.mi 8 (by omega) (by omega) (by omega) (by omega);have m:=Ek (G:=G) (B:=B) x.tb 2 x.lg x.lc (by omega) (by omega) (by omega) (by omega);have o:=Ek (G:=G) (B:=B) x.mi 8 x.lg x.lc (by omega) (by omega) (by omega) (by omega);have k:x.cla=(!Ev x.tb 2 x.mi 8&&!Ev x.tb 2 x.lg x.lc&&!Ev x.mi 8 x.lg x.lc):=rfl;generalize Ev x.tb 2 x.mi 8=r at l k;generalize Ev x.tb 2 x.lg x.lc=t at m k;generalize Ev x.mi 8 x.lg x.lc=u at o k;rw[Vm d c hf,k];refine aB rfl ?_;cases r;cases t
 ·cases u;all_goals simp (disch:=omega) only[go_sem,h63c,w,s,a,h3,b,h4,e,f,g,j,i,l,m,o]
  all_goals rfl
 simp (disch:=omega) only[go_sem,h63c,w,s,a,h3,b,h4,e,f,g,j,i,l,m,o];rfl;simp (disch:=omega) only[go_sem,h63c,w,s,a,h3,b,h4,e,f,g,j,i,l,m,o];rfl
end
section
variable {G:aF}{B:aO}
theorem Fv(n a b:Int):EV G (Tb B) 148 [vi n,vi a,vi b] []=some (vb (decide (a<=n/\n<=b)),[]):=by
 refine aB rfl ?_;by_cases h:a<=n;all_goals simp (disch:=omega) only[go_sem,h148c]
 all_goals simp[h]
theorem Fw(b:Bool)(e:Int):EV G (Tb B) 107 [vb b,vi e] []=some (vi (qA b e),[]):=by
 refine aB rfl ?_;cases b;all_goals simp (disch:=omega) only[go_sem,h107c]
 all_goals rfl
theorem Fx(l:L Int)(h:l.length<=200000):EV G (Tb B) 106 [sv l] []=some (vi 0,[]):=by
 have u:=Fw (G:=G) (B:=B);refine aB rfl ?_;have e:(l.length:Int)<=200000:=by omega
 simp (disch:=omega) only[go_sem,h106c,u,e,eL]
theorem Od(n:Int)(h:1<=n/\n<=6):EV G (Tb B) 147 [vi n] []=some (vi 0,[]):=by
 have u:=Fw (G:=G) (B:=B);have w:=fun n b a=>Fv (G:=G) (B:=B) n b a
 refine aB rfl ?_;simp (disch:=omega) only[go_sem,h147c,u,w,eL,h]
theorem aId(l:L Int)(g:l.length<=1000):EV G (Tb B) 105 [vl (el l)] []=some (vi (aU l),[]):=by
 refine aB rfl ?_;simp (disch:=omega) only[go_sem,h105c,aZz];have a:∀ k (b:k < l.length),¬ l.getD k 0≠0->Lt [5,0,0] 0 (EC (EV G (Tb B)) G h105l0 ⟨(jk 5 (vl (el l)::vi l.length::vi k::jk 7 [])),[]⟩)=some ⟨(jk 5 (vl (el l)::vi l.length::vi (k+1:Nat)::jk 7 [])),[]⟩:=fun k b f=>by
  rw[bU l k b] at f;simp (disch:=omega) only[go_sem,h105l0,aZz,uC]
 rcases Py (fun k=>l.getD k 0≠0) l.length with h|⟨j,e,c,d⟩
 rw[aT (fun k=>⟨(jk 5 (vl (el l)::vi l.length::vi k::jk 7 [])),[]⟩) l.length ?_ ?_]
 rw[iI l h];simp (disch:=omega) only[go_sem,h105l0];rfl;exact fun k b=>a k b (h k b)
 rw[aT (fun k=>⟨(jk 5 (vl (el l)::vi l.length::vi k::jk 7 [])),[]⟩) j ?_ ?_]
 rw[kH l j e d c];rw[bU l j e] at c;simp (disch:=omega) only[go_sem,h105l0,aZz,uC];rfl;exact fun k b=>a k (by omega) (d k b)
theorem Vn(a b:Int):EV G (Tb B) 105 [vl [[ci a],[ci b]]] []=some (vi (aU [a,b]),[]):=aId [a,b] (by simp)
theorem aIe:EV G (Tb B) 149 [vi 4] []=some (vi 4294967296,[]):=by
 refine aB rfl ?_;have e:(1:Int)*2 ^ min 32 64=4294967296:=rfl;simp (disch:=omega) only[go_sem,h149c,Int.reduceMul,Int.reduceToNat,IntKind.bits,e]
theorem aMJ(n:Int)(j:Nat)(p:Int)(hp:0<p)(h:(2:Int) ^ min (8*(j:Int)).toNat 64=p):n.fdiv (2 ^ min (8*(j:Int)).toNat 64)=n / p:=by
 rw[h,Int.fdiv_eq_ediv_of_nonneg _ (by omega)]
theorem aDI(n:Int)(k:0<=n/\n<=4294967295):EV G (Tb B) 150 [vi n,vi 4] []=some (sv (bJ n 4),[]):=by
 refine aB rfl ?_;simp (disch:=omega) only[go_sem,h150c];rw[aT (fun j=>⟨(vi n::jk 4 (.one (.bld 0 4)::jk 4 (vi 4::vi j::jk 13 []))),[.arr 0 1 (bl (bJ n j++(zl 4).drop j))]⟩) 4 ?_ ?_]
 have e:bJ n 4++List.drop 4 (zl 4)=bJ n 4:=by simp[zl]
 have a:List.take 4 (bl (bJ n 4))=bl (bJ n 4):=aZ6 (by simp[aA]);simp (disch:=omega) only[go_sem,h150l0,e,a,aZz,aA];rfl
 ·intro j i;have b:=aMJ n 0 1 (by decide) rfl;have d:=aMJ n 1 256 (by decide) rfl;have a:=aMJ n 2 65536 (by decide) rfl;have c:=aMJ n 3 16777216 (by decide) rfl;have f:n / 65536=n / 256 / 256:=by omega
  have g:n / 16777216=n / 256 / 256 / 256:=by omega
  rw[Int.ediv_one] at b;rw[f] at a;rw[g] at c;simp only[bA7,Int.natCast_one,show ((2:Nat):Int)=2 from rfl,show ((3:Nat):Int)=3 from rfl] at b d a c
  have h:(2:Int).toNat=2:=rfl;have t3:(3:Int).toNat=3:=rfl;rcases (show j=0\/j=1\/j=2\/j=3 by omega) with rfl|rfl|rfl|rfl
  all_goals simp (disch:=omega) only[go_sem,h150l0,h,t3,bJ,Fe,zl,List.replicate,bAq,bAZ,aZR,aZW,aZL,aZM,A4,wu8,b,d,a,c,bAf,Int.reduceAdd]
abbrev tS(l:L Int):TV:=.one (.dc (.raw (.string (dI l))))
abbrev tI(n:Int):TV:=.one (.dc (.raw (.int .i64 n)))
theorem Y5(n:Int)(a:0<=n/\n<=4294967295):EV G (Tb B) 104 [vi n,vi 4] []=some (.tup [tS (bJ n 4),tI 0],[]):=by
 have c:=Od (G:=G) (B:=B) 4 (by omega);have l:=aIe (G:=G) (B:=B);have w:=Fv (G:=G) (B:=B) n 0 4294967295;have q:=aDI (G:=G) (B:=B) n a;refine aB rfl ?_;simp (disch:=omega) only[go_sem,h104c,c,l,w,q,a,Int.reduceSub]
theorem kK(n:Int)(a:0<=n/\n<=4294967295):EV G (Tb B) 74 [vi n] []=some (sv (bJ n 4),[]):=by
 have q:=Y5 (G:=G) (B:=B) n a;refine aB rfl ?_;simp (disch:=omega) only[go_sem,h74c,q]
def El(s:Int):Int:=(2*s) % 2147483648+s / 1073741824
def tZ(s c:Int):Int:=(El s+c) % 2147483648
def jQ(l:L Int):Int:=l.foldl tZ 0
theorem Em(s c:Int):0<=tZ s c/\tZ s c<=2147483647:=by unfold tZ;omega
theorem Fy(l:L Int)(a:Int):jQ (l++[a])=tZ (jQ l) a:=by simp[jQ]
theorem tA:∀l:L Int,0<=jQ l/\jQ l<=2147483647:=by
 intro l;rcases List.eq_nil_or_concat l with rfl|⟨l,a,rfl⟩
 simp[jQ];rw[List.concat_eq_append,Fy];exact Em _ _
theorem aX9(x:Int)(h:0<=x/\x<=4294967296):Xt .i64 x 2147483647=x % 2147483648:=by
 obtain⟨x,rfl⟩:=bAI h.1;have a:(BitVec.ofInt 64 (x:Int) &&& BitVec.ofInt 64 2147483647).toNat=x % 2147483648:=by
  rw[BitVec.toNat_and,show (BitVec.ofInt 64 2147483647).toNat=2 ^ 31-1 from rfl,Nat.and_two_pow_sub_one_eq_mod,BitVec.ofInt_natCast,BitVec.toNat_ofNat]
  omega
 show IntKind.i64.wrap (((BitVec.ofInt 64 (x:Int) &&& BitVec.ofInt 64 2147483647).toNat:Nat):Int)=_;rw[a,Bz (by omega)];omega
theorem orS(n b:Int)(e:0<=n/\n<=4294967296)(d:0<=b/\b<=1):Xu .i64 (n*2) b=n*2+b:=by
 obtain⟨n,rfl⟩:=bAI e.1;obtain⟨b,rfl⟩:=bAI d.1;have a:((n:Int)*2)=((n*2:Nat):Int):=by simp
 have c:n*2 ||| b=n*2+b:=by
  have:=Nat.shiftLeft_add_eq_or_of_lt (show b<2 ^ 1 by omega) n;rw[Nat.shiftLeft_eq] at this;exact this.symm
 rw[Xu,a,J1,BitVec.ofInt_natCast,BitVec.ofInt_natCast,BitVec.toNat_or,BitVec.toNat_ofNat,BitVec.toNat_ofNat,bAz (by omega),bAz (by omega),c,Bz (by omega)];simp
theorem aDJ(s c:Int)(i:0<=s/\s<=2147483647)(h:0<=c/\c<=255):EV G (Tb B) 110 [vi s,vi c] []=some (vi (tZ s c),[]):=by
 have a:s*2 ^ min 1 64=s*2:=rfl;have b:s.fdiv (2 ^ min 30 64)=s / 1073741824:=Int.fdiv_eq_ediv_of_nonneg _ (by decide);have d:Xt .i64 (s*2) 2147483647=s % 1073741824*2:=by rw[aX9 _ (by omega)];omega
 have e:=orS (s % 1073741824) (s / 1073741824) (by omega) (by omega);have f:tZ s c=(s % 1073741824*2+s / 1073741824+c) % 2147483648:=by unfold tZ El;omega
 have g:(s % 1073741824*2+s / 1073741824+c).tmod 2147483648=(s % 1073741824*2+s / 1073741824+c) % 2147483648:=bBg (by omega);refine aB rfl ?_;simp (disch:=omega) only[go_sem,h110c,Int.reduceToNat,IntKind.bits,a,b,d,e,f,g]
theorem aMK(l:L Int)(a:aJ l)(e:l.length<=200000):EV G (Tb B) 109 [sv l,vi 0,.one (.fn 110 [])] []=some (.tup [tI (jQ l),tI 0],[]):=by
 have q:=Fx (G:=G) (B:=B) l e;have d:=nQ l a;refine aB rfl ?_;simp (disch:=omega) only[go_sem,h109c,q,d,aZz];rw[aT (fun k=>⟨(jk 1 (vi (jQ (l.take k))::.one (.fn 110 [])::jk 14 (vl (bl l)::vi l.length::vi k::jk 10 []))),[]⟩) l.length ?_ ?_]
 simp (disch:=omega) only[go_sem,h109l0,bAi];rfl;intro k c;have b:=a _ (aZG c);have s:=aDJ (G:=G) (B:=B) (jQ (l.take k)) l[k] (tA _) b;have f:=iB _ b;rw[bAB c,Fy];simp (disch:=omega) only[go_sem,h109l0,aZz,A4,s,f,aZS]
theorem aIf(l:L Int)(a:aJ l)(b:l.length<=200000):EV G (Tb B) 76 [sv l] []=some (.tup [tI (jQ l),tI 0],[]):=by
 have q:=aMK (G:=G) (B:=B) l a b;refine aB rfl ?_;simp (disch:=omega) only[go_sem,h76c,q]
theorem aRj(l:L Int)(b:aJ l)(m:l.length<=4):EV G (Tb B) 138 [sv l] []=some (vi (gv l),[]):=by
 refine aB rfl ?_;have g:gv l=gL l 0 l.length:=by unfold gL;rw[bAq,bAi]
 rw[g];simp (disch:=first|omega|(simp only[aZA,aZB,aZC,aZz,aA];omega)) only[go_sem,h138c]
 rw[aT (fun j=>⟨(sv l::jk 2 (vi (gL l (l.length-j) j)::vi ((l.length:Int)-1-j)::jk 15 [])),[]⟩) l.length ?_ ?_]
 have a:¬ 0<=(l.length:Int)-1-(l.length:Int):=by omega
 have e:l.length-l.length=0:=by omega
 simp (disch:=first|omega|(simp only[aZA,aZB,aZC,aZz,aA];omega)) only[go_sem,h138l0,a,e]
 simp[gL,gv,jk];intro j k;have c:=b _ (aZG (show l.length-1-j<l.length by omega));have h:=kU b (l.length-j) j (by omega);have d:gL l (l.length-(j+1)) (j+1)=gL l (l.length-j) j*256+l[l.length-1-j]'(by omega):=by
  have:l.length-(j+1)<l.length:=by omega
  rw[Yn l _ j this,show l.length-(j+1)+1=l.length-j by omega,Int.mul_comm];rw[Int.add_comm];congr 1;congr 1;omega
 have a:0<=(l.length:Int)-1-(j:Int):=by omega
 rw[d];generalize gL l (l.length-j) j=z at h ⊢;have f:((l.length:Int)-1-(j:Int)).toNat=l.length-1-j:=by omega
 have i:=iB _ c;have o:=orL z _ (by omega) c;simp (disch:=first|omega|(simp only[aZA,aZB,aZC,aZz,aA];omega)) only[go_sem,h138l0,eq_true a,aZS,f,i,Int.reduceToNat,Int.reducePow,o]
 rw[show (l.length:Int)-1-(j:Int)-1=(l.length:Int)-1-((j:Int)+1) by omega]
theorem aRk(l:L Int)(a k:Nat)(h:a+k<=l.length)(g:1<=k/\k<=6)(d:l.length<=200000):EV G (Tb B) 137 [sv l,vi a,vi k] []=some (.tup [tS ((l.drop a).take k),tI 0],[]):=by
 have q:=Fx (G:=G) (B:=B) l d;have c:=Od (G:=G) (B:=B) k (by omega);have f:=Vn (G:=G) (B:=B) 0 0;have w:=Fv (G:=G) (B:=B) a 0 ((l.length:Int)-k);have e:(0:Int)<=a/\(a:Int)<=(l.length:Int)-k:=by omega
 rw[decide_eq_true e] at w;have b:aU [0,0]=0:=rfl;rw[b] at f;refine aB rfl ?_;simp (disch:=first|omega|(simp only[aZA,aZB,aZC,aZz,aA,aZH,aZD,aZK,aC,aS]<;>omega)|fail) only[go_sem,h137c,q,c,f,w]
theorem Bh(l:L Int)(b:aJ l)(a:Nat)(h:a+4<=l.length)(d:l.length<=200000):EV G (Tb B) 101 [sv l,vi a,vi 4] []=some (.tup [tI (gL l a 4),tI 0],[]):=by
 have c:=aRk (G:=G) (B:=B) l a 4 h (by omega) d;have n:=aRj (G:=G) (B:=B) ((l.drop a).take 4) (Ah b a 4) (by rw[aZD];omega);rw[show ((4:Nat):Int)=4 from rfl] at c
 refine aB rfl ?_;simp (disch:=omega) only[go_sem,h101c,c,n,gL]
theorem aRl(d:B 108 [.one (.dc (.raw (.string ⟨#[0]⟩))),vi 28] []=some (sv (zl 28),[]))(l:L Int)(h:l.length=32):EV G (Tb B) 75 [sv l,vi 60] []=some (.tup [tS (l++zl 28),tI 0],[]):=by
 have q:=Fx (G:=G) (B:=B) l (by omega);have u:=Fw (G:=G) (B:=B) true 11;have f:=Vn (G:=G) (B:=B) 0 0;have b:aU [0,0]=0:=rfl;rw[b] at f;have a:EV G (Tb B) 108 [.one (.dc (.raw (.string ⟨#[0]⟩))),vi 28] []=some (sv (zl 28),[]):=jG rfl d;refine aB rfl ?_;have c:(l.length:Int)=32:=by omega
 have m:(32:Int).tmod 60=32:=rfl;simp (disch:=first|omega|(simp only[aZA,aZB,aZC,aZz,aA,aZH,aZD,aZK,aC,aS]<;>omega)|fail) only[go_sem,h75c,q,u,f,c,m,a,eL,Int.reduceLT,Int.reduceSub,Int.reduceGT,decide_true,decide_false,Int.reduceEq]
end
section
variable {G:aF}{B:aO}
abbrev ptB:L aV:=[.ptr 0 0,.ptr 0 1,.ptr 0 2,.ptr 0 3,.ptr 0 4,.ptr 0 5]
theorem aDK(x:Bt):qC true h73.rs 1 (EC (EV G (Tb B)) G h73.code ⟨[.one (.ptr 0 0)]++tK (h73.nt-1),[x.o]⟩)=some (.one (.bls 1 0 6 1),[x.o,.box ptB]):=by
 simp (maxSteps:=2000000) (disch:=omega) only[go_sem,h73c]
def Ar:L Int:=[68,69,80,79,83,73,84,49]
def Bt.fs(x:Bt):L Int:=[x.cl,x.tb,x.mi,x.lg,x.lc,x.se]
def Bt.hd(x:Bt)(k:Nat):L Int:=Ar++((x.fs.take k).flatMap fun n=>bJ n 4)
def Bt.s60(x:Bt):L Int:=x.hd 6++zl 28
def Bt.bs(x:Bt):L Int:=x.s60++bJ (jQ x.s60) 4
theorem aVP(x:Bt):x.hd 0=Ar:=by simp[Bt.hd]
theorem aMM(x:Bt):x.hd 1=x.hd 0++bJ x.cl 4:=by simp[Bt.hd,Bt.fs]
theorem aMN(x:Bt):x.hd 2=x.hd 1++bJ x.tb 4:=by simp[Bt.hd,Bt.fs]
theorem aMO(x:Bt):x.hd 3=x.hd 2++bJ x.mi 4:=by simp[Bt.hd,Bt.fs]
theorem aMP(x:Bt):x.hd 4=x.hd 3++bJ x.lg 4:=by simp[Bt.hd,Bt.fs]
theorem aMQ(x:Bt):x.hd 5=x.hd 4++bJ x.lc 4:=by simp[Bt.hd,Bt.fs]
theorem aMR(x:Bt):x.hd 6=x.hd 5++bJ x.se 4:=by simp[Bt.hd,Bt.fs]
theorem K6(x:Bt)(k:Nat)(h:k<=6):(x.hd k).length=8+4*k:=by
 rcases (show k=0\/k=1\/k=2\/k=3\/k=4\/k=5\/k=6 by omega) with rfl|rfl|rfl|rfl|rfl|rfl|rfl<;>simp[Bt.hd,Bt.fs,aA,Ar]
theorem Oe:aJ Ar:=by unfold aJ Ar;decide
theorem aMS(x:Bt)(k:Nat):aJ (x.hd k):=by
 intro b c;rcases bAY.1 c with h|h
 exact Oe b h;obtain⟨n,_,a⟩:=List.mem_flatMap.1 h;exact cV _ _ b a
theorem K7(x:Bt):aJ x.s60:=by
 intro b a;rcases bAY.1 a with h|h
 exact aMS x 6 b h;have:=(List.mem_replicate.1 h).2;omega
theorem Bi(x:Bt):x.s60.length=60:=by rw[Bt.s60,aZA,K6 x 6 (by omega),aS]
theorem K8(x:Bt):x.bs.length=64:=by rw[Bt.bs,aZA,Bi,aA]
theorem tC(x:Bt):aJ x.bs:=by
 intro b a;rcases bAY.1 a with h|h
 exact K7 x b h;exact cV _ _ b h
theorem Oh(x:Bt)(hf:EV G (Tb B) 73 [.one (.ptr 0 0)] [x.o]=some (.one (.bls 1 0 6 1),[x.o,.box ptB]))(w:B 108 [.one (.dc (.raw (.string ⟨#[0]⟩))),vi 28] []=some (sv (zl 28),[])) (f:∀n∈x.fs,0<=n/\n<=4294967295):EV G (Tb B) 41 [x.v] []=some (sv x.bs,[]):=by
 refine aB rfl ?_;simp (maxSteps:=2000000) (disch:=omega) only[go_sem,h41c,hf];rw[aT (fun k=>⟨(jk 3 (sv (x.hd k)::jk 4 (.one (.bls 1 0 6 1)::vi 6::vi k::jk 24 []))),[x.o,.box ptB]⟩) 6 ?_ ?_]
 have h:=K6 x 6 (by omega);have p:=aRl (G:=G) w (x.hd 6) h;have s:=aIf (G:=G) (B:=B) x.s60 (K7 x) (by rw[Bi];omega);have q:=kK (G:=G) (B:=B) (jQ x.s60) (by have:=tA x.s60;omega);have e:x.bs=x.s60++bJ (jQ x.s60) 4:=rfl;have d:=Bi x;change EV G (Tb B) _ _ _=some (.tup [tS x.s60,tI 0],[]) at p;rw[e];generalize x.s60=S at p s q d ⊢;generalize x.hd 6=H at p h ⊢;simp (maxSteps:=2000000) (disch:=first|omega|(simp only[aZA,aZB,aZC,aZz,aA,aZH,aZD,aZK,aC,aS]<;>omega)|fail) only[go_sem,h41l0,p,s,q]
 rfl;intro j y;have g:=fun n=>kK (G:=G) (B:=B) n
 simp only[Bt.fs,bAQ,bA8,or_false,forall_eq_or_imp,forall_eq] at f;obtain⟨i,l,m,r,t,u⟩:=f;have a:=K6 x j (by omega);have b:(2:Int).toNat=2:=rfl;have t3:(3:Int).toNat=3:=rfl;have c:(4:Int).toNat=4:=rfl;have t5:(5:Int).toNat=5:=rfl;rcases (show j=0\/j=1\/j=2\/j=3\/j=4\/j=5 by omega) with rfl|rfl|rfl|rfl|rfl|rfl
 have q:=kK (G:=G) (B:=B) x.cl i;rw[aMM];generalize x.hd 0=H at a ⊢;simp (maxSteps:=2000000) (disch:=first|omega|(simp only[aZA,aZB,aZC,aZz,aA,aZH,aZD,aZK,aC,aS]<;>omega)|fail) only[go_sem,h41l0,q,Int.reduceAdd,bAf,b,t3,c,t5]
 have q:=kK (G:=G) (B:=B) x.tb l;rw[aMN];generalize x.hd 1=H at a ⊢;simp (maxSteps:=2000000) (disch:=first|omega|(simp only[aZA,aZB,aZC,aZz,aA,aZH,aZD,aZK,aC,aS]<;>omega)|fail) only[go_sem,h41l0,q,Int.reduceAdd,bAf,b,t3,c,t5]
 have q:=kK (G:=G) (B:=B) x.mi m;rw[aMO];generalize x.hd 2=H at a ⊢;simp (maxSteps:=2000000) (disch:=first|omega|(simp only[aZA,aZB,aZC,aZz,aA,aZH,aZD,aZK,aC,aS]<;>omega)|fail) only[go_sem,h41l0,q,Int.reduceAdd,bAf,b,t3,c,t5]
 have q:=kK (G:=G) (B:=B) x.lg r;rw[aMP];generalize x.hd 3=H at a ⊢;simp (maxSteps:=2000000) (disch:=first|omega|(simp only[aZA,aZB,aZC,aZz,aA,aZH,aZD,aZK,aC,aS]<;>omega)|fail) only[go_sem,h41l0,q,Int.reduceAdd,bAf,b,t3,c,t5]
 have q:=kK (G:=G) (B:=B) x.lc t;rw[aMQ];generalize x.hd 4=H at a ⊢;simp (maxSteps:=2000000) (disch:=first|omega|(simp only[aZA,aZB,aZC,aZz,aA,aZH,aZD,aZK,aC,aS]<;>omega)|fail) only[go_sem,h41l0,q,Int.reduceAdd,bAf,b,t3,c,t5]
 have q:=kK (G:=G) (B:=B) x.se u;rw[aMR];generalize x.hd 5=H at a ⊢;simp (maxSteps:=2000000) (disch:=first|omega|(simp only[aZA,aZB,aZC,aZz,aA,aZH,aZD,aZK,aC,aS]<;>omega)|fail) only[go_sem,h41l0,q,Int.reduceAdd,bAf,b,t3,c,t5]
end
section
variable {G:aF}{B:aO}
noncomputable def Y6(l:L Int):Nat:=ix (fun k=>¬ l.getD (l.length-1-k) 0=0) l.length
noncomputable def lzN(l:L Int):Nat:=ix (fun k=>¬ l.getD k 0=0) l.length
theorem Ib{l:L Int}{k:Nat}{x:Int}(h:k<l.length)(e:l.getD k 0=x):l[k]?=some x:=by
 simp only[aZN,aZJ h,bAl] at e ⊢;rw[e]
theorem aIg(l:L Int)(d:aJ l)(o:l.length<=1000000):EV G (Tb B) 140 [sv l,vu 0] []=some (sv (l.take (l.length-Y6 l)),[]):=by
 refine aB rfl ?_;have h6:((u8 0).toNat:Int)=0:=rfl;simp (disch:=omega) only[go_sem,h140c];rw[dQ (fun k=>⟨(sv (l.take (l.length-k))::vu 0::jk 21 []),[]⟩) (fun k=>¬ l.getD (l.length-1-k) 0=0) l.length ?_ ?_]
 rotate_left
 simp[jk];intro k h b;have c:=Classical.not_not.1 (b k (aZE _));have a:(l.take (l.length-k)).length=l.length-k:=by rw[aZD];omega
 have g:(l.take (l.length-k))[l.length-k-1]?=some 0:=by
  rw[bAb,if_pos (by omega),show l.length-k-1=l.length-1-k by omega];exact Ib (by omega) c
 have e:(l.take (l.length-k)).take (l.length-k-1)=l.take (l.length-(k+1)):=by
  rw[bA3];congr 1;omega
 have hp:((l.length-k:Nat):Int) > 0:=by omega
 have j:l.length-k<=1000000:=by omega
 generalize l.take (l.length-k)=T at a g e ⊢;generalize l.take (l.length-(k+1))=T' at e ⊢;generalize l.length-k=n at *;simp (disch:=omega) only[go_sem,h140l0,aC,a,g,e,eq_true hp,h6];obtain⟨h,hp,b⟩:=bF (fun k=>¬ l.getD (l.length-1-k) 0=0) l.length
 rw[show Y6 l=ix (fun k=>¬ l.getD (l.length-1-k) 0=0) l.length from rfl]
 generalize ix (fun k=>¬ l.getD (l.length-1-k) 0=0) l.length=k at *
 have a:(l.take (l.length-k)).length=l.length-k:=by rw[aZD];omega
 rcases hp with rfl|⟨i,hp⟩;rw[bAr] at a ⊢;simp (disch:=omega) only[go_sem,h140l0,aC,a];have g:(l.take (l.length-k))[l.length-k-1]?=some (l.getD (l.length-1-k) 0):=by
  rw[bAb,if_pos (by omega),show l.length-k-1=l.length-1-k by omega];exact Ib (by omega) rfl
 have f:0<=l.getD (l.length-1-k) 0/\l.getD (l.length-1-k) 0<=255:=by
  rw[bU l _ (by omega)];exact d _ (aZG _)
 have hp':((l.length-k:Nat):Int) > 0:=by omega
 have j:l.length-k<=1000000:=by omega
 generalize l.getD (l.length-1-k) 0=x at *;have m:=iB x f;generalize l.take (l.length-k)=T at a g ⊢;generalize l.length-k=n at *;simp (disch:=omega) only[go_sem,h140l0,aC,a,g,eq_true hp',m,eq_false hp]
theorem aIh(l:L Int)(d:aJ l)(p:l.length<=1000000):EV G (Tb B) 139 [sv l,vu 0] []=some (sv (l.drop (lzN l)),[]):=by
 refine aB rfl ?_;have h6:((u8 0).toNat:Int)=0:=rfl;simp (disch:=omega) only[go_sem,h139c];rw[dQ (fun k=>⟨(sv (l.drop k)::vu 0::jk 15 []),[]⟩) (fun k=>¬ l.getD k 0=0) l.length ?_ ?_]
 rotate_left
 simp[jk];intro k h b;have c:=Classical.not_not.1 (b k (aZE _));have a:(l.drop k).length=l.length-k:=aZK;have g:(l.drop k)[0]?=some 0:=by
  rw[aZ9];exact Ib (by omega) c
 have e:(l.drop k).drop 1=l.drop (k+1):=by rw[bAw]
 have hp:((l.length-k:Nat):Int) > 0:=by omega
 have j:l.length-k<=1000000:=by omega
 have q:1<=l.length-k:=by omega
 generalize l.drop k=T at a g e ⊢;generalize l.drop (k+1)=T' at e ⊢;generalize l.length-k=n at *;have o:T.take n=T:=by rw[<- a,bAi]
 simp (disch:=omega) only[go_sem,h139l0,aC,a,g,e,eq_true hp,h6,o];obtain⟨h,hp,b⟩:=bF (fun k=>¬ l.getD k 0=0) l.length
 rw[show lzN l=ix (fun k=>¬ l.getD k 0=0) l.length from rfl]
 generalize ix (fun k=>¬ l.getD k 0=0) l.length=k at *
 have a:(l.drop k).length=l.length-k:=aZK;rcases hp with rfl|⟨i,hp⟩
 rw[bAr] at a;simp (disch:=omega) only[go_sem,h139l0,aC,a];have g:(l.drop k)[0]?=some (l.getD k 0):=by
  rw[aZ9];exact Ib (by omega) rfl
 have f:0<=l.getD k 0/\l.getD k 0<=255:=by
  rw[bU l _ (by omega)];exact d _ (aZG _)
 have hp':((l.length-k:Nat):Int) > 0:=by omega
 have j:l.length-k<=1000000:=by omega
 generalize l.getD k 0=x at *;have m:=iB x f;generalize l.drop k=T at a g ⊢;generalize l.length-k=n at *;simp (disch:=omega) only[go_sem,h139l0,aC,a,g,eq_true hp',m,eq_false hp]
noncomputable def trZ(l:L Int):L Int:=(l.take (l.length-Y6 l)).drop (lzN (l.take (l.length-Y6 l)))
theorem aMT(l:L Int):trZ l=[]↔l=zl l.length:=by
 obtain⟨j,hp,b⟩:=bF (fun k=>¬ l.getD (l.length-1-k) 0=0) l.length
 have e:Y6 l=ix (fun k=>¬ l.getD (l.length-1-k) 0=0) l.length:=rfl
 rw[<- e] at j hp b;constructor;intro h;rcases hp with hp|⟨g,a⟩
 refine List.ext_getElem (by rw[aS]) fun i h3 h4=>?_
 have h5:=Classical.not_not.1 (b (l.length-1-i) (by omega));rw[show l.length-1-(l.length-1-i)=i by omega,bU l i h3] at h5;rw[h5];simp[zl];exfalso;unfold trZ at h;obtain⟨o,p,d⟩:=bF (fun k=>¬ (l.take (l.length-Y6 l)).getD k 0=0) (l.take (l.length-Y6 l)).length
 have f:lzN (l.take (l.length-Y6 l))=ix (fun k=>¬ (l.take (l.length-Y6 l)).getD k 0=0) (l.take (l.length-Y6 l)).length:=rfl
 rw[<- f] at o p d;have q:(l.take (l.length-Y6 l)).length=l.length-Y6 l:=by rw[aZD];omega
 rw[List.drop_eq_nil_iff] at h;have h3:=d (l.length-1-Y6 l) (by omega);apply a;have h4:=Classical.not_not.1 h3;simp only[aZN,bAb] at h4 ⊢;rw[if_pos (by omega)] at h4;exact h4;intro h;have n:Y6 l=l.length:=by
  rcases hp with hp|⟨g,a⟩;exact hp
  exfalso;apply a;have m:∀ x∈l,x=0:=fun x c=>by
   rw[h] at c;exact (List.mem_replicate.1 c).2
  rw[bU l _ (by omega)];exact m _ (aZG _)
 unfold trZ;rw[n,bAr,bAO,List.drop_nil]
theorem aIi{l:L Int}(h:aJ l):aJ (trZ l):=fun x a=>h x (aZZ (bAa a))
theorem aMU(l:L Int)(a:aJ l)(g:l.length<=1000000)(f:l≠[]):EV G (Tb B) 102 [sv l,.one (.dc (.raw (.string ⟨#[0]⟩)))] []=some (sv (trZ l),[]):=by
 have k:=aIg (G:=G) (B:=B) l a g;have m:=aIh (G:=G) (B:=B) (l.take (l.length-Y6 l)) (fun x i=>a x (aZZ i)) (by rw[aZD];omega)
 have j:Gz (.one (.dc (.raw (.string ⟨#[0]⟩)))) 0=some (vu 0):=by rfl
 have b:¬ dI l=⟨#[]⟩:=by
  intro h;have:=congrArg ByteArray.size h;rw[aC] at this;exact f (List.length_eq_zero_iff.1 this)
 have c:¬ (⟨#[0]⟩:ByteArray)=⟨#[]⟩:=by decide
 have e:((UInt8.toNat 0:Nat):Int)=0:=rfl;have d:(((#[0]:Array UInt8).size:Nat):Int)=1:=rfl;refine aB rfl ?_;simp (disch:=omega) only[go_sem,h102c,k,m,j,b,c,d,e,trZ]
theorem aMV(s p:L Int)(a:aJ s)(hp:aJ p)(d:s.length<=1000000)(h:p.length<=s.length):EV G (Tb B) 103 [sv s,sv p] []=some (vb (decide (s.take p.length=p)),[]):=by
 have b:aJ (s.take p.length):=fun x c=>a x (aZZ c)
 have e:=cR b hp;have l:EV G (Tb B) 146 [sv s,sv p] []=some (vb (decide (s.take p.length=p)),[]):=by
  refine aB rfl ?_;simp (disch:=first|omega|(simp only[aZA,aZB,aZC,aZz,aA,aZH,aZD,aZK,aC,aS]<;>omega)|fail) only[go_sem,h146c,aC,e]
 refine aB rfl ?_;simp (disch:=omega) only[go_sem,h103c,l]
end
section
variable {G:aF}{B:aO}
def nB:Bt:=⟨0,0,0,0,0,0⟩
def oR(s:L Int)(k:Nat):Bt:=⟨if 0<k then gL s 8 4 else 0,if 1<k then gL s 12 4 else 0,if 2<k then gL s 16 4 else 0,if 3<k then gL s 20 4 else 0,if 4<k then gL s 24 4 else 0,if 5<k then gL s 28 4 else 0⟩
noncomputable def Vo(s:L Int):Bool:=decide (s.take 8=Ar)&&decide (trZ ((s.take 60).drop 32)=[])&&decide (s.drop 60=bJ (jQ (s.take 60)) 4)
noncomputable def dR(s:L Int):Bt×Int:=if s.length=64 then if Vo s=true then (if jP (oR s 6)=0 then (oR s 6,0) else (nB,jP (oR s 6))) else (nB,3) else (nB,10)
abbrev ptC:L aV:=[.ptr 1 0,.ptr 1 1,.ptr 1 2,.ptr 1 3,.ptr 1 4,.ptr 1 5]
theorem aVQ(s:L Int):oR s 0=⟨0,0,0,0,0,0⟩:=by simp[oR]
theorem aVR(s:L Int):oR s 1=⟨gL s 8 4,0,0,0,0,0⟩:=by simp[oR]
theorem aVS(s:L Int):oR s 2=⟨gL s 8 4,gL s 12 4,0,0,0,0⟩:=by simp[oR]
theorem aVT(s:L Int):oR s 3=⟨gL s 8 4,gL s 12 4,gL s 16 4,0,0,0⟩:=by simp[oR]
theorem aVU(s:L Int):oR s 4=⟨gL s 8 4,gL s 12 4,gL s 16 4,gL s 20 4,0,0⟩:=by simp[oR]
theorem aVV(s:L Int):oR s 5=⟨gL s 8 4,gL s 12 4,gL s 16 4,gL s 20 4,gL s 24 4,0⟩:=by simp[oR]
theorem aIj(s:L Int):oR s 6=⟨gL s 8 4,gL s 12 4,gL s 16 4,gL s 20 4,gL s 24 4,gL s 28 4⟩:=by simp[oR]
theorem Oi(hf:∀x:Bt,EV G (Tb B) 73 [.one (.ptr 0 0)] [x.o]=some (.one (.bls 1 0 6 1),[x.o,.box ptB]))(s:L Int)(m:aJ s)(w:s.length<=200000):EV G (Tb B) 70 [sv s] []=some (.tup [.agg (dR s).1.cs,tI (dR s).2],[]):=by
 have Q:EV G (Tb B) 73 [.one (.ptr 0 0)] [.box [.dc (.raw (Zi 0)),.dc (.raw (Zi 0)),.dc (.raw (Zi 0)),.dc (.raw (Zi 0)),.dc (.raw (Zi 0)),.dc (.raw (Zi 0))]]=some (.one (.bls 1 0 6 1),[.box [.dc (.raw (Zi 0)),.dc (.raw (Zi 0)),.dc (.raw (Zi 0)),.dc (.raw (Zi 0)),.dc (.raw (Zi 0)),.dc (.raw (Zi 0))],.box ptB]):=hf nB;by_cases h:s.length=64
 rotate_left
 rw[show dR s=(nB,10) by unfold dR;rw[if_neg h]];refine aB rfl ?_;have e:¬ (s.length:Int)=64:=by omega
 simp (disch:=omega) only[go_sem,h70c,aC,e];rfl;have v:(s.length:Int)=64:=by omega
 refine aB rfl ?_;simp (maxSteps:=2000000) (disch:=omega) only[go_sem,h70c,aC,v,Q,Int.reduceEq];rw[aT (fun k=>⟨(sv s::jk 1 (.one (.ptr 0 0)::jk 1 (.one (.ptr 1 0)::jk 10 (.one (.bls 2 0 6 1)::vi 6::vi k::jk 51 [])))),[nB.o,(oR s k).o,.box ptC]⟩) 6 ?_ ?_]
 rotate_left
 rw[aVQ];rfl;intro j T;have A:(2:Int).toNat=2:=rfl;have t3:(3:Int).toNat=3:=rfl;have C:(4:Int).toNat=4:=rfl;have t5:(5:Int).toNat=5:=rfl;rcases (show j=0\/j=1\/j=2\/j=3\/j=4\/j=5 by omega) with rfl|rfl|rfl|rfl|rfl|rfl
 have q:=Bh (G:=G) (B:=B) s m 8 (by omega) w;rw[show ((8:Nat):Int)=8 from rfl] at q
 rw[aVQ,aVR];generalize gL s 8 4=z at q ⊢;simp (maxSteps:=2000000) (disch:=omega) only[go_sem,h70l0,q,Bt.o,Bt.cs,nB,Int.reduceAdd,Int.reduceMul,bAf,A,t3,C,t5];have q:=Bh (G:=G) (B:=B) s m 12 (by omega) w;rw[show ((12:Nat):Int)=12 from rfl] at q
 rw[aVR,aVS];generalize gL s 12 4=z at q ⊢;simp (maxSteps:=2000000) (disch:=omega) only[go_sem,h70l0,q,Bt.o,Bt.cs,nB,Int.reduceAdd,Int.reduceMul,bAf,A,t3,C,t5];have q:=Bh (G:=G) (B:=B) s m 16 (by omega) w;rw[show ((16:Nat):Int)=16 from rfl] at q
 rw[aVS,aVT];generalize gL s 16 4=z at q ⊢;simp (maxSteps:=2000000) (disch:=omega) only[go_sem,h70l0,q,Bt.o,Bt.cs,nB,Int.reduceAdd,Int.reduceMul,bAf,A,t3,C,t5];have q:=Bh (G:=G) (B:=B) s m 20 (by omega) w;rw[show ((20:Nat):Int)=20 from rfl] at q
 rw[aVT,aVU];generalize gL s 20 4=z at q ⊢;simp (maxSteps:=2000000) (disch:=omega) only[go_sem,h70l0,q,Bt.o,Bt.cs,nB,Int.reduceAdd,Int.reduceMul,bAf,A,t3,C,t5];have q:=Bh (G:=G) (B:=B) s m 24 (by omega) w;rw[show ((24:Nat):Int)=24 from rfl] at q
 rw[aVU,aVV];generalize gL s 24 4=z at q ⊢;simp (maxSteps:=2000000) (disch:=omega) only[go_sem,h70l0,q,Bt.o,Bt.cs,nB,Int.reduceAdd,Int.reduceMul,bAf,A,t3,C,t5];have q:=Bh (G:=G) (B:=B) s m 28 (by omega) w;rw[show ((28:Nat):Int)=28 from rfl] at q
 rw[aVV,aIj];generalize gL s 28 4=z at q ⊢;simp (maxSteps:=2000000) (disch:=omega) only[go_sem,h70l0,q,Bt.o,Bt.cs,nB,Int.reduceAdd,Int.reduceMul,bAf,A,t3,C,t5];have a:(s.take 60).length=60:=by rw[aZD];omega
 have M:=aIf (G:=G) (B:=B) (s.take 60) (fun x p=>m x (aZZ p)) (by omega)
 have d:=hf (oR s 6);have I:aJ (s.take 60):=fun x p=>m x (aZZ p)
 have J:aJ ((s.take 60).drop 32):=fun x p=>I x (bAa p)
 have K:((s.take 60).drop 32).length=28:=by rw[aZK];omega
 have N:=aMU (G:=G) (B:=B) ((s.take 60).drop 32) J (by omega) (by intro e;rw[e] at K;cases K);have y:EV G (Tb B) 103 [sv s,.one (.dc (.raw (.string ⟨#[68,69,80,79,83,73,84,49]⟩)))] []=some (vb (decide (s.take 8=Ar)),[]):=aMV s Ar m Oe (by omega) (by rw[h];decide);have O:=kK (G:=G) (B:=B) (jQ (s.take 60)) (by have:=tA (s.take 60);omega);have u:=jB (G:=G) (B:=B);have f:=pV (G:=G) (B:=B);have c:=Aq (G:=G) (B:=B) (oR s 6);have H:(dI (trZ ((s.take 60).drop 32))=⟨#[]⟩)=(trZ ((s.take 60).drop 32)=[]):=cR (b:=[]) (aIi J) (fun b S=>by cases S)
 have F:(dI (s.drop 60)=dI (bJ (jQ (s.take 60)) 4))=(s.drop 60=bJ (jQ (s.take 60)) 4):=cR (fun x p=>m x (bAa p)) (cV _ _)
 have r:dR s=if (decide (s.take 8=Ar)&&decide (trZ ((s.take 60).drop 32)=[])&&decide (s.drop 60=bJ (jQ (s.take 60)) 4))=true then (if jP (oR s 6)=0 then (oR s 6,0) else (nB,jP (oR s 6))) else (nB,3):=by
  unfold dR;rw[if_pos h];rfl
 have g:(8:Int)+4*6=32:=rfl;have l:(60:Int).toNat=60:=rfl;have i:(32:Int).toNat=32:=rfl;generalize oR s 6=X at d c r ⊢;generalize dR s=D at r ⊢;generalize decide (s.take 8=Ar)=R at y r;cases R;have n:D=(nB,3):=by rw[r];rfl
 rw[n];simp (maxSteps:=2000000) (disch:=omega) only[go_sem,h70l0,M,N,y,O,u,c,f,d,v,a,H,F,g,l,i,Bt.o,Bt.cs,nB,cB,eL,fK,Int.reduceMul,Int.reduceAdd,Int.reduceEq,if_true,if_false];by_cases t:trZ ((s.take 60).drop 32)=[];by_cases E:s.drop 60=bJ (jQ (s.take 60)) 4;rw[decide_eq_true t,decide_eq_true E] at r;by_cases P:jP X=0;have n:D=(X,0):=by rw[r];simp[P]
 rw[n];simp (maxSteps:=2000000) (disch:=omega) only[go_sem,h70l0,M,N,y,O,u,c,f,d,v,a,H,F,g,l,i,Bt.o,Bt.cs,nB,cB,eL,fK,Int.reduceMul,Int.reduceAdd,Int.reduceEq,if_true,if_false,eq_true t,eq_true E,P];have n:D=(nB,jP X):=by rw[r];simp[P]
 rw[n];simp (maxSteps:=2000000) (disch:=omega) only[go_sem,h70l0,M,N,y,O,u,c,f,d,v,a,H,F,g,l,i,Bt.o,Bt.cs,nB,cB,eL,fK,Int.reduceMul,Int.reduceAdd,Int.reduceEq,if_true,if_false,eq_true t,eq_true E,P];rw[decide_eq_false E] at r;have n:D=(nB,3):=by rw[r];simp
 rw[n];simp (maxSteps:=2000000) (disch:=omega) only[go_sem,h70l0,M,N,y,O,u,c,f,d,v,a,H,F,g,l,i,Bt.o,Bt.cs,nB,cB,eL,fK,Int.reduceMul,Int.reduceAdd,Int.reduceEq,if_true,if_false,eq_true t,eq_false E];rw[decide_eq_false t] at r;have n:D=(nB,3):=by rw[r];simp
 rw[n];simp (maxSteps:=2000000) (disch:=omega) only[go_sem,h70l0,M,N,y,O,u,c,f,d,v,a,H,F,g,l,i,Bt.o,Bt.cs,nB,cB,eL,fK,Int.reduceMul,Int.reduceAdd,Int.reduceEq,if_true,if_false,eq_false t]
end
section
variable {G:aF}{B:aO}
theorem aIk(l:L Int)(c:aJ l)(a k:Nat)(m:a+k<=l.length)(o:k<=4)(p:l.length<=1000000):EV G (Tb B) 15 [sv l,vi a,vi k] []=some (vi (gL l a k),[]):=by
 refine aB rfl ?_;simp (disch:=first|omega|(simp only[aZA,aZB,aZC,aZz,aA];omega)) only[go_sem,h15c]
 rw[aT (fun j=>⟨(sv l::vi a::jk 5 (vi (gL l (a+k-j) j)::vi ((k:Int)-1-j)::jk 16 [])),[]⟩) k ?_ ?_]
 have e:a+k-k=a:=by omega
 have b:¬ 0<=(k:Int)-1-(k:Int):=by omega
 simp (disch:=first|omega|(simp only[aZA,aZB,aZC,aZz,aA];omega)) only[go_sem,h15l0,e,b]
 simp[gL,gv,jk];intro j n;have i:=c _ (aZG (show a+k-1-j<l.length by omega));have g:=kU c (a+k-j) j (by omega);have d:gL l (a+k-(j+1)) (j+1)=gL l (a+k-j) j*256+l[a+k-1-j]'(by omega):=by
  have:a+k-(j+1)<l.length:=by omega
  rw[Yn l _ j this,show a+k-(j+1)+1=a+k-j by omega,Int.mul_comm];rw[Int.add_comm];congr 1;congr 1;omega
 have b:0<=(k:Int)-1-(j:Int):=by omega
 rw[d];generalize gL l (a+k-j) j=z at g ⊢;have f:((a:Int)+((k:Int)-1-(j:Int))).toNat=a+k-1-j:=by omega
 have h:=iB _ i;simp (disch:=first|omega|(simp only[aZA,aZB,aZC,aZz,aA];omega)) only[go_sem,h15l0,eq_true b,aZS,f,h]
 rw[show (k:Int)-1-(j:Int)-1=(k:Int)-1-((j:Int)+1) by omega]
theorem aRm(l:L Int)(c:aJ l)(j:l.length<=200000):EV G (Tb B) 31 [sv l] []=some (vi (jQ l),[]):=by
 refine aB rfl ?_;simp (disch:=omega) only[go_sem,h31c];rw[aT (fun k=>⟨(sv l::jk 2 (vi (jQ (l.take k))::vi k::jk 20 [])),[]⟩) l.length ?_ ?_]
 simp (disch:=omega) only[go_sem,h31l0,bAi,aC];rfl;intro k a;have f:=c _ (aZG a);have g:=iB _ f;have b:=tA (l.take k);rw[bAB a,Fy];generalize jQ (l.take k)=z at b ⊢;have h:=Gm (G:=G) (B:=B) (z*2) 2147483648;have i:=Gm (G:=G) (B:=B) ((z*2) % 2147483648+z / 1073741824+l[k]) 2147483648;have d:z.tdiv 1073741824=z / 1073741824:=bBk b.1;have e:tZ z l[k]=((z*2) % 2147483648+z / 1073741824+l[k]) % 2147483648:=by unfold tZ El;rw[Int.mul_comm 2 z]
 rw[e];simp (disch:=omega) only[go_sem,h31l0,aC,g,h,i,d,aZS]
theorem aIl(x:Bt)(p:Int->Prop)(h:∀n∈x.fs,p n):p x.cl/\p x.tb/\p x.mi/\p x.lg/\p x.lc/\p x.se:=by
 simpa only[Bt.fs,bAQ,bA8,or_false,forall_eq_or_imp,forall_eq] using h
theorem Oj(x:Bt)(u:∀n∈x.fs,0<=n/\n<=4294967295):EV G (Tb B) 9 [x.v] []=some (sv x.bs,[]):=by
 obtain⟨l,m,o,p,r,t⟩:=aIl x _ u;have q:=fun n (h:0<=n/\n<=4294967295)=>kR (G:=G) (B:=B) n 4 (by omega) (by omega)
 have a:=q _ l;have b:=q _ m;have c:=q _ o;have d:=q _ p;have e:=q _ r;have f:=q _ t;have g:=q (jQ x.s60) (by have:=tA x.s60;omega);rw[show ((4:Nat):Int)=4 from rfl] at a b c d e f g
 have z:=H0 (G:=G) (B:=B) 28 (by omega);rw[show (28:Int).toNat=28 from rfl] at z
 have s:=aRm (G:=G) (B:=B) x.s60 (K7 x) (by rw[Bi];omega);have i:Ar++bJ x.cl 4++bJ x.tb 4++bJ x.mi 4++bJ x.lg 4++bJ x.lc 4++bJ x.se 4=x.hd 6:=by
  rw[aMR,aMQ,aMP,aMO,aMN,aMM,aVP]
 have C:=K6 x 6 (by omega);have j:x.hd 6++List.replicate 28 0=x.s60:=rfl;have k:x.s60++bJ (jQ x.s60) 4=x.bs:=rfl;have es:(⟨#[68,69,80,79,83,73,84,49]⟩:ByteArray)=dI Ar:=rfl;have A:Ar.length=8:=rfl;have w:=Bi x;generalize x.s60=S at *;generalize x.hd 6=H at *;refine aB rfl ?_;have y:(H.length:Int)=32:=by omega
 simp (maxSteps:=2000000) (disch:=first|omega|(simp only[aZA,aZB,aZC,aZz,aA,aZH,aZD,aZK,aC,aS]<;>omega)|fail) only[go_sem,h9c,es,a,b,c,d,e,f,g,z,s,A,i,j,k,y,Int.reduceSub]
noncomputable def Me(s:L Int):Bt×Int:=if s.length=64 then if (oR s 6).bs=s then (if jP (oR s 6)=0 then (oR s 6,0) else (nB,jP (oR s 6))) else (nB,3) else (nB,10)
theorem aVW{s:L Int}(b:aJ s):∀n∈(oR s 6).fs,0<=n/\n<=4294967295:=by
 have h:=fun a=>kU b a 4 (by omega)
 rw[aIj];simp only[Bt.fs,bAQ,bA8,or_false,forall_eq_or_imp,forall_eq];exact⟨by have:=h 8;omega,by have:=h 12;omega,by have:=h 16;omega,by have:=h 20;omega,by have:=h 24;omega,by have:=h 28;omega⟩
theorem Vp(s:L Int)(p:aJ s)(F:s.length<=200000):EV G (Tb B) 28 [sv s] []=some (.tup [.agg (Me s).1.cs,tI (Me s).2],[]):=by
 by_cases h:s.length=64
 rotate_left
 rw[show Me s=(nB,10) by unfold Me;rw[if_neg h]];refine aB rfl ?_;have e:¬ (s.length:Int)=64:=by omega
 simp (disch:=omega) only[go_sem,h28c,aC,e];rfl;have t:(s.length:Int)=64:=by omega
 have q:=fun a (u:a+4<=s.length)=>aIk (G:=G) (B:=B) s p a 4 u (by omega) (by omega)
 have i:=q 8 (by omega);have j:=q 12 (by omega);have k:=q 16 (by omega);have l:=q 20 (by omega);have m:=q 24 (by omega);have n:=q 28 (by omega);simp only[show ((4:Nat):Int)=4 from rfl,show ((8:Nat):Int)=8 from rfl,show ((12:Nat):Int)=12 from rfl,show ((16:Nat):Int)=16 from rfl,show ((20:Nat):Int)=20 from rfl,show ((24:Nat):Int)=24 from rfl,show ((28:Nat):Int)=28 from rfl] at i j k l m n
 have b:=Oj (G:=G) (B:=B) (oR s 6) (aVW p);have c:=aDH (G:=G) (B:=B) (oR s 6);have r:Me s=if (oR s 6).bs=s then (if jP (oR s 6)=0 then (oR s 6,0) else (nB,jP (oR s 6))) else (nB,3):=by unfold Me;rw[if_pos h]
 have g:(dI (oR s 6).bs=dI s)=((oR s 6).bs=s):=cR (tC _) p;generalize Me s=D at r ⊢;generalize E:(oR s 6).bs=Y at b r g;rw[aIj] at b c r;generalize gL s 8 4=w at *;generalize gL s 12 4=x at *;generalize gL s 16 4=y at *;generalize gL s 20 4=z at *;generalize gL s 24 4=A at *;generalize gL s 28 4=C at *;refine aB rfl ?_;by_cases d:Y=s;rw[if_pos d] at r;by_cases f:jP ⟨w,x,y,z,A,C⟩=0;rw[if_pos f] at r;rw[r];simp (maxSteps:=2000000) (disch:=omega) only[go_sem,h28c,aC,t,i,j,k,l,m,n,b,c,g,d,f,Bt.v,Bt.o,Bt.cs,nB,Int.reduceEq];rw[if_neg f] at r;rw[r];simp (maxSteps:=2000000) (disch:=omega) only[go_sem,h28c,aC,t,i,j,k,l,m,n,b,c,g,d,f,Bt.v,Bt.o,Bt.cs,nB,Int.reduceEq];rw[if_neg d] at r;rw[r];simp (maxSteps:=2000000) (disch:=omega) only[go_sem,h28c,aC,t,i,j,k,l,m,n,b,c,g,d,Bt.v,Bt.o,Bt.cs,nB,Int.reduceEq]
end
section
variable {G:aF}{B:aO}
theorem aMW{x:Bt}(h:jP x=0):x.num=true/\x.ins=true/\x.fit=true/\x.cla=true:=by
 cases b:x.num with
 |false=>rw[sC b] at h;cases h
 | true=>cases a:x.ins with
  | false=>rw[Ap a] at h;cases h
  | true=>cases hf:x.fit with
   | false=>rw[K5 b a hf] at h;cases h
   | true=>cases c:x.cla with
    | false=>rw[Vm b a hf,c] at h;cases h
    | true=>exact⟨rfl,rfl,rfl,rfl⟩
theorem Ic{x:Bt}(h:jP x=0):∀n∈x.fs,0<=n/\n<=2147483647:=by
 obtain⟨b,a,_,_⟩:=aMW h;obtain⟨c,d,h3,h4⟩:=mG.1 b;obtain⟨e,f,g⟩:=qM.1 a;simp only[Bt.fs,bAQ,bA8,or_false,forall_eq_or_imp,forall_eq];omega
theorem aDL(x:Bt)(hf:EV G (Tb B) 73 [.one (.ptr 0 0)] [x.o]=some (.one (.bls 1 0 6 1),[x.o,.box ptB]))(a:B 108 [.one (.dc (.raw (.string ⟨#[0]⟩))),vi 28] []=some (sv (zl 28),[])):EV G (Tb B) 19 [x.v] []=some (.tup [tS (if jP x=0 then x.bs else []),tI (jP x)],[]):=by
 have c:=Aq (G:=G) (B:=B) x;refine aB rfl ?_;by_cases h:jP x=0;have d:∀n∈x.fs,0<=n/\n<=4294967295:=fun n b=>by have:=Ic h n b;omega
 have e:=Oh (G:=G) x hf a d;rw[if_pos h];rw[h] at c ⊢;simp (maxSteps:=2000000) (disch:=omega) only[go_sem,h19c,c,e]
 ·rw[if_neg h];simp (maxSteps:=2000000) (disch:=omega) only[go_sem,h19c,c,h];try rfl
theorem aRn(n:Int)(h:0<=n/\n<=4294967295):gv (bJ n 4)=n:=by
 simp only[bJ,Fe,aZR,aZW,gv];omega
theorem aYa{l:L Int}(h:l.length=4):∃a b c d,l=[a,b,c,d]:=by
 match l,h with
 |[a,b,c,d],_=>exact⟨a,b,c,d,rfl⟩
theorem sg4(l:L Int)(h:l.length=4)(e:aJ l):bJ (gv l) 4=l:=by
 obtain⟨a,b,c,d,rfl⟩:=aYa h;have f:=e a (by simp);have g:=e b (by simp);have h3:=e c (by simp);have h4:=e d (by simp);simp only[bJ,Fe,aZR,aZW,gv,List.cons.injEq,and_true];omega
theorem sgL(s:L Int)(b:aJ s)(a:Nat)(h:a+4<=s.length):bJ (gL s a 4) 4=(s.drop a).take 4:=by
 unfold gL;exact sg4 _ (by rw[aZD,aZK];omega) (Ah b a 4)
theorem pX(s:L Int)(a b n:Nat):(s.drop a).take b++(s.drop (a+b)).take n=(s.drop a).take (b+n):=by
 rw[List.take_add,bAw]
theorem aVX(s:L Int)(a:aJ s)(h:s.length=64):(oR s 6).hd 6=Ar++(s.drop 8).take 24:=by
 rw[aIj,aMR,aMQ,aMP,aMO,aMN,aMM,aVP,sgL s a 8 (by omega),sgL s a 12 (by omega),sgL s a 16 (by omega),sgL s a 20 (by omega),sgL s a 24 (by omega),sgL s a 28 (by omega)];simp only[aZP];rw[pX s 24 4 4,pX s 20 4 8,pX s 16 4 12,pX s 12 4 16,pX s 8 4 20]
theorem aBo(s:L Int)(k:aJ s)(h:s.length=64):Vo s=true↔(oR s 6).bs=s:=by
 have e:(oR s 6).s60=Ar++(s.drop 8).take 24++zl 28:=by rw[Bt.s60,aVX s k h]
 have g:s.take 8++(s.drop 8).take 24++(s.take 60).drop 32=s.take 60:=by
  have a:s.take 8++(s.drop 8).take 24=s.take 32:=by rw[show (32:Nat)=8+24 from rfl,List.take_add]
  have j:s.take 32=(s.take 60).take 32:=by rw[bA3];rfl
  rw[a,j,bAH]
 have l:((s.take 60).drop 32).length=28:=by rw[aZK,aZD];omega
 have z:trZ ((s.take 60).drop 32)=[]↔(s.take 60).drop 32=zl 28:=by rw[aMT,l]
 have b:(oR s 6).s60=s.take 60↔s.take 8=Ar/\(s.take 60).drop 32=zl 28:=by
  rw[e,<- g];have i:Ar.length=(s.take 8).length:=by rw[aZD,h];rfl
  constructor;intro q;obtain⟨f,d⟩:=List.append_inj q (by rw[aZA,aZA,i]);obtain⟨n,_⟩:=List.append_inj f i;refine⟨n.symm,?_⟩;rw[g];exact d.symm;rintro⟨f,d⟩;rw[g] at d;rw[f,d]
 have c:(oR s 6).bs=s↔(oR s 6).s60=s.take 60/\bJ (jQ (oR s 6).s60) 4=s.drop 60:=by
  constructor;intro q;have m:(oR s 6).s60++bJ (jQ (oR s 6).s60) 4=s.take 60++s.drop 60:=by rw[bAH];exact q
  exact List.append_inj m (by rw[Bi,aZD];omega);rintro⟨f,d⟩;rw[Bt.bs,d,f,bAH]
 rw[c,b];unfold Vo;simp only[aZO,decide_eq_true_eq];rw[z];constructor;rintro⟨a,h3⟩;refine⟨a,?_⟩;rw[b.2 a];exact h3.symm;rintro⟨a,h3⟩;refine⟨a,?_⟩;rw[b.2 a] at h3;exact h3.symm
theorem Qw(s:L Int)(a:aJ s):dR s=Me s:=by
 unfold dR Me;by_cases h:s.length=64;rw[if_pos h,if_pos h];by_cases b:(oR s 6).bs=s;rw[if_pos b,if_pos ((aBo s a h).2 b)];rw[if_neg b,if_neg (fun q=>b ((aBo s a h).1 q))]
 rw[if_neg h,if_neg h]
theorem aRo(p z q:L Int)(k:Nat)(h:z.length=k):gL (p++(z++q)) p.length k=gv z:=by
 unfold gL;rw[List.drop_left,<- h,List.take_left]
theorem aVY(x:Bt)(t:∀n∈x.fs,0<=n/\n<=4294967295):oR x.bs 6=x:=by
 obtain⟨i,j,l,m,o,p⟩:=aIl x _ t;have e:∀k (n:Int) q,x.bs=x.hd k++(bJ n 4++q)->k<=6->0<=n/\n<=4294967295->gL x.bs (8+4*k) 4=n:=by
  intro k n q r s h3;rw[r,<- K6 x k s,aRo _ _ _ _ (aA _ _),aRn n h3]
 have f:x.bs=x.hd 6++(zl 28++bJ (jQ x.s60) 4):=by rw[Bt.bs,Bt.s60,aZP]
 have g:x.bs=x.hd 5++(bJ x.se 4++(zl 28++bJ (jQ x.s60) 4)):=by rw[f,aMR,aZP]
 have d:x.bs=x.hd 4++(bJ x.lc 4++(bJ x.se 4++(zl 28++bJ (jQ x.s60) 4))):=by rw[g,aMQ,aZP]
 have c:x.bs=x.hd 3++(bJ x.lg 4++(bJ x.lc 4++(bJ x.se 4++(zl 28++bJ (jQ x.s60) 4)))):=by rw[d,aMP,aZP]
 have b:x.bs=x.hd 2++(bJ x.mi 4++(bJ x.lg 4++(bJ x.lc 4++(bJ x.se 4++(zl 28++bJ (jQ x.s60) 4))))):=by rw[c,aMO,aZP]
 have a:x.bs=x.hd 1++(bJ x.tb 4++(bJ x.mi 4++(bJ x.lg 4++(bJ x.lc 4++(bJ x.se 4++(zl 28++bJ (jQ x.s60) 4)))))):=by rw[b,aMN,aZP]
 have h:x.bs=x.hd 0++(bJ x.cl 4++(bJ x.tb 4++(bJ x.mi 4++(bJ x.lg 4++(bJ x.lc 4++(bJ x.se 4++(zl 28++bJ (jQ x.s60) 4))))))):=by rw[a,aMM,aZP]
 rw[aIj,e 0 _ _ h (by omega) i,e 1 _ _ a (by omega) j,e 2 _ _ b (by omega) l,e 3 _ _ c (by omega) m,e 4 _ _ d (by omega) o,e 5 _ _ g (by omega) p]
theorem aIm(x:Bt)(h:jP x=0):dR x.bs=(x,0):=by
 rw[Qw _ (tC x)];unfold Me;have r:=aVY x (fun n a=>by have:=Ic h n a;omega)
 rw[if_pos (K8 x),r,if_pos rfl,if_pos h]
end
section
variable {G:aF}{B:aO}
theorem aDM(b:Bool)(e:Int):EV G (Tb B) 100 [vb b,vi e] []=some (vi (qA b e),[]):=by
 refine aB rfl ?_;cases b;all_goals simp (disch:=omega) only[go_sem,h100c]
 all_goals rfl
theorem aIn(l:L Int)(g:l.length<=1000):EV G (Tb B) 99 [vl (el l)] []=some (vi (aU l),[]):=by
 refine aB rfl ?_;simp (disch:=omega) only[go_sem,h99c,aZz];have a:∀ k (b:k < l.length),¬ l.getD k 0≠0->Lt [5,0,0] 0 (EC (EV G (Tb B)) G h99l0 ⟨(jk 5 (vl (el l)::vi l.length::vi k::jk 7 [])),[]⟩)=some ⟨(jk 5 (vl (el l)::vi l.length::vi (k+1:Nat)::jk 7 [])),[]⟩:=fun k b f=>by
  rw[bU l k b] at f;simp (disch:=omega) only[go_sem,h99l0,aZz,uC]
 rcases Py (fun k=>l.getD k 0≠0) l.length with h|⟨j,e,c,d⟩
 rw[aT (fun k=>⟨(jk 5 (vl (el l)::vi l.length::vi k::jk 7 [])),[]⟩) l.length ?_ ?_]
 rw[iI l h];simp (disch:=omega) only[go_sem,h99l0];rfl;exact fun k b=>a k b (h k b)
 rw[aT (fun k=>⟨(jk 5 (vl (el l)::vi l.length::vi k::jk 7 [])),[]⟩) j ?_ ?_]
 rw[kH l j e d c];rw[bU l j e] at c;simp (disch:=omega) only[go_sem,h99l0,aZz,uC];rfl;exact fun k b=>a k (by omega) (d k b)
theorem aIo(a b:Int):EV G (Tb B) 99 [vl [[ci a],[ci b]]] []=some (vi (aU [a,b]),[]):=aIn [a,b] (by simp)
theorem K9(l:L Int):(dI l=⟨#[]⟩)=(l=[]):=by
 apply propext;refine⟨fun h=>?_,fun h=>by rw[h];rfl⟩
 have:=congrArg ByteArray.size h;rw[aC] at this;exact List.length_eq_zero_iff.1 this
def Gt(n:Nat):Int:=if n=0\/n % 64≠0 then 10 else if 131072<n then 8 else 0
def La(n:Nat):Int:=if Gt n≠0 then Gt n else if n % 256=0/\64<=n / 256/\n / 256<=512 then 0 else 10
theorem F3(n m:Nat):(n:Int).tmod (m:Int)=((n % m:Nat):Int):=by
 rw[bBg (by omega)];simp
theorem Qx(n m:Nat):(n:Int).tdiv (m:Int)=((n / m:Nat):Int):=by
 rw[bBk (by omega)];simp
theorem aDN(l:L Int)(i:l.length<=200000):EV G (Tb B) 69 [sv l] []=some (vi (Gt l.length),[]):=by
 have u:=aDM (G:=G) (B:=B);have f:=aIo (G:=G) (B:=B);have m:(l.length:Int).tmod 64=((l.length % 64:Nat):Int):=F3 l.length 64;have e:=K9 l;refine aB rfl ?_;by_cases b:l=[];have c:(dI l=⟨#[]⟩)=True:=by rw[e];exact eq_true b
 have d:(l.length:Int)=0:=by rw[b];rfl
 have a:Gt l.length=10:=by rw[b];rfl
 have h4:(0:Int)<=131072:=by omega
 simp (disch:=omega) only[go_sem,h69c,aC,u,f,d,c,a,h4,eL,fK,cB,decide_false,decide_true,aZ2,not_true_eq_false];have g:l.length≠0:=fun q=>b (List.length_eq_zero_iff.1 q)
 by_cases h:l.length % 64=0;by_cases h3:131072<l.length;have a:Gt l.length=8:=by unfold Gt;rw[if_neg (by omega),if_pos h3]
 have h4:¬ (l.length:Int)<=131072:=by omega
 have h5:((l.length % 64:Nat):Int)=0:=by omega
 simp (disch:=omega) only[go_sem,h69c,aC,u,f,m,e,b,h4,h5,a,eL,fK,cB,decide_false,decide_true,aZ2];have a:Gt l.length=0:=by unfold Gt;rw[if_neg (by omega),if_neg h3]
 have h4:(l.length:Int)<=131072:=by omega
 have h5:((l.length % 64:Nat):Int)=0:=by omega
 simp (disch:=omega) only[go_sem,h69c,aC,u,f,m,e,b,h4,h5,a,eL,fK,cB,decide_false,decide_true,aZ2];have a:Gt l.length=10:=by unfold Gt;rw[if_pos (by omega)]
 have h5:¬ ((l.length % 64:Nat):Int)=0:=by omega
 simp (disch:=omega) only[go_sem,h69c,aC,u,f,m,e,b,h5,a,eL,fK,cB,decide_false,decide_true,aZ2]
theorem Vq(l:L Int)(a:l.length<=200000):EV G (Tb B) 68 [sv l] []=some (vi (l.length / 256:Nat),[]):=by
 have d:(l.length:Int).tdiv 256=((l.length / 256:Nat):Int):=Qx l.length 256;refine aB rfl ?_;simp (disch:=omega) only[go_sem,h68c,aC,d]
theorem Vr(l:L Int)(a:l.length<=200000):EV G (Tb B) 29 [sv l] []=some (vi (l.length / 256:Nat),[]):=by
 have d:(l.length:Int).tdiv 256=((l.length / 256:Nat):Int):=Qx l.length 256;refine aB rfl ?_;simp (disch:=omega) only[go_sem,h29c,aC,d]
theorem aDO(l:L Int)(b:l.length<=200000):EV G (Tb B) 36 [sv l] []=some (vi (La l.length),[]):=by
 have u:=jB (G:=G) (B:=B);have f:=pV (G:=G) (B:=B);have k:=aDN (G:=G) (B:=B) l b;have n:=Vq (G:=G) (B:=B) l b;have w:=kJ (G:=G) (B:=B) (l.length / 256:Nat) 64 512;have m:(l.length:Int).tmod 256=((l.length % 256:Nat):Int):=F3 l.length 256;refine aB rfl ?_;have e:La l.length=if Gt l.length=0 then qA (decide (l.length % 256=0/\64<=l.length / 256/\l.length / 256<=512)) 10 else Gt l.length:=by
  unfold La qA;by_cases h:Gt l.length=0;rw[if_neg (by simp[h]),if_pos h];simp;rw[if_pos h,if_neg h]
 rw[e];generalize l.length / 256=c at *;by_cases d:l.length % 256=0;have h5:((l.length % 256:Nat):Int)=0:=by omega
 have a:decide (l.length % 256=0/\64<=c/\c<=512)=decide ((64:Int)<=(c:Int)/\(c:Int)<=512):=by
  rw[decide_eq_decide];omega
 rw[a];simp (disch:=omega) only[go_sem,h36c,aC,u,f,k,n,w,m,h5,cB,decide_true];have h5:¬ ((l.length % 256:Nat):Int)=0:=by omega
 have a:decide (l.length % 256=0/\64<=c/\c<=512)=false:=by simp[d]
 rw[a];simp (disch:=omega) only[go_sem,h36c,aC,u,f,k,n,w,m,h5,cB,decide_false]
theorem aRp(l:L Int)(a:l.length<=200000):EV G (Tb B) 39 [sv l] []=some (vi (l.length / 64:Nat),[]):=by
 have d:(l.length:Int).tdiv 64=((l.length / 64:Nat):Int):=Qx l.length 64;refine aB rfl ?_;simp (disch:=omega) only[go_sem,h39c,aC,d]
theorem aIp(l:L Int)(d:l.length<=200000):EV G (Tb B) 18 [sv l] []=some (vi (Gt l.length),[]):=by
 have s:=aRp (G:=G) (B:=B) l d;have m:(l.length:Int).tmod 64=((l.length % 64:Nat):Int):=F3 l.length 64;have e:=K9 l;refine aB rfl ?_;by_cases c:l=[];have b:(dI l=⟨#[]⟩)=True:=by rw[e];exact eq_true c
 have a:Gt l.length=10:=by rw[c];rfl
 simp (disch:=omega) only[go_sem,h18c,b,a];have b:(dI l=⟨#[]⟩)=False:=by rw[e];exact eq_false c
 have f:l.length≠0:=fun q=>c (List.length_eq_zero_iff.1 q)
 by_cases g:l.length % 64=0;have h5:((l.length % 64:Nat):Int)=0:=by omega
 by_cases h3:131072<l.length;have a:Gt l.length=8:=by unfold Gt;rw[if_neg (by omega),if_pos h3]
 have h4:((l.length / 64:Nat):Int) > 2048:=by omega
 simp (disch:=omega) only[go_sem,h18c,aC,b,a,m,s,h5,eq_true h4];have a:Gt l.length=0:=by unfold Gt;rw[if_neg (by omega),if_neg h3]
 have h4:¬ ((l.length / 64:Nat):Int) > 2048:=by omega
 simp (disch:=omega) only[go_sem,h18c,aC,b,a,m,s,h5,h4];have a:Gt l.length=10:=by unfold Gt;rw[if_pos (by omega)]
 have h5:¬ ((l.length % 64:Nat):Int)=0:=by omega
 simp (disch:=omega) only[go_sem,h18c,aC,b,a,m,h5]
theorem aIq(l:L Int)(b:l.length<=200000):EV G (Tb B) 27 [sv l] []=some (vi (La l.length),[]):=by
 have k:=aIp (G:=G) (B:=B) l b;have n:=Vr (G:=G) (B:=B) l b;have w:=bM (G:=G) (B:=B) (l.length / 256:Nat) 64 512;have m:(l.length:Int).tmod 256=((l.length % 256:Nat):Int):=F3 l.length 256;refine aB rfl ?_;by_cases h:Gt l.length=0;by_cases a:l.length % 256=0;have h5:((l.length % 256:Nat):Int)=0:=by omega
 by_cases h3:64<=l.length / 256/\l.length / 256<=512;have e:La l.length=0:=by unfold La;rw[if_neg (by simp[h]),if_pos ⟨a,h3⟩]
 have h6:(64:Int)<=(l.length / 256:Nat)/\((l.length / 256:Nat):Int)<=512:=by omega
 rw[decide_eq_true h6] at w;generalize l.length / 256=c at *;simp (disch:=omega) only[go_sem,h27c,aC,k,n,w,m,h,h5,e,aZX];have e:La l.length=10:=by unfold La;rw[if_neg (by simp[h]),if_neg (fun q=>h3 q.2)]
 have h6:¬ ((64:Int)<=(l.length / 256:Nat)/\((l.length / 256:Nat):Int)<=512):=by omega
 rw[decide_eq_false h6] at w;generalize l.length / 256=c at *;simp (disch:=omega) only[go_sem,h27c,aC,k,n,w,m,h,h5,e,aZ2];have h5:¬ ((l.length % 256:Nat):Int)=0:=by omega
 have e:La l.length=10:=by unfold La;rw[if_neg (by simp[h]),if_neg (fun q=>a q.1)]
 simp (disch:=omega) only[go_sem,h27c,aC,k,m,h,h5,e];have e:La l.length=Gt l.length:=by unfold La;rw[if_pos h]
 simp (disch:=omega) only[go_sem,h27c,k,h,e]
end
section
variable {G:aF}{B:aO}
noncomputable def qN(l:L Int):Bt×Int×Bool:=
 if (dR (l.take 64)).2=0/\(dR (l.take 64)).1.cl=(l.length / 256:Nat) then ((dR (l.take 64)).1,0,true)
 else if (dR (l.drop (l.length-64))).2=0/\(dR (l.drop (l.length-64))).1.cl=(l.length / 256:Nat) then ((dR (l.drop (l.length-64))).1,1,true) else (nB,0,false)
abbrev tB(b:Bool):TV:=.one (.dc (.raw (.bool b)))
theorem nW{n:Nat}{v:AV}{i:Int}:aON n v (some i)=Wl n v i:=rfl
theorem qY{a b:aV}:Wl 2 (.agg [a,b]) 0=some (.one a):=rfl
theorem tD{a b:aV}:Wl 2 (.agg [a,b]) 1=some (.one b):=rfl
theorem aRq(hf:∀x:Bt,EV G (Tb B) 73 [.one (.ptr 0 0)] [x.o]=some (.one (.bls 1 0 6 1),[x.o,.box ptB]))(l:L Int)(s:aJ l)(A:64<=l.length/\l.length<=200000):EV G (Tb B) 37 [sv l] []=some (.tup [.agg (qN l).1.cs,tI (qN l).2.1,tB (qN l).2.2],[]):=by
 have e:=Oi (G:=G) (B:=B) hf (l.take 64) (fun x j=>s x (aZZ j)) (by rw[aZD];omega)
 have d:=Oi (G:=G) (B:=B) hf (l.drop (l.length-64)) (fun x j=>s x (bAa j)) (by rw[aZK];omega)
 have n:=Vq (G:=G) (B:=B) l A.2;unfold qN;generalize dR (l.take 64)=v at e ⊢;generalize dR (l.drop (l.length-64))=w at d ⊢;obtain⟨p,f⟩:=v;obtain⟨r,g⟩:=w;have m:(64:Int).toNat=64:=rfl;have D:((l.length:Int)-64).toNat=l.length-64:=by omega
 refine aB rfl ?_;simp (maxSteps:=2000000) (disch:=first|omega|(simp only[aZA,aZB,aZC,aZz,aA,aZH,aZD,aZK,aC,aS]<;>omega)|fail) only[go_sem,h37c,aC,m,D]
 have u:¬ (f=0/\p.cl=(l.length / 256:Nat))->Lt [0,1,13,0] 1 (EC (EV G (Tb B)) G h37l0 ⟨(sv l::jk 1 (.one (.ptr 0 0)::jk 13 (.agg [.dc (.raw (.string (dI (l.take 64)))),.dc (.raw (.string (dI (l.drop (l.length-64)))))]::vi (0:Nat)::jk 21 []))),[nB.o]⟩)=some ⟨(sv l::jk 1 (.one (.ptr 0 0)::jk 13 (.agg [.dc (.raw (.string (dI (l.take 64)))),.dc (.raw (.string (dI (l.drop (l.length-64)))))]::vi (1:Nat)::jk 21 []))),[nB.o]⟩:=by
  intro h;by_cases b:f=0;have i:¬ p.cl=(l.length / 256:Nat):=fun q=>h ⟨b,q⟩
  simp (maxSteps:=2000000) (disch:=omega) only[go_sem,h37l0,n,nW,qY,tD,Bt.o,Bt.cs,nB,Int.reduceAdd,Int.reduceLT,bAf,bI,e,b,i];simp (maxSteps:=2000000) (disch:=omega) only[go_sem,h37l0,n,nW,qY,tD,Bt.o,Bt.cs,nB,Int.reduceAdd,Int.reduceLT,bAf,bI,e,b]
 have C:¬ (g=0/\r.cl=(l.length / 256:Nat))->Lt [0,1,13,0] 1 (EC (EV G (Tb B)) G h37l0 ⟨(sv l::jk 1 (.one (.ptr 0 0)::jk 13 (.agg [.dc (.raw (.string (dI (l.take 64)))),.dc (.raw (.string (dI (l.drop (l.length-64)))))]::vi (1:Nat)::jk 21 []))),[nB.o]⟩)=some ⟨(sv l::jk 1 (.one (.ptr 0 0)::jk 13 (.agg [.dc (.raw (.string (dI (l.take 64)))),.dc (.raw (.string (dI (l.drop (l.length-64)))))]::vi (2:Nat)::jk 21 []))),[nB.o]⟩:=by
  intro h;by_cases b:g=0;have i:¬ r.cl=(l.length / 256:Nat):=fun q=>h ⟨b,q⟩
  simp (maxSteps:=2000000) (disch:=omega) only[go_sem,h37l0,n,nW,qY,tD,Bt.o,Bt.cs,nB,Int.reduceAdd,Int.reduceLT,bAf,bI,d,b,i];simp (maxSteps:=2000000) (disch:=omega) only[go_sem,h37l0,n,nW,qY,tD,Bt.o,Bt.cs,nB,Int.reduceAdd,Int.reduceLT,bAf,bI,d,b]
 by_cases a:f=0/\p.cl=(l.length / 256:Nat);rw[if_pos a];obtain⟨a,y⟩:=a;rw[aT (fun k=>⟨(sv l::jk 1 (.one (.ptr 0 0)::jk 13 (.agg [.dc (.raw (.string (dI (l.take 64)))),.dc (.raw (.string (dI (l.drop (l.length-64)))))]::vi k::jk 21 []))),[nB.o]⟩) 0 ?_ ?_]
 simp (maxSteps:=2000000) (disch:=omega) only[go_sem,h37l0,n,nW,qY,tD,Bt.o,Bt.cs,nB,Int.reduceAdd,Int.reduceLT,bAf,bI,h37c,e,a,y];rfl;intro k t;omega;rw[if_neg a];by_cases c:g=0/\r.cl=(l.length / 256:Nat);rw[if_pos c];obtain⟨c,z⟩:=c;rw[aT (fun k=>⟨(sv l::jk 1 (.one (.ptr 0 0)::jk 13 (.agg [.dc (.raw (.string (dI (l.take 64)))),.dc (.raw (.string (dI (l.drop (l.length-64)))))]::vi k::jk 21 []))),[nB.o]⟩) 1 ?_ ?_]
 simp (maxSteps:=2000000) (disch:=omega) only[go_sem,h37l0,n,nW,qY,tD,Bt.o,Bt.cs,nB,Int.reduceAdd,Int.reduceLT,bAf,bI,h37c,d,c,z];rfl;intro k t;rw[show k=0 by omega];exact u a;rw[if_neg c];rw[aT (fun k=>⟨(sv l::jk 1 (.one (.ptr 0 0)::jk 13 (.agg [.dc (.raw (.string (dI (l.take 64)))),.dc (.raw (.string (dI (l.drop (l.length-64)))))]::vi k::jk 21 []))),[nB.o]⟩) 2 ?_ ?_]
 simp (maxSteps:=2000000) (disch:=omega) only[go_sem,h37l0,n,nW,qY,tD,Bt.o,Bt.cs,nB,Int.reduceAdd,Int.reduceLT,bAf,bI,h37c,d];rfl;intro k t;rcases (show k=0\/k=1 by omega) with rfl|rfl
 exact u a;exact C c
noncomputable def aQ(l:L Int):Bt×Int×Int:=if La l.length=0 then ((qN l).1,(qN l).2.1,qA (qN l).2.2 6) else (nB,0,La l.length)
theorem dk0{n:Nat}(h:La n=0):n % 256=0/\64<=n / 256/\n / 256<=512:=by
 unfold La at h;split at h;rename_i q;exact absurd h q;split at h
 assumption
 cases h
theorem Lb(hf:∀x:Bt,EV G (Tb B) 73 [.one (.ptr 0 0)] [x.o]=some (.one (.bls 1 0 6 1),[x.o,.box ptB]))(l:L Int)(a:aJ l)(c:l.length<=200000):EV G (Tb B) 17 [sv l] []=some (.tup [.agg (aQ l).1.cs,tI (aQ l).2.1,tI (aQ l).2.2],[]):=by
 have d:=aDO (G:=G) (B:=B) l c;have u:=jB (G:=G) (B:=B);unfold aQ;by_cases h:La l.length=0;rw[if_pos h];have k:=dk0 h;have b:=aRq (G:=G) hf l a (by omega);generalize qN l=V at b ⊢;obtain⟨x,i,q⟩:=V;refine aB rfl ?_;simp (maxSteps:=2000000) (disch:=omega) only[go_sem,h17c,d,h,b,u,Bt.cs,nB];rw[if_neg h];refine aB rfl ?_;simp (maxSteps:=2000000) (disch:=omega) only[go_sem,h17c,d,h,Bt.cs,nB]
theorem Ol(l:L Int)(p:aJ l)(y:l.length<=200000):EV G (Tb B) 8 [sv l] []=some (.tup [.agg (aQ l).1.cs,tI (aQ l).2.1,tI (aQ l).2.2],[]):=by
 have d:=aIq (G:=G) (B:=B) l y;have n:=Vr (G:=G) (B:=B) l y;have c:=Vp (G:=G) (B:=B) (l.take 64) (fun x j=>p x (aZZ j)) (by rw[aZD];omega)
 have f:=Vp (G:=G) (B:=B) (l.drop (l.length-64)) (fun x j=>p x (bAa j)) (by rw[aZK];omega)
 rw[<- Qw _ (fun x j=>p x (aZZ j))] at c
 rw[<- Qw _ (fun x j=>p x (bAa j))] at f
 unfold aQ qN;by_cases h:La l.length=0;rw[if_pos h];have k:=dk0 h;have a:(64:Int).toNat=64:=rfl;have m:((l.length:Int)-64).toNat=l.length-64:=by omega
 generalize dR (l.take 64)=z at c ⊢;generalize dR (l.drop (l.length-64))=A at f ⊢;obtain⟨u,r⟩:=z;obtain⟨v,s⟩:=A;refine aB rfl ?_;by_cases g:r=0/\u.cl=(l.length / 256:Nat);rw[if_pos g];obtain⟨g,C⟩:=g;simp (maxSteps:=2000000) (disch:=first|omega|(simp only[aZA,aZB,aZC,aZz,aA,aZH,aZD,aZK,aC,aS]<;>omega)|fail) only[go_sem,h8c,aC,a,m,d,h,n,c,g,C,Bt.cs,nB,eL]
 rw[if_neg g];by_cases e:s=0/\v.cl=(l.length / 256:Nat);rw[if_pos e];obtain⟨e,w⟩:=e;by_cases b:r=0;have o:¬ u.cl=(l.length / 256:Nat):=fun q=>g ⟨b,q⟩
 simp (maxSteps:=2000000) (disch:=first|omega|(simp only[aZA,aZB,aZC,aZz,aA,aZH,aZD,aZK,aC,aS]<;>omega)|fail) only[go_sem,h8c,aC,a,m,d,h,n,c,f,b,o,e,w,Bt.cs,nB,eL]
 simp (maxSteps:=2000000) (disch:=first|omega|(simp only[aZA,aZB,aZC,aZz,aA,aZH,aZD,aZK,aC,aS]<;>omega)|fail) only[go_sem,h8c,aC,a,m,d,h,n,c,f,b,e,w,Bt.cs,nB,eL]
 rw[if_neg e];by_cases b:r=0;have o:¬ u.cl=(l.length / 256:Nat):=fun q=>g ⟨b,q⟩
 by_cases i:s=0;have t:¬ v.cl=(l.length / 256:Nat):=fun q=>e ⟨i,q⟩
 simp (maxSteps:=2000000) (disch:=first|omega|(simp only[aZA,aZB,aZC,aZz,aA,aZH,aZD,aZK,aC,aS]<;>omega)|fail) only[go_sem,h8c,aC,a,m,d,h,n,c,f,b,o,i,t,Bt.cs,nB,fK]
 simp (maxSteps:=2000000) (disch:=first|omega|(simp only[aZA,aZB,aZC,aZz,aA,aZH,aZD,aZK,aC,aS]<;>omega)|fail) only[go_sem,h8c,aC,a,m,d,h,n,c,f,b,o,i,Bt.cs,nB,fK]
 by_cases i:s=0;have t:¬ v.cl=(l.length / 256:Nat):=fun q=>e ⟨i,q⟩
 simp (maxSteps:=2000000) (disch:=first|omega|(simp only[aZA,aZB,aZC,aZz,aA,aZH,aZD,aZK,aC,aS]<;>omega)|fail) only[go_sem,h8c,aC,a,m,d,h,n,c,f,b,i,t,Bt.cs,nB,fK]
 simp (maxSteps:=2000000) (disch:=first|omega|(simp only[aZA,aZB,aZC,aZz,aA,aZH,aZD,aZK,aC,aS]<;>omega)|fail) only[go_sem,h8c,aC,a,m,d,h,n,c,f,b,i,Bt.cs,nB,fK]
 rw[if_neg h];refine aB rfl ?_;simp (maxSteps:=2000000) (disch:=omega) only[go_sem,h8c,d,h,Bt.cs,nB]
end
section
variable {G:aF}{B:aO}
theorem As(x:Bt):EV G (Tb B) 73 [.one (.ptr 0 0)] [x.o]=some (.one (.bls 1 0 6 1),[x.o,.box ptB]):=aB rfl (aDK x)
theorem Vs(s t:L Int)(a:Nat)(h:a+t.length<=s.length)(b:s.length<=1000000):EV G (Tb B) 12 [sv s,vi a,sv t] []=some (sv (fE s a t),[]):=by
 refine aB rfl ?_;have e:((a:Int)+(t.length:Int)).toNat=a+t.length:=by omega
 unfold fE;simp (disch:=first|omega|(simp only[aZA,aZB,aZC,aZz,aA,aZH,aZD,aZK,aC,aS]<;>omega)|fail) only[go_sem,h12c,aC,bAc,Int.toNat_zero,bAq,e,aZD,aZK]
def Mf(l:L Int)(x:Bt):L Int:=fE (fE l 0 x.bs) (l.length-64) x.bs
theorem aRr(l:L Int)(x:Bt)(N:Nat)(b:l.length=N)(f:B 108 [.one (.dc (.raw (.string ⟨#[0]⟩))),vi 28] []=some (sv (zl 28),[]))(g:∀n∈x.fs,0<=n/\n<=4294967295)(o:64<=N/\N<=200000):EV G (Tb B) 48 [.one (.bls 0 0 N 1),x.v] [yb l]=some (.tup [],[yb (Mf l x)]):=by
 have e:=Oh (G:=G) (B:=B) x (As x) f g;have j:=K8 x;have c:=pK l x.bs 0 N (tC x) (by omega);have h:(fE l 0 x.bs).length=N:=by rw[cJ (by omega),b]
 have d:=pK (fE l 0 x.bs) x.bs (N-64) 64 (tC x) (by omega);have r:Mf l x=fE (fE l 0 x.bs) (N-64) x.bs:=by rw[Mf,b]
 rw[r];generalize fE l 0 x.bs=M at *;generalize fE M (N-64) x.bs=m at *;generalize x.bs=X at *;have k:((N:Int)-64).toNat=N-64:=by omega
 have i:(X.length:Int)=64:=by omega
 have a:N-(N-64)=64:=by omega
 refine aB rfl ?_;simp (maxSteps:=2000000) (disch:=omega) only[go_sem,h48c,e,c,d,aZz,k,i,b,h,j,a]
end
section
variable {G:aF}{B:aO}
theorem aDP{b s:L Int}{k:Nat}(c:aJ b)(d:aJ s):aJ (fE b k s):=fun x a=>by
 unfold fE at a;rcases bAY.1 a with a|a
 rcases bAY.1 a with a|a;exact c x (aZZ a);exact d x a;exact c x (bAa a)
theorem aMX(l:L Int)(x:Bt)(h:64<=l.length):(Mf l x).length=l.length:=by
 have:=K8 x;rw[Mf,cJ (by rw[cJ (by omega)];omega),cJ (by omega)]
theorem aIr(l:L Int)(x:Bt)(h:128<=l.length):(Mf l x).take 64=x.bs:=by
 have b:=K8 x;have a:(fE l 0 x.bs).length=l.length:=cJ (by omega);unfold Mf;rw[fE,aZP,bAS (by rw[aZD];omega),bA3,bAt (by omega)];rw[fE,bAO,aZR,bAS (by omega),aZ6 (by omega)]
theorem aMY(l:L Int):EV G (Tb B) 5 [sv l] []=some (vb (decide (l.length<=24576\/l.length % 256≠0/\l.length<=200000)),[]):=by
 have m:(l.length:Int).tmod 256=((l.length % 256:Nat):Int):=F3 l.length 256;refine aB rfl ?_;by_cases a:l.length<=24576;have b:(l.length:Int)<=24576:=by omega
 simp (disch:=omega) only[go_sem,h5c,aC,b,a,true_or];have b:¬ (l.length:Int)<=24576:=by omega
 by_cases e:l.length % 256=0;have c:((l.length % 256:Nat):Int)=0:=by omega
 simp (disch:=omega) only[go_sem,h5c,aC,b,a,m,c];simp[e];have c:¬ ((l.length % 256:Nat):Int)=0:=by omega
 by_cases h3:l.length<=200000;have d:(l.length:Int)<=200000:=by omega
 simp (disch:=omega) only[go_sem,h5c,aC,b,a,m,c,d];simp[a,e,h3];have d:¬ (l.length:Int)<=200000:=by omega
 simp (disch:=omega) only[go_sem,h5c,aC,b,a,m,c,d];simp[a,e,h3]
end
section
variable {G:aF}{B:aO}
def aMZ(x:Bt)(n:Int):Int:=if jP x=0 then if 16<=n/\n<=96 then if x.tb+2*n<x.cl then if Ev x.tb (2*n) x.mi 8=true\/Ev x.tb (2*n) x.lg x.lc=true then 13 else 0 else 37 else 2 else jP x
end
section
variable {G:aF}{B:aO}
theorem Lc(n:Int)(h:-1000000<=n/\n<=1000000):EV G (Tb B) 52 [vi n] []=some (.agg [.dc (ci n),.dc (ci (n+1))],[]):=by
 refine aB rfl ?_;simp (disch:=omega) only[go_sem,h52c]
theorem Qy(l:L Int)(N k:Nat)(a:l.length=N)(h:k*256+256<=N)(c:N<=200000):EV G (Tb B) 82 [.one (.bls 0 0 N 1),vi k] [yb l]=some (.one (.bls 0 (k*256) 256 1),[yb l]):=by
 have e:((k:Int)*256).toNat=k*256:=by omega
 have w:(k:Int)*256=((k*256:Nat):Int):=by omega
 generalize d:k*256=m at *;have b:(256:Int).toNat=256:=rfl;refine aB rfl ?_;simp (maxSteps:=2000000) (disch:=omega) only[go_sem,h82c,aZz,a,w,e,b]
