/- Part. Conditions: none. -/
import Derived.Test.YtgdjbbnicgfohacGreatDoorPa
import Derived.Test.YtgdjbbnicgfohacGreatDoorVi
import Derived.Test.YtgdjbbnicgfohacGreatDoorTu
import Derived.Test.YtgdjbbnicgfohacGreatDoorUj
namespace Go.Proofs.YtgdjbbnicgfohacGreatDoor
set_option maxHeartbeats 2000000
set_option linter.unusedSimpArgs false
set_option linter.unusedVariables false
set_option maxRecDepth 4000
section
variable {G:aF}{B:aO}
theorem aHR(n:Int):EV G (Tb B) 133 [vi n] []=some (vb (decide (0<=n/\n<=2147483647)),[]):=by
 have w:=fun n b a=>bN (G:=G) (B:=B) n b a
 refine aB rfl ?_;by_cases h:0<=n;all_goals simp (disch:=omega) only[go_sem,h133c,w]
 all_goals simp[h]
theorem Ec(a m b n:Int)(h:-1000000<=a/\a<=1000000)(d:-1000000<=m/\m<=1000000)(e:-1000000<=b/\b<=1000000)(c:-1000000<=n/\n<=1000000):EV G (Tb B) 73 [vi a,vi m,vi b,vi n] []=some (vb (Em a m b n),[]):=by
 refine aB rfl ?_;by_cases h:a<b+n;all_goals simp (disch:=omega) only[go_sem,h73c]
 all_goals simp[h,Em]
theorem aDo(x:Bt):EV G (Tb B) 93 [x.v] []=some (vi (jO x),[]):=by
 have w:=fun n y c=>bN (G:=G) (B:=B) n y c
 have s:=aHR (G:=G) (B:=B);by_cases a:64<=x.cl/\x.cl<=512
 rotate_left
 have d:x.num=false:=by rw[bAA];exact fun h=>a (mE.1 h).1
 rw[rV d];refine aB rfl ?_;simp (disch:=omega) only[go_sem,h93c,w,s,a];by_cases h3:8<=x.lc/\x.lc<=64
 rotate_left
 have d:x.num=false:=by rw[bAA];exact fun h=>h3 (mE.1 h).2.2.1
 rw[rV d];refine aB rfl ?_;simp (disch:=omega) only[go_sem,h93c,w,s,a,h3];by_cases b:x.lc.tmod 2=0
 rotate_left
 have d:x.num=false:=by rw[bAA];exact fun h=>b (mE.1 h).2.1
 rw[rV d];refine aB rfl ?_;simp (disch:=omega) only[go_sem,h93c,w,s,a,h3,b];by_cases h4:0<=x.se/\x.se<=2147483647
 rotate_left
 have d:x.num=false:=by rw[bAA];exact fun h=>h4 (mE.1 h).2.2.2
 rw[rV d];refine aB rfl ?_;simp (disch:=omega) only[go_sem,h93c,w,s,a,h3,b,h4];have d:x.num=true:=mE.2 ⟨a,b,h3,h4⟩;by_cases e:1<=x.tb/\x.tb<=x.cl-2
 rotate_left
 have c:x.ins=false:=by rw[bAA];exact fun h=>e (qI.1 h).1
 rw[Ag c];refine aB rfl ?_;simp (disch:=omega) only[go_sem,h93c,w,s,a,h3,b,h4,e];by_cases f:1<=x.mi/\x.mi<=x.cl-2
 rotate_left
 have c:x.ins=false:=by rw[bAA];exact fun h=>f (qI.1 h).2.1
 rw[Ag c];refine aB rfl ?_;simp (disch:=omega) only[go_sem,h93c,w,s,a,h3,b,h4,e,f];by_cases g:1<=x.lg/\x.lg<=x.cl-2
 rotate_left
 have c:x.ins=false:=by rw[bAA];exact fun h=>g (qI.1 h).2.2
 rw[Ag c];refine aB rfl ?_;simp (disch:=omega) only[go_sem,h93c,w,s,a,h3,b,h4,e,f,g];have c:x.ins=true:=qI.2 ⟨e,f,g⟩;by_cases p:x.mi+8<x.cl
 rotate_left
 have hf:x.fit=false:=by rw[bAA];exact fun h=>p (Eb.1 h).1
 have j:x.mi+8 > x.cl-1:=by omega
 rw[Kx d c hf];refine aB rfl ?_;simp (disch:=omega) only[go_sem,h93c,w,s,a,h3,b,h4,e,f,g,j];by_cases q:x.lg+x.lc<x.cl
 rotate_left
 have hf:x.fit=false:=by rw[bAA];exact fun h=>q (Eb.1 h).2
 have j:¬ x.mi+8 > x.cl-1:=by omega
 have i:x.lg+x.lc > x.cl-1:=by omega
 rw[Kx d c hf];refine aB rfl ?_;simp (disch:=omega) only[go_sem,h93c,w,s,a,h3,b,h4,e,f,g,j,i];have j:¬ x.mi+8 > x.cl-1:=by omega
 have i:¬ x.lg+x.lc > x.cl-1:=by omega
 have hf:x.fit=true:=Eb.2 ⟨p,q⟩;have l:=Ec (G:=G) (B:=B) x.tb 2 x.mi 8 (by omega) (by omega) (by omega) (by omega);have m:=Ec (G:=G) (B:=B) x.tb 2 x.lg x.lc (by omega) (by omega) (by omega) (by omega);have o:=Ec (G:=G) (B:=B) x.mi 8 x.lg x.lc (by omega) (by omega) (by omega) (by omega);have k:x.cla=(!Em x.tb 2 x.mi 8&&!Em x.tb 2 x.lg x.lc&&!Em x.mi 8 x.lg x.lc):=rfl;generalize Em x.tb 2 x.mi 8=r at l k;generalize Em x.tb 2 x.lg x.lc=t at m k;generalize Em x.mi 8 x.lg x.lc=u at o k;rw[U6 d c hf,k];refine aB rfl ?_;cases r;cases t
 ·cases u;all_goals simp (disch:=omega) only[go_sem,h93c,w,s,a,h3,b,h4,e,f,g,j,i,l,m,o]
  all_goals rfl
 simp (disch:=omega) only[go_sem,h93c,w,s,a,h3,b,h4,e,f,g,j,i,l,m,o];rfl;simp (disch:=omega) only[go_sem,h93c,w,s,a,h3,b,h4,e,f,g,j,i,l,m,o];rfl
end
section
variable {G:aF}{B:aO}
theorem Fk(n a b:Int):EV G (Tb B) 150 [vi n,vi a,vi b] []=some (vb (decide (a<=n/\n<=b)),[]):=by
 refine aB rfl ?_;by_cases h:a<=n;all_goals simp (disch:=omega) only[go_sem,h150c]
 all_goals simp[h]
theorem Fl(b:Bool)(e:Int):EV G (Tb B) 106 [vb b,vi e] []=some (vi (pW b e),[]):=by
 refine aB rfl ?_;cases b;all_goals simp (disch:=omega) only[go_sem,h106c]
 all_goals rfl
theorem Fm(l:L Int)(h:l.length<=200000):EV G (Tb B) 105 [sv l] []=some (vi 0,[]):=by
 have u:=Fl (G:=G) (B:=B);refine aB rfl ?_;have e:(l.length:Int)<=200000:=by omega
 simp (disch:=omega) only[go_sem,h105c,u,e,dZ]
theorem Nz(n:Int)(h:1<=n/\n<=6):EV G (Tb B) 149 [vi n] []=some (vi 0,[]):=by
 have u:=Fl (G:=G) (B:=B);have w:=fun n b a=>Fk (G:=G) (B:=B) n b a
 refine aB rfl ?_;simp (disch:=omega) only[go_sem,h149c,u,w,dZ,h]
theorem aHS(l:L Int)(g:l.length<=1000):EV G (Tb B) 104 [vl (el l)] []=some (vi (aT l),[]):=by
 refine aB rfl ?_;simp (disch:=omega) only[go_sem,h104c,aZa];have a:∀ k (b:k < l.length),¬ l.getD k 0≠0->Lf [5,0,0] 0 (EC (EV G (Tb B)) G h104l0 ⟨(jk 5 (vl (el l)::vi l.length::vi k::jk 7 [])),[]⟩)=some ⟨(jk 5 (vl (el l)::vi l.length::vi (k+1:Nat)::jk 7 [])),[]⟩:=fun k b f=>by
  rw[cD l k b] at f;simp (disch:=omega) only[go_sem,h104l0,aZa,tD]
 rcases Ph (fun k=>l.getD k 0≠0) l.length with h|⟨j,e,c,d⟩
 rw[aR (fun k=>⟨(jk 5 (vl (el l)::vi l.length::vi k::jk 7 [])),[]⟩) l.length ?_ ?_]
 rw[iD l h];simp (disch:=omega) only[go_sem,h104l0];rfl;exact fun k b=>a k b (h k b)
 rw[aR (fun k=>⟨(jk 5 (vl (el l)::vi l.length::vi k::jk 7 [])),[]⟩) j ?_ ?_]
 rw[kE l j e d c];rw[cD l j e] at c;simp (disch:=omega) only[go_sem,h104l0,aZa,tD];rfl;exact fun k b=>a k (by omega) (d k b)
theorem U7(a b:Int):EV G (Tb B) 104 [vl [[ci a],[ci b]]] []=some (vi (aT [a,b]),[]):=aHS [a,b] (by simp)
theorem aHT:EV G (Tb B) 151 [vi 4] []=some (vi 4294967296,[]):=by
 refine aB rfl ?_;have e:(1:Int)*2 ^ min 32 64=4294967296:=rfl;simp (disch:=omega) only[go_sem,h151c,Int.reduceMul,Int.reduceToNat,IntKind.bits,e]
theorem aMi(n:Int)(j:Nat)(p:Int)(hp:0<p)(h:(2:Int) ^ min (8*(j:Int)).toNat 64=p):n.fdiv (2 ^ min (8*(j:Int)).toNat 64)=n / p:=by
 rw[h,Int.fdiv_eq_ediv_of_nonneg _ (by omega)]
theorem aDp(n:Int)(k:0<=n/\n<=4294967295):EV G (Tb B) 152 [vi n,vi 4] []=some (sv (bI n 4),[]):=by
 refine aB rfl ?_;simp (disch:=omega) only[go_sem,h152c];rw[aR (fun j=>⟨(vi n::jk 4 (.one (.bld 0 4)::jk 4 (vi 4::vi j::jk 13 []))),[.arr 0 1 (bl (bI n j++(zl 4).drop j))]⟩) 4 ?_ ?_]
 have e:bI n 4++List.drop 4 (zl 4)=bI n 4:=by simp[zl]
 have a:List.take 4 (bl (bI n 4))=bl (bI n 4):=aZM (by simp[aA]);simp (disch:=omega) only[go_sem,h152l0,e,a,aZa,aA];rfl
 ·intro j i;have b:=aMi n 0 1 (by decide) rfl;have d:=aMi n 1 256 (by decide) rfl;have a:=aMi n 2 65536 (by decide) rfl;have c:=aMi n 3 16777216 (by decide) rfl;have f:n / 65536=n / 256 / 256:=by omega
  have g:n / 16777216=n / 256 / 256 / 256:=by omega
  rw[Int.ediv_one] at b;rw[f] at a;rw[g] at c;simp only[bAF,Int.natCast_one,show ((2:Nat):Int)=2 from rfl,show ((3:Nat):Int)=3 from rfl] at b d a c
  have h:(2:Int).toNat=2:=rfl;have t3:(3:Int).toNat=3:=rfl;rcases (show j=0\/j=1\/j=2\/j=3 by omega) with rfl|rfl|rfl|rfl
  all_goals simp (disch:=omega) only[go_sem,h152l0,h,t3,bI,F9,zl,List.replicate,aZ1,bAK,aZs,aZx,aZl,aZm,Av,wu8,b,d,a,c,aZQ,Int.reduceAdd]
abbrev tS(l:L Int):TV:=.one (.dc (.raw (.string (dB l))))
abbrev tI(n:Int):TV:=.one (.dc (.raw (.int .i64 n)))
theorem Yj(n:Int)(a:0<=n/\n<=4294967295):EV G (Tb B) 103 [vi n,vi 4] []=some (.tup [tS (bI n 4),tI 0],[]):=by
 have c:=Nz (G:=G) (B:=B) 4 (by omega);have l:=aHT (G:=G) (B:=B);have w:=Fk (G:=G) (B:=B) n 0 4294967295;have q:=aDp (G:=G) (B:=B) n a;refine aB rfl ?_;simp (disch:=omega) only[go_sem,h103c,c,l,w,q,a,Int.reduceSub]
theorem kH(n:Int)(a:0<=n/\n<=4294967295):EV G (Tb B) 77 [vi n] []=some (sv (bI n 4),[]):=by
 have q:=Yj (G:=G) (B:=B) n a;refine aB rfl ?_;simp (disch:=omega) only[go_sem,h77c,q]
def aQR(s:Int):Int:=(2*s) % 2147483648+s / 1073741824
def Lz(s c:Int):Int:=(aQR s+c) % 2147483648
def kL(l:L Int):Int:=l.foldl Lz 0
theorem aMj(s c:Int):0<=Lz s c/\Lz s c<=2147483647:=by unfold Lz;omega
theorem Fn(l:L Int)(a:Int):kL (l++[a])=Lz (kL l) a:=by simp[kL]
theorem Ed:∀l:L Int,0<=kL l/\kL l<=2147483647:=by
 intro l;rcases List.eq_nil_or_concat l with rfl|⟨l,a,rfl⟩
 simp[kL];rw[List.concat_eq_append,Fn];exact aMj _ _
theorem aXK(x:Int)(h:0<=x/\x<=4294967296):W8 .i64 x 2147483647=x % 2147483648:=by
 obtain⟨x,rfl⟩:=bAh h.1;have a:(BitVec.ofInt 64 (x:Int) &&& BitVec.ofInt 64 2147483647).toNat=x % 2147483648:=by
  rw[BitVec.toNat_and,show (BitVec.ofInt 64 2147483647).toNat=2 ^ 31-1 from rfl,Nat.and_two_pow_sub_one_eq_mod,BitVec.ofInt_natCast,BitVec.toNat_ofNat]
  omega
 show IntKind.i64.wrap (((BitVec.ofInt 64 (x:Int) &&& BitVec.ofInt 64 2147483647).toNat:Nat):Int)=_;rw[a,Bq (by omega)];omega
theorem orS(n b:Int)(e:0<=n/\n<=4294967296)(d:0<=b/\b<=1):W9 .i64 (n*2) b=n*2+b:=by
 obtain⟨n,rfl⟩:=bAh e.1;obtain⟨b,rfl⟩:=bAh d.1;have a:((n:Int)*2)=((n*2:Nat):Int):=by simp
 have c:n*2 ||| b=n*2+b:=by
  have:=Nat.shiftLeft_add_eq_or_of_lt (show b<2 ^ 1 by omega) n;rw[Nat.shiftLeft_eq] at this;exact this.symm
 rw[W9,a,Ju,BitVec.ofInt_natCast,BitVec.ofInt_natCast,BitVec.toNat_or,BitVec.toNat_ofNat,BitVec.toNat_ofNat,aZ8 (by omega),aZ8 (by omega),c,Bq (by omega)];simp
theorem aDq(s c:Int)(i:0<=s/\s<=2147483647)(h:0<=c/\c<=255):EV G (Tb B) 109 [vi s,vi c] []=some (vi (Lz s c),[]):=by
 have a:s*2 ^ min 1 64=s*2:=rfl;have b:s.fdiv (2 ^ min 30 64)=s / 1073741824:=Int.fdiv_eq_ediv_of_nonneg _ (by decide);have d:W8 .i64 (s*2) 2147483647=s % 1073741824*2:=by rw[aXK _ (by omega)];omega
 have e:=orS (s % 1073741824) (s / 1073741824) (by omega) (by omega);have f:Lz s c=(s % 1073741824*2+s / 1073741824+c) % 2147483648:=by unfold Lz aQR;omega
 have g:(s % 1073741824*2+s / 1073741824+c).tmod 2147483648=(s % 1073741824*2+s / 1073741824+c) % 2147483648:=bAN (by omega);refine aB rfl ?_;simp (disch:=omega) only[go_sem,h109c,Int.reduceToNat,IntKind.bits,a,b,d,e,f,g]
theorem aMk(l:L Int)(a:aK l)(e:l.length<=200000):EV G (Tb B) 108 [sv l,vi 0,.one (.fn 109 [])] []=some (.tup [tI (kL l),tI 0],[]):=by
 have q:=Fm (G:=G) (B:=B) l e;have d:=nL l a;refine aB rfl ?_;simp (disch:=omega) only[go_sem,h108c,q,d,aZa];rw[aR (fun k=>⟨(jk 1 (vi (kL (l.take k))::.one (.fn 109 [])::jk 14 (vl (bl l)::vi l.length::vi k::jk 10 []))),[]⟩) l.length ?_ ?_]
 simp (disch:=omega) only[go_sem,h108l0,aZT];rfl;intro k c;have b:=a _ (aZk c);have s:=aDq (G:=G) (B:=B) (kL (l.take k)) l[k] (Ed _) b;have f:=gY _ b;rw[bAa c,Fn];simp (disch:=omega) only[go_sem,h108l0,aZa,Av,s,f,aZt]
theorem aHU(l:L Int)(a:aK l)(b:l.length<=200000):EV G (Tb B) 79 [sv l] []=some (.tup [tI (kL l),tI 0],[]):=by
 have q:=aMk (G:=G) (B:=B) l a b;refine aB rfl ?_;simp (disch:=omega) only[go_sem,h79c,q]
theorem aQS(l:L Int)(b:aK l)(m:l.length<=4):EV G (Tb B) 225 [sv l] []=some (vi (gv l),[]):=by
 refine aB rfl ?_;have g:gv l=gL l 0 l.length:=by unfold gL;rw[aZ1,aZT]
 rw[g];simp (disch:=first|omega|(simp only[aZb,aZc,aZd,aZa,aA];omega)) only[go_sem,h225c]
 rw[aR (fun j=>⟨(sv l::jk 2 (vi (gL l (l.length-j) j)::vi ((l.length:Int)-1-j)::jk 15 [])),[]⟩) l.length ?_ ?_]
 have a:¬ 0<=(l.length:Int)-1-(l.length:Int):=by omega
 have e:l.length-l.length=0:=by omega
 simp (disch:=first|omega|(simp only[aZb,aZc,aZd,aZa,aA];omega)) only[go_sem,h225l0,a,e]
 simp[gL,gv,jk];intro j k;have c:=b _ (aZk (show l.length-1-j<l.length by omega));have h:=kP b (l.length-j) j (by omega);have d:gL l (l.length-(j+1)) (j+1)=gL l (l.length-j) j*256+l[l.length-1-j]'(by omega):=by
  have:l.length-(j+1)<l.length:=by omega
  rw[aG0 l _ j this,show l.length-(j+1)+1=l.length-j by omega,Int.mul_comm];rw[Int.add_comm];congr 1;congr 1;omega
 have a:0<=(l.length:Int)-1-(j:Int):=by omega
 rw[d];generalize gL l (l.length-j) j=z at h ⊢;have f:((l.length:Int)-1-(j:Int)).toNat=l.length-1-j:=by omega
 have i:=gY _ c;have o:=orL z _ (by omega) c;simp (disch:=first|omega|(simp only[aZb,aZc,aZd,aZa,aA];omega)) only[go_sem,h225l0,eq_true a,aZt,f,i,Int.reduceToNat,Int.reducePow,o]
 rw[show (l.length:Int)-1-(j:Int)-1=(l.length:Int)-1-((j:Int)+1) by omega]
theorem aQT(l:L Int)(a k:Nat)(h:a+k<=l.length)(g:1<=k/\k<=6)(d:l.length<=200000):EV G (Tb B) 224 [sv l,vi a,vi k] []=some (.tup [tS ((l.drop a).take k),tI 0],[]):=by
 have q:=Fm (G:=G) (B:=B) l d;have c:=Nz (G:=G) (B:=B) k (by omega);have f:=U7 (G:=G) (B:=B) 0 0;have w:=Fk (G:=G) (B:=B) a 0 ((l.length:Int)-k);have e:(0:Int)<=a/\(a:Int)<=(l.length:Int)-k:=by omega
 rw[decide_eq_true e] at w;have b:aT [0,0]=0:=rfl;rw[b] at f;refine aB rfl ?_;simp (disch:=first|omega|(simp only[aZb,aZc,aZd,aZa,aA,aZh,aZf,aZn,aC,aS]<;>omega)|fail) only[go_sem,h224c,q,c,f,w]
theorem A7(l:L Int)(b:aK l)(a:Nat)(h:a+4<=l.length)(d:l.length<=200000):EV G (Tb B) 182 [sv l,vi a,vi 4] []=some (.tup [tI (gL l a 4),tI 0],[]):=by
 have c:=aQT (G:=G) (B:=B) l a 4 h (by omega) d;have n:=aQS (G:=G) (B:=B) ((l.drop a).take 4) (uX b a 4) (by rw[aZf];omega);rw[show ((4:Nat):Int)=4 from rfl] at c
 refine aB rfl ?_;simp (disch:=omega) only[go_sem,h182c,c,n,gL]
theorem aQU(d:B 107 [.one (.dc (.raw (.string ⟨#[0]⟩))),vi 28] []=some (sv (zl 28),[]))(l:L Int)(h:l.length=32):EV G (Tb B) 78 [sv l,vi 60] []=some (.tup [tS (l++zl 28),tI 0],[]):=by
 have q:=Fm (G:=G) (B:=B) l (by omega);have u:=Fl (G:=G) (B:=B) true 11;have f:=U7 (G:=G) (B:=B) 0 0;have b:aT [0,0]=0:=rfl;rw[b] at f;have a:EV G (Tb B) 107 [.one (.dc (.raw (.string ⟨#[0]⟩))),vi 28] []=some (sv (zl 28),[]):=jC rfl d;refine aB rfl ?_;have c:(l.length:Int)=32:=by omega
 have m:(32:Int).tmod 60=32:=rfl;simp (disch:=first|omega|(simp only[aZb,aZc,aZd,aZa,aA,aZh,aZf,aZn,aC,aS]<;>omega)|fail) only[go_sem,h78c,q,u,f,c,m,a,dZ,Int.reduceLT,Int.reduceSub,Int.reduceGT,decide_true,decide_false,Int.reduceEq]
end
section
variable {G:aF}{B:aO}
abbrev ptB:L aU:=[.ptr 0 0,.ptr 0 1,.ptr 0 2,.ptr 0 3,.ptr 0 4,.ptr 0 5]
theorem aDr(x:Bt):pX true h76.rs 1 (EC (EV G (Tb B)) G h76.code ⟨[.one (.ptr 0 0)]++tC (h76.nt-1),[x.o]⟩)=some (.one (.bls 1 0 6 1),[x.o,.box ptB]):=by
 simp (maxSteps:=2000000) (disch:=omega) only[go_sem,h76c]
def Ai:L Int:=[68,69,80,79,83,73,84,49]
def Bt.fs(x:Bt):L Int:=[x.cl,x.tb,x.mi,x.lg,x.lc,x.se]
def Bt.hd(x:Bt)(k:Nat):L Int:=Ai++((x.fs.take k).flatMap fun n=>bI n 4)
def Bt.s60(x:Bt):L Int:=x.hd 6++zl 28
def Bt.bs(x:Bt):L Int:=x.s60++bI (kL x.s60) 4
theorem aVu(x:Bt):x.hd 0=Ai:=by simp[Bt.hd]
theorem aMm(x:Bt):x.hd 1=x.hd 0++bI x.cl 4:=by simp[Bt.hd,Bt.fs]
theorem aMn(x:Bt):x.hd 2=x.hd 1++bI x.tb 4:=by simp[Bt.hd,Bt.fs]
theorem aMo(x:Bt):x.hd 3=x.hd 2++bI x.mi 4:=by simp[Bt.hd,Bt.fs]
theorem aMp(x:Bt):x.hd 4=x.hd 3++bI x.lg 4:=by simp[Bt.hd,Bt.fs]
theorem aMq(x:Bt):x.hd 5=x.hd 4++bI x.lc 4:=by simp[Bt.hd,Bt.fs]
theorem aMr(x:Bt):x.hd 6=x.hd 5++bI x.se 4:=by simp[Bt.hd,Bt.fs]
theorem Ky(x:Bt)(k:Nat)(h:k<=6):(x.hd k).length=8+4*k:=by
 rcases (show k=0\/k=1\/k=2\/k=3\/k=4\/k=5\/k=6 by omega) with rfl|rfl|rfl|rfl|rfl|rfl|rfl<;>simp[Bt.hd,Bt.fs,aA,Ai]
theorem N0:aK Ai:=by unfold aK Ai;decide
theorem aMs(x:Bt)(k:Nat):aK (x.hd k):=by
 intro b c;rcases bAv.1 c with h|h
 exact N0 b h;obtain⟨n,_,a⟩:=List.mem_flatMap.1 h;exact cR _ _ b a
theorem Kz(x:Bt):aK x.s60:=by
 intro b a;rcases bAv.1 a with h|h
 exact aMs x 6 b h;have:=(List.mem_replicate.1 h).2;omega
theorem A8(x:Bt):x.s60.length=60:=by rw[Bt.s60,aZb,Ky x 6 (by omega),aS]
theorem K0(x:Bt):x.bs.length=64:=by rw[Bt.bs,aZb,A8,aA]
theorem A9(x:Bt):aK x.bs:=by
 intro b a;rcases bAv.1 a with h|h
 exact Kz x b h;exact cR _ _ b h
theorem N3(x:Bt)(hf:EV G (Tb B) 76 [.one (.ptr 0 0)] [x.o]=some (.one (.bls 1 0 6 1),[x.o,.box ptB]))(w:B 107 [.one (.dc (.raw (.string ⟨#[0]⟩))),vi 28] []=some (sv (zl 28),[]))(f:∀n∈x.fs,0<=n/\n<=4294967295):EV G (Tb B) 38 [x.v] []=some (sv x.bs,[]):=by
 refine aB rfl ?_;simp (maxSteps:=2000000) (disch:=omega) only[go_sem,h38c,hf];rw[aR (fun k=>⟨(jk 3 (sv (x.hd k)::jk 4 (.one (.bls 1 0 6 1)::vi 6::vi k::jk 24 []))),[x.o,.box ptB]⟩) 6 ?_ ?_]
 have h:=Ky x 6 (by omega);have p:=aQU (G:=G) w (x.hd 6) h;have s:=aHU (G:=G) (B:=B) x.s60 (Kz x) (by rw[A8];omega);have q:=kH (G:=G) (B:=B) (kL x.s60) (by have:=Ed x.s60;omega);have e:x.bs=x.s60++bI (kL x.s60) 4:=rfl;have d:=A8 x;change EV G (Tb B) _ _ _=some (.tup [tS x.s60,tI 0],[]) at p;rw[e];generalize x.s60=S at p s q d ⊢;generalize x.hd 6=H at p h ⊢;simp (maxSteps:=2000000) (disch:=first|omega|(simp only[aZb,aZc,aZd,aZa,aA,aZh,aZf,aZn,aC,aS]<;>omega)|fail) only[go_sem,h38l0,p,s,q]
 rfl;intro j y;have g:=fun n=>kH (G:=G) (B:=B) n
 simp only[Bt.fs,bAl,bAG,or_false,forall_eq_or_imp,forall_eq] at f;obtain⟨i,l,m,r,t,u⟩:=f;have a:=Ky x j (by omega);have b:(2:Int).toNat=2:=rfl;have t3:(3:Int).toNat=3:=rfl;have c:(4:Int).toNat=4:=rfl;have t5:(5:Int).toNat=5:=rfl;rcases (show j=0\/j=1\/j=2\/j=3\/j=4\/j=5 by omega) with rfl|rfl|rfl|rfl|rfl|rfl
 have q:=kH (G:=G) (B:=B) x.cl i;rw[aMm];generalize x.hd 0=H at a ⊢;simp (maxSteps:=2000000) (disch:=first|omega|(simp only[aZb,aZc,aZd,aZa,aA,aZh,aZf,aZn,aC,aS]<;>omega)|fail) only[go_sem,h38l0,q,Int.reduceAdd,aZQ,b,t3,c,t5]
 have q:=kH (G:=G) (B:=B) x.tb l;rw[aMn];generalize x.hd 1=H at a ⊢;simp (maxSteps:=2000000) (disch:=first|omega|(simp only[aZb,aZc,aZd,aZa,aA,aZh,aZf,aZn,aC,aS]<;>omega)|fail) only[go_sem,h38l0,q,Int.reduceAdd,aZQ,b,t3,c,t5]
 have q:=kH (G:=G) (B:=B) x.mi m;rw[aMo];generalize x.hd 2=H at a ⊢;simp (maxSteps:=2000000) (disch:=first|omega|(simp only[aZb,aZc,aZd,aZa,aA,aZh,aZf,aZn,aC,aS]<;>omega)|fail) only[go_sem,h38l0,q,Int.reduceAdd,aZQ,b,t3,c,t5]
 have q:=kH (G:=G) (B:=B) x.lg r;rw[aMp];generalize x.hd 3=H at a ⊢;simp (maxSteps:=2000000) (disch:=first|omega|(simp only[aZb,aZc,aZd,aZa,aA,aZh,aZf,aZn,aC,aS]<;>omega)|fail) only[go_sem,h38l0,q,Int.reduceAdd,aZQ,b,t3,c,t5]
 have q:=kH (G:=G) (B:=B) x.lc t;rw[aMq];generalize x.hd 4=H at a ⊢;simp (maxSteps:=2000000) (disch:=first|omega|(simp only[aZb,aZc,aZd,aZa,aA,aZh,aZf,aZn,aC,aS]<;>omega)|fail) only[go_sem,h38l0,q,Int.reduceAdd,aZQ,b,t3,c,t5]
 have q:=kH (G:=G) (B:=B) x.se u;rw[aMr];generalize x.hd 5=H at a ⊢;simp (maxSteps:=2000000) (disch:=first|omega|(simp only[aZb,aZc,aZd,aZa,aA,aZh,aZf,aZn,aC,aS]<;>omega)|fail) only[go_sem,h38l0,q,Int.reduceAdd,aZQ,b,t3,c,t5]
end
section
variable {G:aF}{B:aO}
noncomputable def Yk(l:L Int):Nat:=ix (fun k=>¬ l.getD (l.length-1-k) 0=0) l.length
noncomputable def lzN(l:L Int):Nat:=ix (fun k=>¬ l.getD k 0=0) l.length
theorem H0{l:L Int}{k:Nat}{x:Int}(h:k<l.length)(e:l.getD k 0=x):l[k]?=some x:=by
 simp only[aZo,aZj h,aZW] at e ⊢;rw[e]
theorem aHV(l:L Int)(d:aK l)(o:l.length<=1000000):EV G (Tb B) 227 [sv l,vu 0] []=some (sv (l.take (l.length-Yk l)),[]):=by
 refine aB rfl ?_;have h6:((u8 0).toNat:Int)=0:=rfl;simp (disch:=omega) only[go_sem,h227c];rw[dN (fun k=>⟨(sv (l.take (l.length-k))::vu 0::jk 21 []),[]⟩) (fun k=>¬ l.getD (l.length-1-k) 0=0) l.length ?_ ?_]
 rotate_left
 simp[jk];intro k h b;have c:=Classical.not_not.1 (b k (aZe _));have a:(l.take (l.length-k)).length=l.length-k:=by rw[aZf];omega
 have g:(l.take (l.length-k))[l.length-k-1]?=some 0:=by
  rw[aZK,if_pos (by omega),show l.length-k-1=l.length-1-k by omega];exact H0 (by omega) c
 have e:(l.take (l.length-k)).take (l.length-k-1)=l.take (l.length-(k+1)):=by
  rw[List.take_take];congr 1;omega
 have hp:((l.length-k:Nat):Int) > 0:=by omega
 have j:l.length-k<=1000000:=by omega
 generalize l.take (l.length-k)=T at a g e ⊢;generalize l.take (l.length-(k+1))=T' at e ⊢;generalize l.length-k=n at *;simp (disch:=omega) only[go_sem,h227l0,aC,a,g,e,eq_true hp,h6];obtain⟨h,hp,b⟩:=bE (fun k=>¬ l.getD (l.length-1-k) 0=0) l.length
 rw[show Yk l=ix (fun k=>¬ l.getD (l.length-1-k) 0=0) l.length from rfl]
 generalize ix (fun k=>¬ l.getD (l.length-1-k) 0=0) l.length=k at *
 have a:(l.take (l.length-k)).length=l.length-k:=by rw[aZf];omega
 rcases hp with rfl|⟨i,hp⟩;rw[aZ2] at a ⊢;simp (disch:=omega) only[go_sem,h227l0,aC,a];have g:(l.take (l.length-k))[l.length-k-1]?=some (l.getD (l.length-1-k) 0):=by
  rw[aZK,if_pos (by omega),show l.length-k-1=l.length-1-k by omega];exact H0 (by omega) rfl
 have f:0<=l.getD (l.length-1-k) 0/\l.getD (l.length-1-k) 0<=255:=by
  rw[cD l _ (by omega)];exact d _ (aZk _)
 have hp':((l.length-k:Nat):Int) > 0:=by omega
 have j:l.length-k<=1000000:=by omega
 generalize l.getD (l.length-1-k) 0=x at *;have m:=gY x f;generalize l.take (l.length-k)=T at a g ⊢;generalize l.length-k=n at *;simp (disch:=omega) only[go_sem,h227l0,aC,a,g,eq_true hp',m,eq_false hp]
theorem aHW(l:L Int)(d:aK l)(p:l.length<=1000000):EV G (Tb B) 226 [sv l,vu 0] []=some (sv (l.drop (lzN l)),[]):=by
 refine aB rfl ?_;have h6:((u8 0).toNat:Int)=0:=rfl;simp (disch:=omega) only[go_sem,h226c];rw[dN (fun k=>⟨(sv (l.drop k)::vu 0::jk 15 []),[]⟩) (fun k=>¬ l.getD k 0=0) l.length ?_ ?_]
 rotate_left
 simp[jk];intro k h b;have c:=Classical.not_not.1 (b k (aZe _));have a:(l.drop k).length=l.length-k:=aZn;have g:(l.drop k)[0]?=some 0:=by
  rw[aZJ];exact H0 (by omega) c
 have e:(l.drop k).drop 1=l.drop (k+1):=by rw[bAe]
 have hp:((l.length-k:Nat):Int) > 0:=by omega
 have j:l.length-k<=1000000:=by omega
 have q:1<=l.length-k:=by omega
 generalize l.drop k=T at a g e ⊢;generalize l.drop (k+1)=T' at e ⊢;generalize l.length-k=n at *;have o:T.take n=T:=by rw[<- a,aZT]
 simp (disch:=omega) only[go_sem,h226l0,aC,a,g,e,eq_true hp,h6,o];obtain⟨h,hp,b⟩:=bE (fun k=>¬ l.getD k 0=0) l.length
 rw[show lzN l=ix (fun k=>¬ l.getD k 0=0) l.length from rfl]
 generalize ix (fun k=>¬ l.getD k 0=0) l.length=k at *
 have a:(l.drop k).length=l.length-k:=aZn;rcases hp with rfl|⟨i,hp⟩
 rw[aZ2] at a;simp (disch:=omega) only[go_sem,h226l0,aC,a];have g:(l.drop k)[0]?=some (l.getD k 0):=by
  rw[aZJ];exact H0 (by omega) rfl
 have f:0<=l.getD k 0/\l.getD k 0<=255:=by
  rw[cD l _ (by omega)];exact d _ (aZk _)
 have hp':((l.length-k:Nat):Int) > 0:=by omega
 have j:l.length-k<=1000000:=by omega
 generalize l.getD k 0=x at *;have m:=gY x f;generalize l.drop k=T at a g ⊢;generalize l.length-k=n at *;simp (disch:=omega) only[go_sem,h226l0,aC,a,g,eq_true hp',m,eq_false hp]
noncomputable def trZ(l:L Int):L Int:=(l.take (l.length-Yk l)).drop (lzN (l.take (l.length-Yk l)))
theorem aMt(l:L Int):trZ l=[]↔l=zl l.length:=by
 obtain⟨j,hp,b⟩:=bE (fun k=>¬ l.getD (l.length-1-k) 0=0) l.length
 have e:Yk l=ix (fun k=>¬ l.getD (l.length-1-k) 0=0) l.length:=rfl
 rw[<- e] at j hp b;constructor;intro h;rcases hp with hp|⟨g,a⟩
 refine List.ext_getElem (by rw[aS]) fun i h3 h4=>?_
 have h5:=Classical.not_not.1 (b (l.length-1-i) (by omega));rw[show l.length-1-(l.length-1-i)=i by omega,cD l i h3] at h5;rw[h5];simp[zl];exfalso;unfold trZ at h;obtain⟨o,p,d⟩:=bE (fun k=>¬ (l.take (l.length-Yk l)).getD k 0=0) (l.take (l.length-Yk l)).length
 have f:lzN (l.take (l.length-Yk l))=ix (fun k=>¬ (l.take (l.length-Yk l)).getD k 0=0) (l.take (l.length-Yk l)).length:=rfl
 rw[<- f] at o p d;have q:(l.take (l.length-Yk l)).length=l.length-Yk l:=by rw[aZf];omega
 rw[List.drop_eq_nil_iff] at h;have h3:=d (l.length-1-Yk l) (by omega);apply a;have h4:=Classical.not_not.1 h3;simp only[aZo,aZK] at h4 ⊢;rw[if_pos (by omega)] at h4;exact h4;intro h;have n:Yk l=l.length:=by
  rcases hp with hp|⟨g,a⟩;exact hp
  exfalso;apply a;have m:∀ x∈l,x=0:=fun x c=>by
   rw[h] at c;exact (List.mem_replicate.1 c).2
  rw[cD l _ (by omega)];exact m _ (aZk _)
 unfold trZ;rw[n,aZ2,bAp,List.drop_nil]
theorem aHX{l:L Int}(h:aK l):aK (trZ l):=fun x a=>h x (aZA (aZL a))
theorem aMu(l:L Int)(a:aK l)(f:l.length<=1000000)(h0:l≠[]):EV G (Tb B) 183 [sv l,.one (.dc (.raw (.string ⟨#[0]⟩)))] []=some (sv (trZ l),[]):=by
 have j:=aHV (G:=G) (B:=B) l a f;have k:=aHW (G:=G) (B:=B) (l.take (l.length-Yk l)) (fun x g=>a x (aZA g)) (by rw[aZf];omega)
 have i:Ia (.one (.dc (.raw (.string ⟨#[0]⟩)))) 0=some (vu 0):=by rfl
 have b:¬ dB l=⟨#[]⟩:=by
  intro h;have:=congrArg ByteArray.size h;rw[aC] at this;exact h0 (List.length_eq_zero_iff.1 this)
 have c:¬ (⟨#[0]⟩:ByteArray)=⟨#[]⟩:=by decide
 have e:((UInt8.toNat 0:Nat):Int)=0:=rfl;have d:(((#[0]:Array UInt8).size:Nat):Int)=1:=rfl;refine aB rfl ?_;simp (disch:=omega) only[go_sem,h183c,j,k,i,b,c,d,e,trZ]
theorem aMv(s p:L Int)(a:aK s)(hp:aK p)(d:s.length<=1000000)(h:p.length<=s.length):EV G (Tb B) 154 [sv s,sv p] []=some (vb (decide (s.take p.length=p)),[]):=by
 have b:aK (s.take p.length):=fun x c=>a x (aZA c)
 have e:=cQ b hp;have l:EV G (Tb B) 203 [sv s,sv p] []=some (vb (decide (s.take p.length=p)),[]):=by
  refine aB rfl ?_;simp (disch:=first|omega|(simp only[aZb,aZc,aZd,aZa,aA,aZh,aZf,aZn,aC,aS]<;>omega)|fail) only[go_sem,h203c,aC,e]
 refine aB rfl ?_;simp (disch:=omega) only[go_sem,h154c,l]
end
section
variable {G:aF}{B:aO}
def nB:Bt:=⟨0,0,0,0,0,0⟩
def oO(s:L Int)(k:Nat):Bt:=⟨if 0<k then gL s 8 4 else 0,if 1<k then gL s 12 4 else 0,if 2<k then gL s 16 4 else 0,if 3<k then gL s 20 4 else 0,if 4<k then gL s 24 4 else 0,if 5<k then gL s 28 4 else 0⟩
noncomputable def aQV(s:L Int):Bool:=decide (s.take 8=Ai)&&decide (trZ ((s.take 60).drop 32)=[])&&decide (s.drop 60=bI (kL (s.take 60)) 4)
noncomputable def fH(s:L Int):Bt×Int:=if s.length=64 then if aQV s=true then (if jO (oO s 6)=0 then (oO s 6,0) else (nB,jO (oO s 6))) else (nB,3) else (nB,10)
abbrev ptC:L aU:=[.ptr 1 0,.ptr 1 1,.ptr 1 2,.ptr 1 3,.ptr 1 4,.ptr 1 5]
theorem aVv(s:L Int):oO s 0=⟨0,0,0,0,0,0⟩:=by simp[oO]
theorem aVw(s:L Int):oO s 1=⟨gL s 8 4,0,0,0,0,0⟩:=by simp[oO]
theorem aVx(s:L Int):oO s 2=⟨gL s 8 4,gL s 12 4,0,0,0,0⟩:=by simp[oO]
theorem aVy(s:L Int):oO s 3=⟨gL s 8 4,gL s 12 4,gL s 16 4,0,0,0⟩:=by simp[oO]
theorem aVz(s:L Int):oO s 4=⟨gL s 8 4,gL s 12 4,gL s 16 4,gL s 20 4,0,0⟩:=by simp[oO]
theorem aVA(s:L Int):oO s 5=⟨gL s 8 4,gL s 12 4,gL s 16 4,gL s 20 4,gL s 24 4,0⟩:=by simp[oO]
theorem aHY(s:L Int):oO s 6=⟨gL s 8 4,gL s 12 4,gL s 16 4,gL s 20 4,gL s 24 4,gL s 28 4⟩:=by simp[oO]
theorem N4(hf:∀x:Bt,EV G (Tb B) 76 [.one (.ptr 0 0)] [x.o]=some (.one (.bls 1 0 6 1),[x.o,.box ptB]))(s:L Int)(m:aK s)(w:s.length<=200000):EV G (Tb B) 124 [sv s] []=some (.tup [.agg (fH s).1.cs,tI (fH s).2],[]):=by
 have Q:EV G (Tb B) 76 [.one (.ptr 0 0)] [.box [.dc (.raw (Zi 0)),.dc (.raw (Zi 0)),.dc (.raw (Zi 0)),.dc (.raw (Zi 0)),.dc (.raw (Zi 0)),.dc (.raw (Zi 0))]]=some (.one (.bls 1 0 6 1),[.box [.dc (.raw (Zi 0)),.dc (.raw (Zi 0)),.dc (.raw (Zi 0)),.dc (.raw (Zi 0)),.dc (.raw (Zi 0)),.dc (.raw (Zi 0))],.box ptB]):=hf nB;by_cases h:s.length=64
 rotate_left
 rw[show fH s=(nB,10) by unfold fH;rw[if_neg h]];refine aB rfl ?_;have e:¬ (s.length:Int)=64:=by omega
 simp (disch:=omega) only[go_sem,h124c,aC,e];rfl;have v:(s.length:Int)=64:=by omega
 refine aB rfl ?_;simp (maxSteps:=2000000) (disch:=omega) only[go_sem,h124c,aC,v,Q,Int.reduceEq];rw[aR (fun k=>⟨(sv s::jk 1 (.one (.ptr 0 0)::jk 1 (.one (.ptr 1 0)::jk 10 (.one (.bls 2 0 6 1)::vi 6::vi k::jk 51 [])))),[nB.o,(oO s k).o,.box ptC]⟩) 6 ?_ ?_]
 rotate_left
 rw[aVv];rfl;intro j T;have A:(2:Int).toNat=2:=rfl;have t3:(3:Int).toNat=3:=rfl;have C:(4:Int).toNat=4:=rfl;have t5:(5:Int).toNat=5:=rfl;rcases (show j=0\/j=1\/j=2\/j=3\/j=4\/j=5 by omega) with rfl|rfl|rfl|rfl|rfl|rfl
 have q:=A7 (G:=G) (B:=B) s m 8 (by omega) w;rw[show ((8:Nat):Int)=8 from rfl] at q
 rw[aVv,aVw];generalize gL s 8 4=z at q ⊢;simp (maxSteps:=2000000) (disch:=omega) only[go_sem,h124l0,q,Bt.o,Bt.cs,nB,Int.reduceAdd,Int.reduceMul,aZQ,A,t3,C,t5];have q:=A7 (G:=G) (B:=B) s m 12 (by omega) w;rw[show ((12:Nat):Int)=12 from rfl] at q
 rw[aVw,aVx];generalize gL s 12 4=z at q ⊢;simp (maxSteps:=2000000) (disch:=omega) only[go_sem,h124l0,q,Bt.o,Bt.cs,nB,Int.reduceAdd,Int.reduceMul,aZQ,A,t3,C,t5];have q:=A7 (G:=G) (B:=B) s m 16 (by omega) w;rw[show ((16:Nat):Int)=16 from rfl] at q
 rw[aVx,aVy];generalize gL s 16 4=z at q ⊢;simp (maxSteps:=2000000) (disch:=omega) only[go_sem,h124l0,q,Bt.o,Bt.cs,nB,Int.reduceAdd,Int.reduceMul,aZQ,A,t3,C,t5];have q:=A7 (G:=G) (B:=B) s m 20 (by omega) w;rw[show ((20:Nat):Int)=20 from rfl] at q
 rw[aVy,aVz];generalize gL s 20 4=z at q ⊢;simp (maxSteps:=2000000) (disch:=omega) only[go_sem,h124l0,q,Bt.o,Bt.cs,nB,Int.reduceAdd,Int.reduceMul,aZQ,A,t3,C,t5];have q:=A7 (G:=G) (B:=B) s m 24 (by omega) w;rw[show ((24:Nat):Int)=24 from rfl] at q
 rw[aVz,aVA];generalize gL s 24 4=z at q ⊢;simp (maxSteps:=2000000) (disch:=omega) only[go_sem,h124l0,q,Bt.o,Bt.cs,nB,Int.reduceAdd,Int.reduceMul,aZQ,A,t3,C,t5];have q:=A7 (G:=G) (B:=B) s m 28 (by omega) w;rw[show ((28:Nat):Int)=28 from rfl] at q
 rw[aVA,aHY];generalize gL s 28 4=z at q ⊢;simp (maxSteps:=2000000) (disch:=omega) only[go_sem,h124l0,q,Bt.o,Bt.cs,nB,Int.reduceAdd,Int.reduceMul,aZQ,A,t3,C,t5];have a:(s.take 60).length=60:=by rw[aZf];omega
 have M:=aHU (G:=G) (B:=B) (s.take 60) (fun x p=>m x (aZA p)) (by omega)
 have d:=hf (oO s 6);have I:aK (s.take 60):=fun x p=>m x (aZA p)
 have J:aK ((s.take 60).drop 32):=fun x p=>I x (aZL p)
 have K:((s.take 60).drop 32).length=28:=by rw[aZn];omega
 have N:=aMu (G:=G) (B:=B) ((s.take 60).drop 32) J (by omega) (by intro e;rw[e] at K;cases K);have y:EV G (Tb B) 154 [sv s,.one (.dc (.raw (.string ⟨#[68,69,80,79,83,73,84,49]⟩)))] []=some (vb (decide (s.take 8=Ai)),[]):=aMv s Ai m N0 (by omega) (by rw[h];decide);have O:=kH (G:=G) (B:=B) (kL (s.take 60)) (by have:=Ed (s.take 60);omega);have u:=iY (G:=G) (B:=B);have f:=pR (G:=G) (B:=B);have c:=Ah (G:=G) (B:=B) (oO s 6);have H:(dB (trZ ((s.take 60).drop 32))=⟨#[]⟩)=(trZ ((s.take 60).drop 32)=[]):=cQ (b:=[]) (aHX J) (fun b S=>by cases S)
 have F:(dB (s.drop 60)=dB (bI (kL (s.take 60)) 4))=(s.drop 60=bI (kL (s.take 60)) 4):=cQ (fun x p=>m x (aZL p)) (cR _ _)
 have r:fH s=if (decide (s.take 8=Ai)&&decide (trZ ((s.take 60).drop 32)=[])&&decide (s.drop 60=bI (kL (s.take 60)) 4))=true then (if jO (oO s 6)=0 then (oO s 6,0) else (nB,jO (oO s 6))) else (nB,3):=by
  unfold fH;rw[if_pos h];rfl
 have g:(8:Int)+4*6=32:=rfl;have l:(60:Int).toNat=60:=rfl;have i:(32:Int).toNat=32:=rfl;generalize oO s 6=X at d c r ⊢;generalize fH s=D at r ⊢;generalize decide (s.take 8=Ai)=R at y r;cases R;have n:D=(nB,3):=by rw[r];rfl
 rw[n];simp (maxSteps:=2000000) (disch:=omega) only[go_sem,h124l0,M,N,y,O,u,c,f,d,v,a,H,F,g,l,i,Bt.o,Bt.cs,nB,bY,dZ,eP,Int.reduceMul,Int.reduceAdd,Int.reduceEq,if_true,if_false];by_cases t:trZ ((s.take 60).drop 32)=[];by_cases E:s.drop 60=bI (kL (s.take 60)) 4;rw[decide_eq_true t,decide_eq_true E] at r;by_cases P:jO X=0;have n:D=(X,0):=by rw[r];simp[P]
 rw[n];simp (maxSteps:=2000000) (disch:=omega) only[go_sem,h124l0,M,N,y,O,u,c,f,d,v,a,H,F,g,l,i,Bt.o,Bt.cs,nB,bY,dZ,eP,Int.reduceMul,Int.reduceAdd,Int.reduceEq,if_true,if_false,eq_true t,eq_true E,P];have n:D=(nB,jO X):=by rw[r];simp[P]
 rw[n];simp (maxSteps:=2000000) (disch:=omega) only[go_sem,h124l0,M,N,y,O,u,c,f,d,v,a,H,F,g,l,i,Bt.o,Bt.cs,nB,bY,dZ,eP,Int.reduceMul,Int.reduceAdd,Int.reduceEq,if_true,if_false,eq_true t,eq_true E,P];rw[decide_eq_false E] at r;have n:D=(nB,3):=by rw[r];simp
 rw[n];simp (maxSteps:=2000000) (disch:=omega) only[go_sem,h124l0,M,N,y,O,u,c,f,d,v,a,H,F,g,l,i,Bt.o,Bt.cs,nB,bY,dZ,eP,Int.reduceMul,Int.reduceAdd,Int.reduceEq,if_true,if_false,eq_true t,eq_false E];rw[decide_eq_false t] at r;have n:D=(nB,3):=by rw[r];simp
 rw[n];simp (maxSteps:=2000000) (disch:=omega) only[go_sem,h124l0,M,N,y,O,u,c,f,d,v,a,H,F,g,l,i,Bt.o,Bt.cs,nB,bY,dZ,eP,Int.reduceMul,Int.reduceAdd,Int.reduceEq,if_true,if_false,eq_false t]
end
section
variable {G:aF}{B:aO}
theorem aQW(l:L Int)(c:aK l)(a k:Nat)(m:a+k<=l.length)(o:k<=4)(p:l.length<=1000000):EV G (Tb B) 68 [sv l,vi a,vi k] []=some (vi (gL l a k),[]):=by
 refine aB rfl ?_;simp (disch:=first|omega|(simp only[aZb,aZc,aZd,aZa,aA];omega)) only[go_sem,h68c]
 rw[aR (fun j=>⟨(sv l::vi a::jk 5 (vi (gL l (a+k-j) j)::vi ((k:Int)-1-j)::jk 16 [])),[]⟩) k ?_ ?_]
 have e:a+k-k=a:=by omega
 have b:¬ 0<=(k:Int)-1-(k:Int):=by omega
 simp (disch:=first|omega|(simp only[aZb,aZc,aZd,aZa,aA];omega)) only[go_sem,h68l0,e,b]
 simp[gL,gv,jk];intro j n;have i:=c _ (aZk (show a+k-1-j<l.length by omega));have g:=kP c (a+k-j) j (by omega);have d:gL l (a+k-(j+1)) (j+1)=gL l (a+k-j) j*256+l[a+k-1-j]'(by omega):=by
  have:a+k-(j+1)<l.length:=by omega
  rw[aG0 l _ j this,show a+k-(j+1)+1=a+k-j by omega,Int.mul_comm];rw[Int.add_comm];congr 1;congr 1;omega
 have b:0<=(k:Int)-1-(j:Int):=by omega
 rw[d];generalize gL l (a+k-j) j=z at g ⊢;have f:((a:Int)+((k:Int)-1-(j:Int))).toNat=a+k-1-j:=by omega
 have h:=gY _ i;simp (disch:=first|omega|(simp only[aZb,aZc,aZd,aZa,aA];omega)) only[go_sem,h68l0,eq_true b,aZt,f,h]
 rw[show (k:Int)-1-(j:Int)-1=(k:Int)-1-((j:Int)+1) by omega]
theorem aQX(l:L Int)(c:aK l)(j:l.length<=200000):EV G (Tb B) 132 [sv l] []=some (vi (kL l),[]):=by
 refine aB rfl ?_;simp (disch:=omega) only[go_sem,h132c];rw[aR (fun k=>⟨(sv l::jk 2 (vi (kL (l.take k))::vi k::jk 20 [])),[]⟩) l.length ?_ ?_]
 simp (disch:=omega) only[go_sem,h132l0,aZT,aC];rfl;intro k a;have f:=c _ (aZk a);have g:=gY _ f;have b:=Ed (l.take k);rw[bAa a,Fn];generalize kL (l.take k)=z at b ⊢;have h:=M4 (G:=G) (B:=B) (z*2) 2147483648;have i:=M4 (G:=G) (B:=B) ((z*2) % 2147483648+z / 1073741824+l[k]) 2147483648;have d:z.tdiv 1073741824=z / 1073741824:=bAP b.1;have e:Lz z l[k]=((z*2) % 2147483648+z / 1073741824+l[k]) % 2147483648:=by unfold Lz aQR;rw[Int.mul_comm 2 z]
 rw[e];simp (disch:=omega) only[go_sem,h132l0,aC,g,h,i,d,aZt]
theorem aHZ(x:Bt)(p:Int->Prop)(h:∀n∈x.fs,p n):p x.cl/\p x.tb/\p x.mi/\p x.lg/\p x.lc/\p x.se:=by
 simpa only[Bt.fs,bAl,bAG,or_false,forall_eq_or_imp,forall_eq] using h
theorem aDs(x:Bt)(u:∀n∈x.fs,0<=n/\n<=4294967295):EV G (Tb B) 92 [x.v] []=some (sv x.bs,[]):=by
 obtain⟨l,m,o,p,r,t⟩:=aHZ x _ u;have q:=fun n (h:0<=n/\n<=4294967295)=>nG (G:=G) (B:=B) n 4 (by omega) (by omega)
 have a:=q _ l;have b:=q _ m;have c:=q _ o;have d:=q _ p;have e:=q _ r;have f:=q _ t;have g:=q (kL x.s60) (by have:=Ed x.s60;omega);rw[show ((4:Nat):Int)=4 from rfl] at a b c d e f g
 have z:=Hr (G:=G) (B:=B) 28 (by omega);rw[show (28:Int).toNat=28 from rfl] at z
 have s:=aQX (G:=G) (B:=B) x.s60 (Kz x) (by rw[A8];omega);have i:Ai++bI x.cl 4++bI x.tb 4++bI x.mi 4++bI x.lg 4++bI x.lc 4++bI x.se 4=x.hd 6:=by
  rw[aMr,aMq,aMp,aMo,aMn,aMm,aVu]
 have C:=Ky x 6 (by omega);have j:x.hd 6++List.replicate 28 0=x.s60:=rfl;have k:x.s60++bI (kL x.s60) 4=x.bs:=rfl;have es:(⟨#[68,69,80,79,83,73,84,49]⟩:ByteArray)=dB Ai:=rfl;have A:Ai.length=8:=rfl;have w:=A8 x;generalize x.s60=S at *;generalize x.hd 6=H at *;refine aB rfl ?_;have y:(H.length:Int)=32:=by omega
 simp (maxSteps:=2000000) (disch:=first|omega|(simp only[aZb,aZc,aZd,aZa,aA,aZh,aZf,aZn,aC,aS]<;>omega)|fail) only[go_sem,h92c,es,a,b,c,d,e,f,g,z,s,A,i,j,k,y,Int.reduceSub]
noncomputable def L2(s:L Int):Bt×Int:=if s.length=64 then if (oO s 6).bs=s then (if jO (oO s 6)=0 then (oO s 6,0) else (nB,jO (oO s 6))) else (nB,3) else (nB,10)
theorem aVB{s:L Int}(b:aK s):∀n∈(oO s 6).fs,0<=n/\n<=4294967295:=by
 have h:=fun a=>kP b a 4 (by omega)
 rw[aHY];simp only[Bt.fs,bAl,bAG,or_false,forall_eq_or_imp,forall_eq];exact⟨by have:=h 8;omega,by have:=h 12;omega,by have:=h 16;omega,by have:=h 20;omega,by have:=h 24;omega,by have:=h 28;omega⟩
theorem U8(s:L Int)(p:aK s)(F:s.length<=200000):EV G (Tb B) 65 [sv s] []=some (.tup [.agg (L2 s).1.cs,tI (L2 s).2],[]):=by
 by_cases h:s.length=64
 rotate_left
 rw[show L2 s=(nB,10) by unfold L2;rw[if_neg h]];refine aB rfl ?_;have e:¬ (s.length:Int)=64:=by omega
 simp (disch:=omega) only[go_sem,h65c,aC,e];rfl;have t:(s.length:Int)=64:=by omega
 have q:=fun a (u:a+4<=s.length)=>aQW (G:=G) (B:=B) s p a 4 u (by omega) (by omega)
 have i:=q 8 (by omega);have j:=q 12 (by omega);have k:=q 16 (by omega);have l:=q 20 (by omega);have m:=q 24 (by omega);have n:=q 28 (by omega);simp only[show ((4:Nat):Int)=4 from rfl,show ((8:Nat):Int)=8 from rfl,show ((12:Nat):Int)=12 from rfl,show ((16:Nat):Int)=16 from rfl,show ((20:Nat):Int)=20 from rfl,show ((24:Nat):Int)=24 from rfl,show ((28:Nat):Int)=28 from rfl] at i j k l m n
 have b:=aDs (G:=G) (B:=B) (oO s 6) (aVB p);have c:=aDo (G:=G) (B:=B) (oO s 6);have r:L2 s=if (oO s 6).bs=s then (if jO (oO s 6)=0 then (oO s 6,0) else (nB,jO (oO s 6))) else (nB,3):=by unfold L2;rw[if_pos h]
 have g:(dB (oO s 6).bs=dB s)=((oO s 6).bs=s):=cQ (A9 _) p;generalize L2 s=D at r ⊢;generalize E:(oO s 6).bs=Y at b r g;rw[aHY] at b c r;generalize gL s 8 4=w at *;generalize gL s 12 4=x at *;generalize gL s 16 4=y at *;generalize gL s 20 4=z at *;generalize gL s 24 4=A at *;generalize gL s 28 4=C at *;refine aB rfl ?_;by_cases d:Y=s;rw[if_pos d] at r;by_cases f:jO ⟨w,x,y,z,A,C⟩=0;rw[if_pos f] at r;rw[r];simp (maxSteps:=2000000) (disch:=omega) only[go_sem,h65c,aC,t,i,j,k,l,m,n,b,c,g,d,f,Bt.v,Bt.o,Bt.cs,nB,Int.reduceEq];rw[if_neg f] at r;rw[r];simp (maxSteps:=2000000) (disch:=omega) only[go_sem,h65c,aC,t,i,j,k,l,m,n,b,c,g,d,f,Bt.v,Bt.o,Bt.cs,nB,Int.reduceEq];rw[if_neg d] at r;rw[r];simp (maxSteps:=2000000) (disch:=omega) only[go_sem,h65c,aC,t,i,j,k,l,m,n,b,c,g,d,Bt.v,Bt.o,Bt.cs,nB,Int.reduceEq]
end
section
variable {G:aF}{B:aO}
theorem aMw{x:Bt}(h:jO x=0):x.num=true/\x.ins=true/\x.fit=true/\x.cla=true:=by
 cases b:x.num with
 |false=>rw[rV b] at h;cases h
 | true=>cases a:x.ins with
  | false=>rw[Ag a] at h;cases h
  | true=>cases hf:x.fit with
   | false=>rw[Kx b a hf] at h;cases h
   | true=>cases c:x.cla with
    | false=>rw[U6 b a hf,c] at h;cases h
    | true=>exact⟨rfl,rfl,rfl,rfl⟩
theorem Qg{x:Bt}(h:jO x=0):∀n∈x.fs,0<=n/\n<=2147483647:=by
 obtain⟨b,a,_,_⟩:=aMw h;obtain⟨c,d,h3,h4⟩:=mE.1 b;obtain⟨e,f,g⟩:=qI.1 a;simp only[Bt.fs,bAl,bAG,or_false,forall_eq_or_imp,forall_eq];omega
theorem aDt(x:Bt)(hf:EV G (Tb B) 76 [.one (.ptr 0 0)] [x.o]=some (.one (.bls 1 0 6 1),[x.o,.box ptB]))(a:B 107 [.one (.dc (.raw (.string ⟨#[0]⟩))),vi 28] []=some (sv (zl 28),[])):EV G (Tb B) 15 [x.v] []=some (.tup [tS (if jO x=0 then x.bs else []),tI (jO x)],[]):=by
 have c:=Ah (G:=G) (B:=B) x;refine aB rfl ?_;by_cases h:jO x=0;have d:∀n∈x.fs,0<=n/\n<=4294967295:=fun n b=>by have:=Qg h n b;omega
 have e:=N3 (G:=G) x hf a d;rw[if_pos h];rw[h] at c ⊢;simp (maxSteps:=2000000) (disch:=omega) only[go_sem,h15c,c,e]
 ·rw[if_neg h];simp (maxSteps:=2000000) (disch:=omega) only[go_sem,h15c,c,h];try rfl
theorem aXL(n:Int)(h:0<=n/\n<=4294967295):gv (bI n 4)=n:=by
 simp only[bI,F9,aZs,aZx,gv];omega
theorem aXM{l:L Int}(h:l.length=4):∃a b c d,l=[a,b,c,d]:=by
 match l,h with
 |[a,b,c,d],_=>exact⟨a,b,c,d,rfl⟩
theorem sg4(l:L Int)(h:l.length=4)(e:aK l):bI (gv l) 4=l:=by
 obtain⟨a,b,c,d,rfl⟩:=aXM h;have f:=e a (by simp);have g:=e b (by simp);have h3:=e c (by simp);have h4:=e d (by simp);simp only[bI,F9,aZs,aZx,gv,List.cons.injEq,and_true];omega
theorem sgL(s:L Int)(b:aK s)(a:Nat)(h:a+4<=s.length):bI (gL s a 4) 4=(s.drop a).take 4:=by
 unfold gL;exact sg4 _ (by rw[aZf,aZn];omega) (uX b a 4)
theorem pT(s:L Int)(a b n:Nat):(s.drop a).take b++(s.drop (a+b)).take n=(s.drop a).take (b+n):=by
 rw[List.take_add,bAe]
theorem aVC(s:L Int)(a:aK s)(h:s.length=64):(oO s 6).hd 6=Ai++(s.drop 8).take 24:=by
 rw[aHY,aMr,aMq,aMp,aMo,aMn,aMm,aVu,sgL s a 8 (by omega),sgL s a 12 (by omega),sgL s a 16 (by omega),sgL s a 20 (by omega),sgL s a 24 (by omega),sgL s a 28 (by omega)];simp only[aZr];rw[pT s 24 4 4,pT s 20 4 8,pT s 16 4 12,pT s 12 4 16,pT s 8 4 20]
theorem aA7(s:L Int)(k:aK s)(h:s.length=64):aQV s=true↔(oO s 6).bs=s:=by
 have e:(oO s 6).s60=Ai++(s.drop 8).take 24++zl 28:=by rw[Bt.s60,aVC s k h]
 have g:s.take 8++(s.drop 8).take 24++(s.take 60).drop 32=s.take 60:=by
  have a:s.take 8++(s.drop 8).take 24=s.take 32:=by rw[show (32:Nat)=8+24 from rfl,List.take_add]
  have j:s.take 32=(s.take 60).take 32:=by rw[List.take_take];rfl
  rw[a,j,bAx]
 have l:((s.take 60).drop 32).length=28:=by rw[aZn,aZf];omega
 have z:trZ ((s.take 60).drop 32)=[]↔(s.take 60).drop 32=zl 28:=by rw[aMt,l]
 have b:(oO s 6).s60=s.take 60↔s.take 8=Ai/\(s.take 60).drop 32=zl 28:=by
  rw[e,<- g];have i:Ai.length=(s.take 8).length:=by rw[aZf,h];rfl
  constructor;intro q;obtain⟨f,d⟩:=List.append_inj q (by rw[aZb,aZb,i]);obtain⟨n,_⟩:=List.append_inj f i;refine⟨n.symm,?_⟩;rw[g];exact d.symm;rintro⟨f,d⟩;rw[g] at d;rw[f,d]
 have c:(oO s 6).bs=s↔(oO s 6).s60=s.take 60/\bI (kL (oO s 6).s60) 4=s.drop 60:=by
  constructor;intro q;have m:(oO s 6).s60++bI (kL (oO s 6).s60) 4=s.take 60++s.drop 60:=by rw[bAx];exact q
  exact List.append_inj m (by rw[A8,aZf];omega);rintro⟨f,d⟩;rw[Bt.bs,d,f,bAx]
 rw[c,b];unfold aQV;simp only[aZp,decide_eq_true_eq];rw[z];constructor;rintro⟨a,h3⟩;refine⟨a,?_⟩;rw[b.2 a];exact h3.symm;rintro⟨a,h3⟩;refine⟨a,?_⟩;rw[b.2 a] at h3;exact h3.symm
theorem Qh(s:L Int)(a:aK s):fH s=L2 s:=by
 unfold fH L2;by_cases h:s.length=64;rw[if_pos h,if_pos h];by_cases b:(oO s 6).bs=s;rw[if_pos b,if_pos ((aA7 s a h).2 b)];rw[if_neg b,if_neg (fun q=>b ((aA7 s a h).1 q))]
 rw[if_neg h,if_neg h]
theorem aQY(p z q:L Int)(k:Nat)(h:z.length=k):gL (p++(z++q)) p.length k=gv z:=by
 unfold gL;rw[List.drop_left,<- h,List.take_left]
theorem aVD(x:Bt)(s:∀n∈x.fs,0<=n/\n<=4294967295):oO x.bs 6=x:=by
 obtain⟨h,i,j,l,m,o⟩:=aHZ x _ s;have e:∀k (n:Int) q,x.bs=x.hd k++(bI n 4++q)->k<=6->0<=n/\n<=4294967295->gL x.bs (8+4*k) 4=n:=by
  intro k n q p r h3;rw[p,<- Ky x k r,aQY _ _ _ _ (aA _ _),aXL n h3]
 have f:x.bs=x.hd 6++(zl 28++bI (kL x.s60) 4):=by rw[Bt.bs,Bt.s60,aZr]
 have g:x.bs=x.hd 5++(bI x.se 4++(zl 28++bI (kL x.s60) 4)):=by rw[f,aMr,aZr]
 have d:x.bs=x.hd 4++(bI x.lc 4++(bI x.se 4++(zl 28++bI (kL x.s60) 4))):=by rw[g,aMq,aZr]
 have c:x.bs=x.hd 3++(bI x.lg 4++(bI x.lc 4++(bI x.se 4++(zl 28++bI (kL x.s60) 4)))):=by rw[d,aMp,aZr]
 have b:x.bs=x.hd 2++(bI x.mi 4++(bI x.lg 4++(bI x.lc 4++(bI x.se 4++(zl 28++bI (kL x.s60) 4))))):=by rw[c,aMo,aZr]
 have a:x.bs=x.hd 1++(bI x.tb 4++(bI x.mi 4++(bI x.lg 4++(bI x.lc 4++(bI x.se 4++(zl 28++bI (kL x.s60) 4)))))):=by rw[b,aMn,aZr]
 have f0:x.bs=x.hd 0++(bI x.cl 4++(bI x.tb 4++(bI x.mi 4++(bI x.lg 4++(bI x.lc 4++(bI x.se 4++(zl 28++bI (kL x.s60) 4))))))):=by rw[a,aMm,aZr]
 rw[aHY,e 0 _ _ f0 (by omega) h,e 1 _ _ a (by omega) i,e 2 _ _ b (by omega) j,e 3 _ _ c (by omega) l,e 4 _ _ d (by omega) m,e 5 _ _ g (by omega) o]
theorem aQZ(x:Bt)(h:jO x=0):fH x.bs=(x,0):=by
 rw[Qh _ (A9 x)];unfold L2;have r:=aVD x (fun n a=>by have:=Qg h n a;omega)
 rw[if_pos (K0 x),r,if_pos rfl,if_pos h]
end
section
variable {G:aF}{B:aO}
theorem aDu(b:Bool)(e:Int):EV G (Tb B) 181 [vb b,vi e] []=some (vi (pW b e),[]):=by
 refine aB rfl ?_;cases b;all_goals simp (disch:=omega) only[go_sem,h181c]
 all_goals rfl
theorem aH0(l:L Int)(g:l.length<=1000):EV G (Tb B) 180 [vl (el l)] []=some (vi (aT l),[]):=by
 refine aB rfl ?_;simp (disch:=omega) only[go_sem,h180c,aZa];have a:∀ k (b:k < l.length),¬ l.getD k 0≠0->Lf [5,0,0] 0 (EC (EV G (Tb B)) G h180l0 ⟨(jk 5 (vl (el l)::vi l.length::vi k::jk 7 [])),[]⟩)=some ⟨(jk 5 (vl (el l)::vi l.length::vi (k+1:Nat)::jk 7 [])),[]⟩:=fun k b f=>by
  rw[cD l k b] at f;simp (disch:=omega) only[go_sem,h180l0,aZa,tD]
 rcases Ph (fun k=>l.getD k 0≠0) l.length with h|⟨j,e,c,d⟩
 rw[aR (fun k=>⟨(jk 5 (vl (el l)::vi l.length::vi k::jk 7 [])),[]⟩) l.length ?_ ?_]
 rw[iD l h];simp (disch:=omega) only[go_sem,h180l0];rfl;exact fun k b=>a k b (h k b)
 rw[aR (fun k=>⟨(jk 5 (vl (el l)::vi l.length::vi k::jk 7 [])),[]⟩) j ?_ ?_]
 rw[kE l j e d c];rw[cD l j e] at c;simp (disch:=omega) only[go_sem,h180l0,aZa,tD];rfl;exact fun k b=>a k (by omega) (d k b)
theorem aH1(a b:Int):EV G (Tb B) 180 [vl [[ci a],[ci b]]] []=some (vi (aT [a,b]),[]):=aH0 [a,b] (by simp)
theorem K1(l:L Int):(dB l=⟨#[]⟩)=(l=[]):=by
 apply propext;refine⟨fun h=>?_,fun h=>by rw[h];rfl⟩
 have:=congrArg ByteArray.size h;rw[aC] at this;exact List.length_eq_zero_iff.1 this
def H3(n:Nat):Int:=if n=0\/n % 64≠0 then 10 else if 131072<n then 8 else 0
def Lg(n:Nat):Int:=if H3 n≠0 then H3 n else if n % 256=0/\64<=n / 256/\n / 256<=512 then 0 else 10
theorem Fo(n m:Nat):(n:Int).tmod (m:Int)=((n % m:Nat):Int):=by
 rw[bAN (by omega)];simp
theorem Qi(n m:Nat):(n:Int).tdiv (m:Int)=((n / m:Nat):Int):=by
 rw[bAP (by omega)];simp
theorem aDv(l:L Int)(h:l.length<=200000):EV G (Tb B) 123 [sv l] []=some (vi (H3 l.length),[]):=by
 have u:=aDu (G:=G) (B:=B);have f:=aH1 (G:=G) (B:=B);have m:(l.length:Int).tmod 64=((l.length % 64:Nat):Int):=Fo l.length 64;have e:=K1 l;refine aB rfl ?_;by_cases h0:l=[];have b:(dB l=⟨#[]⟩)=True:=by rw[e];exact eq_true h0
 have c:(l.length:Int)=0:=by rw[h0];rfl
 have a:H3 l.length=10:=by rw[h0];rfl
 have h4:(0:Int)<=131072:=by omega
 simp (disch:=omega) only[go_sem,h123c,aC,u,f,c,b,a,h4,dZ,eP,bY,decide_false,decide_true,aZG,not_true_eq_false];have d:l.length≠0:=fun q=>h0 (List.length_eq_zero_iff.1 q)
 by_cases g:l.length % 64=0;by_cases h3:131072<l.length;have a:H3 l.length=8:=by unfold H3;rw[if_neg (by omega),if_pos h3]
 have h4:¬ (l.length:Int)<=131072:=by omega
 have h5:((l.length % 64:Nat):Int)=0:=by omega
 simp (disch:=omega) only[go_sem,h123c,aC,u,f,m,e,h0,h4,h5,a,dZ,eP,bY,decide_false,decide_true,aZG];have a:H3 l.length=0:=by unfold H3;rw[if_neg (by omega),if_neg h3]
 have h4:(l.length:Int)<=131072:=by omega
 have h5:((l.length % 64:Nat):Int)=0:=by omega
 simp (disch:=omega) only[go_sem,h123c,aC,u,f,m,e,h0,h4,h5,a,dZ,eP,bY,decide_false,decide_true,aZG];have a:H3 l.length=10:=by unfold H3;rw[if_pos (by omega)]
 have h5:¬ ((l.length % 64:Nat):Int)=0:=by omega
 simp (disch:=omega) only[go_sem,h123c,aC,u,f,m,e,h0,h5,a,dZ,eP,bY,decide_false,decide_true,aZG]
theorem U9(l:L Int)(a:l.length<=200000):EV G (Tb B) 122 [sv l] []=some (vi (l.length / 256:Nat),[]):=by
 have d:(l.length:Int).tdiv 256=((l.length / 256:Nat):Int):=Qi l.length 256;refine aB rfl ?_;simp (disch:=omega) only[go_sem,h122c,aC,d]
theorem Va(l:L Int)(a:l.length<=200000):EV G (Tb B) 66 [sv l] []=some (vi (l.length / 256:Nat),[]):=by
 have d:(l.length:Int).tdiv 256=((l.length / 256:Nat):Int):=Qi l.length 256;refine aB rfl ?_;simp (disch:=omega) only[go_sem,h66c,aC,d]
theorem aDw(l:L Int)(b:l.length<=200000):EV G (Tb B) 86 [sv l] []=some (vi (Lg l.length),[]):=by
 have u:=iY (G:=G) (B:=B);have f:=pR (G:=G) (B:=B);have k:=aDv (G:=G) (B:=B) l b;have n:=U9 (G:=G) (B:=B) l b;have w:=kG (G:=G) (B:=B) (l.length / 256:Nat) 64 512;have m:(l.length:Int).tmod 256=((l.length % 256:Nat):Int):=Fo l.length 256;refine aB rfl ?_;have e:Lg l.length=if H3 l.length=0 then pW (decide (l.length % 256=0/\64<=l.length / 256/\l.length / 256<=512)) 10 else H3 l.length:=by
  unfold Lg pW;by_cases h:H3 l.length=0;rw[if_neg (by simp[h]),if_pos h];simp;rw[if_pos h,if_neg h]
 rw[e];generalize l.length / 256=c at *;by_cases d:l.length % 256=0;have h5:((l.length % 256:Nat):Int)=0:=by omega
 have a:decide (l.length % 256=0/\64<=c/\c<=512)=decide ((64:Int)<=(c:Int)/\(c:Int)<=512):=by
  rw[decide_eq_decide];omega
 rw[a];simp (disch:=omega) only[go_sem,h86c,aC,u,f,k,n,w,m,h5,bY,decide_true];have h5:¬ ((l.length % 256:Nat):Int)=0:=by omega
 have a:decide (l.length % 256=0/\64<=c/\c<=512)=false:=by simp[d]
 rw[a];simp (disch:=omega) only[go_sem,h86c,aC,u,f,k,n,w,m,h5,bY,decide_false]
theorem aQ0(l:L Int)(a:l.length<=200000):EV G (Tb B) 131 [sv l] []=some (vi (l.length / 64:Nat),[]):=by
 have d:(l.length:Int).tdiv 64=((l.length / 64:Nat):Int):=Qi l.length 64;refine aB rfl ?_;simp (disch:=omega) only[go_sem,h131c,aC,d]
theorem aQ1(l:L Int)(c:l.length<=200000):EV G (Tb B) 91 [sv l] []=some (vi (H3 l.length),[]):=by
 have s:=aQ0 (G:=G) (B:=B) l c;have m:(l.length:Int).tmod 64=((l.length % 64:Nat):Int):=Fo l.length 64;have e:=K1 l;refine aB rfl ?_;by_cases h0:l=[];have b:(dB l=⟨#[]⟩)=True:=by rw[e];exact eq_true h0
 have a:H3 l.length=10:=by rw[h0];rfl
 simp (disch:=omega) only[go_sem,h91c,b,a];have b:(dB l=⟨#[]⟩)=False:=by rw[e];exact eq_false h0
 have d:l.length≠0:=fun q=>h0 (List.length_eq_zero_iff.1 q)
 by_cases f:l.length % 64=0;have h5:((l.length % 64:Nat):Int)=0:=by omega
 by_cases h3:131072<l.length;have a:H3 l.length=8:=by unfold H3;rw[if_neg (by omega),if_pos h3]
 have h4:((l.length / 64:Nat):Int) > 2048:=by omega
 simp (disch:=omega) only[go_sem,h91c,aC,b,a,m,s,h5,eq_true h4];have a:H3 l.length=0:=by unfold H3;rw[if_neg (by omega),if_neg h3]
 have h4:¬ ((l.length / 64:Nat):Int) > 2048:=by omega
 simp (disch:=omega) only[go_sem,h91c,aC,b,a,m,s,h5,h4];have a:H3 l.length=10:=by unfold H3;rw[if_pos (by omega)]
 have h5:¬ ((l.length % 64:Nat):Int)=0:=by omega
 simp (disch:=omega) only[go_sem,h91c,aC,b,a,m,h5]
theorem aH2(l:L Int)(b:l.length<=200000):EV G (Tb B) 64 [sv l] []=some (vi (Lg l.length),[]):=by
 have k:=aQ1 (G:=G) (B:=B) l b;have n:=Va (G:=G) (B:=B) l b;have w:=bN (G:=G) (B:=B) (l.length / 256:Nat) 64 512;have m:(l.length:Int).tmod 256=((l.length % 256:Nat):Int):=Fo l.length 256;refine aB rfl ?_;by_cases h:H3 l.length=0;by_cases a:l.length % 256=0;have h5:((l.length % 256:Nat):Int)=0:=by omega
 by_cases h3:64<=l.length / 256/\l.length / 256<=512;have e:Lg l.length=0:=by unfold Lg;rw[if_neg (by simp[h]),if_pos ⟨a,h3⟩]
 have h6:(64:Int)<=(l.length / 256:Nat)/\((l.length / 256:Nat):Int)<=512:=by omega
 rw[decide_eq_true h6] at w;generalize l.length / 256=c at *;simp (disch:=omega) only[go_sem,h64c,aC,k,n,w,m,h,h5,e,aZF];have e:Lg l.length=10:=by unfold Lg;rw[if_neg (by simp[h]),if_neg (fun q=>h3 q.2)]
 have h6:¬ ((64:Int)<=(l.length / 256:Nat)/\((l.length / 256:Nat):Int)<=512):=by omega
 rw[decide_eq_false h6] at w;generalize l.length / 256=c at *;simp (disch:=omega) only[go_sem,h64c,aC,k,n,w,m,h,h5,e,aZG];have h5:¬ ((l.length % 256:Nat):Int)=0:=by omega
 have e:Lg l.length=10:=by unfold Lg;rw[if_neg (by simp[h]),if_neg (fun q=>a q.1)]
 simp (disch:=omega) only[go_sem,h64c,aC,k,m,h,h5,e];have e:Lg l.length=H3 l.length:=by unfold Lg;rw[if_pos h]
 simp (disch:=omega) only[go_sem,h64c,k,h,e]
end
section
variable {G:aF}{B:aO}
noncomputable def Aj(l:L Int):Bt×Int×Bool:=
 if (fH (l.take 64)).2=0/\(fH (l.take 64)).1.cl=(l.length / 256:Nat) then ((fH (l.take 64)).1,0,true)
 else if (fH (l.drop (l.length-64))).2=0/\(fH (l.drop (l.length-64))).1.cl=(l.length / 256:Nat) then ((fH (l.drop (l.length-64))).1,1,true) else (nB,0,false)
abbrev tB(b:Bool):TV:=.one (.dc (.raw (.bool b)))
theorem nS{n:Nat}{v:AV}{i:Int}:aOk n v (some i)=V0 n v i:=rfl
theorem qU{a b:aU}:V0 2 (.agg [a,b]) 0=some (.one a):=rfl
theorem sW{a b:aU}:V0 2 (.agg [a,b]) 1=some (.one b):=rfl
theorem aQ2(hf:∀x:Bt,EV G (Tb B) 76 [.one (.ptr 0 0)] [x.o]=some (.one (.bls 1 0 6 1),[x.o,.box ptB]))(l:L Int)(s:aK l)(A:64<=l.length/\l.length<=200000):EV G (Tb B) 87 [sv l] []=some (.tup [.agg (Aj l).1.cs,tI (Aj l).2.1,tB (Aj l).2.2],[]):=by
 have e:=N4 (G:=G) (B:=B) hf (l.take 64) (fun x j=>s x (aZA j)) (by rw[aZf];omega)
 have d:=N4 (G:=G) (B:=B) hf (l.drop (l.length-64)) (fun x j=>s x (aZL j)) (by rw[aZn];omega)
 have n:=U9 (G:=G) (B:=B) l A.2;unfold Aj;generalize fH (l.take 64)=v at e ⊢;generalize fH (l.drop (l.length-64))=w at d ⊢;obtain⟨p,f⟩:=v;obtain⟨r,g⟩:=w;have m:(64:Int).toNat=64:=rfl;have D:((l.length:Int)-64).toNat=l.length-64:=by omega
 refine aB rfl ?_;simp (maxSteps:=2000000) (disch:=first|omega|(simp only[aZb,aZc,aZd,aZa,aA,aZh,aZf,aZn,aC,aS]<;>omega)|fail) only[go_sem,h87c,aC,m,D]
 have u:¬ (f=0/\p.cl=(l.length / 256:Nat))->Lf [0,1,13,0] 1 (EC (EV G (Tb B)) G h87l0 ⟨(sv l::jk 1 (.one (.ptr 0 0)::jk 13 (.agg [.dc (.raw (.string (dB (l.take 64)))),.dc (.raw (.string (dB (l.drop (l.length-64)))))]::vi (0:Nat)::jk 21 []))),[nB.o]⟩)=some ⟨(sv l::jk 1 (.one (.ptr 0 0)::jk 13 (.agg [.dc (.raw (.string (dB (l.take 64)))),.dc (.raw (.string (dB (l.drop (l.length-64)))))]::vi (1:Nat)::jk 21 []))),[nB.o]⟩:=by
  intro h;by_cases b:f=0;have i:¬ p.cl=(l.length / 256:Nat):=fun q=>h ⟨b,q⟩
  simp (maxSteps:=2000000) (disch:=omega) only[go_sem,h87l0,n,nS,qU,sW,Bt.o,Bt.cs,nB,Int.reduceAdd,Int.reduceLT,aZQ,bH,e,b,i];simp (maxSteps:=2000000) (disch:=omega) only[go_sem,h87l0,n,nS,qU,sW,Bt.o,Bt.cs,nB,Int.reduceAdd,Int.reduceLT,aZQ,bH,e,b]
 have C:¬ (g=0/\r.cl=(l.length / 256:Nat))->Lf [0,1,13,0] 1 (EC (EV G (Tb B)) G h87l0 ⟨(sv l::jk 1 (.one (.ptr 0 0)::jk 13 (.agg [.dc (.raw (.string (dB (l.take 64)))),.dc (.raw (.string (dB (l.drop (l.length-64)))))]::vi (1:Nat)::jk 21 []))),[nB.o]⟩)=some ⟨(sv l::jk 1 (.one (.ptr 0 0)::jk 13 (.agg [.dc (.raw (.string (dB (l.take 64)))),.dc (.raw (.string (dB (l.drop (l.length-64)))))]::vi (2:Nat)::jk 21 []))),[nB.o]⟩:=by
  intro h;by_cases b:g=0;have i:¬ r.cl=(l.length / 256:Nat):=fun q=>h ⟨b,q⟩
  simp (maxSteps:=2000000) (disch:=omega) only[go_sem,h87l0,n,nS,qU,sW,Bt.o,Bt.cs,nB,Int.reduceAdd,Int.reduceLT,aZQ,bH,d,b,i];simp (maxSteps:=2000000) (disch:=omega) only[go_sem,h87l0,n,nS,qU,sW,Bt.o,Bt.cs,nB,Int.reduceAdd,Int.reduceLT,aZQ,bH,d,b]
 by_cases a:f=0/\p.cl=(l.length / 256:Nat);rw[if_pos a];obtain⟨a,y⟩:=a;rw[aR (fun k=>⟨(sv l::jk 1 (.one (.ptr 0 0)::jk 13 (.agg [.dc (.raw (.string (dB (l.take 64)))),.dc (.raw (.string (dB (l.drop (l.length-64)))))]::vi k::jk 21 []))),[nB.o]⟩) 0 ?_ ?_]
 simp (maxSteps:=2000000) (disch:=omega) only[go_sem,h87l0,n,nS,qU,sW,Bt.o,Bt.cs,nB,Int.reduceAdd,Int.reduceLT,aZQ,bH,h87c,e,a,y];rfl;intro k t;omega;rw[if_neg a];by_cases c:g=0/\r.cl=(l.length / 256:Nat);rw[if_pos c];obtain⟨c,z⟩:=c;rw[aR (fun k=>⟨(sv l::jk 1 (.one (.ptr 0 0)::jk 13 (.agg [.dc (.raw (.string (dB (l.take 64)))),.dc (.raw (.string (dB (l.drop (l.length-64)))))]::vi k::jk 21 []))),[nB.o]⟩) 1 ?_ ?_]
 simp (maxSteps:=2000000) (disch:=omega) only[go_sem,h87l0,n,nS,qU,sW,Bt.o,Bt.cs,nB,Int.reduceAdd,Int.reduceLT,aZQ,bH,h87c,d,c,z];rfl;intro k t;rw[show k=0 by omega];exact u a;rw[if_neg c];rw[aR (fun k=>⟨(sv l::jk 1 (.one (.ptr 0 0)::jk 13 (.agg [.dc (.raw (.string (dB (l.take 64)))),.dc (.raw (.string (dB (l.drop (l.length-64)))))]::vi k::jk 21 []))),[nB.o]⟩) 2 ?_ ?_]
 simp (maxSteps:=2000000) (disch:=omega) only[go_sem,h87l0,n,nS,qU,sW,Bt.o,Bt.cs,nB,Int.reduceAdd,Int.reduceLT,aZQ,bH,h87c,d];rfl;intro k t;rcases (show k=0\/k=1 by omega) with rfl|rfl
 exact u a;exact C c
noncomputable def aW(l:L Int):Bt×Int×Int:=if Lg l.length=0 then ((Aj l).1,(Aj l).2.1,pW (Aj l).2.2 6) else (nB,0,Lg l.length)
theorem dk0{n:Nat}(h:Lg n=0):n % 256=0/\64<=n / 256/\n / 256<=512:=by
 unfold Lg at h;split at h;rename_i q;exact absurd h q;split at h
 assumption
 cases h
theorem Vb(hf:∀x:Bt,EV G (Tb B) 76 [.one (.ptr 0 0)] [x.o]=some (.one (.bls 1 0 6 1),[x.o,.box ptB]))(l:L Int)(a:aK l)(c:l.length<=200000):EV G (Tb B) 55 [sv l] []=some (.tup [.agg (aW l).1.cs,tI (aW l).2.1,tI (aW l).2.2],[]):=by
 have d:=aDw (G:=G) (B:=B) l c;have u:=iY (G:=G) (B:=B);unfold aW;by_cases h:Lg l.length=0;rw[if_pos h];have k:=dk0 h;have b:=aQ2 (G:=G) hf l a (by omega);generalize Aj l=V at b ⊢;obtain⟨x,i,q⟩:=V;refine aB rfl ?_;simp (maxSteps:=2000000) (disch:=omega) only[go_sem,h55c,d,h,b,u,Bt.cs,nB];rw[if_neg h];refine aB rfl ?_;simp (maxSteps:=2000000) (disch:=omega) only[go_sem,h55c,d,h,Bt.cs,nB]
theorem aDx(l:L Int)(p:aK l)(y:l.length<=200000):EV G (Tb B) 25 [sv l] []=some (.tup [.agg (aW l).1.cs,tI (aW l).2.1,tI (aW l).2.2],[]):=by
 have d:=aH2 (G:=G) (B:=B) l y;have n:=Va (G:=G) (B:=B) l y;have c:=U8 (G:=G) (B:=B) (l.take 64) (fun x j=>p x (aZA j)) (by rw[aZf];omega)
 have f:=U8 (G:=G) (B:=B) (l.drop (l.length-64)) (fun x j=>p x (aZL j)) (by rw[aZn];omega)
 rw[<- Qh _ (fun x j=>p x (aZA j))] at c
 rw[<- Qh _ (fun x j=>p x (aZL j))] at f
 unfold aW Aj;by_cases h:Lg l.length=0;rw[if_pos h];have k:=dk0 h;have a:(64:Int).toNat=64:=rfl;have m:((l.length:Int)-64).toNat=l.length-64:=by omega
 generalize fH (l.take 64)=z at c ⊢;generalize fH (l.drop (l.length-64))=A at f ⊢;obtain⟨u,r⟩:=z;obtain⟨v,s⟩:=A;refine aB rfl ?_;by_cases g:r=0/\u.cl=(l.length / 256:Nat);rw[if_pos g];obtain⟨g,C⟩:=g;simp (maxSteps:=2000000) (disch:=first|omega|(simp only[aZb,aZc,aZd,aZa,aA,aZh,aZf,aZn,aC,aS]<;>omega)|fail) only[go_sem,h25c,aC,a,m,d,h,n,c,g,C,Bt.cs,nB,dZ]
 rw[if_neg g];by_cases e:s=0/\v.cl=(l.length / 256:Nat);rw[if_pos e];obtain⟨e,w⟩:=e;by_cases b:r=0;have o:¬ u.cl=(l.length / 256:Nat):=fun q=>g ⟨b,q⟩
 simp (maxSteps:=2000000) (disch:=first|omega|(simp only[aZb,aZc,aZd,aZa,aA,aZh,aZf,aZn,aC,aS]<;>omega)|fail) only[go_sem,h25c,aC,a,m,d,h,n,c,f,b,o,e,w,Bt.cs,nB,dZ]
 simp (maxSteps:=2000000) (disch:=first|omega|(simp only[aZb,aZc,aZd,aZa,aA,aZh,aZf,aZn,aC,aS]<;>omega)|fail) only[go_sem,h25c,aC,a,m,d,h,n,c,f,b,e,w,Bt.cs,nB,dZ]
 rw[if_neg e];by_cases b:r=0;have o:¬ u.cl=(l.length / 256:Nat):=fun q=>g ⟨b,q⟩
 by_cases i:s=0;have t:¬ v.cl=(l.length / 256:Nat):=fun q=>e ⟨i,q⟩
 simp (maxSteps:=2000000) (disch:=first|omega|(simp only[aZb,aZc,aZd,aZa,aA,aZh,aZf,aZn,aC,aS]<;>omega)|fail) only[go_sem,h25c,aC,a,m,d,h,n,c,f,b,o,i,t,Bt.cs,nB,eP]
 simp (maxSteps:=2000000) (disch:=first|omega|(simp only[aZb,aZc,aZd,aZa,aA,aZh,aZf,aZn,aC,aS]<;>omega)|fail) only[go_sem,h25c,aC,a,m,d,h,n,c,f,b,o,i,Bt.cs,nB,eP]
 by_cases i:s=0;have t:¬ v.cl=(l.length / 256:Nat):=fun q=>e ⟨i,q⟩
 simp (maxSteps:=2000000) (disch:=first|omega|(simp only[aZb,aZc,aZd,aZa,aA,aZh,aZf,aZn,aC,aS]<;>omega)|fail) only[go_sem,h25c,aC,a,m,d,h,n,c,f,b,i,t,Bt.cs,nB,eP]
 simp (maxSteps:=2000000) (disch:=first|omega|(simp only[aZb,aZc,aZd,aZa,aA,aZh,aZf,aZn,aC,aS]<;>omega)|fail) only[go_sem,h25c,aC,a,m,d,h,n,c,f,b,i,Bt.cs,nB,eP]
 rw[if_neg h];refine aB rfl ?_;simp (maxSteps:=2000000) (disch:=omega) only[go_sem,h25c,d,h,Bt.cs,nB]
end
section
variable {G:aF}{B:aO}
theorem Ee(x:Bt):EV G (Tb B) 76 [.one (.ptr 0 0)] [x.o]=some (.one (.bls 1 0 6 1),[x.o,.box ptB]):=aB rfl (aDr x)
def L3(l:L Int)(x:Bt):L Int:=iW (iW l 0 x.bs) (l.length-64) x.bs
theorem aQ3(l:L Int)(x:Bt)(N:Nat)(b:l.length=N)(f:B 107 [.one (.dc (.raw (.string ⟨#[0]⟩))),vi 28] []=some (sv (zl 28),[]))(g:∀n∈x.fs,0<=n/\n<=4294967295)(o:64<=N/\N<=200000):EV G (Tb B) 46 [.one (.bls 0 0 N 1),x.v] [yb l]=some (.tup [],[yb (L3 l x)]):=by
 have e:=N3 (G:=G) (B:=B) x (Ee x) f g;have j:=K0 x;have c:=pH l x.bs 0 N (A9 x) (by omega);have h:(iW l 0 x.bs).length=N:=by rw[cX (by omega),b]
 have d:=pH (iW l 0 x.bs) x.bs (N-64) 64 (A9 x) (by omega);have r:L3 l x=iW (iW l 0 x.bs) (N-64) x.bs:=by rw[L3,b]
 rw[r];generalize iW l 0 x.bs=M at *;generalize iW M (N-64) x.bs=m at *;generalize x.bs=X at *;have k:((N:Int)-64).toNat=N-64:=by omega
 have i:(X.length:Int)=64:=by omega
 have a:N-(N-64)=64:=by omega
 refine aB rfl ?_;simp (maxSteps:=2000000) (disch:=omega) only[go_sem,h46c,e,c,d,aZa,k,i,b,h,j,a]
end
section
variable {G:aF}{B:aO}
theorem aMx{b s:L Int}{k:Nat}(c:aK b)(d:aK s):aK (iW b k s):=fun x a=>by
 unfold iW at a;rcases bAv.1 a with a|a
 rcases bAv.1 a with a|a;exact c x (aZA a);exact d x a;exact c x (aZL a)
theorem aMy(l:L Int)(x:Bt)(h:64<=l.length):(L3 l x).length=l.length:=by
 have:=K0 x;rw[L3,cX (by rw[cX (by omega)];omega),cX (by omega)]
theorem aH3(l:L Int)(x:Bt)(h:128<=l.length):(L3 l x).take 64=x.bs:=by
 have b:=K0 x;have a:(iW l 0 x.bs).length=l.length:=cX (by omega);unfold L3;rw[iW,aZr,bAz (by rw[aZf];omega),List.take_take,Nat.min_eq_left (by omega)];rw[iW,bAp,aZs,bAz (by omega),aZM (by omega)]
theorem aMz(l:L Int):EV G (Tb B) 5 [sv l] []=some (vb (decide (l.length<=24576\/l.length % 256≠0/\l.length<=200000)),[]):=by
 have m:(l.length:Int).tmod 256=((l.length % 256:Nat):Int):=Fo l.length 256;refine aB rfl ?_;by_cases a:l.length<=24576;have b:(l.length:Int)<=24576:=by omega
 simp (disch:=omega) only[go_sem,h5c,aC,b,a,true_or];have b:¬ (l.length:Int)<=24576:=by omega
 by_cases e:l.length % 256=0;have c:((l.length % 256:Nat):Int)=0:=by omega
 simp (disch:=omega) only[go_sem,h5c,aC,b,a,m,c];simp[e];have c:¬ ((l.length % 256:Nat):Int)=0:=by omega
 by_cases h3:l.length<=200000;have d:(l.length:Int)<=200000:=by omega
 simp (disch:=omega) only[go_sem,h5c,aC,b,a,m,c,d];simp[a,e,h3];have d:¬ (l.length:Int)<=200000:=by omega
 simp (disch:=omega) only[go_sem,h5c,aC,b,a,m,c,d];simp[a,e,h3]
end
section
variable {G:aF}{B:aO}
def aMA(x:Bt)(n:Int):Int:=if jO x=0 then if 16<=n/\n<=96 then if x.tb+2*n<x.cl then if Em x.tb (2*n) x.mi 8=true\/Em x.tb (2*n) x.lg x.lc=true then 13 else 0 else 37 else 2 else jO x
end
section
variable {G:aF}{B:aO}
theorem K2(n:Int)(h:-1000000<=n/\n<=1000000):EV G (Tb B) 50 [vi n] []=some (.agg [.dc (ci n),.dc (ci (n+1))],[]):=by
 refine aB rfl ?_;simp (disch:=omega) only[go_sem,h50c]
theorem Qj(l:L Int)(N k:Nat)(a:l.length=N)(h:k*256+256<=N)(c:N<=200000):EV G (Tb B) 63 [.one (.bls 0 0 N 1),vi k] [yb l]=some (.one (.bls 0 (k*256) 256 1),[yb l]):=by
 have e:((k:Int)*256).toNat=k*256:=by omega
 have w:(k:Int)*256=((k*256:Nat):Int):=by omega
 generalize d:k*256=m at *;have b:(256:Int).toNat=256:=rfl;refine aB rfl ?_;simp (maxSteps:=2000000) (disch:=omega) only[go_sem,h63c,aZa,a,w,e,b]
