/- Part. Conditions: none. -/
import Derived.Test.YtalhnjjchkmfeabGreatDoorPa
import Derived.Test.YtalhnjjchkmfeabGreatDoorVi
import Derived.Test.YtalhnjjchkmfeabGreatDoorTu
import Derived.Test.YtalhnjjchkmfeabGreatDoorSo
namespace Go.Proofs.YtalhnjjchkmfeabGreatDoor
set_option maxHeartbeats 2000000
set_option linter.unusedSimpArgs false
set_option linter.unusedVariables false
set_option maxRecDepth 4000
section
variable {G:aE}{B:aN}
theorem aHF(n:Int):EV G (Tb B) 184 [vi n] []=some (vb (decide (0<=n/\n<=2147483647)),[]):=by
 have w:=fun n b a=>bQ (G:=G) (B:=B) n b a
 refine aA rfl ?_;by_cases h:0<=n;all_goals simp (disch:=omega) only[go_sem,h184c,w]
 all_goals simp[h]
theorem Eb(a m b n:Int)(h:-1000000<=a/\a<=1000000)(d:-1000000<=m/\m<=1000000)(e:-1000000<=b/\b<=1000000)(c:-1000000<=n/\n<=1000000):EV G (Tb B) 77 [vi a,vi m,vi b,vi n] []=some (vb (En a m b n),[]):=by
 refine aA rfl ?_;by_cases h:a<b+n;all_goals simp (disch:=omega) only[go_sem,h77c]
 all_goals simp[h,En]
theorem aC1(x:Bt):EV G (Tb B) 131 [x.v] []=some (vi (jZ x),[]):=by
 have w:=fun n y c=>bQ (G:=G) (B:=B) n y c
 have s:=aHF (G:=G) (B:=B);by_cases a:64<=x.cl/\x.cl<=512
 rotate_left
 have d:x.num=false:=by rw[bAw];exact fun h=>a (mM.1 h).1
 rw[sP d];refine aA rfl ?_;simp (disch:=omega) only[go_sem,h131c,w,s,a];by_cases h3:8<=x.lc/\x.lc<=64
 rotate_left
 have d:x.num=false:=by rw[bAw];exact fun h=>h3 (mM.1 h).2.2.1
 rw[sP d];refine aA rfl ?_;simp (disch:=omega) only[go_sem,h131c,w,s,a,h3];by_cases b:x.lc.tmod 2=0
 rotate_left
 have d:x.num=false:=by rw[bAw];exact fun h=>b (mM.1 h).2.1
 rw[sP d];refine aA rfl ?_;simp (disch:=omega) only[go_sem,h131c,w,s,a,h3,b];by_cases h4:0<=x.se/\x.se<=2147483647
 rotate_left
 have d:x.num=false:=by rw[bAw];exact fun h=>h4 (mM.1 h).2.2.2
 rw[sP d];refine aA rfl ?_;simp (disch:=omega) only[go_sem,h131c,w,s,a,h3,b,h4];have d:x.num=true:=mM.2 ⟨a,b,h3,h4⟩;by_cases e:1<=x.tb/\x.tb<=x.cl-2
 rotate_left
 have c:x.ins=false:=by rw[bAw];exact fun h=>e (qY.1 h).1
 rw[Ak c];refine aA rfl ?_;simp (disch:=omega) only[go_sem,h131c,w,s,a,h3,b,h4,e];by_cases f:1<=x.mi/\x.mi<=x.cl-2
 rotate_left
 have c:x.ins=false:=by rw[bAw];exact fun h=>f (qY.1 h).2.1
 rw[Ak c];refine aA rfl ?_;simp (disch:=omega) only[go_sem,h131c,w,s,a,h3,b,h4,e,f];by_cases g:1<=x.lg/\x.lg<=x.cl-2
 rotate_left
 have c:x.ins=false:=by rw[bAw];exact fun h=>g (qY.1 h).2.2
 rw[Ak c];refine aA rfl ?_;simp (disch:=omega) only[go_sem,h131c,w,s,a,h3,b,h4,e,f,g];have c:x.ins=true:=qY.2 ⟨e,f,g⟩;by_cases p:x.mi+8<x.cl
 rotate_left
 have hf:x.fit=false:=by rw[bAw];exact fun h=>p (Ea.1 h).1
 have j:x.mi+8 > x.cl-1:=by omega
 rw[Kj d c hf];refine aA rfl ?_;simp (disch:=omega) only[go_sem,h131c,w,s,a,h3,b,h4,e,f,g,j];by_cases q:x.lg+x.lc<x.cl
 rotate_left
 have hf:x.fit=false:=by rw[bAw];exact fun h=>q (Ea.1 h).2
 have j:¬ x.mi+8 > x.cl-1:=by omega
 have i:x.lg+x.lc > x.cl-1:=by omega
 rw[Kj d c hf];refine aA rfl ?_;simp (disch:=omega) only[go_sem,h131c,w,s,a,h3,b,h4,e,f,g,j,i];have j:¬ x.mi+8 > x.cl-1:=by omega
 have i:¬ x.lg+x.lc > x.cl-1:=by omega
 have hf:x.fit=true:=Ea.2 ⟨p,q⟩;have l:=Eb (G:=G) (B:=B) x.tb 2 x.mi 8 (by omega) (by omega) (by omega) (by omega);have m:=Eb (G:=G) (B:=B) x.tb 2 x.lg x.lc (by omega) (by omega) (by omega) (by omega);have o:=Eb (G:=G) (B:=B) x.mi 8 x.lg x.lc (by omega) (by omega) (by omega) (by omega);have k:x.cla=(!En x.tb 2 x.mi 8&&!En x.tb 2 x.lg x.lc&&!En x.mi 8 x.lg x.lc):=rfl;generalize En x.tb 2 x.mi 8=r at l k;generalize En x.tb 2 x.lg x.lc=t at m k;generalize En x.mi 8 x.lg x.lc=u at o k;rw[Uq d c hf,k];refine aA rfl ?_;cases r;cases t
 ·cases u;all_goals simp (disch:=omega) only[go_sem,h131c,w,s,a,h3,b,h4,e,f,g,j,i,l,m,o]
  all_goals rfl
 simp (disch:=omega) only[go_sem,h131c,w,s,a,h3,b,h4,e,f,g,j,i,l,m,o];rfl;simp (disch:=omega) only[go_sem,h131c,w,s,a,h3,b,h4,e,f,g,j,i,l,m,o];rfl
end
section
variable {G:aE}{B:aN}
theorem Fg(n a b:Int):EV G (Tb B) 186 [vi n,vi a,vi b] []=some (vb (decide (a<=n/\n<=b)),[]):=by
 refine aA rfl ?_;by_cases h:a<=n;all_goals simp (disch:=omega) only[go_sem,h186c]
 all_goals simp[h]
theorem Fh(b:Bool)(e:Int):EV G (Tb B) 136 [vb b,vi e] []=some (vi (qG b e),[]):=by
 refine aA rfl ?_;cases b;all_goals simp (disch:=omega) only[go_sem,h136c]
 all_goals rfl
theorem Fi(l:L Int)(h:l.length<=200000):EV G (Tb B) 135 [sv l] []=some (vi 0,[]):=by
 have u:=Fh (G:=G) (B:=B);refine aA rfl ?_;have e:(l.length:Int)<=200000:=by omega
 simp (disch:=omega) only[go_sem,h135c,u,e,eB]
theorem Nk(n:Int)(h:1<=n/\n<=6):EV G (Tb B) 185 [vi n] []=some (vi 0,[]):=by
 have u:=Fh (G:=G) (B:=B);have w:=fun n b a=>Fg (G:=G) (B:=B) n b a
 refine aA rfl ?_;simp (disch:=omega) only[go_sem,h185c,u,w,eB,h]
theorem aHG(l:L Int)(g:l.length<=1000):EV G (Tb B) 134 [vl (el l)] []=some (vi (aT l),[]):=by
 refine aA rfl ?_;simp (disch:=omega) only[go_sem,h134c,aY9];have a:∀ k (b:k < l.length),¬ l.getD k 0≠0->K7 [5,0,0] 0 (EC (EV G (Tb B)) G h134l0 ⟨(jk 5 (vl (el l)::vi l.length::vi k::jk 7 [])),[]⟩)=some ⟨(jk 5 (vl (el l)::vi l.length::vi (k+1:Nat)::jk 7 [])),[]⟩:=fun k b f=>by
  rw[bW l k b] at f;simp (disch:=omega) only[go_sem,h134l0,aY9,tX]
 rcases O3 (fun k=>l.getD k 0≠0) l.length with h|⟨j,e,c,d⟩
 rw[aQ (fun k=>⟨(jk 5 (vl (el l)::vi l.length::vi k::jk 7 [])),[]⟩) l.length ?_ ?_]
 rw[iK l h];simp (disch:=omega) only[go_sem,h134l0];rfl;exact fun k b=>a k b (h k b)
 rw[aQ (fun k=>⟨(jk 5 (vl (el l)::vi l.length::vi k::jk 7 [])),[]⟩) j ?_ ?_]
 rw[kM l j e d c];rw[bW l j e] at c;simp (disch:=omega) only[go_sem,h134l0,aY9,tX];rfl;exact fun k b=>a k (by omega) (d k b)
theorem Ur(a b:Int):EV G (Tb B) 134 [vl [[ci a],[ci b]]] []=some (vi (aT [a,b]),[]):=aHG [a,b] (by simp)
theorem aHH:EV G (Tb B) 187 [vi 4] []=some (vi 4294967296,[]):=by
 refine aA rfl ?_;have e:(1:Int)*2 ^ min 32 64=4294967296:=rfl;simp (disch:=omega) only[go_sem,h187c,Int.reduceMul,Int.reduceToNat,IntKind.bits,e]
theorem aL8(n:Int)(j:Nat)(p:Int)(hp:0<p)(h:(2:Int) ^ min (8*(j:Int)).toNat 64=p):n.fdiv (2 ^ min (8*(j:Int)).toNat 64)=n / p:=by
 rw[h,Int.fdiv_eq_ediv_of_nonneg _ (by omega)]
theorem aC2(n:Int)(k:0<=n/\n<=4294967295):EV G (Tb B) 188 [vi n,vi 4] []=some (sv (bJ n 4),[]):=by
 refine aA rfl ?_;simp (disch:=omega) only[go_sem,h188c];rw[aQ (fun j=>⟨(vi n::jk 4 (.one (.bld 0 4)::jk 4 (vi 4::vi j::jk 13 []))),[.arr 0 1 (bl (bJ n j++(zl 4).drop j))]⟩) 4 ?_ ?_]
 have e:bJ n 4++List.drop 4 (zl 4)=bJ n 4:=by simp[zl]
 have a:List.take 4 (bl (bJ n 4))=bl (bJ n 4):=aZI (by simp[aB]);simp (disch:=omega) only[go_sem,h188l0,e,a,aY9,aB];rfl
 ·intro j i;have b:=aL8 n 0 1 (by decide) rfl;have d:=aL8 n 1 256 (by decide) rfl;have a:=aL8 n 2 65536 (by decide) rfl;have c:=aL8 n 3 16777216 (by decide) rfl;have f:n / 65536=n / 256 / 256:=by omega
  have g:n / 16777216=n / 256 / 256 / 256:=by omega
  rw[Int.ediv_one] at b;rw[f] at a;rw[g] at c;simp only[bAD,Int.natCast_one,show ((2:Nat):Int)=2 from rfl,show ((3:Nat):Int)=3 from rfl] at b d a c
  have h:(2:Int).toNat=2:=rfl;have t3:(3:Int).toNat=3:=rfl;rcases (show j=0\/j=1\/j=2\/j=3 by omega) with rfl|rfl|rfl|rfl
  all_goals simp (disch:=omega) only[go_sem,h188l0,h,t3,bJ,F8,zl,List.replicate,aZW,bAC,aZn,aZp,aZl,aZm,Az,wu8,b,d,a,c,aZP,Int.reduceAdd]
abbrev tS(l:L Int):TV:=.one (.dc (.raw (.string (fF l))))
abbrev tI(n:Int):TV:=.one (.dc (.raw (.int .i64 n)))
theorem Xw(n:Int)(a:0<=n/\n<=4294967295):EV G (Tb B) 133 [vi n,vi 4] []=some (.tup [tS (bJ n 4),tI 0],[]):=by
 have c:=Nk (G:=G) (B:=B) 4 (by omega);have l:=aHH (G:=G) (B:=B);have w:=Fg (G:=G) (B:=B) n 0 4294967295;have q:=aC2 (G:=G) (B:=B) n a;refine aA rfl ?_;simp (disch:=omega) only[go_sem,h133c,c,l,w,q,a,Int.reduceSub]
theorem kP(n:Int)(a:0<=n/\n<=4294967295):EV G (Tb B) 83 [vi n] []=some (sv (bJ n 4),[]):=by
 have q:=Xw (G:=G) (B:=B) n a;refine aA rfl ?_;simp (disch:=omega) only[go_sem,h83c,q]
def aQK(s:Int):Int:=(2*s) % 2147483648+s / 1073741824
def Lq(s c:Int):Int:=(aQK s+c) % 2147483648
def kX(l:L Int):Int:=l.foldl Lq 0
theorem aL9(s c:Int):0<=Lq s c/\Lq s c<=2147483647:=by unfold Lq;omega
theorem Fj(l:L Int)(a:Int):kX (l++[a])=Lq (kX l) a:=by simp[kX]
theorem Ec:∀l:L Int,0<=kX l/\kX l<=2147483647:=by
 intro l;rcases List.eq_nil_or_concat l with rfl|⟨l,a,rfl⟩
 simp[kX];rw[List.concat_eq_append,Fj];exact aL9 _ _
theorem aXI(x:Int)(h:0<=x/\x<=4294967296):Wq .i64 x 2147483647=x % 2147483648:=by
 obtain⟨x,rfl⟩:=bAh h.1;have a:(BitVec.ofInt 64 (x:Int) &&& BitVec.ofInt 64 2147483647).toNat=x % 2147483648:=by
  rw[BitVec.toNat_and,show (BitVec.ofInt 64 2147483647).toNat=2 ^ 31-1 from rfl,Nat.and_two_pow_sub_one_eq_mod,BitVec.ofInt_natCast,BitVec.toNat_ofNat]
  omega
 show IntKind.i64.wrap (((BitVec.ofInt 64 (x:Int) &&& BitVec.ofInt 64 2147483647).toNat:Nat):Int)=_;rw[a,Bp (by omega)];omega
theorem orS(n b:Int)(e:0<=n/\n<=4294967296)(d:0<=b/\b<=1):Wr .i64 (n*2) b=n*2+b:=by
 obtain⟨n,rfl⟩:=bAh e.1;obtain⟨b,rfl⟩:=bAh d.1;have a:((n:Int)*2)=((n*2:Nat):Int):=by simp
 have c:n*2 ||| b=n*2+b:=by
  have:=Nat.shiftLeft_add_eq_or_of_lt (show b<2 ^ 1 by omega) n;rw[Nat.shiftLeft_eq] at this;exact this.symm
 rw[Wr,a,Ji,BitVec.ofInt_natCast,BitVec.ofInt_natCast,BitVec.toNat_or,BitVec.toNat_ofNat,BitVec.toNat_ofNat,bAa (by omega),bAa (by omega),c,Bp (by omega)];simp
theorem aC3(s c:Int)(i:0<=s/\s<=2147483647)(h:0<=c/\c<=255):EV G (Tb B) 139 [vi s,vi c] []=some (vi (Lq s c),[]):=by
 have a:s*2 ^ min 1 64=s*2:=rfl;have b:s.fdiv (2 ^ min 30 64)=s / 1073741824:=Int.fdiv_eq_ediv_of_nonneg _ (by decide);have d:Wq .i64 (s*2) 2147483647=s % 1073741824*2:=by rw[aXI _ (by omega)];omega
 have e:=orS (s % 1073741824) (s / 1073741824) (by omega) (by omega);have f:Lq s c=(s % 1073741824*2+s / 1073741824+c) % 2147483648:=by unfold Lq aQK;omega
 have g:(s % 1073741824*2+s / 1073741824+c).tmod 2147483648=(s % 1073741824*2+s / 1073741824+c) % 2147483648:=bAE (by omega);refine aA rfl ?_;simp (disch:=omega) only[go_sem,h139c,Int.reduceToNat,IntKind.bits,a,b,d,e,f,g]
theorem aMa(l:L Int)(a:aH l)(e:l.length<=200000):EV G (Tb B) 138 [sv l,vi 0,.one (.fn 139 [])] []=some (.tup [tI (kX l),tI 0],[]):=by
 have q:=Fi (G:=G) (B:=B) l e;have d:=nW l a;refine aA rfl ?_;simp (disch:=omega) only[go_sem,h138c,q,d,aY9];rw[aQ (fun k=>⟨(jk 1 (vi (kX (l.take k))::.one (.fn 139 [])::jk 14 (vl (bl l)::vi l.length::vi k::jk 10 []))),[]⟩) l.length ?_ ?_]
 simp (disch:=omega) only[go_sem,h138l0,aZO];rfl;intro k c;have b:=a _ (aZk c);have s:=aC3 (G:=G) (B:=B) (kX (l.take k)) l[k] (Ec _) b;have f:=iB _ b;rw[aZ5 c,Fj];simp (disch:=omega) only[go_sem,h138l0,aY9,Az,s,f,aZu]
theorem aHI(l:L Int)(a:aH l)(b:l.length<=200000):EV G (Tb B) 85 [sv l] []=some (.tup [tI (kX l),tI 0],[]):=by
 have q:=aMa (G:=G) (B:=B) l a b;refine aA rfl ?_;simp (disch:=omega) only[go_sem,h85c,q]
theorem aQL(l:L Int)(b:aH l)(m:l.length<=4):EV G (Tb B) 278 [sv l] []=some (vi (gv l),[]):=by
 refine aA rfl ?_;have g:gv l=gL l 0 l.length:=by unfold gL;rw[aZW,aZO]
 rw[g];simp (disch:=first|omega|(simp only[aZa,aZb,aZc,aY9,aB];omega)) only[go_sem,h278c]
 rw[aQ (fun j=>⟨(sv l::jk 2 (vi (gL l (l.length-j) j)::vi ((l.length:Int)-1-j)::jk 15 [])),[]⟩) l.length ?_ ?_]
 have a:¬ 0<=(l.length:Int)-1-(l.length:Int):=by omega
 have e:l.length-l.length=0:=by omega
 simp (disch:=first|omega|(simp only[aZa,aZb,aZc,aY9,aB];omega)) only[go_sem,h278l0,a,e]
 simp[gL,gv,jk];intro j k;have c:=b _ (aZk (show l.length-1-j<l.length by omega));have h:=lC b (l.length-j) j (by omega);have d:gL l (l.length-(j+1)) (j+1)=gL l (l.length-j) j*256+l[l.length-1-j]'(by omega):=by
  have:l.length-(j+1)<l.length:=by omega
  rw[aG4 l _ j this,show l.length-(j+1)+1=l.length-j by omega,Int.mul_comm];rw[Int.add_comm];congr 1;congr 1;omega
 have a:0<=(l.length:Int)-1-(j:Int):=by omega
 rw[d];generalize gL l (l.length-j) j=z at h ⊢;have f:((l.length:Int)-1-(j:Int)).toNat=l.length-1-j:=by omega
 have i:=iB _ c;have o:=orL z _ (by omega) c;simp (disch:=first|omega|(simp only[aZa,aZb,aZc,aY9,aB];omega)) only[go_sem,h278l0,eq_true a,aZu,f,i,Int.reduceToNat,Int.reducePow,o]
 rw[show (l.length:Int)-1-(j:Int)-1=(l.length:Int)-1-((j:Int)+1) by omega]
theorem aQM(l:L Int)(a k:Nat)(h:a+k<=l.length)(g:1<=k/\k<=6)(d:l.length<=200000):EV G (Tb B) 277 [sv l,vi a,vi k] []=some (.tup [tS ((l.drop a).take k),tI 0],[]):=by
 have q:=Fi (G:=G) (B:=B) l d;have c:=Nk (G:=G) (B:=B) k (by omega);have f:=Ur (G:=G) (B:=B) 0 0;have w:=Fg (G:=G) (B:=B) a 0 ((l.length:Int)-k);have e:(0:Int)<=a/\(a:Int)<=(l.length:Int)-k:=by omega
 rw[decide_eq_true e] at w;have b:aT [0,0]=0:=rfl;rw[b] at f;refine aA rfl ?_;simp (disch:=first|omega|(simp only[aZa,aZb,aZc,aY9,aB,aZg,aZd,aZh,aC,aP]<;>omega)|fail) only[go_sem,h277c,q,c,f,w]
theorem A8(l:L Int)(b:aH l)(a:Nat)(h:a+4<=l.length)(d:l.length<=200000):EV G (Tb B) 238 [sv l,vi a,vi 4] []=some (.tup [tI (gL l a 4),tI 0],[]):=by
 have c:=aQM (G:=G) (B:=B) l a 4 h (by omega) d;have n:=aQL (G:=G) (B:=B) ((l.drop a).take 4) (Af b a 4) (by rw[aZd];omega);rw[show ((4:Nat):Int)=4 from rfl] at c
 refine aA rfl ?_;simp (disch:=omega) only[go_sem,h238c,c,n,gL]
theorem aQN(d:B 137 [.one (.dc (.raw (.string ⟨#[0]⟩))),vi 28] []=some (sv (zl 28),[]))(l:L Int)(h:l.length=32):EV G (Tb B) 84 [sv l,vi 60] []=some (.tup [tS (l++zl 28),tI 0],[]):=by
 have q:=Fi (G:=G) (B:=B) l (by omega);have u:=Fh (G:=G) (B:=B) true 11;have f:=Ur (G:=G) (B:=B) 0 0;have b:aT [0,0]=0:=rfl;rw[b] at f;have a:EV G (Tb B) 137 [.one (.dc (.raw (.string ⟨#[0]⟩))),vi 28] []=some (sv (zl 28),[]):=jO rfl d;refine aA rfl ?_;have c:(l.length:Int)=32:=by omega
 have m:(32:Int).tmod 60=32:=rfl;simp (disch:=first|omega|(simp only[aZa,aZb,aZc,aY9,aB,aZg,aZd,aZh,aC,aP]<;>omega)|fail) only[go_sem,h84c,q,u,f,c,m,a,eB,Int.reduceLT,Int.reduceSub,Int.reduceGT,decide_true,decide_false,Int.reduceEq]
end
section
variable {G:aE}{B:aN}
abbrev ptB:L aU:=[.ptr 0 0,.ptr 0 1,.ptr 0 2,.ptr 0 3,.ptr 0 4,.ptr 0 5]
theorem aC4(x:Bt):qL true h82.rs 1 (EC (EV G (Tb B)) G h82.code ⟨[.one (.ptr 0 0)]++tW (h82.nt-1),[x.o]⟩)=some (.one (.bls 1 0 6 1),[x.o,.box ptB]):=by
 simp (maxSteps:=2000000) (disch:=omega) only[go_sem,h82c]
def Am:L Int:=[68,69,80,79,83,73,84,49]
def Bt.fs(x:Bt):L Int:=[x.cl,x.tb,x.mi,x.lg,x.lc,x.se]
def Bt.hd(x:Bt)(k:Nat):L Int:=Am++((x.fs.take k).flatMap fun n=>bJ n 4)
def Bt.s60(x:Bt):L Int:=x.hd 6++zl 28
def Bt.bs(x:Bt):L Int:=x.s60++bJ (kX x.s60) 4
theorem aVm(x:Bt):x.hd 0=Am:=by simp[Bt.hd]
theorem aMc(x:Bt):x.hd 1=x.hd 0++bJ x.cl 4:=by simp[Bt.hd,Bt.fs]
theorem aMd(x:Bt):x.hd 2=x.hd 1++bJ x.tb 4:=by simp[Bt.hd,Bt.fs]
theorem aMe(x:Bt):x.hd 3=x.hd 2++bJ x.mi 4:=by simp[Bt.hd,Bt.fs]
theorem aMf(x:Bt):x.hd 4=x.hd 3++bJ x.lg 4:=by simp[Bt.hd,Bt.fs]
theorem aMg(x:Bt):x.hd 5=x.hd 4++bJ x.lc 4:=by simp[Bt.hd,Bt.fs]
theorem aMh(x:Bt):x.hd 6=x.hd 5++bJ x.se 4:=by simp[Bt.hd,Bt.fs]
theorem Kk(x:Bt)(k:Nat)(h:k<=6):(x.hd k).length=8+4*k:=by
 rcases (show k=0\/k=1\/k=2\/k=3\/k=4\/k=5\/k=6 by omega) with rfl|rfl|rfl|rfl|rfl|rfl|rfl<;>simp[Bt.hd,Bt.fs,aB,Am]
theorem Nl:aH Am:=by unfold aH Am;decide
theorem aMi(x:Bt)(k:Nat):aH (x.hd k):=by
 intro b c;rcases bAB.1 c with h|h
 exact Nl b h;obtain⟨n,_,a⟩:=List.mem_flatMap.1 h;exact cW _ _ b a
theorem Kl(x:Bt):aH x.s60:=by
 intro b a;rcases bAB.1 a with h|h
 exact aMi x 6 b h;have:=(List.mem_replicate.1 h).2;omega
theorem A9(x:Bt):x.s60.length=60:=by rw[Bt.s60,aZa,Kk x 6 (by omega),aP]
theorem Km(x:Bt):x.bs.length=64:=by rw[Bt.bs,aZa,A9,aB]
theorem Ba(x:Bt):aH x.bs:=by
 intro b a;rcases bAB.1 a with h|h
 exact Kl x b h;exact cW _ _ b h
theorem Nn(x:Bt)(hf:EV G (Tb B) 82 [.one (.ptr 0 0)] [x.o]=some (.one (.bls 1 0 6 1),[x.o,.box ptB]))(w:B 137 [.one (.dc (.raw (.string ⟨#[0]⟩))),vi 28] []=some (sv (zl 28),[])) (f:∀n∈x.fs,0<=n/\n<=4294967295):EV G (Tb B) 38 [x.v] []=some (sv x.bs,[]):=by
 refine aA rfl ?_;simp (maxSteps:=2000000) (disch:=omega) only[go_sem,h38c,hf];rw[aQ (fun k=>⟨(jk 3 (sv (x.hd k)::jk 4 (.one (.bls 1 0 6 1)::vi 6::vi k::jk 24 []))),[x.o,.box ptB]⟩) 6 ?_ ?_]
 have h:=Kk x 6 (by omega);have p:=aQN (G:=G) w (x.hd 6) h;have s:=aHI (G:=G) (B:=B) x.s60 (Kl x) (by rw[A9];omega);have q:=kP (G:=G) (B:=B) (kX x.s60) (by have:=Ec x.s60;omega);have e:x.bs=x.s60++bJ (kX x.s60) 4:=rfl;have d:=A9 x;change EV G (Tb B) _ _ _=some (.tup [tS x.s60,tI 0],[]) at p;rw[e];generalize x.s60=S at p s q d ⊢;generalize x.hd 6=H at p h ⊢;simp (maxSteps:=2000000) (disch:=first|omega|(simp only[aZa,aZb,aZc,aY9,aB,aZg,aZd,aZh,aC,aP]<;>omega)|fail) only[go_sem,h38l0,p,s,q]
 rfl;intro j y;have g:=fun n=>kP (G:=G) (B:=B) n
 simp only[Bt.fs,bAl,bAF,or_false,forall_eq_or_imp,forall_eq] at f;obtain⟨i,l,m,r,t,u⟩:=f;have a:=Kk x j (by omega);have b:(2:Int).toNat=2:=rfl;have t3:(3:Int).toNat=3:=rfl;have c:(4:Int).toNat=4:=rfl;have t5:(5:Int).toNat=5:=rfl;rcases (show j=0\/j=1\/j=2\/j=3\/j=4\/j=5 by omega) with rfl|rfl|rfl|rfl|rfl|rfl
 have q:=kP (G:=G) (B:=B) x.cl i;rw[aMc];generalize x.hd 0=H at a ⊢;simp (maxSteps:=2000000) (disch:=first|omega|(simp only[aZa,aZb,aZc,aY9,aB,aZg,aZd,aZh,aC,aP]<;>omega)|fail) only[go_sem,h38l0,q,Int.reduceAdd,aZP,b,t3,c,t5]
 have q:=kP (G:=G) (B:=B) x.tb l;rw[aMd];generalize x.hd 1=H at a ⊢;simp (maxSteps:=2000000) (disch:=first|omega|(simp only[aZa,aZb,aZc,aY9,aB,aZg,aZd,aZh,aC,aP]<;>omega)|fail) only[go_sem,h38l0,q,Int.reduceAdd,aZP,b,t3,c,t5]
 have q:=kP (G:=G) (B:=B) x.mi m;rw[aMe];generalize x.hd 2=H at a ⊢;simp (maxSteps:=2000000) (disch:=first|omega|(simp only[aZa,aZb,aZc,aY9,aB,aZg,aZd,aZh,aC,aP]<;>omega)|fail) only[go_sem,h38l0,q,Int.reduceAdd,aZP,b,t3,c,t5]
 have q:=kP (G:=G) (B:=B) x.lg r;rw[aMf];generalize x.hd 3=H at a ⊢;simp (maxSteps:=2000000) (disch:=first|omega|(simp only[aZa,aZb,aZc,aY9,aB,aZg,aZd,aZh,aC,aP]<;>omega)|fail) only[go_sem,h38l0,q,Int.reduceAdd,aZP,b,t3,c,t5]
 have q:=kP (G:=G) (B:=B) x.lc t;rw[aMg];generalize x.hd 4=H at a ⊢;simp (maxSteps:=2000000) (disch:=first|omega|(simp only[aZa,aZb,aZc,aY9,aB,aZg,aZd,aZh,aC,aP]<;>omega)|fail) only[go_sem,h38l0,q,Int.reduceAdd,aZP,b,t3,c,t5]
 have q:=kP (G:=G) (B:=B) x.se u;rw[aMh];generalize x.hd 5=H at a ⊢;simp (maxSteps:=2000000) (disch:=first|omega|(simp only[aZa,aZb,aZc,aY9,aB,aZg,aZd,aZh,aC,aP]<;>omega)|fail) only[go_sem,h38l0,q,Int.reduceAdd,aZP,b,t3,c,t5]
end
section
variable {G:aE}{B:aN}
noncomputable def Xx(l:L Int):Nat:=ix (fun k=>¬ l.getD (l.length-1-k) 0=0) l.length
noncomputable def lzN(l:L Int):Nat:=ix (fun k=>¬ l.getD k 0=0) l.length
theorem Hl{l:L Int}{k:Nat}{x:Int}(h:k<l.length)(e:l.getD k 0=x):l[k]?=some x:=by
 simp only[aZo,aZi h,aZU] at e ⊢;rw[e]
theorem aHJ(l:L Int)(d:aH l)(o:l.length<=1000000):EV G (Tb B) 242 [sv l,vu 0] []=some (sv (l.take (l.length-Xx l)),[]):=by
 refine aA rfl ?_;have h6:((u8 0).toNat:Int)=0:=rfl;simp (disch:=omega) only[go_sem,h242c];rw[dP (fun k=>⟨(sv (l.take (l.length-k))::vu 0::jk 21 []),[]⟩) (fun k=>¬ l.getD (l.length-1-k) 0=0) l.length ?_ ?_]
 rotate_left
 simp[jk];intro k h b;have c:=Classical.not_not.1 (b k (aZe _));have a:(l.take (l.length-k)).length=l.length-k:=by rw[aZd];omega
 have g:(l.take (l.length-k))[l.length-k-1]?=some 0:=by
  rw[aZL,if_pos (by omega),show l.length-k-1=l.length-1-k by omega];exact Hl (by omega) c
 have e:(l.take (l.length-k)).take (l.length-k-1)=l.take (l.length-(k+1)):=by
  rw[List.take_take];congr 1;omega
 have hp:((l.length-k:Nat):Int) > 0:=by omega
 have j:l.length-k<=1000000:=by omega
 generalize l.take (l.length-k)=T at a g e ⊢;generalize l.take (l.length-(k+1))=T' at e ⊢;generalize l.length-k=n at *;simp (disch:=omega) only[go_sem,h242l0,aC,a,g,e,eq_true hp,h6];obtain⟨h,hp,b⟩:=bI (fun k=>¬ l.getD (l.length-1-k) 0=0) l.length
 rw[show Xx l=ix (fun k=>¬ l.getD (l.length-1-k) 0=0) l.length from rfl]
 generalize ix (fun k=>¬ l.getD (l.length-1-k) 0=0) l.length=k at *
 have a:(l.take (l.length-k)).length=l.length-k:=by rw[aZd];omega
 rcases hp with rfl|⟨i,hp⟩;rw[aZ1] at a ⊢;simp (disch:=omega) only[go_sem,h242l0,aC,a];have g:(l.take (l.length-k))[l.length-k-1]?=some (l.getD (l.length-1-k) 0):=by
  rw[aZL,if_pos (by omega),show l.length-k-1=l.length-1-k by omega];exact Hl (by omega) rfl
 have f:0<=l.getD (l.length-1-k) 0/\l.getD (l.length-1-k) 0<=255:=by
  rw[bW l _ (by omega)];exact d _ (aZk _)
 have hp':((l.length-k:Nat):Int) > 0:=by omega
 have j:l.length-k<=1000000:=by omega
 generalize l.getD (l.length-1-k) 0=x at *;have m:=iB x f;generalize l.take (l.length-k)=T at a g ⊢;generalize l.length-k=n at *;simp (disch:=omega) only[go_sem,h242l0,aC,a,g,eq_true hp',m,eq_false hp]
theorem aHK(l:L Int)(d:aH l)(p:l.length<=1000000):EV G (Tb B) 241 [sv l,vu 0] []=some (sv (l.drop (lzN l)),[]):=by
 refine aA rfl ?_;have h6:((u8 0).toNat:Int)=0:=rfl;simp (disch:=omega) only[go_sem,h241c];rw[dP (fun k=>⟨(sv (l.drop k)::vu 0::jk 15 []),[]⟩) (fun k=>¬ l.getD k 0=0) l.length ?_ ?_]
 rotate_left
 simp[jk];intro k h b;have c:=Classical.not_not.1 (b k (aZe _));have a:(l.drop k).length=l.length-k:=aZh;have g:(l.drop k)[0]?=some 0:=by
  rw[aZK];exact Hl (by omega) c
 have e:(l.drop k).drop 1=l.drop (k+1):=by rw[aZ6]
 have hp:((l.length-k:Nat):Int) > 0:=by omega
 have j:l.length-k<=1000000:=by omega
 have q:1<=l.length-k:=by omega
 generalize l.drop k=T at a g e ⊢;generalize l.drop (k+1)=T' at e ⊢;generalize l.length-k=n at *;have o:T.take n=T:=by rw[<- a,aZO]
 simp (disch:=omega) only[go_sem,h241l0,aC,a,g,e,eq_true hp,h6,o];obtain⟨h,hp,b⟩:=bI (fun k=>¬ l.getD k 0=0) l.length
 rw[show lzN l=ix (fun k=>¬ l.getD k 0=0) l.length from rfl]
 generalize ix (fun k=>¬ l.getD k 0=0) l.length=k at *
 have a:(l.drop k).length=l.length-k:=aZh;rcases hp with rfl|⟨i,hp⟩
 rw[aZ1] at a;simp (disch:=omega) only[go_sem,h241l0,aC,a];have g:(l.drop k)[0]?=some (l.getD k 0):=by
  rw[aZK];exact Hl (by omega) rfl
 have f:0<=l.getD k 0/\l.getD k 0<=255:=by
  rw[bW l _ (by omega)];exact d _ (aZk _)
 have hp':((l.length-k:Nat):Int) > 0:=by omega
 have j:l.length-k<=1000000:=by omega
 generalize l.getD k 0=x at *;have m:=iB x f;generalize l.drop k=T at a g ⊢;generalize l.length-k=n at *;simp (disch:=omega) only[go_sem,h241l0,aC,a,g,eq_true hp',m,eq_false hp]
noncomputable def trZ(l:L Int):L Int:=(l.take (l.length-Xx l)).drop (lzN (l.take (l.length-Xx l)))
theorem aMj(l:L Int):trZ l=[]↔l=zl l.length:=by
 obtain⟨j,hp,b⟩:=bI (fun k=>¬ l.getD (l.length-1-k) 0=0) l.length
 have e:Xx l=ix (fun k=>¬ l.getD (l.length-1-k) 0=0) l.length:=rfl
 rw[<- e] at j hp b;constructor;intro h;rcases hp with hp|⟨g,a⟩
 refine List.ext_getElem (by rw[aP]) fun i h3 h4=>?_
 have h5:=Classical.not_not.1 (b (l.length-1-i) (by omega));rw[show l.length-1-(l.length-1-i)=i by omega,bW l i h3] at h5;rw[h5];simp[zl];exfalso;unfold trZ at h;obtain⟨o,p,d⟩:=bI (fun k=>¬ (l.take (l.length-Xx l)).getD k 0=0) (l.take (l.length-Xx l)).length
 have f:lzN (l.take (l.length-Xx l))=ix (fun k=>¬ (l.take (l.length-Xx l)).getD k 0=0) (l.take (l.length-Xx l)).length:=rfl
 rw[<- f] at o p d;have q:(l.take (l.length-Xx l)).length=l.length-Xx l:=by rw[aZd];omega
 rw[List.drop_eq_nil_iff] at h;have h3:=d (l.length-1-Xx l) (by omega);apply a;have h4:=Classical.not_not.1 h3;simp only[aZo,aZL] at h4 ⊢;rw[if_pos (by omega)] at h4;exact h4;intro h;have n:Xx l=l.length:=by
  rcases hp with hp|⟨g,a⟩;exact hp
  exfalso;apply a;have m:∀ x∈l,x=0:=fun x c=>by
   rw[h] at c;exact (List.mem_replicate.1 c).2
  rw[bW l _ (by omega)];exact m _ (aZk _)
 unfold trZ;rw[n,aZ1,bAg,List.drop_nil]
theorem aHL{l:L Int}(h:aH l):aH (trZ l):=fun x a=>h x (aZA (aZM a))
theorem aMk(l:L Int)(a:aH l)(g:l.length<=1000000)(f:l≠[]):EV G (Tb B) 211 [sv l,.one (.dc (.raw (.string ⟨#[0]⟩)))] []=some (sv (trZ l),[]):=by
 have k:=aHJ (G:=G) (B:=B) l a g;have m:=aHK (G:=G) (B:=B) (l.take (l.length-Xx l)) (fun x i=>a x (aZA i)) (by rw[aZd];omega)
 have j:Hw (.one (.dc (.raw (.string ⟨#[0]⟩)))) 0=some (vu 0):=by rfl
 have b:¬ fF l=⟨#[]⟩:=by
  intro h;have:=congrArg ByteArray.size h;rw[aC] at this;exact f (List.length_eq_zero_iff.1 this)
 have c:¬ (⟨#[0]⟩:ByteArray)=⟨#[]⟩:=by decide
 have e:((UInt8.toNat 0:Nat):Int)=0:=rfl;have d:(((#[0]:Array UInt8).size:Nat):Int)=1:=rfl;refine aA rfl ?_;simp (disch:=omega) only[go_sem,h211c,k,m,j,b,c,d,e,trZ]
theorem aMl(s p:L Int)(a:aH s)(hp:aH p)(d:s.length<=1000000)(h:p.length<=s.length):EV G (Tb B) 163 [sv s,sv p] []=some (vb (decide (s.take p.length=p)),[]):=by
 have b:aH (s.take p.length):=fun x c=>a x (aZA c)
 have e:=dA b hp;have l:EV G (Tb B) 214 [sv s,sv p] []=some (vb (decide (s.take p.length=p)),[]):=by
  refine aA rfl ?_;simp (disch:=first|omega|(simp only[aZa,aZb,aZc,aY9,aB,aZg,aZd,aZh,aC,aP]<;>omega)|fail) only[go_sem,h214c,aC,e]
 refine aA rfl ?_;simp (disch:=omega) only[go_sem,h163c,l]
end
section
variable {G:aE}{B:aN}
def nB:Bt:=⟨0,0,0,0,0,0⟩
def pA(s:L Int)(k:Nat):Bt:=⟨if 0<k then gL s 8 4 else 0,if 1<k then gL s 12 4 else 0,if 2<k then gL s 16 4 else 0,if 3<k then gL s 20 4 else 0,if 4<k then gL s 24 4 else 0,if 5<k then gL s 28 4 else 0⟩
noncomputable def aQO(s:L Int):Bool:=decide (s.take 8=Am)&&decide (trZ ((s.take 60).drop 32)=[])&&decide (s.drop 60=bJ (kX (s.take 60)) 4)
noncomputable def fR(s:L Int):Bt×Int:=if s.length=64 then if aQO s=true then (if jZ (pA s 6)=0 then (pA s 6,0) else (nB,jZ (pA s 6))) else (nB,3) else (nB,10)
abbrev ptC:L aU:=[.ptr 1 0,.ptr 1 1,.ptr 1 2,.ptr 1 3,.ptr 1 4,.ptr 1 5]
theorem aVn(s:L Int):pA s 0=⟨0,0,0,0,0,0⟩:=by simp[pA]
theorem aVo(s:L Int):pA s 1=⟨gL s 8 4,0,0,0,0,0⟩:=by simp[pA]
theorem aVp(s:L Int):pA s 2=⟨gL s 8 4,gL s 12 4,0,0,0,0⟩:=by simp[pA]
theorem aVq(s:L Int):pA s 3=⟨gL s 8 4,gL s 12 4,gL s 16 4,0,0,0⟩:=by simp[pA]
theorem aVr(s:L Int):pA s 4=⟨gL s 8 4,gL s 12 4,gL s 16 4,gL s 20 4,0,0⟩:=by simp[pA]
theorem aVs(s:L Int):pA s 5=⟨gL s 8 4,gL s 12 4,gL s 16 4,gL s 20 4,gL s 24 4,0⟩:=by simp[pA]
theorem aHM(s:L Int):pA s 6=⟨gL s 8 4,gL s 12 4,gL s 16 4,gL s 20 4,gL s 24 4,gL s 28 4⟩:=by simp[pA]
theorem Np(hf:∀x:Bt,EV G (Tb B) 82 [.one (.ptr 0 0)] [x.o]=some (.one (.bls 1 0 6 1),[x.o,.box ptB]))(s:L Int)(m:aH s)(w:s.length<=200000):EV G (Tb B) 204 [sv s] []=some (.tup [.agg (fR s).1.cs,tI (fR s).2],[]):=by
 have Q:EV G (Tb B) 82 [.one (.ptr 0 0)] [.box [.dc (.raw (Zi 0)),.dc (.raw (Zi 0)),.dc (.raw (Zi 0)),.dc (.raw (Zi 0)),.dc (.raw (Zi 0)),.dc (.raw (Zi 0))]]=some (.one (.bls 1 0 6 1),[.box [.dc (.raw (Zi 0)),.dc (.raw (Zi 0)),.dc (.raw (Zi 0)),.dc (.raw (Zi 0)),.dc (.raw (Zi 0)),.dc (.raw (Zi 0))],.box ptB]):=hf nB;by_cases h:s.length=64
 rotate_left
 rw[show fR s=(nB,10) by unfold fR;rw[if_neg h]];refine aA rfl ?_;have e:¬ (s.length:Int)=64:=by omega
 simp (disch:=omega) only[go_sem,h204c,aC,e];rfl;have v:(s.length:Int)=64:=by omega
 refine aA rfl ?_;simp (maxSteps:=2000000) (disch:=omega) only[go_sem,h204c,aC,v,Q,Int.reduceEq];rw[aQ (fun k=>⟨(sv s::jk 1 (.one (.ptr 0 0)::jk 1 (.one (.ptr 1 0)::jk 10 (.one (.bls 2 0 6 1)::vi 6::vi k::jk 51 [])))),[nB.o,(pA s k).o,.box ptC]⟩) 6 ?_ ?_]
 rotate_left
 rw[aVn];rfl;intro j T;have A:(2:Int).toNat=2:=rfl;have t3:(3:Int).toNat=3:=rfl;have C:(4:Int).toNat=4:=rfl;have t5:(5:Int).toNat=5:=rfl;rcases (show j=0\/j=1\/j=2\/j=3\/j=4\/j=5 by omega) with rfl|rfl|rfl|rfl|rfl|rfl
 have q:=A8 (G:=G) (B:=B) s m 8 (by omega) w;rw[show ((8:Nat):Int)=8 from rfl] at q
 rw[aVn,aVo];generalize gL s 8 4=z at q ⊢;simp (maxSteps:=2000000) (disch:=omega) only[go_sem,h204l0,q,Bt.o,Bt.cs,nB,Int.reduceAdd,Int.reduceMul,aZP,A,t3,C,t5];have q:=A8 (G:=G) (B:=B) s m 12 (by omega) w;rw[show ((12:Nat):Int)=12 from rfl] at q
 rw[aVo,aVp];generalize gL s 12 4=z at q ⊢;simp (maxSteps:=2000000) (disch:=omega) only[go_sem,h204l0,q,Bt.o,Bt.cs,nB,Int.reduceAdd,Int.reduceMul,aZP,A,t3,C,t5];have q:=A8 (G:=G) (B:=B) s m 16 (by omega) w;rw[show ((16:Nat):Int)=16 from rfl] at q
 rw[aVp,aVq];generalize gL s 16 4=z at q ⊢;simp (maxSteps:=2000000) (disch:=omega) only[go_sem,h204l0,q,Bt.o,Bt.cs,nB,Int.reduceAdd,Int.reduceMul,aZP,A,t3,C,t5];have q:=A8 (G:=G) (B:=B) s m 20 (by omega) w;rw[show ((20:Nat):Int)=20 from rfl] at q
 rw[aVq,aVr];generalize gL s 20 4=z at q ⊢;simp (maxSteps:=2000000) (disch:=omega) only[go_sem,h204l0,q,Bt.o,Bt.cs,nB,Int.reduceAdd,Int.reduceMul,aZP,A,t3,C,t5];have q:=A8 (G:=G) (B:=B) s m 24 (by omega) w;rw[show ((24:Nat):Int)=24 from rfl] at q
 rw[aVr,aVs];generalize gL s 24 4=z at q ⊢;simp (maxSteps:=2000000) (disch:=omega) only[go_sem,h204l0,q,Bt.o,Bt.cs,nB,Int.reduceAdd,Int.reduceMul,aZP,A,t3,C,t5];have q:=A8 (G:=G) (B:=B) s m 28 (by omega) w;rw[show ((28:Nat):Int)=28 from rfl] at q
 rw[aVs,aHM];generalize gL s 28 4=z at q ⊢;simp (maxSteps:=2000000) (disch:=omega) only[go_sem,h204l0,q,Bt.o,Bt.cs,nB,Int.reduceAdd,Int.reduceMul,aZP,A,t3,C,t5];have a:(s.take 60).length=60:=by rw[aZd];omega
 have M:=aHI (G:=G) (B:=B) (s.take 60) (fun x p=>m x (aZA p)) (by omega)
 have d:=hf (pA s 6);have I:aH (s.take 60):=fun x p=>m x (aZA p)
 have J:aH ((s.take 60).drop 32):=fun x p=>I x (aZM p)
 have K:((s.take 60).drop 32).length=28:=by rw[aZh];omega
 have N:=aMk (G:=G) (B:=B) ((s.take 60).drop 32) J (by omega) (by intro e;rw[e] at K;cases K);have y:EV G (Tb B) 163 [sv s,.one (.dc (.raw (.string ⟨#[68,69,80,79,83,73,84,49]⟩)))] []=some (vb (decide (s.take 8=Am)),[]):=aMl s Am m Nl (by omega) (by rw[h];decide);have O:=kP (G:=G) (B:=B) (kX (s.take 60)) (by have:=Ec (s.take 60);omega);have u:=jH (G:=G) (B:=B);have f:=qH (G:=G) (B:=B);have c:=Al (G:=G) (B:=B) (pA s 6);have H:(fF (trZ ((s.take 60).drop 32))=⟨#[]⟩)=(trZ ((s.take 60).drop 32)=[]):=dA (b:=[]) (aHL J) (fun b S=>by cases S)
 have F:(fF (s.drop 60)=fF (bJ (kX (s.take 60)) 4))=(s.drop 60=bJ (kX (s.take 60)) 4):=dA (fun x p=>m x (aZM p)) (cW _ _)
 have r:fR s=if (decide (s.take 8=Am)&&decide (trZ ((s.take 60).drop 32)=[])&&decide (s.drop 60=bJ (kX (s.take 60)) 4))=true then (if jZ (pA s 6)=0 then (pA s 6,0) else (nB,jZ (pA s 6))) else (nB,3):=by
  unfold fR;rw[if_pos h];rfl
 have g:(8:Int)+4*6=32:=rfl;have l:(60:Int).toNat=60:=rfl;have i:(32:Int).toNat=32:=rfl;generalize pA s 6=X at d c r ⊢;generalize fR s=D at r ⊢;generalize decide (s.take 8=Am)=R at y r;cases R;have n:D=(nB,3):=by rw[r];rfl
 rw[n];simp (maxSteps:=2000000) (disch:=omega) only[go_sem,h204l0,M,N,y,O,u,c,f,d,v,a,H,F,g,l,i,Bt.o,Bt.cs,nB,cB,eB,fE,Int.reduceMul,Int.reduceAdd,Int.reduceEq,if_true,if_false];by_cases t:trZ ((s.take 60).drop 32)=[];by_cases E:s.drop 60=bJ (kX (s.take 60)) 4;rw[decide_eq_true t,decide_eq_true E] at r;by_cases P:jZ X=0;have n:D=(X,0):=by rw[r];simp[P]
 rw[n];simp (maxSteps:=2000000) (disch:=omega) only[go_sem,h204l0,M,N,y,O,u,c,f,d,v,a,H,F,g,l,i,Bt.o,Bt.cs,nB,cB,eB,fE,Int.reduceMul,Int.reduceAdd,Int.reduceEq,if_true,if_false,eq_true t,eq_true E,P];have n:D=(nB,jZ X):=by rw[r];simp[P]
 rw[n];simp (maxSteps:=2000000) (disch:=omega) only[go_sem,h204l0,M,N,y,O,u,c,f,d,v,a,H,F,g,l,i,Bt.o,Bt.cs,nB,cB,eB,fE,Int.reduceMul,Int.reduceAdd,Int.reduceEq,if_true,if_false,eq_true t,eq_true E,P];rw[decide_eq_false E] at r;have n:D=(nB,3):=by rw[r];simp
 rw[n];simp (maxSteps:=2000000) (disch:=omega) only[go_sem,h204l0,M,N,y,O,u,c,f,d,v,a,H,F,g,l,i,Bt.o,Bt.cs,nB,cB,eB,fE,Int.reduceMul,Int.reduceAdd,Int.reduceEq,if_true,if_false,eq_true t,eq_false E];rw[decide_eq_false t] at r;have n:D=(nB,3):=by rw[r];simp
 rw[n];simp (maxSteps:=2000000) (disch:=omega) only[go_sem,h204l0,M,N,y,O,u,c,f,d,v,a,H,F,g,l,i,Bt.o,Bt.cs,nB,cB,eB,fE,Int.reduceMul,Int.reduceAdd,Int.reduceEq,if_true,if_false,eq_false t]
end
section
variable {G:aE}{B:aN}
theorem aQP(l:L Int)(c:aH l)(a k:Nat)(m:a+k<=l.length)(o:k<=4)(p:l.length<=1000000):EV G (Tb B) 67 [sv l,vi a,vi k] []=some (vi (gL l a k),[]):=by
 refine aA rfl ?_;simp (disch:=first|omega|(simp only[aZa,aZb,aZc,aY9,aB];omega)) only[go_sem,h67c]
 rw[aQ (fun j=>⟨(sv l::vi a::jk 5 (vi (gL l (a+k-j) j)::vi ((k:Int)-1-j)::jk 16 [])),[]⟩) k ?_ ?_]
 have e:a+k-k=a:=by omega
 have b:¬ 0<=(k:Int)-1-(k:Int):=by omega
 simp (disch:=first|omega|(simp only[aZa,aZb,aZc,aY9,aB];omega)) only[go_sem,h67l0,e,b]
 simp[gL,gv,jk];intro j n;have i:=c _ (aZk (show a+k-1-j<l.length by omega));have g:=lC c (a+k-j) j (by omega);have d:gL l (a+k-(j+1)) (j+1)=gL l (a+k-j) j*256+l[a+k-1-j]'(by omega):=by
  have:a+k-(j+1)<l.length:=by omega
  rw[aG4 l _ j this,show a+k-(j+1)+1=a+k-j by omega,Int.mul_comm];rw[Int.add_comm];congr 1;congr 1;omega
 have b:0<=(k:Int)-1-(j:Int):=by omega
 rw[d];generalize gL l (a+k-j) j=z at g ⊢;have f:((a:Int)+((k:Int)-1-(j:Int))).toNat=a+k-1-j:=by omega
 have h:=iB _ i;simp (disch:=first|omega|(simp only[aZa,aZb,aZc,aY9,aB];omega)) only[go_sem,h67l0,eq_true b,aZu,f,h]
 rw[show (k:Int)-1-(j:Int)-1=(k:Int)-1-((j:Int)+1) by omega]
theorem aQQ(l:L Int)(c:aH l)(j:l.length<=200000):EV G (Tb B) 183 [sv l] []=some (vi (kX l),[]):=by
 refine aA rfl ?_;simp (disch:=omega) only[go_sem,h183c];rw[aQ (fun k=>⟨(sv l::jk 2 (vi (kX (l.take k))::vi k::jk 20 [])),[]⟩) l.length ?_ ?_]
 simp (disch:=omega) only[go_sem,h183l0,aZO,aC];rfl;intro k a;have f:=c _ (aZk a);have g:=iB _ f;have b:=Ec (l.take k);rw[aZ5 a,Fj];generalize kX (l.take k)=z at b ⊢;have h:=Mp (G:=G) (B:=B) (z*2) 2147483648;have i:=Mp (G:=G) (B:=B) ((z*2) % 2147483648+z / 1073741824+l[k]) 2147483648;have d:z.tdiv 1073741824=z / 1073741824:=bAL b.1;have e:Lq z l[k]=((z*2) % 2147483648+z / 1073741824+l[k]) % 2147483648:=by unfold Lq aQK;rw[Int.mul_comm 2 z]
 rw[e];simp (disch:=omega) only[go_sem,h183l0,aC,g,h,i,d,aZu]
theorem aHN(x:Bt)(p:Int->Prop)(h:∀n∈x.fs,p n):p x.cl/\p x.tb/\p x.mi/\p x.lg/\p x.lc/\p x.se:=by
 simpa only[Bt.fs,bAl,bAF,or_false,forall_eq_or_imp,forall_eq] using h
theorem aC5(x:Bt)(u:∀n∈x.fs,0<=n/\n<=4294967295):EV G (Tb B) 130 [x.v] []=some (sv x.bs,[]):=by
 obtain⟨l,m,o,p,r,t⟩:=aHN x _ u;have q:=fun n (h:0<=n/\n<=4294967295)=>nQ (G:=G) (B:=B) n 4 (by omega) (by omega)
 have a:=q _ l;have b:=q _ m;have c:=q _ o;have d:=q _ p;have e:=q _ r;have f:=q _ t;have g:=q (kX x.s60) (by have:=Ec x.s60;omega);rw[show ((4:Nat):Int)=4 from rfl] at a b c d e f g
 have z:=He (G:=G) (B:=B) 28 (by omega);rw[show (28:Int).toNat=28 from rfl] at z
 have s:=aQQ (G:=G) (B:=B) x.s60 (Kl x) (by rw[A9];omega);have i:Am++bJ x.cl 4++bJ x.tb 4++bJ x.mi 4++bJ x.lg 4++bJ x.lc 4++bJ x.se 4=x.hd 6:=by
  rw[aMh,aMg,aMf,aMe,aMd,aMc,aVm]
 have C:=Kk x 6 (by omega);have j:x.hd 6++List.replicate 28 0=x.s60:=rfl;have k:x.s60++bJ (kX x.s60) 4=x.bs:=rfl;have es:(⟨#[68,69,80,79,83,73,84,49]⟩:ByteArray)=fF Am:=rfl;have A:Am.length=8:=rfl;have w:=A9 x;generalize x.s60=S at *;generalize x.hd 6=H at *;refine aA rfl ?_;have y:(H.length:Int)=32:=by omega
 simp (maxSteps:=2000000) (disch:=first|omega|(simp only[aZa,aZb,aZc,aY9,aB,aZg,aZd,aZh,aC,aP]<;>omega)|fail) only[go_sem,h130c,es,a,b,c,d,e,f,g,z,s,A,i,j,k,y,Int.reduceSub]
noncomputable def Lr(s:L Int):Bt×Int:=if s.length=64 then if (pA s 6).bs=s then (if jZ (pA s 6)=0 then (pA s 6,0) else (nB,jZ (pA s 6))) else (nB,3) else (nB,10)
theorem aVt{s:L Int}(b:aH s):∀n∈(pA s 6).fs,0<=n/\n<=4294967295:=by
 have h:=fun a=>lC b a 4 (by omega)
 rw[aHM];simp only[Bt.fs,bAl,bAF,or_false,forall_eq_or_imp,forall_eq];exact⟨by have:=h 8;omega,by have:=h 12;omega,by have:=h 16;omega,by have:=h 20;omega,by have:=h 24;omega,by have:=h 28;omega⟩
theorem Us(s:L Int)(p:aH s)(F:s.length<=200000):EV G (Tb B) 74 [sv s] []=some (.tup [.agg (Lr s).1.cs,tI (Lr s).2],[]):=by
 by_cases h:s.length=64
 rotate_left
 rw[show Lr s=(nB,10) by unfold Lr;rw[if_neg h]];refine aA rfl ?_;have e:¬ (s.length:Int)=64:=by omega
 simp (disch:=omega) only[go_sem,h74c,aC,e];rfl;have t:(s.length:Int)=64:=by omega
 have q:=fun a (u:a+4<=s.length)=>aQP (G:=G) (B:=B) s p a 4 u (by omega) (by omega)
 have i:=q 8 (by omega);have j:=q 12 (by omega);have k:=q 16 (by omega);have l:=q 20 (by omega);have m:=q 24 (by omega);have n:=q 28 (by omega);simp only[show ((4:Nat):Int)=4 from rfl,show ((8:Nat):Int)=8 from rfl,show ((12:Nat):Int)=12 from rfl,show ((16:Nat):Int)=16 from rfl,show ((20:Nat):Int)=20 from rfl,show ((24:Nat):Int)=24 from rfl,show ((28:Nat):Int)=28 from rfl] at i j k l m n
 have b:=aC5 (G:=G) (B:=B) (pA s 6) (aVt p);have c:=aC1 (G:=G) (B:=B) (pA s 6);have r:Lr s=if (pA s 6).bs=s then (if jZ (pA s 6)=0 then (pA s 6,0) else (nB,jZ (pA s 6))) else (nB,3):=by unfold Lr;rw[if_pos h]
 have g:(fF (pA s 6).bs=fF s)=((pA s 6).bs=s):=dA (Ba _) p;generalize Lr s=D at r ⊢;generalize E:(pA s 6).bs=Y at b r g;rw[aHM] at b c r;generalize gL s 8 4=w at *;generalize gL s 12 4=x at *;generalize gL s 16 4=y at *;generalize gL s 20 4=z at *;generalize gL s 24 4=A at *;generalize gL s 28 4=C at *;refine aA rfl ?_;by_cases d:Y=s;rw[if_pos d] at r;by_cases f:jZ ⟨w,x,y,z,A,C⟩=0;rw[if_pos f] at r;rw[r];simp (maxSteps:=2000000) (disch:=omega) only[go_sem,h74c,aC,t,i,j,k,l,m,n,b,c,g,d,f,Bt.v,Bt.o,Bt.cs,nB,Int.reduceEq];rw[if_neg f] at r;rw[r];simp (maxSteps:=2000000) (disch:=omega) only[go_sem,h74c,aC,t,i,j,k,l,m,n,b,c,g,d,f,Bt.v,Bt.o,Bt.cs,nB,Int.reduceEq];rw[if_neg d] at r;rw[r];simp (maxSteps:=2000000) (disch:=omega) only[go_sem,h74c,aC,t,i,j,k,l,m,n,b,c,g,d,Bt.v,Bt.o,Bt.cs,nB,Int.reduceEq]
end
section
variable {G:aE}{B:aN}
theorem aMm{x:Bt}(h:jZ x=0):x.num=true/\x.ins=true/\x.fit=true/\x.cla=true:=by
 cases b:x.num with
 |false=>rw[sP b] at h;cases h
 | true=>cases a:x.ins with
  | false=>rw[Ak a] at h;cases h
  | true=>cases hf:x.fit with
   | false=>rw[Kj b a hf] at h;cases h
   | true=>cases c:x.cla with
    | false=>rw[Uq b a hf,c] at h;cases h
    | true=>exact⟨rfl,rfl,rfl,rfl⟩
theorem P7{x:Bt}(h:jZ x=0):∀n∈x.fs,0<=n/\n<=2147483647:=by
 obtain⟨b,a,_,_⟩:=aMm h;obtain⟨c,d,h3,h4⟩:=mM.1 b;obtain⟨e,f,g⟩:=qY.1 a;simp only[Bt.fs,bAl,bAF,or_false,forall_eq_or_imp,forall_eq];omega
theorem aC6(x:Bt)(hf:EV G (Tb B) 82 [.one (.ptr 0 0)] [x.o]=some (.one (.bls 1 0 6 1),[x.o,.box ptB]))(a:B 137 [.one (.dc (.raw (.string ⟨#[0]⟩))),vi 28] []=some (sv (zl 28),[])):EV G (Tb B) 13 [x.v] []=some (.tup [tS (if jZ x=0 then x.bs else []),tI (jZ x)],[]):=by
 have c:=Al (G:=G) (B:=B) x;refine aA rfl ?_;by_cases h:jZ x=0;have d:∀n∈x.fs,0<=n/\n<=4294967295:=fun n b=>by have:=P7 h n b;omega
 have e:=Nn (G:=G) x hf a d;rw[if_pos h];rw[h] at c ⊢;simp (maxSteps:=2000000) (disch:=omega) only[go_sem,h13c,c,e]
 ·rw[if_neg h];simp (maxSteps:=2000000) (disch:=omega) only[go_sem,h13c,c,h];try rfl
theorem aXJ(n:Int)(h:0<=n/\n<=4294967295):gv (bJ n 4)=n:=by
 simp only[bJ,F8,aZn,aZp,gv];omega
theorem aXK{l:L Int}(h:l.length=4):∃a b c d,l=[a,b,c,d]:=by
 match l,h with
 |[a,b,c,d],_=>exact⟨a,b,c,d,rfl⟩
theorem sg4(l:L Int)(h:l.length=4)(e:aH l):bJ (gv l) 4=l:=by
 obtain⟨a,b,c,d,rfl⟩:=aXK h;have f:=e a (by simp);have g:=e b (by simp);have h3:=e c (by simp);have h4:=e d (by simp);simp only[bJ,F8,aZn,aZp,gv,List.cons.injEq,and_true];omega
theorem sgL(s:L Int)(b:aH s)(a:Nat)(h:a+4<=s.length):bJ (gL s a 4) 4=(s.drop a).take 4:=by
 unfold gL;exact sg4 _ (by rw[aZd,aZh];omega) (Af b a 4)
theorem qJ(s:L Int)(a b n:Nat):(s.drop a).take b++(s.drop (a+b)).take n=(s.drop a).take (b+n):=by
 rw[List.take_add,aZ6]
theorem aVu(s:L Int)(a:aH s)(h:s.length=64):(pA s 6).hd 6=Am++(s.drop 8).take 24:=by
 rw[aHM,aMh,aMg,aMf,aMe,aMd,aMc,aVm,sgL s a 8 (by omega),sgL s a 12 (by omega),sgL s a 16 (by omega),sgL s a 20 (by omega),sgL s a 24 (by omega),sgL s a 28 (by omega)];simp only[aZr];rw[qJ s 24 4 4,qJ s 20 4 8,qJ s 16 4 12,qJ s 12 4 16,qJ s 8 4 20]
theorem aAH(s:L Int)(k:aH s)(h:s.length=64):aQO s=true↔(pA s 6).bs=s:=by
 have e:(pA s 6).s60=Am++(s.drop 8).take 24++zl 28:=by rw[Bt.s60,aVu s k h]
 have g:s.take 8++(s.drop 8).take 24++(s.take 60).drop 32=s.take 60:=by
  have a:s.take 8++(s.drop 8).take 24=s.take 32:=by rw[show (32:Nat)=8+24 from rfl,List.take_add]
  have j:s.take 32=(s.take 60).take 32:=by rw[List.take_take];rfl
  rw[a,j,bAc]
 have l:((s.take 60).drop 32).length=28:=by rw[aZh,aZd];omega
 have z:trZ ((s.take 60).drop 32)=[]↔(s.take 60).drop 32=zl 28:=by rw[aMj,l]
 have b:(pA s 6).s60=s.take 60↔s.take 8=Am/\(s.take 60).drop 32=zl 28:=by
  rw[e,<- g];have i:Am.length=(s.take 8).length:=by rw[aZd,h];rfl
  constructor;intro q;obtain⟨f,d⟩:=List.append_inj q (by rw[aZa,aZa,i]);obtain⟨n,_⟩:=List.append_inj f i;refine⟨n.symm,?_⟩;rw[g];exact d.symm;rintro⟨f,d⟩;rw[g] at d;rw[f,d]
 have c:(pA s 6).bs=s↔(pA s 6).s60=s.take 60/\bJ (kX (pA s 6).s60) 4=s.drop 60:=by
  constructor;intro q;have m:(pA s 6).s60++bJ (kX (pA s 6).s60) 4=s.take 60++s.drop 60:=by rw[bAc];exact q
  exact List.append_inj m (by rw[A9,aZd];omega);rintro⟨f,d⟩;rw[Bt.bs,d,f,bAc]
 rw[c,b];unfold aQO;simp only[aZq,decide_eq_true_eq];rw[z];constructor;rintro⟨a,h3⟩;refine⟨a,?_⟩;rw[b.2 a];exact h3.symm;rintro⟨a,h3⟩;refine⟨a,?_⟩;rw[b.2 a] at h3;exact h3.symm
theorem P8(s:L Int)(a:aH s):fR s=Lr s:=by
 unfold fR Lr;by_cases h:s.length=64;rw[if_pos h,if_pos h];by_cases b:(pA s 6).bs=s;rw[if_pos b,if_pos ((aAH s a h).2 b)];rw[if_neg b,if_neg (fun q=>b ((aAH s a h).1 q))]
 rw[if_neg h,if_neg h]
theorem aQR(p z q:L Int)(k:Nat)(h:z.length=k):gL (p++(z++q)) p.length k=gv z:=by
 unfold gL;rw[List.drop_left,<- h,List.take_left]
theorem aVv(x:Bt)(t:∀n∈x.fs,0<=n/\n<=4294967295):pA x.bs 6=x:=by
 obtain⟨i,j,l,m,o,p⟩:=aHN x _ t;have e:∀k (n:Int) q,x.bs=x.hd k++(bJ n 4++q)->k<=6->0<=n/\n<=4294967295->gL x.bs (8+4*k) 4=n:=by
  intro k n q r s h3;rw[r,<- Kk x k s,aQR _ _ _ _ (aB _ _),aXJ n h3]
 have f:x.bs=x.hd 6++(zl 28++bJ (kX x.s60) 4):=by rw[Bt.bs,Bt.s60,aZr]
 have g:x.bs=x.hd 5++(bJ x.se 4++(zl 28++bJ (kX x.s60) 4)):=by rw[f,aMh,aZr]
 have d:x.bs=x.hd 4++(bJ x.lc 4++(bJ x.se 4++(zl 28++bJ (kX x.s60) 4))):=by rw[g,aMg,aZr]
 have c:x.bs=x.hd 3++(bJ x.lg 4++(bJ x.lc 4++(bJ x.se 4++(zl 28++bJ (kX x.s60) 4)))):=by rw[d,aMf,aZr]
 have b:x.bs=x.hd 2++(bJ x.mi 4++(bJ x.lg 4++(bJ x.lc 4++(bJ x.se 4++(zl 28++bJ (kX x.s60) 4))))):=by rw[c,aMe,aZr]
 have a:x.bs=x.hd 1++(bJ x.tb 4++(bJ x.mi 4++(bJ x.lg 4++(bJ x.lc 4++(bJ x.se 4++(zl 28++bJ (kX x.s60) 4)))))):=by rw[b,aMd,aZr]
 have h:x.bs=x.hd 0++(bJ x.cl 4++(bJ x.tb 4++(bJ x.mi 4++(bJ x.lg 4++(bJ x.lc 4++(bJ x.se 4++(zl 28++bJ (kX x.s60) 4))))))):=by rw[a,aMc,aZr]
 rw[aHM,e 0 _ _ h (by omega) i,e 1 _ _ a (by omega) j,e 2 _ _ b (by omega) l,e 3 _ _ c (by omega) m,e 4 _ _ d (by omega) o,e 5 _ _ g (by omega) p]
theorem aQS(x:Bt)(h:jZ x=0):fR x.bs=(x,0):=by
 rw[P8 _ (Ba x)];unfold Lr;have r:=aVv x (fun n a=>by have:=P7 h n a;omega)
 rw[if_pos (Km x),r,if_pos rfl,if_pos h]
end
section
variable {G:aE}{B:aN}
theorem aC7(b:Bool)(e:Int):EV G (Tb B) 210 [vb b,vi e] []=some (vi (qG b e),[]):=by
 refine aA rfl ?_;cases b;all_goals simp (disch:=omega) only[go_sem,h210c]
 all_goals rfl
theorem aHO(l:L Int)(g:l.length<=1000):EV G (Tb B) 209 [vl (el l)] []=some (vi (aT l),[]):=by
 refine aA rfl ?_;simp (disch:=omega) only[go_sem,h209c,aY9];have a:∀ k (b:k < l.length),¬ l.getD k 0≠0->K7 [5,0,0] 0 (EC (EV G (Tb B)) G h209l0 ⟨(jk 5 (vl (el l)::vi l.length::vi k::jk 7 [])),[]⟩)=some ⟨(jk 5 (vl (el l)::vi l.length::vi (k+1:Nat)::jk 7 [])),[]⟩:=fun k b f=>by
  rw[bW l k b] at f;simp (disch:=omega) only[go_sem,h209l0,aY9,tX]
 rcases O3 (fun k=>l.getD k 0≠0) l.length with h|⟨j,e,c,d⟩
 rw[aQ (fun k=>⟨(jk 5 (vl (el l)::vi l.length::vi k::jk 7 [])),[]⟩) l.length ?_ ?_]
 rw[iK l h];simp (disch:=omega) only[go_sem,h209l0];rfl;exact fun k b=>a k b (h k b)
 rw[aQ (fun k=>⟨(jk 5 (vl (el l)::vi l.length::vi k::jk 7 [])),[]⟩) j ?_ ?_]
 rw[kM l j e d c];rw[bW l j e] at c;simp (disch:=omega) only[go_sem,h209l0,aY9,tX];rfl;exact fun k b=>a k (by omega) (d k b)
theorem aHP(a b:Int):EV G (Tb B) 209 [vl [[ci a],[ci b]]] []=some (vi (aT [a,b]),[]):=aHO [a,b] (by simp)
theorem Kn(l:L Int):(fF l=⟨#[]⟩)=(l=[]):=by
 apply propext;refine⟨fun h=>?_,fun h=>by rw[h];rfl⟩
 have:=congrArg ByteArray.size h;rw[aC] at this;exact List.length_eq_zero_iff.1 this
def Hm(n:Nat):Int:=if n=0\/n % 64≠0 then 10 else if 131072<n then 8 else 0
def K8(n:Nat):Int:=if Hm n≠0 then Hm n else if n % 256=0/\64<=n / 256/\n / 256<=512 then 0 else 10
theorem Fk(n m:Nat):(n:Int).tmod (m:Int)=((n % m:Nat):Int):=by
 rw[bAE (by omega)];simp
theorem P9(n m:Nat):(n:Int).tdiv (m:Int)=((n / m:Nat):Int):=by
 rw[bAL (by omega)];simp
theorem aC8(l:L Int)(i:l.length<=200000):EV G (Tb B) 203 [sv l] []=some (vi (Hm l.length),[]):=by
 have u:=aC7 (G:=G) (B:=B);have f:=aHP (G:=G) (B:=B);have m:(l.length:Int).tmod 64=((l.length % 64:Nat):Int):=Fk l.length 64;have e:=Kn l;refine aA rfl ?_;by_cases b:l=[];have c:(fF l=⟨#[]⟩)=True:=by rw[e];exact eq_true b
 have d:(l.length:Int)=0:=by rw[b];rfl
 have a:Hm l.length=10:=by rw[b];rfl
 have h4:(0:Int)<=131072:=by omega
 simp (disch:=omega) only[go_sem,h203c,aC,u,f,d,c,a,h4,eB,fE,cB,decide_false,decide_true,aZF,not_true_eq_false];have g:l.length≠0:=fun q=>b (List.length_eq_zero_iff.1 q)
 by_cases h:l.length % 64=0;by_cases h3:131072<l.length;have a:Hm l.length=8:=by unfold Hm;rw[if_neg (by omega),if_pos h3]
 have h4:¬ (l.length:Int)<=131072:=by omega
 have h5:((l.length % 64:Nat):Int)=0:=by omega
 simp (disch:=omega) only[go_sem,h203c,aC,u,f,m,e,b,h4,h5,a,eB,fE,cB,decide_false,decide_true,aZF];have a:Hm l.length=0:=by unfold Hm;rw[if_neg (by omega),if_neg h3]
 have h4:(l.length:Int)<=131072:=by omega
 have h5:((l.length % 64:Nat):Int)=0:=by omega
 simp (disch:=omega) only[go_sem,h203c,aC,u,f,m,e,b,h4,h5,a,eB,fE,cB,decide_false,decide_true,aZF];have a:Hm l.length=10:=by unfold Hm;rw[if_pos (by omega)]
 have h5:¬ ((l.length % 64:Nat):Int)=0:=by omega
 simp (disch:=omega) only[go_sem,h203c,aC,u,f,m,e,b,h5,a,eB,fE,cB,decide_false,decide_true,aZF]
theorem Ut(l:L Int)(a:l.length<=200000):EV G (Tb B) 202 [sv l] []=some (vi (l.length / 256:Nat),[]):=by
 have d:(l.length:Int).tdiv 256=((l.length / 256:Nat):Int):=P9 l.length 256;refine aA rfl ?_;simp (disch:=omega) only[go_sem,h202c,aC,d]
theorem Uu(l:L Int)(a:l.length<=200000):EV G (Tb B) 75 [sv l] []=some (vi (l.length / 256:Nat),[]):=by
 have d:(l.length:Int).tdiv 256=((l.length / 256:Nat):Int):=P9 l.length 256;refine aA rfl ?_;simp (disch:=omega) only[go_sem,h75c,aC,d]
theorem aC9(l:L Int)(b:l.length<=200000):EV G (Tb B) 144 [sv l] []=some (vi (K8 l.length),[]):=by
 have u:=jH (G:=G) (B:=B);have f:=qH (G:=G) (B:=B);have k:=aC8 (G:=G) (B:=B) l b;have n:=Ut (G:=G) (B:=B) l b;have w:=kO (G:=G) (B:=B) (l.length / 256:Nat) 64 512;have m:(l.length:Int).tmod 256=((l.length % 256:Nat):Int):=Fk l.length 256;refine aA rfl ?_;have e:K8 l.length=if Hm l.length=0 then qG (decide (l.length % 256=0/\64<=l.length / 256/\l.length / 256<=512)) 10 else Hm l.length:=by
  unfold K8 qG;by_cases h:Hm l.length=0;rw[if_neg (by simp[h]),if_pos h];simp;rw[if_pos h,if_neg h]
 rw[e];generalize l.length / 256=c at *;by_cases d:l.length % 256=0;have h5:((l.length % 256:Nat):Int)=0:=by omega
 have a:decide (l.length % 256=0/\64<=c/\c<=512)=decide ((64:Int)<=(c:Int)/\(c:Int)<=512):=by
  rw[decide_eq_decide];omega
 rw[a];simp (disch:=omega) only[go_sem,h144c,aC,u,f,k,n,w,m,h5,cB,decide_true];have h5:¬ ((l.length % 256:Nat):Int)=0:=by omega
 have a:decide (l.length % 256=0/\64<=c/\c<=512)=false:=by simp[d]
 rw[a];simp (disch:=omega) only[go_sem,h144c,aC,u,f,k,n,w,m,h5,cB,decide_false]
theorem aQT(l:L Int)(a:l.length<=200000):EV G (Tb B) 182 [sv l] []=some (vi (l.length / 64:Nat),[]):=by
 have d:(l.length:Int).tdiv 64=((l.length / 64:Nat):Int):=P9 l.length 64;refine aA rfl ?_;simp (disch:=omega) only[go_sem,h182c,aC,d]
theorem aQU(l:L Int)(d:l.length<=200000):EV G (Tb B) 129 [sv l] []=some (vi (Hm l.length),[]):=by
 have s:=aQT (G:=G) (B:=B) l d;have m:(l.length:Int).tmod 64=((l.length % 64:Nat):Int):=Fk l.length 64;have e:=Kn l;refine aA rfl ?_;by_cases c:l=[];have b:(fF l=⟨#[]⟩)=True:=by rw[e];exact eq_true c
 have a:Hm l.length=10:=by rw[c];rfl
 simp (disch:=omega) only[go_sem,h129c,b,a];have b:(fF l=⟨#[]⟩)=False:=by rw[e];exact eq_false c
 have f:l.length≠0:=fun q=>c (List.length_eq_zero_iff.1 q)
 by_cases g:l.length % 64=0;have h5:((l.length % 64:Nat):Int)=0:=by omega
 by_cases h3:131072<l.length;have a:Hm l.length=8:=by unfold Hm;rw[if_neg (by omega),if_pos h3]
 have h4:((l.length / 64:Nat):Int) > 2048:=by omega
 simp (disch:=omega) only[go_sem,h129c,aC,b,a,m,s,h5,eq_true h4];have a:Hm l.length=0:=by unfold Hm;rw[if_neg (by omega),if_neg h3]
 have h4:¬ ((l.length / 64:Nat):Int) > 2048:=by omega
 simp (disch:=omega) only[go_sem,h129c,aC,b,a,m,s,h5,h4];have a:Hm l.length=10:=by unfold Hm;rw[if_pos (by omega)]
 have h5:¬ ((l.length % 64:Nat):Int)=0:=by omega
 simp (disch:=omega) only[go_sem,h129c,aC,b,a,m,h5]
theorem aHQ(l:L Int)(b:l.length<=200000):EV G (Tb B) 73 [sv l] []=some (vi (K8 l.length),[]):=by
 have k:=aQU (G:=G) (B:=B) l b;have n:=Uu (G:=G) (B:=B) l b;have w:=bQ (G:=G) (B:=B) (l.length / 256:Nat) 64 512;have m:(l.length:Int).tmod 256=((l.length % 256:Nat):Int):=Fk l.length 256;refine aA rfl ?_;by_cases h:Hm l.length=0;by_cases a:l.length % 256=0;have h5:((l.length % 256:Nat):Int)=0:=by omega
 by_cases h3:64<=l.length / 256/\l.length / 256<=512;have e:K8 l.length=0:=by unfold K8;rw[if_neg (by simp[h]),if_pos ⟨a,h3⟩]
 have h6:(64:Int)<=(l.length / 256:Nat)/\((l.length / 256:Nat):Int)<=512:=by omega
 rw[decide_eq_true h6] at w;generalize l.length / 256=c at *;simp (disch:=omega) only[go_sem,h73c,aC,k,n,w,m,h,h5,e,aZz];have e:K8 l.length=10:=by unfold K8;rw[if_neg (by simp[h]),if_neg (fun q=>h3 q.2)]
 have h6:¬ ((64:Int)<=(l.length / 256:Nat)/\((l.length / 256:Nat):Int)<=512):=by omega
 rw[decide_eq_false h6] at w;generalize l.length / 256=c at *;simp (disch:=omega) only[go_sem,h73c,aC,k,n,w,m,h,h5,e,aZF];have h5:¬ ((l.length % 256:Nat):Int)=0:=by omega
 have e:K8 l.length=10:=by unfold K8;rw[if_neg (by simp[h]),if_neg (fun q=>a q.1)]
 simp (disch:=omega) only[go_sem,h73c,aC,k,m,h,h5,e];have e:K8 l.length=Hm l.length:=by unfold K8;rw[if_pos h]
 simp (disch:=omega) only[go_sem,h73c,k,h,e]
end
section
variable {G:aE}{B:aN}
noncomputable def uA(l:L Int):Bt×Int×Bool:=
 if (fR (l.take 64)).2=0/\(fR (l.take 64)).1.cl=(l.length / 256:Nat) then ((fR (l.take 64)).1,0,true)
 else if (fR (l.drop (l.length-64))).2=0/\(fR (l.drop (l.length-64))).1.cl=(l.length / 256:Nat) then ((fR (l.drop (l.length-64))).1,1,true) else (nB,0,false)
abbrev tB(b:Bool):TV:=.one (.dc (.raw (.bool b)))
theorem oH{n:Nat}{v:AV}{i:Int}:aOl n v (some i)=Vl n v i:=rfl
theorem rM{a b:aU}:Vl 2 (.agg [a,b]) 0=some (.one a):=rfl
theorem tQ{a b:aU}:Vl 2 (.agg [a,b]) 1=some (.one b):=rfl
theorem aQV(hf:∀x:Bt,EV G (Tb B) 82 [.one (.ptr 0 0)] [x.o]=some (.one (.bls 1 0 6 1),[x.o,.box ptB]))(l:L Int)(s:aH l)(A:64<=l.length/\l.length<=200000):EV G (Tb B) 145 [sv l] []=some (.tup [.agg (uA l).1.cs,tI (uA l).2.1,tB (uA l).2.2],[]):=by
 have e:=Np (G:=G) (B:=B) hf (l.take 64) (fun x j=>s x (aZA j)) (by rw[aZd];omega)
 have d:=Np (G:=G) (B:=B) hf (l.drop (l.length-64)) (fun x j=>s x (aZM j)) (by rw[aZh];omega)
 have n:=Ut (G:=G) (B:=B) l A.2;unfold uA;generalize fR (l.take 64)=v at e ⊢;generalize fR (l.drop (l.length-64))=w at d ⊢;obtain⟨p,f⟩:=v;obtain⟨r,g⟩:=w;have m:(64:Int).toNat=64:=rfl;have D:((l.length:Int)-64).toNat=l.length-64:=by omega
 refine aA rfl ?_;simp (maxSteps:=2000000) (disch:=first|omega|(simp only[aZa,aZb,aZc,aY9,aB,aZg,aZd,aZh,aC,aP]<;>omega)|fail) only[go_sem,h145c,aC,m,D]
 have u:¬ (f=0/\p.cl=(l.length / 256:Nat))->K7 [0,1,13,0] 1 (EC (EV G (Tb B)) G h145l0 ⟨(sv l::jk 1 (.one (.ptr 0 0)::jk 13 (.agg [.dc (.raw (.string (fF (l.take 64)))),.dc (.raw (.string (fF (l.drop (l.length-64)))))]::vi (0:Nat)::jk 21 []))),[nB.o]⟩)=some ⟨(sv l::jk 1 (.one (.ptr 0 0)::jk 13 (.agg [.dc (.raw (.string (fF (l.take 64)))),.dc (.raw (.string (fF (l.drop (l.length-64)))))]::vi (1:Nat)::jk 21 []))),[nB.o]⟩:=by
  intro h;by_cases b:f=0;have i:¬ p.cl=(l.length / 256:Nat):=fun q=>h ⟨b,q⟩
  simp (maxSteps:=2000000) (disch:=omega) only[go_sem,h145l0,n,oH,rM,tQ,Bt.o,Bt.cs,nB,Int.reduceAdd,Int.reduceLT,aZP,bH,e,b,i];simp (maxSteps:=2000000) (disch:=omega) only[go_sem,h145l0,n,oH,rM,tQ,Bt.o,Bt.cs,nB,Int.reduceAdd,Int.reduceLT,aZP,bH,e,b]
 have C:¬ (g=0/\r.cl=(l.length / 256:Nat))->K7 [0,1,13,0] 1 (EC (EV G (Tb B)) G h145l0 ⟨(sv l::jk 1 (.one (.ptr 0 0)::jk 13 (.agg [.dc (.raw (.string (fF (l.take 64)))),.dc (.raw (.string (fF (l.drop (l.length-64)))))]::vi (1:Nat)::jk 21 []))),[nB.o]⟩)=some ⟨(sv l::jk 1 (.one (.ptr 0 0)::jk 13 (.agg [.dc (.raw (.string (fF (l.take 64)))),.dc (.raw (.string (fF (l.drop (l.length-64)))))]::vi (2:Nat)::jk 21 []))),[nB.o]⟩:=by
  intro h;by_cases b:g=0;have i:¬ r.cl=(l.length / 256:Nat):=fun q=>h ⟨b,q⟩
  simp (maxSteps:=2000000) (disch:=omega) only[go_sem,h145l0,n,oH,rM,tQ,Bt.o,Bt.cs,nB,Int.reduceAdd,Int.reduceLT,aZP,bH,d,b,i];simp (maxSteps:=2000000) (disch:=omega) only[go_sem,h145l0,n,oH,rM,tQ,Bt.o,Bt.cs,nB,Int.reduceAdd,Int.reduceLT,aZP,bH,d,b]
 by_cases a:f=0/\p.cl=(l.length / 256:Nat);rw[if_pos a];obtain⟨a,y⟩:=a;rw[aQ (fun k=>⟨(sv l::jk 1 (.one (.ptr 0 0)::jk 13 (.agg [.dc (.raw (.string (fF (l.take 64)))),.dc (.raw (.string (fF (l.drop (l.length-64)))))]::vi k::jk 21 []))),[nB.o]⟩) 0 ?_ ?_]
 simp (maxSteps:=2000000) (disch:=omega) only[go_sem,h145l0,n,oH,rM,tQ,Bt.o,Bt.cs,nB,Int.reduceAdd,Int.reduceLT,aZP,bH,h145c,e,a,y];rfl;intro k t;omega;rw[if_neg a];by_cases c:g=0/\r.cl=(l.length / 256:Nat);rw[if_pos c];obtain⟨c,z⟩:=c;rw[aQ (fun k=>⟨(sv l::jk 1 (.one (.ptr 0 0)::jk 13 (.agg [.dc (.raw (.string (fF (l.take 64)))),.dc (.raw (.string (fF (l.drop (l.length-64)))))]::vi k::jk 21 []))),[nB.o]⟩) 1 ?_ ?_]
 simp (maxSteps:=2000000) (disch:=omega) only[go_sem,h145l0,n,oH,rM,tQ,Bt.o,Bt.cs,nB,Int.reduceAdd,Int.reduceLT,aZP,bH,h145c,d,c,z];rfl;intro k t;rw[show k=0 by omega];exact u a;rw[if_neg c];rw[aQ (fun k=>⟨(sv l::jk 1 (.one (.ptr 0 0)::jk 13 (.agg [.dc (.raw (.string (fF (l.take 64)))),.dc (.raw (.string (fF (l.drop (l.length-64)))))]::vi k::jk 21 []))),[nB.o]⟩) 2 ?_ ?_]
 simp (maxSteps:=2000000) (disch:=omega) only[go_sem,h145l0,n,oH,rM,tQ,Bt.o,Bt.cs,nB,Int.reduceAdd,Int.reduceLT,aZP,bH,h145c,d];rfl;intro k t;rcases (show k=0\/k=1 by omega) with rfl|rfl
 exact u a;exact C c
noncomputable def aX(l:L Int):Bt×Int×Int:=if K8 l.length=0 then ((uA l).1,(uA l).2.1,qG (uA l).2.2 6) else (nB,0,K8 l.length)
theorem dk0{n:Nat}(h:K8 n=0):n % 256=0/\64<=n / 256/\n / 256<=512:=by
 unfold K8 at h;split at h;rename_i q;exact absurd h q;split at h
 assumption
 cases h
theorem Uv(hf:∀x:Bt,EV G (Tb B) 82 [.one (.ptr 0 0)] [x.o]=some (.one (.bls 1 0 6 1),[x.o,.box ptB]))(l:L Int)(a:aH l)(c:l.length<=200000):EV G (Tb B) 91 [sv l] []=some (.tup [.agg (aX l).1.cs,tI (aX l).2.1,tI (aX l).2.2],[]):=by
 have d:=aC9 (G:=G) (B:=B) l c;have u:=jH (G:=G) (B:=B);unfold aX;by_cases h:K8 l.length=0;rw[if_pos h];have k:=dk0 h;have b:=aQV (G:=G) hf l a (by omega);generalize uA l=V at b ⊢;obtain⟨x,i,q⟩:=V;refine aA rfl ?_;simp (maxSteps:=2000000) (disch:=omega) only[go_sem,h91c,d,h,b,u,Bt.cs,nB];rw[if_neg h];refine aA rfl ?_;simp (maxSteps:=2000000) (disch:=omega) only[go_sem,h91c,d,h,Bt.cs,nB]
theorem aDa(l:L Int)(p:aH l)(y:l.length<=200000):EV G (Tb B) 29 [sv l] []=some (.tup [.agg (aX l).1.cs,tI (aX l).2.1,tI (aX l).2.2],[]):=by
 have d:=aHQ (G:=G) (B:=B) l y;have n:=Uu (G:=G) (B:=B) l y;have c:=Us (G:=G) (B:=B) (l.take 64) (fun x j=>p x (aZA j)) (by rw[aZd];omega)
 have f:=Us (G:=G) (B:=B) (l.drop (l.length-64)) (fun x j=>p x (aZM j)) (by rw[aZh];omega)
 rw[<- P8 _ (fun x j=>p x (aZA j))] at c
 rw[<- P8 _ (fun x j=>p x (aZM j))] at f
 unfold aX uA;by_cases h:K8 l.length=0;rw[if_pos h];have k:=dk0 h;have a:(64:Int).toNat=64:=rfl;have m:((l.length:Int)-64).toNat=l.length-64:=by omega
 generalize fR (l.take 64)=z at c ⊢;generalize fR (l.drop (l.length-64))=A at f ⊢;obtain⟨u,r⟩:=z;obtain⟨v,s⟩:=A;refine aA rfl ?_;by_cases g:r=0/\u.cl=(l.length / 256:Nat);rw[if_pos g];obtain⟨g,C⟩:=g;simp (maxSteps:=2000000) (disch:=first|omega|(simp only[aZa,aZb,aZc,aY9,aB,aZg,aZd,aZh,aC,aP]<;>omega)|fail) only[go_sem,h29c,aC,a,m,d,h,n,c,g,C,Bt.cs,nB,eB]
 rw[if_neg g];by_cases e:s=0/\v.cl=(l.length / 256:Nat);rw[if_pos e];obtain⟨e,w⟩:=e;by_cases b:r=0;have o:¬ u.cl=(l.length / 256:Nat):=fun q=>g ⟨b,q⟩
 simp (maxSteps:=2000000) (disch:=first|omega|(simp only[aZa,aZb,aZc,aY9,aB,aZg,aZd,aZh,aC,aP]<;>omega)|fail) only[go_sem,h29c,aC,a,m,d,h,n,c,f,b,o,e,w,Bt.cs,nB,eB]
 simp (maxSteps:=2000000) (disch:=first|omega|(simp only[aZa,aZb,aZc,aY9,aB,aZg,aZd,aZh,aC,aP]<;>omega)|fail) only[go_sem,h29c,aC,a,m,d,h,n,c,f,b,e,w,Bt.cs,nB,eB]
 rw[if_neg e];by_cases b:r=0;have o:¬ u.cl=(l.length / 256:Nat):=fun q=>g ⟨b,q⟩
 by_cases i:s=0;have t:¬ v.cl=(l.length / 256:Nat):=fun q=>e ⟨i,q⟩
 simp (maxSteps:=2000000) (disch:=first|omega|(simp only[aZa,aZb,aZc,aY9,aB,aZg,aZd,aZh,aC,aP]<;>omega)|fail) only[go_sem,h29c,aC,a,m,d,h,n,c,f,b,o,i,t,Bt.cs,nB,fE]
 simp (maxSteps:=2000000) (disch:=first|omega|(simp only[aZa,aZb,aZc,aY9,aB,aZg,aZd,aZh,aC,aP]<;>omega)|fail) only[go_sem,h29c,aC,a,m,d,h,n,c,f,b,o,i,Bt.cs,nB,fE]
 by_cases i:s=0;have t:¬ v.cl=(l.length / 256:Nat):=fun q=>e ⟨i,q⟩
 simp (maxSteps:=2000000) (disch:=first|omega|(simp only[aZa,aZb,aZc,aY9,aB,aZg,aZd,aZh,aC,aP]<;>omega)|fail) only[go_sem,h29c,aC,a,m,d,h,n,c,f,b,i,t,Bt.cs,nB,fE]
 simp (maxSteps:=2000000) (disch:=first|omega|(simp only[aZa,aZb,aZc,aY9,aB,aZg,aZd,aZh,aC,aP]<;>omega)|fail) only[go_sem,h29c,aC,a,m,d,h,n,c,f,b,i,Bt.cs,nB,fE]
 rw[if_neg h];refine aA rfl ?_;simp (maxSteps:=2000000) (disch:=omega) only[go_sem,h29c,d,h,Bt.cs,nB]
end
section
variable {G:aE}{B:aN}
theorem Ed(x:Bt):EV G (Tb B) 82 [.one (.ptr 0 0)] [x.o]=some (.one (.bls 1 0 6 1),[x.o,.box ptB]):=aA rfl (aC4 x)
theorem Ko(s t:L Int)(a:Nat)(h:a+t.length<=s.length)(b:s.length<=1000000):EV G (Tb B) 70 [sv s,vi a,sv t] []=some (sv (gI s a t),[]):=by
 refine aA rfl ?_;have e:((a:Int)+(t.length:Int)).toNat=a+t.length:=by omega
 unfold gI;simp (disch:=first|omega|(simp only[aZa,aZb,aZc,aY9,aB,aZg,aZd,aZh,aC,aP]<;>omega)|fail) only[go_sem,h70c,aC,aZy,Int.toNat_zero,aZW,e,aZd,aZh]
def Ls(l:L Int)(x:Bt):L Int:=gI (gI l 0 x.bs) (l.length-64) x.bs
theorem aQW(l:L Int)(x:Bt)(N:Nat)(b:l.length=N)(f:B 137 [.one (.dc (.raw (.string ⟨#[0]⟩))),vi 28] []=some (sv (zl 28),[]))(g:∀n∈x.fs,0<=n/\n<=4294967295)(o:64<=N/\N<=200000):EV G (Tb B) 46 [.one (.bls 0 0 N 1),x.v] [yb l]=some (.tup [],[yb (Ls l x)]):=by
 have e:=Nn (G:=G) (B:=B) x (Ed x) f g;have j:=Km x;have c:=pW l x.bs 0 N (Ba x) (by omega);have h:(gI l 0 x.bs).length=N:=by rw[cR (by omega),b]
 have d:=pW (gI l 0 x.bs) x.bs (N-64) 64 (Ba x) (by omega);have r:Ls l x=gI (gI l 0 x.bs) (N-64) x.bs:=by rw[Ls,b]
 rw[r];generalize gI l 0 x.bs=M at *;generalize gI M (N-64) x.bs=m at *;generalize x.bs=X at *;have k:((N:Int)-64).toNat=N-64:=by omega
 have i:(X.length:Int)=64:=by omega
 have a:N-(N-64)=64:=by omega
 refine aA rfl ?_;simp (maxSteps:=2000000) (disch:=omega) only[go_sem,h46c,e,c,d,aY9,k,i,b,h,j,a]
end
section
variable {G:aE}{B:aN}
theorem aMn{b s:L Int}{k:Nat}(c:aH b)(d:aH s):aH (gI b k s):=fun x a=>by
 unfold gI at a;rcases bAB.1 a with a|a
 rcases bAB.1 a with a|a;exact c x (aZA a);exact d x a;exact c x (aZM a)
theorem aMo(l:L Int)(x:Bt)(h:64<=l.length):(Ls l x).length=l.length:=by
 have:=Km x;rw[Ls,cR (by rw[cR (by omega)];omega),cR (by omega)]
theorem aHR(l:L Int)(x:Bt)(h:128<=l.length):(Ls l x).take 64=x.bs:=by
 have b:=Km x;have a:(gI l 0 x.bs).length=l.length:=cR (by omega);unfold Ls;rw[gI,aZr,bAs (by rw[aZd];omega),List.take_take,bAA (by omega)];rw[gI,bAg,aZn,bAs (by omega),aZI (by omega)]
theorem aMp(l:L Int):EV G (Tb B) 5 [sv l] []=some (vb (decide (l.length<=24576\/l.length % 256≠0/\l.length<=200000)),[]):=by
 have m:(l.length:Int).tmod 256=((l.length % 256:Nat):Int):=Fk l.length 256;refine aA rfl ?_;by_cases a:l.length<=24576;have b:(l.length:Int)<=24576:=by omega
 simp (disch:=omega) only[go_sem,h5c,aC,b,a,true_or];have b:¬ (l.length:Int)<=24576:=by omega
 by_cases e:l.length % 256=0;have c:((l.length % 256:Nat):Int)=0:=by omega
 simp (disch:=omega) only[go_sem,h5c,aC,b,a,m,c];simp[e];have c:¬ ((l.length % 256:Nat):Int)=0:=by omega
 by_cases h3:l.length<=200000;have d:(l.length:Int)<=200000:=by omega
 simp (disch:=omega) only[go_sem,h5c,aC,b,a,m,c,d];simp[a,e,h3];have d:¬ (l.length:Int)<=200000:=by omega
 simp (disch:=omega) only[go_sem,h5c,aC,b,a,m,c,d];simp[a,e,h3]
end
section
variable {G:aE}{B:aN}
def aMq(x:Bt)(n:Int):Int:=if jZ x=0 then if 16<=n/\n<=96 then if x.tb+2*n<x.cl then if En x.tb (2*n) x.mi 8=true\/En x.tb (2*n) x.lg x.lc=true then 13 else 0 else 37 else 2 else jZ x
end
section
variable {G:aE}{B:aN}
theorem Kp(n:Int)(h:-1000000<=n/\n<=1000000):EV G (Tb B) 50 [vi n] []=some (.agg [.dc (ci n),.dc (ci (n+1))],[]):=by
 refine aA rfl ?_;simp (disch:=omega) only[go_sem,h50c]
theorem Qa(l:L Int)(N k:Nat)(a:l.length=N)(h:k*256+256<=N)(c:N<=200000):EV G (Tb B) 90 [.one (.bls 0 0 N 1),vi k] [yb l]=some (.one (.bls 0 (k*256) 256 1),[yb l]):=by
 have e:((k:Int)*256).toNat=k*256:=by omega
 have w:(k:Int)*256=((k*256:Nat):Int):=by omega
 generalize d:k*256=m at *;have b:(256:Int).toNat=256:=rfl;refine aA rfl ?_;simp (maxSteps:=2000000) (disch:=omega) only[go_sem,h90c,aY9,a,w,e,b]
