/- The clusters and blocks of an open table, by the program. Conditions: as each theorem says. -/
import Derived.Test.YthepfneloomngaaGreatDoorPa
import Derived.Test.YthepfneloomngaaGreatDoorUa
import Derived.Test.YthepfneloomngaaGreatDoorTu
import Derived.Test.YthepfneloomngaaGreatDoorUm
import Derived.Test.YthepfneloomngaaGreatDoorPq
namespace Go.Proofs.YthepfneloomngaaGreatDoor
set_option linter.unusedSimpArgs false
set_option linter.unusedVariables false
set_option maxRecDepth 4000
section
variable {G:aE}{B:aO}
theorem aGc(n:Int):EV G (Tb B) 75 [vi n] []=some (vb (decide (0<=n/\n<=2147483647)),[]):=by
 have w:=fun n lo hi=>cB (G:=G) (B:=B) n lo hi
 refine aA rfl ?_;by_cases h:0<=n;all_goals simp (disch:=omega) only[go_sem,h75c,w]
 all_goals simp[h]
theorem Cl(a m b n:Int)(h:-1000000<=a/\a<=1000000)(h':-1000000<=m/\m<=1000000)(h1:-1000000<=b/\b<=1000000)(h1':-1000000<=n/\n<=1000000):EV G (Tb B) 76 [vi a,vi m,vi b,vi n] []=some (vb (As a m b n),[]):=by
 refine aA rfl ?_;by_cases h:a<b+n;all_goals simp (disch:=omega) only[go_sem,h76c]
 all_goals simp[h,As]
set_option maxHeartbeats 2000000 in
theorem aBN(x:Bt):EV G (Tb B) 16 [x.v] []=some (vi (jA x),[]):=by
 have w:=fun n lo hi=>cB (G:=G) (B:=B) n lo hi
 have s:=aGc (G:=G) (B:=B);by_cases h1:64<=x.cl/\x.cl<=512
 rotate_left
 have hn:x.num=false:=by rw[aYY];exact fun h=>h1 (jS.1 h).1
 rw[qP hn];refine aA rfl ?_;simp (disch:=omega) only[go_sem,h16c,w,s,h1];by_cases h3:8<=x.lc/\x.lc<=64
 rotate_left
 have hn:x.num=false:=by rw[aYY];exact fun h=>h3 (jS.1 h).2.2.1
 rw[qP hn];refine aA rfl ?_;simp (disch:=omega) only[go_sem,h16c,w,s,h1,h3];by_cases h2:x.lc.tmod 2=0
 rotate_left
 have hn:x.num=false:=by rw[aYY];exact fun h=>h2 (jS.1 h).2.1
 rw[qP hn];refine aA rfl ?_;simp (disch:=omega) only[go_sem,h16c,w,s,h1,h3,h2];by_cases h4:0<=x.se/\x.se<=2147483647
 rotate_left
 have hn:x.num=false:=by rw[aYY];exact fun h=>h4 (jS.1 h).2.2.2
 rw[qP hn];refine aA rfl ?_;simp (disch:=omega) only[go_sem,h16c,w,s,h1,h3,h2,h4];have hn:x.num=true:=jS.2 ⟨h1,h2,h3,h4⟩;by_cases k1:1<=x.tb/\x.tb<=x.cl-2
 rotate_left
 have hi:x.ins=false:=by rw[aYY];exact fun h=>k1 (mA.1 h).1
 rw[tV hi];refine aA rfl ?_;simp (disch:=omega) only[go_sem,h16c,w,s,h1,h3,h2,h4,k1];by_cases k2:1<=x.mi/\x.mi<=x.cl-2
 rotate_left
 have hi:x.ins=false:=by rw[aYY];exact fun h=>k2 (mA.1 h).2.1
 rw[tV hi];refine aA rfl ?_;simp (disch:=omega) only[go_sem,h16c,w,s,h1,h3,h2,h4,k1,k2];by_cases k3:1<=x.lg/\x.lg<=x.cl-2
 rotate_left
 have hi:x.ins=false:=by rw[aYY];exact fun h=>k3 (mA.1 h).2.2
 rw[tV hi];refine aA rfl ?_;simp (disch:=omega) only[go_sem,h16c,w,s,h1,h3,h2,h4,k1,k2,k3];have hi:x.ins=true:=mA.2 ⟨k1,k2,k3⟩;by_cases j1:x.mi+8<x.cl
 rotate_left
 have hf:x.fit=false:=by rw[aYY];exact fun h=>j1 (Cj.1 h).1
 have j:x.mi+8 > x.cl-1:=by omega
 rw[Jf hn hi hf];refine aA rfl ?_;simp (disch:=omega) only[go_sem,h16c,w,s,h1,h3,h2,h4,k1,k2,k3,j];by_cases j2:x.lg+x.lc<x.cl
 rotate_left
 have hf:x.fit=false:=by rw[aYY];exact fun h=>j2 (Cj.1 h).2
 have j:¬ x.mi+8 > x.cl-1:=by omega
 have j':x.lg+x.lc > x.cl-1:=by omega
 rw[Jf hn hi hf];refine aA rfl ?_;simp (disch:=omega) only[go_sem,h16c,w,s,h1,h3,h2,h4,k1,k2,k3,j,j'];have j:¬ x.mi+8 > x.cl-1:=by omega
 have j':¬ x.lg+x.lc > x.cl-1:=by omega
 have hf:x.fit=true:=Cj.2 ⟨j1,j2⟩;have m1:=Cl (G:=G) (B:=B) x.tb 2 x.mi 8 (by omega) (by omega) (by omega) (by omega);have m2:=Cl (G:=G) (B:=B) x.tb 2 x.lg x.lc (by omega) (by omega) (by omega) (by omega);have m3:=Cl (G:=G) (B:=B) x.mi 8 x.lg x.lc (by omega) (by omega) (by omega) (by omega);have d':x.cla=(!As x.tb 2 x.mi 8&&!As x.tb 2 x.lg x.lc&&!As x.mi 8 x.lg x.lc):=rfl;generalize As x.tb 2 x.mi 8=M1 at m1 d';generalize As x.tb 2 x.lg x.lc=M2 at m2 d';generalize As x.mi 8 x.lg x.lc=M3 at m3 d';rw[Sn hn hi hf,d'];refine aA rfl ?_;cases M1;cases M2
 ·cases M3;all_goals simp (disch:=omega) only[go_sem,h16c,w,s,h1,h3,h2,h4,k1,k2,k3,j,j',m1,m2,m3]
  all_goals rfl
 simp (disch:=omega) only[go_sem,h16c,w,s,h1,h3,h2,h4,k1,k2,k3,j,j',m1,m2,m3];rfl;simp (disch:=omega) only[go_sem,h16c,w,s,h1,h3,h2,h4,k1,k2,k3,j,j',m1,m2,m3];rfl
end
section
variable {G:aE}{B:aO}
theorem Dr(n lo hi:Int):EV G (Tb B) 172 [vi n,vi lo,vi hi] []=some (vb (decide (lo<=n/\n<=hi)),[]):=by
 refine aA rfl ?_;by_cases h:lo<=n;all_goals simp (disch:=omega) only[go_sem,h172c]
 all_goals simp[h]
theorem Ds(b:Bool)(e:Int):EV G (Tb B) 169 [vb b,vi e] []=some (vi (pD b e),[]):=by
 refine aA rfl ?_;cases b;all_goals simp (disch:=omega) only[go_sem,h169c]
 all_goals rfl
theorem Dt(l:List Int)(h:l.length<=200000):EV G (Tb B) 168 [sv l] []=some (vi 0,[]):=by
 have u:=Ds (G:=G) (B:=B);refine aA rfl ?_;have e:(l.length:Int)<=200000:=by omega
 simp (disch:=omega) only[go_sem,h168c,u,e,dV]
theorem Lv(n:Int)(h:1<=n/\n<=6):EV G (Tb B) 171 [vi n] []=some (vi 0,[]):=by
 have u:=Ds (G:=G) (B:=B);have w:=fun n lo hi=>Dr (G:=G) (B:=B) n lo hi
 refine aA rfl ?_;simp (disch:=omega) only[go_sem,h171c,u,w,dV,h]
theorem aGd(l:List Int)(hl:l.length<=1000):EV G (Tb B) 167 [vl (el l)] []=some (vi (aS l),[]):=by
 refine aA rfl ?_;simp (disch:=omega) only[go_sem,h167c,aXC];have round:∀ k (hk:k < l.length),¬ l.getD k 0≠0->K6 [5,0,0] 0 (EC (EV G (Tb B)) G h167l0 ⟨(jk 5 (vl (el l)::vi l.length::vi k::jk 7 [])),[]⟩)=some ⟨(jk 5 (vl (el l)::vi l.length::vi (k+1:Nat)::jk 7 [])),[]⟩:=fun k hk hz=>by
  rw[cL l k hk] at hz;simp (disch:=omega) only[go_sem,h167l0,aXC,E4]
 rcases M8 (fun k=>l.getD k 0≠0) l.length with h|⟨j,hj,h1,h2⟩
 rw[aR (fun k=>⟨(jk 5 (vl (el l)::vi l.length::vi k::jk 7 [])),[]⟩) l.length ?_ ?_]
 rw[gR l h];simp (disch:=omega) only[go_sem,h167l0];rfl;exact fun k hk=>round k hk (h k hk)
 rw[aR (fun k=>⟨(jk 5 (vl (el l)::vi l.length::vi k::jk 7 [])),[]⟩) j ?_ ?_]
 rw[jQ l j hj h2 h1];rw[cL l j hj] at h1;simp (disch:=omega) only[go_sem,h167l0,aXC,E4];rfl;exact fun k hk=>round k (by omega) (h2 k hk)
theorem Ss(a b:Int):EV G (Tb B) 167 [vl [[ci a],[ci b]]] []=some (vi (aS [a,b]),[]):=aGd [a,b] (by simp)
theorem aGe:EV G (Tb B) 177 [vi 4] []=some (vi 4294967296,[]):=by
 refine aA rfl ?_;have e:(1:Int)*2 ^ min 32 64=4294967296:=rfl;simp (disch:=omega) only[go_sem,h177c,Int.reduceMul,Int.reduceToNat,IntKind.bits,e]
theorem aKK(n:Int)(j:Nat)(p:Int)(hp:0<p)(h:(2:Int) ^ min (8*(j:Int)).toNat 64=p):n.fdiv (2 ^ min (8*(j:Int)).toNat 64)=n / p:=by
 rw[h,Int.fdiv_eq_ediv_of_nonneg _ (by omega)]
theorem aBO(n:Int)(hn:0<=n/\n<=4294967295):EV G (Tb B) 178 [vi n,vi 4] []=some (sv (bK n 4),[]):=by
 refine aA rfl ?_;simp (disch:=omega) only[go_sem,h178c];rw[aR (fun j=>⟨(vi n::jk 4 (.one (.bld 0 4)::jk 4 (vi 4::vi j::jk 13 []))),[.arr 0 1 (bl (bK n j++(zl 4).drop j))]⟩) 4 ?_ ?_]
 have e:bK n 4++List.drop 4 (zl 4)=bK n 4:=by simp[zl]
 have e2:List.take 4 (bl (bK n 4))=bl (bK n 4):=aYe (by simp[aB]);simp (disch:=omega) only[go_sem,h178l0,e,e2,aXC,aB];rfl
 ·intro j hj;have e0:=aKK n 0 1 (by decide) rfl;have e1:=aKK n 1 256 (by decide) rfl;have e2:=aKK n 2 65536 (by decide) rfl;have e3:=aKK n 3 16777216 (by decide) rfl;have g2:n / 65536=n / 256 / 256:=by omega
  have g3:n / 16777216=n / 256 / 256 / 256:=by omega
  rw[Int.ediv_one] at e0;rw[g2] at e2;rw[g3] at e3;simp only[Int.natCast_zero,Int.natCast_one,show ((2:Nat):Int)=2 from rfl,show ((3:Nat):Int)=3 from rfl] at e0 e1 e2 e3
  have t2:(2:Int).toNat=2:=rfl;have t3:(3:Int).toNat=3:=rfl;rcases (show j=0\/j=1\/j=2\/j=3 by omega) with rfl|rfl|rfl|rfl
  all_goals simp (disch:=omega) only[go_sem,h178l0,t2,t3,bK,Ee,zl,List.replicate,aYq,aY7,aX4,aYd,aXL,aXT,uL,wu8,e0,e1,e2,e3,aYk,Int.reduceAdd]
abbrev tS(l:List Int):TV:=.one (.dc (.raw (.string (dL l))))
abbrev tI(n:Int):TV:=.one (.dc (.raw (.int .i64 n)))
theorem Vl(n:Int)(hn:0<=n/\n<=4294967295):EV G (Tb B) 137 [vi n,vi 4] []=some (.tup [tS (bK n 4),tI 0],[]):=by
 have c:=Lv (G:=G) (B:=B) 4 (by omega);have l:=aGe (G:=G) (B:=B);have w:=Dr (G:=G) (B:=B) n 0 4294967295;have q:=aBO (G:=G) (B:=B) n hn;refine aA rfl ?_;simp (disch:=omega) only[go_sem,h137c,c,l,w,q,hn,Int.reduceSub]
theorem jT(n:Int)(hn:0<=n/\n<=4294967295):EV G (Tb B) 74 [vi n] []=some (sv (bK n 4),[]):=by
 have q:=Vl (G:=G) (B:=B) n hn;refine aA rfl ?_;simp (disch:=omega) only[go_sem,h74c,q]
def aPB(s:Int):Int:=(2*s) % 2147483648+s / 1073741824
def Kb(s c:Int):Int:=(aPB s+c) % 2147483648
def jW(l:List Int):Int:=l.foldl Kb 0
theorem aKL(s c:Int):0<=Kb s c/\Kb s c<=2147483647:=by unfold Kb;omega
theorem Du(l:List Int)(a:Int):jW (l++[a])=Kb (jW l) a:=by simp[jW]
theorem Cn:∀l:List Int,0<=jW l/\jW l<=2147483647:=by
 intro l;rcases List.eq_nil_or_concat l with rfl|⟨l,a,rfl⟩
 simp[jW];rw[List.concat_eq_append,Du];exact aKL _ _
theorem aV9(x:Int)(h:0<=x/\x<=4294967296):Uh .i64 x 2147483647=x % 2147483648:=by
 obtain⟨x,rfl⟩:=aYJ h.1;have h1:(BitVec.ofInt 64 (x:Int) &&& BitVec.ofInt 64 2147483647).toNat=x % 2147483648:=by
  rw[BitVec.toNat_and,show (BitVec.ofInt 64 2147483647).toNat=2 ^ 31-1 from rfl,Nat.and_two_pow_sub_one_eq_mod,BitVec.ofInt_natCast,BitVec.toNat_ofNat]
  omega
 show IntKind.i64.wrap (((BitVec.ofInt 64 (x:Int) &&& BitVec.ofInt 64 2147483647).toNat:Nat):Int)=_;rw[h1,zP (by omega)];omega
theorem orS(n b:Int)(hn:0<=n/\n<=4294967296)(hb:0<=b/\b<=1):Ui .i64 (n*2) b=n*2+b:=by
 obtain⟨n,rfl⟩:=aYJ hn.1;obtain⟨b,rfl⟩:=aYJ hb.1;have h1:((n:Int)*2)=((n*2:Nat):Int):=by simp
 have h2:n*2 ||| b=n*2+b:=by
  have:=Nat.shiftLeft_add_eq_or_of_lt (show b<2 ^ 1 by omega) n;rw[Nat.shiftLeft_eq] at this;exact this.symm
 rw[Ui,h1,H7,BitVec.ofInt_natCast,BitVec.ofInt_natCast,BitVec.toNat_or,BitVec.toNat_ofNat,BitVec.toNat_ofNat,aYB (by omega),aYB (by omega),h2,zP (by omega)];simp
theorem aBP(s c:Int)(hs:0<=s/\s<=2147483647)(hc:0<=c/\c<=255):EV G (Tb B) 128 [vi s,vi c] []=some (vi (Kb s c),[]):=by
 have e1:s*2 ^ min 1 64=s*2:=rfl;have e2:s.fdiv (2 ^ min 30 64)=s / 1073741824:=Int.fdiv_eq_ediv_of_nonneg _ (by decide);have e3:Uh .i64 (s*2) 2147483647=s % 1073741824*2:=by rw[aV9 _ (by omega)];omega
 have e4:=orS (s % 1073741824) (s / 1073741824) (by omega) (by omega);have e5:Kb s c=(s % 1073741824*2+s / 1073741824+c) % 2147483648:=by unfold Kb aPB;omega
 have e6:(s % 1073741824*2+s / 1073741824+c).tmod 2147483648=(s % 1073741824*2+s / 1073741824+c) % 2147483648:=Int.tmod_eq_emod_of_nonneg (by omega);refine aA rfl ?_;simp (disch:=omega) only[go_sem,h128c,Int.reduceToNat,IntKind.bits,e1,e2,e3,e4,e5,e6]
theorem aKM(l:List Int)(hB:aM l)(hl:l.length<=200000):EV G (Tb B) 127 [sv l,vi 0,.one (.fn 128 [])] []=some (.tup [tI (jW l),tI 0],[]):=by
 have q:=Dt (G:=G) (B:=B) l hl;have hD:=mK l hB;refine aA rfl ?_;simp (disch:=omega) only[go_sem,h127c,q,hD,aXC];rw[aR (fun k=>⟨(jk 1 (vi (jW (l.take k))::.one (.fn 128 [])::jk 14 (vl (bl l)::vi l.length::vi k::jk 10 []))),[]⟩) l.length ?_ ?_]
 simp (disch:=omega) only[go_sem,h127l0,aYh];rfl;intro k hk;have hb:=hB _ (aXM hk);have s:=aBP (G:=G) (B:=B) (jW (l.take k)) l[k] (Cn _) hb;have hu:=iW _ hb;rw[aYx hk,Du];simp (disch:=omega) only[go_sem,h127l0,aXC,uL,s,hu,aYo]
theorem aGf(l:List Int)(hB:aM l)(hl:l.length<=200000):EV G (Tb B) 71 [sv l] []=some (.tup [tI (jW l),tI 0],[]):=by
 have q:=aKM (G:=G) (B:=B) l hB hl;refine aA rfl ?_;simp (disch:=omega) only[go_sem,h71c,q]
theorem aPC(l:List Int)(hB:aM l)(hl:l.length<=4):EV G (Tb B) 126 [sv l] []=some (vi (gv l),[]):=by
 refine aA rfl ?_;have g:gv l=gL l 0 l.length:=by unfold gL;rw[aYq,aYh]
 rw[g];simp (disch:=first|omega|(simp only[aXD,aXE,aXH,aXC,aB];omega)) only[go_sem,h126c]
 rw[aR (fun j=>⟨(sv l::jk 2 (vi (gL l (l.length-j) j)::vi ((l.length:Int)-1-j)::jk 15 [])),[]⟩) l.length ?_ ?_]
 have e2:¬ 0<=(l.length:Int)-1-(l.length:Int):=by omega
 have e3:l.length-l.length=0:=by omega
 simp (disch:=first|omega|(simp only[aXD,aXE,aXH,aXC,aB];omega)) only[go_sem,h126l0,e2,e3]
 simp[gL,gv,jk];intro j hj;have hx:=hB _ (aXM (show l.length-1-j<l.length by omega));have g1:=tL hB (l.length-j) j (by omega);have e1:gL l (l.length-(j+1)) (j+1)=gL l (l.length-j) j*256+l[l.length-1-j]'(by omega):=by
  have:l.length-(j+1)<l.length:=by omega
  rw[aOU l _ j this,show l.length-(j+1)+1=l.length-j by omega,Int.mul_comm];rw[Int.add_comm];congr 1;congr 1;omega
 have e2:0<=(l.length:Int)-1-(j:Int):=by omega
 rw[e1];generalize gL l (l.length-j) j=z at g1 ⊢;have eN:((l.length:Int)-1-(j:Int)).toNat=l.length-1-j:=by omega
 have hu:=iW _ hx;have o:=orL z _ (by omega) hx;simp (disch:=first|omega|(simp only[aXD,aXE,aXH,aXC,aB];omega)) only[go_sem,h126l0,eq_true e2,aYo,eN,hu,Int.reduceToNat,Int.reducePow,o]
 rw[show (l.length:Int)-1-(j:Int)-1=(l.length:Int)-1-((j:Int)+1) by omega]
theorem aPD(l:List Int)(a k:Nat)(h:a+k<=l.length)(hk:1<=k/\k<=6)(hl:l.length<=200000):EV G (Tb B) 125 [sv l,vi a,vi k] []=some (.tup [tS ((l.drop a).take k),tI 0],[]):=by
 have q:=Dt (G:=G) (B:=B) l hl;have c:=Lv (G:=G) (B:=B) k (by omega);have f:=Ss (G:=G) (B:=B) 0 0;have w:=Dr (G:=G) (B:=B) a 0 ((l.length:Int)-k);have e:(0:Int)<=a/\(a:Int)<=(l.length:Int)-k:=by omega
 rw[decide_eq_true e] at w;have e2:aS [0,0]=0:=rfl;rw[e2] at f;refine aA rfl ?_;simp (disch:=first|omega|(simp only[aXD,aXE,aXH,aXC,aB,aXO,aXK,aXS,aF,bF]<;>omega)|fail) only[go_sem,h125c,q,c,f,w]
theorem uT(l:List Int)(hB:aM l)(a:Nat)(h:a+4<=l.length)(hl:l.length<=200000):EV G (Tb B) 70 [sv l,vi a,vi 4] []=some (.tup [tI (gL l a 4),tI 0],[]):=by
 have c:=aPD (G:=G) (B:=B) l a 4 h (by omega) hl;have n:=aPC (G:=G) (B:=B) ((l.drop a).take 4) (tK hB a 4) (by rw[aXK];omega);rw[show ((4:Nat):Int)=4 from rfl] at c
 refine aA rfl ?_;simp (disch:=omega) only[go_sem,h70c,c,n,gL]
theorem aPE(hR:B 170 [.one (.dc (.raw (.string ⟨#[0]⟩))),vi 28] []=some (sv (zl 28),[]))(l:List Int)(h:l.length=32):EV G (Tb B) 124 [sv l,vi 60] []=some (.tup [tS (l++zl 28),tI 0],[]):=by
 have q:=Dt (G:=G) (B:=B) l (by omega);have u:=Ds (G:=G) (B:=B) true 11;have f:=Ss (G:=G) (B:=B) 0 0;have e2:aS [0,0]=0:=rfl;rw[e2] at f;have hR':EV G (Tb B) 170 [.one (.dc (.raw (.string ⟨#[0]⟩))),vi 28] []=some (sv (zl 28),[]):=gP rfl hR;refine aA rfl ?_;have hL:(l.length:Int)=32:=by omega
 have m:(32:Int).tmod 60=32:=rfl;simp (disch:=first|omega|(simp only[aXD,aXE,aXH,aXC,aB,aXO,aXK,aXS,aF,bF]<;>omega)|fail) only[go_sem,h124c,q,u,f,hL,m,hR',dV,Int.reduceLT,Int.reduceSub,Int.reduceGT,decide_true,decide_false,Int.reduceEq]
end
section
variable {G:aE}{B:aO}
abbrev ptB:List aT:=[.ptr 0 0,.ptr 0 1,.ptr 0 2,.ptr 0 3,.ptr 0 4,.ptr 0 5]
theorem aBQ(x:Bt):C8 true h69.rs 1 (EC (EV G (Tb B)) G h69.code ⟨[.one (.ptr 0 0)]++rS (h69.nt-1),[x.o]⟩)=some (.one (.bls 1 0 6 1),[x.o,.box ptB]):=by
 simp (maxSteps:=2000000) (disch:=omega) only[go_sem,h69c]
def tW:List Int:=[68,69,80,79,83,73,84,49]
def Bt.fs(x:Bt):List Int:=[x.cl,x.tb,x.mi,x.lg,x.lc,x.se]
def Bt.hd(x:Bt)(k:Nat):List Int:=tW++((x.fs.take k).flatMap fun n=>bK n 4)
def Bt.s60(x:Bt):List Int:=x.hd 6++zl 28
def Bt.bs(x:Bt):List Int:=x.s60++bK (jW x.s60) 4
theorem aTT(x:Bt):x.hd 0=tW:=by simp[Bt.hd]
theorem aKO(x:Bt):x.hd 1=x.hd 0++bK x.cl 4:=by simp[Bt.hd,Bt.fs]
theorem aKP(x:Bt):x.hd 2=x.hd 1++bK x.tb 4:=by simp[Bt.hd,Bt.fs]
theorem aKQ(x:Bt):x.hd 3=x.hd 2++bK x.mi 4:=by simp[Bt.hd,Bt.fs]
theorem aKR(x:Bt):x.hd 4=x.hd 3++bK x.lg 4:=by simp[Bt.hd,Bt.fs]
theorem aKS(x:Bt):x.hd 5=x.hd 4++bK x.lc 4:=by simp[Bt.hd,Bt.fs]
theorem aKT(x:Bt):x.hd 6=x.hd 5++bK x.se 4:=by simp[Bt.hd,Bt.fs]
theorem Jg(x:Bt)(k:Nat)(h:k<=6):(x.hd k).length=8+4*k:=by
 rcases (show k=0\/k=1\/k=2\/k=3\/k=4\/k=5\/k=6 by omega) with rfl|rfl|rfl|rfl|rfl|rfl|rfl<;>simp[Bt.hd,Bt.fs,aB,tW]
theorem Lw:aM tW:=by unfold aM tW;decide
theorem aKU(x:Bt)(k:Nat):aM (x.hd k):=by
 intro b hb;rcases aYV.1 hb with h|h
 exact Lw b h;obtain⟨n,_,h2⟩:=List.mem_flatMap.1 h;exact cM _ _ b h2
theorem Jh(x:Bt):aM x.s60:=by
 intro b hb;rcases aYV.1 hb with h|h
 exact aKU x 6 b h;have:=(List.mem_replicate.1 h).2;omega
theorem uU(x:Bt):x.s60.length=60:=by rw[Bt.s60,aXD,Jg x 6 (by omega),bF]
theorem Dv(x:Bt):x.bs.length=64:=by rw[Bt.bs,aXD,uU,aB]
theorem Co(x:Bt):aM x.bs:=by
 intro b hb;rcases aYV.1 hb with h|h
 exact Jh x b h;exact cM _ _ b h
set_option maxHeartbeats 1000000 in
theorem Lx(x:Bt)(hf:EV G (Tb B) 69 [.one (.ptr 0 0)] [x.o]=some (.one (.bls 1 0 6 1),[x.o,.box ptB]))(hR:B 170 [.one (.dc (.raw (.string ⟨#[0]⟩))),vi 28] []=some (sv (zl 28),[]))
  (hx:∀n∈x.fs,0<=n/\n<=4294967295):EV G (Tb B) 68 [x.v] []=some (sv x.bs,[]):=by
 refine aA rfl ?_;simp (maxSteps:=2000000) (disch:=omega) only[go_sem,h68c,hf];rw[aR (fun k=>⟨(jk 3 (sv (x.hd k)::jk 4 (.one (.bls 1 0 6 1)::vi 6::vi k::jk 24 []))),[x.o,.box ptB]⟩) 6 ?_ ?_]
 have l6:=Jg x 6 (by omega);have p:=aPE (G:=G) hR (x.hd 6) l6;have s:=aGf (G:=G) (B:=B) x.s60 (Jh x) (by rw[uU];omega);have q:=jT (G:=G) (B:=B) (jW x.s60) (by have:=Cn x.s60;omega);have e:x.bs=x.s60++bK (jW x.s60) 4:=rfl;have l60:=uU x;change EV G (Tb B) _ _ _=some (.tup [tS x.s60,tI 0],[]) at p;rw[e];generalize x.s60=S at p s q l60 ⊢;generalize x.hd 6=H at p l6 ⊢;simp (maxSteps:=2000000) (disch:=first|omega|(simp only[aXD,aXE,aXH,aXC,aB,aXO,aXK,aXS,aF,bF]<;>omega)|fail) only[go_sem,h68l0,p,s,q]
 rfl;intro j hj;have g:=fun n=>jT (G:=G) (B:=B) n
 simp only[Bt.fs,aYR,List.not_mem_nil,or_false,forall_eq_or_imp,forall_eq] at hx;obtain⟨g1,g2,g3,g4,g5,g6⟩:=hx;have hl:=Jg x j (by omega);have t2:(2:Int).toNat=2:=rfl;have t3:(3:Int).toNat=3:=rfl;have t4:(4:Int).toNat=4:=rfl;have t5:(5:Int).toNat=5:=rfl;rcases (show j=0\/j=1\/j=2\/j=3\/j=4\/j=5 by omega) with rfl|rfl|rfl|rfl|rfl|rfl
 have q:=jT (G:=G) (B:=B) x.cl g1;rw[aKO];generalize x.hd 0=H at hl ⊢;simp (maxSteps:=2000000) (disch:=first|omega|(simp only[aXD,aXE,aXH,aXC,aB,aXO,aXK,aXS,aF,bF]<;>omega)|fail) only[go_sem,h68l0,q,Int.reduceAdd,aYk,t2,t3,t4,t5]
 have q:=jT (G:=G) (B:=B) x.tb g2;rw[aKP];generalize x.hd 1=H at hl ⊢;simp (maxSteps:=2000000) (disch:=first|omega|(simp only[aXD,aXE,aXH,aXC,aB,aXO,aXK,aXS,aF,bF]<;>omega)|fail) only[go_sem,h68l0,q,Int.reduceAdd,aYk,t2,t3,t4,t5]
 have q:=jT (G:=G) (B:=B) x.mi g3;rw[aKQ];generalize x.hd 2=H at hl ⊢;simp (maxSteps:=2000000) (disch:=first|omega|(simp only[aXD,aXE,aXH,aXC,aB,aXO,aXK,aXS,aF,bF]<;>omega)|fail) only[go_sem,h68l0,q,Int.reduceAdd,aYk,t2,t3,t4,t5]
 have q:=jT (G:=G) (B:=B) x.lg g4;rw[aKR];generalize x.hd 3=H at hl ⊢;simp (maxSteps:=2000000) (disch:=first|omega|(simp only[aXD,aXE,aXH,aXC,aB,aXO,aXK,aXS,aF,bF]<;>omega)|fail) only[go_sem,h68l0,q,Int.reduceAdd,aYk,t2,t3,t4,t5]
 have q:=jT (G:=G) (B:=B) x.lc g5;rw[aKS];generalize x.hd 4=H at hl ⊢;simp (maxSteps:=2000000) (disch:=first|omega|(simp only[aXD,aXE,aXH,aXC,aB,aXO,aXK,aXS,aF,bF]<;>omega)|fail) only[go_sem,h68l0,q,Int.reduceAdd,aYk,t2,t3,t4,t5]
 have q:=jT (G:=G) (B:=B) x.se g6;rw[aKT];generalize x.hd 5=H at hl ⊢;simp (maxSteps:=2000000) (disch:=first|omega|(simp only[aXD,aXE,aXH,aXC,aB,aXO,aXK,aXS,aF,bF]<;>omega)|fail) only[go_sem,h68l0,q,Int.reduceAdd,aYk,t2,t3,t4,t5]
end
section
variable {G:aE}{B:aO}
noncomputable def Vm(l:List Int):Nat:=ix (fun k=>¬ l.getD (l.length-1-k) 0=0) l.length
noncomputable def lzN(l:List Int):Nat:=ix (fun k=>¬ l.getD k 0=0) l.length
theorem Gd{l:List Int}{k:Nat}{x:Int}(h:k<l.length)(e:l.getD k 0=x):l[k]?=some x:=by
 simp only[aXN,aXJ h,aYn] at e ⊢;rw[e]
theorem aGg(l:List Int)(hB:aM l)(hl:l.length<=1000000):EV G (Tb B) 130 [sv l,vu 0] []=some (sv (l.take (l.length-Vm l)),[]):=by
 refine aA rfl ?_;have h6:((u8 0).toNat:Int)=0:=rfl;simp (disch:=omega) only[go_sem,h130c];rw[gF (fun k=>⟨(sv (l.take (l.length-k))::vu 0::jk 21 []),[]⟩) (fun k=>¬ l.getD (l.length-1-k) 0=0) l.length ?_ ?_]
 rotate_left
 simp[jk];intro k hk hn;have h1:=Classical.not_not.1 (hn k (aXF _));have hL:(l.take (l.length-k)).length=l.length-k:=by rw[aXK];omega
 have g:(l.take (l.length-k))[l.length-k-1]?=some 0:=by
  rw[aX2,if_pos (by omega),show l.length-k-1=l.length-1-k by omega];exact Gd (by omega) h1
 have e:(l.take (l.length-k)).take (l.length-k-1)=l.take (l.length-(k+1)):=by
  rw[List.take_take];congr 1;omega
 have hp:((l.length-k:Nat):Int) > 0:=by omega
 have hq:l.length-k<=1000000:=by omega
 generalize l.take (l.length-k)=T at hL g e ⊢;generalize l.take (l.length-(k+1))=T' at e ⊢;generalize l.length-k=n at *;simp (disch:=omega) only[go_sem,h130l0,aF,hL,g,e,eq_true hp,h6];obtain⟨hk,hp,hn⟩:=bT (fun k=>¬ l.getD (l.length-1-k) 0=0) l.length
 rw[show Vm l=ix (fun k=>¬ l.getD (l.length-1-k) 0=0) l.length from rfl]
 generalize ix (fun k=>¬ l.getD (l.length-1-k) 0=0) l.length=k at *
 have hL:(l.take (l.length-k)).length=l.length-k:=by rw[aXK];omega
 rcases hp with rfl|⟨hk',hp⟩;rw[aYs] at hL ⊢;simp (disch:=omega) only[go_sem,h130l0,aF,hL];have g:(l.take (l.length-k))[l.length-k-1]?=some (l.getD (l.length-1-k) 0):=by
  rw[aX2,if_pos (by omega),show l.length-k-1=l.length-1-k by omega];exact Gd (by omega) rfl
 have hb:0<=l.getD (l.length-1-k) 0/\l.getD (l.length-1-k) 0<=255:=by
  rw[cL l _ (by omega)];exact hB _ (aXM _)
 have hp':((l.length-k:Nat):Int) > 0:=by omega
 have hq:l.length-k<=1000000:=by omega
 generalize l.getD (l.length-1-k) 0=x at *;have hu:=iW x hb;generalize l.take (l.length-k)=T at hL g ⊢;generalize l.length-k=n at *;simp (disch:=omega) only[go_sem,h130l0,aF,hL,g,eq_true hp',hu,eq_false hp]
theorem aGh(l:List Int)(hB:aM l)(hl:l.length<=1000000):EV G (Tb B) 129 [sv l,vu 0] []=some (sv (l.drop (lzN l)),[]):=by
 refine aA rfl ?_;have h6:((u8 0).toNat:Int)=0:=rfl;simp (disch:=omega) only[go_sem,h129c];rw[gF (fun k=>⟨(sv (l.drop k)::vu 0::jk 15 []),[]⟩) (fun k=>¬ l.getD k 0=0) l.length ?_ ?_]
 rotate_left
 simp[jk];intro k hk hn;have h1:=Classical.not_not.1 (hn k (aXF _));have hL:(l.drop k).length=l.length-k:=aXS;have g:(l.drop k)[0]?=some 0:=by
  rw[aX9];exact Gd (by omega) h1
 have e:(l.drop k).drop 1=l.drop (k+1):=by rw[List.drop_drop]
 have hp:((l.length-k:Nat):Int) > 0:=by omega
 have hq:l.length-k<=1000000:=by omega
 have hz:1<=l.length-k:=by omega
 generalize l.drop k=T at hL g e ⊢;generalize l.drop (k+1)=T' at e ⊢;generalize l.length-k=n at *;have tk:T.take n=T:=by rw[<- hL,aYh]
 simp (disch:=omega) only[go_sem,h129l0,aF,hL,g,e,eq_true hp,h6,tk];obtain⟨hk,hp,hn⟩:=bT (fun k=>¬ l.getD k 0=0) l.length
 rw[show lzN l=ix (fun k=>¬ l.getD k 0=0) l.length from rfl]
 generalize ix (fun k=>¬ l.getD k 0=0) l.length=k at *
 have hL:(l.drop k).length=l.length-k:=aXS;rcases hp with rfl|⟨hk',hp⟩
 rw[aYs] at hL;simp (disch:=omega) only[go_sem,h129l0,aF,hL];have g:(l.drop k)[0]?=some (l.getD k 0):=by
  rw[aX9];exact Gd (by omega) rfl
 have hb:0<=l.getD k 0/\l.getD k 0<=255:=by
  rw[cL l _ (by omega)];exact hB _ (aXM _)
 have hp':((l.length-k:Nat):Int) > 0:=by omega
 have hq:l.length-k<=1000000:=by omega
 generalize l.getD k 0=x at *;have hu:=iW x hb;generalize l.drop k=T at hL g ⊢;generalize l.length-k=n at *;simp (disch:=omega) only[go_sem,h129l0,aF,hL,g,eq_true hp',hu,eq_false hp]
noncomputable def trZ(l:List Int):List Int:=(l.take (l.length-Vm l)).drop (lzN (l.take (l.length-Vm l)))
theorem aKV(l:List Int):trZ l=[]↔l=zl l.length:=by
 obtain⟨hk,hp,hn⟩:=bT (fun k=>¬ l.getD (l.length-1-k) 0=0) l.length
 have e:Vm l=ix (fun k=>¬ l.getD (l.length-1-k) 0=0) l.length:=rfl
 rw[<- e] at hk hp hn;constructor;intro h;rcases hp with hp|⟨h1,h2⟩
 refine List.ext_getElem (by rw[bF]) fun i h3 h4=>?_
 have h5:=Classical.not_not.1 (hn (l.length-1-i) (by omega));rw[show l.length-1-(l.length-1-i)=i by omega,cL l i h3] at h5;rw[h5];simp[zl];exfalso;unfold trZ at h;obtain⟨k1,k2,k3⟩:=bT (fun k=>¬ (l.take (l.length-Vm l)).getD k 0=0) (l.take (l.length-Vm l)).length
 have e2:lzN (l.take (l.length-Vm l))=ix (fun k=>¬ (l.take (l.length-Vm l)).getD k 0=0) (l.take (l.length-Vm l)).length:=rfl
 rw[<- e2] at k1 k2 k3;have hL:(l.take (l.length-Vm l)).length=l.length-Vm l:=by rw[aXK];omega
 rw[List.drop_eq_nil_iff] at h;have h3:=k3 (l.length-1-Vm l) (by omega);apply h2;have h4:=Classical.not_not.1 h3;simp only[aXN,aX2] at h4 ⊢;rw[if_pos (by omega)] at h4;exact h4;intro h;have hz:Vm l=l.length:=by
  rcases hp with hp|⟨h1,h2⟩;exact hp
  exfalso;apply h2;have hm:∀ x∈l,x=0:=fun x hx=>by
   rw[h] at hx;exact (List.mem_replicate.1 hx).2
  rw[cL l _ (by omega)];exact hm _ (aXM _)
 unfold trZ;rw[hz,aYs,aYQ,List.drop_nil]
theorem aGi{l:List Int}(h:aM l):aM (trZ l):=fun x hx=>h x (aX6 (aYl hx))
theorem aKW(l:List Int)(hB:aM l)(hl:l.length<=1000000)(h0:l≠[]):EV G (Tb B) 72 [sv l,.one (.dc (.raw (.string ⟨#[0]⟩)))] []=some (sv (trZ l),[]):=by
 have q1:=aGg (G:=G) (B:=B) l hB hl;have q2:=aGh (G:=G) (B:=B) (l.take (l.length-Vm l)) (fun x hx=>hB x (aX6 hx)) (by rw[aXK];omega)
 have i0:Gm (.one (.dc (.raw (.string ⟨#[0]⟩)))) 0=some (vu 0):=by rfl
 have e0:¬ dL l=⟨#[]⟩:=by
  intro h;have:=congrArg ByteArray.size h;rw[aF] at this;exact h0 (List.length_eq_zero_iff.1 this)
 have e1:¬ (⟨#[0]⟩:ByteArray)=⟨#[]⟩:=by decide
 have e5:((UInt8.toNat 0:Nat):Int)=0:=rfl;have e4:(((#[0]:Array UInt8).size:Nat):Int)=1:=rfl;refine aA rfl ?_;simp (disch:=omega) only[go_sem,h72c,q1,q2,i0,e0,e1,e4,e5,trZ]
theorem aKX(s p:List Int)(hs:aM s)(hp:aM p)(hl:s.length<=1000000)(h:p.length<=s.length):EV G (Tb B) 73 [sv s,sv p] []=some (vb (decide (s.take p.length=p)),[]):=by
 have b:aM (s.take p.length):=fun x hx=>hs x (aX6 hx)
 have e:=dR b hp;have l:EV G (Tb B) 136 [sv s,sv p] []=some (vb (decide (s.take p.length=p)),[]):=by
  refine aA rfl ?_;simp (disch:=first|omega|(simp only[aXD,aXE,aXH,aXC,aB,aXO,aXK,aXS,aF,bF]<;>omega)|fail) only[go_sem,h136c,aF,e]
 refine aA rfl ?_;simp (disch:=omega) only[go_sem,h73c,l]
end
section
variable {G:aE}{B:aO}
def nB:Bt:=⟨0,0,0,0,0,0⟩
def rN(s:List Int)(k:Nat):Bt:=⟨if 0<k then gL s 8 4 else 0,if 1<k then gL s 12 4 else 0,if 2<k then gL s 16 4 else 0,if 3<k then gL s 20 4 else 0,if 4<k then gL s 24 4 else 0,if 5<k then gL s 28 4 else 0⟩
noncomputable def aPF(s:List Int):Bool:=decide (s.take 8=tW)&&decide (trZ ((s.take 60).drop 32)=[])&&decide (s.drop 60=bK (jW (s.take 60)) 4)
noncomputable def fF(s:List Int):Bt×Int:=if s.length=64 then if aPF s=true then (if jA (rN s 6)=0 then (rN s 6,0) else (nB,jA (rN s 6))) else (nB,3) else (nB,10)
abbrev ptC:List aT:=[.ptr 1 0,.ptr 1 1,.ptr 1 2,.ptr 1 3,.ptr 1 4,.ptr 1 5]
theorem aTU(s:List Int):rN s 0=⟨0,0,0,0,0,0⟩:=by simp[rN]
theorem aTV(s:List Int):rN s 1=⟨gL s 8 4,0,0,0,0,0⟩:=by simp[rN]
theorem aTW(s:List Int):rN s 2=⟨gL s 8 4,gL s 12 4,0,0,0,0⟩:=by simp[rN]
theorem aTX(s:List Int):rN s 3=⟨gL s 8 4,gL s 12 4,gL s 16 4,0,0,0⟩:=by simp[rN]
theorem aTY(s:List Int):rN s 4=⟨gL s 8 4,gL s 12 4,gL s 16 4,gL s 20 4,0,0⟩:=by simp[rN]
theorem aTZ(s:List Int):rN s 5=⟨gL s 8 4,gL s 12 4,gL s 16 4,gL s 20 4,gL s 24 4,0⟩:=by simp[rN]
theorem aPG(s:List Int):rN s 6=⟨gL s 8 4,gL s 12 4,gL s 16 4,gL s 20 4,gL s 24 4,gL s 28 4⟩:=by simp[rN]
set_option maxHeartbeats 2000000 in
theorem Ly(hf:∀x:Bt,EV G (Tb B) 69 [.one (.ptr 0 0)] [x.o]=some (.one (.bls 1 0 6 1),[x.o,.box ptB]))(s:List Int)(hB:aM s)(hl:s.length<=200000):
  EV G (Tb B) 14 [sv s] []=some (.tup [.agg (fF s).1.cs,tI (fF s).2],[]):=by
 have hf0:EV G (Tb B) 69 [.one (.ptr 0 0)] [.box [.dc (.raw (Zi 0)),.dc (.raw (Zi 0)),.dc (.raw (Zi 0)),.dc (.raw (Zi 0)),.dc (.raw (Zi 0)),.dc (.raw (Zi 0))]]=some (.one (.bls 1 0 6 1),[.box [.dc (.raw (Zi 0)),.dc (.raw (Zi 0)),.dc (.raw (Zi 0)),.dc (.raw (Zi 0)),.dc (.raw (Zi 0)),.dc (.raw (Zi 0))],.box ptB]):=hf nB;by_cases h:s.length=64
 rotate_left
 rw[show fF s=(nB,10) by unfold fF;rw[if_neg h]];refine aA rfl ?_;have e:¬ (s.length:Int)=64:=by omega
 simp (disch:=omega) only[go_sem,h14c,aF,e];rfl;have hL:(s.length:Int)=64:=by omega
 refine aA rfl ?_;simp (maxSteps:=2000000) (disch:=omega) only[go_sem,h14c,aF,hL,hf0,Int.reduceEq];rw[aR (fun k=>⟨(sv s::jk 1 (.one (.ptr 0 0)::jk 1 (.one (.ptr 1 0)::jk 10 (.one (.bls 2 0 6 1)::vi 6::vi k::jk 51 [])))),[nB.o,(rN s k).o,.box ptC]⟩) 6 ?_ ?_]
 rotate_left
 rw[aTU];rfl;intro j hj;have t2:(2:Int).toNat=2:=rfl;have t3:(3:Int).toNat=3:=rfl;have t4:(4:Int).toNat=4:=rfl;have t5:(5:Int).toNat=5:=rfl;rcases (show j=0\/j=1\/j=2\/j=3\/j=4\/j=5 by omega) with rfl|rfl|rfl|rfl|rfl|rfl
 have q:=uT (G:=G) (B:=B) s hB 8 (by omega) hl;rw[show ((8:Nat):Int)=8 from rfl] at q
 rw[aTU,aTV];generalize gL s 8 4=z at q ⊢;simp (maxSteps:=2000000) (disch:=omega) only[go_sem,h14l0,q,Bt.o,Bt.cs,nB,Int.reduceAdd,Int.reduceMul,aYk,t2,t3,t4,t5];have q:=uT (G:=G) (B:=B) s hB 12 (by omega) hl;rw[show ((12:Nat):Int)=12 from rfl] at q
 rw[aTV,aTW];generalize gL s 12 4=z at q ⊢;simp (maxSteps:=2000000) (disch:=omega) only[go_sem,h14l0,q,Bt.o,Bt.cs,nB,Int.reduceAdd,Int.reduceMul,aYk,t2,t3,t4,t5];have q:=uT (G:=G) (B:=B) s hB 16 (by omega) hl;rw[show ((16:Nat):Int)=16 from rfl] at q
 rw[aTW,aTX];generalize gL s 16 4=z at q ⊢;simp (maxSteps:=2000000) (disch:=omega) only[go_sem,h14l0,q,Bt.o,Bt.cs,nB,Int.reduceAdd,Int.reduceMul,aYk,t2,t3,t4,t5];have q:=uT (G:=G) (B:=B) s hB 20 (by omega) hl;rw[show ((20:Nat):Int)=20 from rfl] at q
 rw[aTX,aTY];generalize gL s 20 4=z at q ⊢;simp (maxSteps:=2000000) (disch:=omega) only[go_sem,h14l0,q,Bt.o,Bt.cs,nB,Int.reduceAdd,Int.reduceMul,aYk,t2,t3,t4,t5];have q:=uT (G:=G) (B:=B) s hB 24 (by omega) hl;rw[show ((24:Nat):Int)=24 from rfl] at q
 rw[aTY,aTZ];generalize gL s 24 4=z at q ⊢;simp (maxSteps:=2000000) (disch:=omega) only[go_sem,h14l0,q,Bt.o,Bt.cs,nB,Int.reduceAdd,Int.reduceMul,aYk,t2,t3,t4,t5];have q:=uT (G:=G) (B:=B) s hB 28 (by omega) hl;rw[show ((28:Nat):Int)=28 from rfl] at q
 rw[aTZ,aPG];generalize gL s 28 4=z at q ⊢;simp (maxSteps:=2000000) (disch:=omega) only[go_sem,h14l0,q,Bt.o,Bt.cs,nB,Int.reduceAdd,Int.reduceMul,aYk,t2,t3,t4,t5];have hL60:(s.take 60).length=60:=by rw[aXK];omega
 have q1:=aGf (G:=G) (B:=B) (s.take 60) (fun x hx=>hB x (aX6 hx)) (by omega)
 have hf1:=hf (rN s 6);have hB60:aM (s.take 60):=fun x hx=>hB x (aX6 hx)
 have hBT:aM ((s.take 60).drop 32):=fun x hx=>hB60 x (aYl hx)
 have hLT:((s.take 60).drop 32).length=28:=by rw[aXS];omega
 have q2:=aKW (G:=G) (B:=B) ((s.take 60).drop 32) hBT (by omega) (by intro e;rw[e] at hLT;cases hLT);have q3:EV G (Tb B) 73 [sv s,.one (.dc (.raw (.string ⟨#[68,69,80,79,83,73,84,49]⟩)))] []=some (vb (decide (s.take 8=tW)),[]):=aKX s tW hB Lw (by omega) (by rw[h];decide);have q4:=jT (G:=G) (B:=B) (jW (s.take 60)) (by have:=Cn (s.take 60);omega);have u:=gI (G:=G) (B:=B);have f:=mM (G:=G) (B:=B);have c:=pH (G:=G) (B:=B) (rN s 6);have eT:(dL (trZ ((s.take 60).drop 32))=⟨#[]⟩)=(trZ ((s.take 60).drop 32)=[]):=dR (b:=[]) (aGi hBT) (fun b hb=>by cases hb)
 have eE:(dL (s.drop 60)=dL (bK (jW (s.take 60)) 4))=(s.drop 60=bK (jW (s.take 60)) 4):=dR (fun x hx=>hB x (aYl hx)) (cM _ _)
 have r:fF s=if (decide (s.take 8=tW)&&decide (trZ ((s.take 60).drop 32)=[])&&decide (s.drop 60=bK (jW (s.take 60)) 4))=true then (if jA (rN s 6)=0 then (rN s 6,0) else (nB,jA (rN s 6))) else (nB,3):=by
  unfold fF;rw[if_pos h];rfl
 have e32:(8:Int)+4*6=32:=rfl;have t60:(60:Int).toNat=60:=rfl;have t32:(32:Int).toNat=32:=rfl;generalize rN s 6=X at hf1 c r ⊢;generalize fF s=D at r ⊢;generalize decide (s.take 8=tW)=b1 at q3 r;cases b1;have rD:D=(nB,3):=by rw[r];rfl
 rw[rD];simp (maxSteps:=2000000) (disch:=omega) only[go_sem,h14l0,q1,q2,q3,q4,u,c,f,hf1,hL,hL60,eT,eE,e32,t60,t32,Bt.o,Bt.cs,nB,bL,dV,eK,Int.reduceMul,Int.reduceAdd,Int.reduceEq,if_true,if_false];by_cases b2:trZ ((s.take 60).drop 32)=[];by_cases b3:s.drop 60=bK (jW (s.take 60)) 4;rw[decide_eq_true b2,decide_eq_true b3] at r;by_cases c0:jA X=0;have rD:D=(X,0):=by rw[r];simp[c0]
 rw[rD];simp (maxSteps:=2000000) (disch:=omega) only[go_sem,h14l0,q1,q2,q3,q4,u,c,f,hf1,hL,hL60,eT,eE,e32,t60,t32,Bt.o,Bt.cs,nB,bL,dV,eK,Int.reduceMul,Int.reduceAdd,Int.reduceEq,if_true,if_false,eq_true b2,eq_true b3,c0];have rD:D=(nB,jA X):=by rw[r];simp[c0]
 rw[rD];simp (maxSteps:=2000000) (disch:=omega) only[go_sem,h14l0,q1,q2,q3,q4,u,c,f,hf1,hL,hL60,eT,eE,e32,t60,t32,Bt.o,Bt.cs,nB,bL,dV,eK,Int.reduceMul,Int.reduceAdd,Int.reduceEq,if_true,if_false,eq_true b2,eq_true b3,c0];rw[decide_eq_false b3] at r;have rD:D=(nB,3):=by rw[r];simp
 rw[rD];simp (maxSteps:=2000000) (disch:=omega) only[go_sem,h14l0,q1,q2,q3,q4,u,c,f,hf1,hL,hL60,eT,eE,e32,t60,t32,Bt.o,Bt.cs,nB,bL,dV,eK,Int.reduceMul,Int.reduceAdd,Int.reduceEq,if_true,if_false,eq_true b2,eq_false b3];rw[decide_eq_false b2] at r;have rD:D=(nB,3):=by rw[r];simp
 rw[rD];simp (maxSteps:=2000000) (disch:=omega) only[go_sem,h14l0,q1,q2,q3,q4,u,c,f,hf1,hL,hL60,eT,eE,e32,t60,t32,Bt.o,Bt.cs,nB,bL,dV,eK,Int.reduceMul,Int.reduceAdd,Int.reduceEq,if_true,if_false,eq_false b2]
end
section
variable {G:aE}{B:aO}
theorem aPH(l:List Int)(hB:aM l)(hl:l.length<=200000):EV G (Tb B) 78 [sv l] []=some (vi (jW l),[]):=by
 refine aA rfl ?_;simp (disch:=omega) only[go_sem,h78c];rw[aR (fun k=>⟨(sv l::jk 2 (vi (jW (l.take k))::vi k::jk 20 [])),[]⟩) l.length ?_ ?_]
 simp (disch:=omega) only[go_sem,h78l0,aYh,aF];rfl;intro k hk;have hb:=hB _ (aXM hk);have hu:=iW _ hb;have hs:=Cn (l.take k);rw[aYx hk,Du];generalize jW (l.take k)=z at hs ⊢;have m1:=Q5 (G:=G) (B:=B) (z*2) 2147483648;have m2:=Q5 (G:=G) (B:=B) ((z*2) % 2147483648+z / 1073741824+l[k]) 2147483648;have d:z.tdiv 1073741824=z / 1073741824:=Int.tdiv_eq_ediv_of_nonneg hs.1;have e:Kb z l[k]=((z*2) % 2147483648+z / 1073741824+l[k]) % 2147483648:=by unfold Kb aPB;rw[Int.mul_comm 2 z]
 rw[e];simp (disch:=omega) only[go_sem,h78l0,aF,hu,m1,m2,d,aYo]
theorem aGj(x:Bt)(p:Int->Prop)(h:∀n∈x.fs,p n):p x.cl/\p x.tb/\p x.mi/\p x.lg/\p x.lc/\p x.se:=by
 simpa only[Bt.fs,aYR,List.not_mem_nil,or_false,forall_eq_or_imp,forall_eq] using h
theorem aBR(x:Bt)(hx:∀n∈x.fs,0<=n/\n<=4294967295):EV G (Tb B) 17 [x.v] []=some (sv x.bs,[]):=by
 obtain⟨g1,g2,g3,g4,g5,g6⟩:=aGj x _ hx;have q:=fun n (h:0<=n/\n<=4294967295)=>mF (G:=G) (B:=B) n 4 (by omega) (by omega)
 have q1:=q _ g1;have q2:=q _ g2;have q3:=q _ g3;have q4:=q _ g4;have q5:=q _ g5;have q6:=q _ g6;have q7:=q (jW x.s60) (by have:=Cn x.s60;omega);rw[show ((4:Nat):Int)=4 from rfl] at q1 q2 q3 q4 q5 q6 q7
 have z:=uN (G:=G) (B:=B) 28 (by omega);rw[show (28:Int).toNat=28 from rfl] at z
 have s:=aPH (G:=G) (B:=B) x.s60 (Jh x) (by rw[uU];omega);have e6:tW++bK x.cl 4++bK x.tb 4++bK x.mi 4++bK x.lg 4++bK x.lc 4++bK x.se 4=x.hd 6:=by
  rw[aKT,aKS,aKR,aKQ,aKP,aKO,aTT]
 have l6:=Jg x 6 (by omega);have e7:x.hd 6++List.replicate 28 0=x.s60:=rfl;have e8:x.s60++bK (jW x.s60) 4=x.bs:=rfl;have es:(⟨#[68,69,80,79,83,73,84,49]⟩:ByteArray)=dL tW:=rfl;have ls:tW.length=8:=rfl;have l60:=uU x;generalize x.s60=S at *;generalize x.hd 6=H at *;refine aA rfl ?_;have lH:(H.length:Int)=32:=by omega
 simp (maxSteps:=2000000) (disch:=first|omega|(simp only[aXD,aXE,aXH,aXC,aB,aXO,aXK,aXS,aF,bF]<;>omega)|fail) only[go_sem,h17c,es,q1,q2,q3,q4,q5,q6,q7,z,s,ls,e6,e7,e8,lH,Int.reduceSub]
noncomputable def aPI(s:List Int):Bt×Int:=if s.length=64 then if (rN s 6).bs=s then (if jA (rN s 6)=0 then (rN s 6,0) else (nB,jA (rN s 6))) else (nB,3) else (nB,10)
end
section
variable {G:aE}{B:aO}
theorem aBS{x:Bt}(h:jA x=0):x.num=true/\x.ins=true/\x.fit=true/\x.cla=true:=by
 cases hn:x.num with
 |false=>rw[qP hn] at h;cases h
 | true=>cases hi:x.ins with
  | false=>rw[tV hi] at h;cases h
  | true=>cases hf:x.fit with
   | false=>rw[Jf hn hi hf] at h;cases h
   | true=>cases hc:x.cla with
    | false=>rw[Sn hn hi hf,hc] at h;cases h
    | true=>exact⟨rfl,rfl,rfl,rfl⟩
theorem Ge{x:Bt}(h:jA x=0):∀n∈x.fs,0<=n/\n<=2147483647:=by
 obtain⟨hn,hi,_,_⟩:=aBS h;obtain⟨h1,h2,h3,h4⟩:=jS.1 hn;obtain⟨k1,k2,k3⟩:=mA.1 hi;simp only[Bt.fs,aYR,List.not_mem_nil,or_false,forall_eq_or_imp,forall_eq];omega
theorem aBT(x:Bt)(hf:EV G (Tb B) 69 [.one (.ptr 0 0)] [x.o]=some (.one (.bls 1 0 6 1),[x.o,.box ptB]))(hR:B 170 [.one (.dc (.raw (.string ⟨#[0]⟩))),vi 28] []=some (sv (zl 28),[])):
  EV G (Tb B) 13 [x.v] []=some (.tup [tS (if jA x=0 then x.bs else []),tI (jA x)],[]):=by
 have c:=pH (G:=G) (B:=B) x;refine aA rfl ?_;by_cases h:jA x=0;have hx:∀n∈x.fs,0<=n/\n<=4294967295:=fun n hn=>by have:=Ge h n hn;omega
 have e:=Lx (G:=G) x hf hR hx;rw[if_pos h];rw[h] at c ⊢;simp (maxSteps:=2000000) (disch:=omega) only[go_sem,h13c,c,e]
 ·rw[if_neg h];simp (maxSteps:=2000000) (disch:=omega) only[go_sem,h13c,c,h];try rfl
theorem aWa(n:Int)(h:0<=n/\n<=4294967295):gv (bK n 4)=n:=by
 simp only[bK,Ee,aX4,aYd,gv];omega
theorem aWb{l:List Int}(h:l.length=4):∃a b c d,l=[a,b,c,d]:=by
 match l,h with
 |[a,b,c,d],_=>exact⟨a,b,c,d,rfl⟩
theorem sg4(l:List Int)(h:l.length=4)(hB:aM l):bK (gv l) 4=l:=by
 obtain⟨a,b,c,d,rfl⟩:=aWb h;have h1:=hB a (by simp);have h2:=hB b (by simp);have h3:=hB c (by simp);have h4:=hB d (by simp);simp only[bK,Ee,aX4,aYd,gv,List.cons.injEq,and_true];omega
theorem sgL(s:List Int)(hB:aM s)(a:Nat)(h:a+4<=s.length):bK (gL s a 4) 4=(s.drop a).take 4:=by
 unfold gL;exact sg4 _ (by rw[aXK,aXS];omega) (tK hB a 4)
theorem oZ(s:List Int)(a b n:Nat):(s.drop a).take b++(s.drop (a+b)).take n=(s.drop a).take (b+n):=by
 rw[List.take_add,List.drop_drop]
theorem aT0(s:List Int)(hB:aM s)(h:s.length=64):(rN s 6).hd 6=tW++(s.drop 8).take 24:=by
 rw[aPG,aKT,aKS,aKR,aKQ,aKP,aKO,aTT,sgL s hB 8 (by omega),sgL s hB 12 (by omega),sgL s hB 16 (by omega),sgL s hB 20 (by omega),sgL s hB 24 (by omega),sgL s hB 28 (by omega)];simp only[aXR];rw[oZ s 24 4 4,oZ s 20 4 8,oZ s 16 4 12,oZ s 12 4 16,oZ s 8 4 20]
theorem Y2(s:List Int)(hB:aM s)(h:s.length=64):aPF s=true↔(rN s 6).bs=s:=by
 have e:(rN s 6).s60=tW++(s.drop 8).take 24++zl 28:=by rw[Bt.s60,aT0 s hB h]
 have hs:s.take 8++(s.drop 8).take 24++(s.take 60).drop 32=s.take 60:=by
  have h1:s.take 8++(s.drop 8).take 24=s.take 32:=by rw[show (32:Nat)=8+24 from rfl,List.take_add]
  have h2:s.take 32=(s.take 60).take 32:=by rw[List.take_take];rfl
  rw[h1,h2,aYI]
 have lz:((s.take 60).drop 32).length=28:=by rw[aXS,aXK];omega
 have z:trZ ((s.take 60).drop 32)=[]↔(s.take 60).drop 32=zl 28:=by rw[aKV,lz]
 have key:(rN s 6).s60=s.take 60↔s.take 8=tW/\(s.take 60).drop 32=zl 28:=by
  rw[e,<- hs];have l8:tW.length=(s.take 8).length:=by rw[aXK,h];rfl
  constructor;intro q;obtain⟨q1,q2⟩:=List.append_inj q (by rw[aXD,aXD,l8]);obtain⟨q3,_⟩:=List.append_inj q1 l8;refine⟨q3.symm,?_⟩;rw[hs];exact q2.symm;rintro⟨q1,q2⟩;rw[hs] at q2;rw[q1,q2]
 have whole:(rN s 6).bs=s↔(rN s 6).s60=s.take 60/\bK (jW (rN s 6).s60) 4=s.drop 60:=by
  constructor;intro q;have q':(rN s 6).s60++bK (jW (rN s 6).s60) 4=s.take 60++s.drop 60:=by rw[aYI];exact q
  exact List.append_inj q' (by rw[uU,aXK];omega);rintro⟨q1,q2⟩;rw[Bt.bs,q2,q1,aYI]
 rw[whole,key];unfold aPF;simp only[aXQ,decide_eq_true_eq];rw[z];constructor;rintro⟨h1,h3⟩;refine⟨h1,?_⟩;rw[key.2 h1];exact h3.symm;rintro⟨h1,h3⟩;refine⟨h1,?_⟩;rw[key.2 h1] at h3;exact h3.symm
theorem aKY(s:List Int)(hB:aM s):fF s=aPI s:=by
 unfold fF aPI;by_cases h:s.length=64;rw[if_pos h,if_pos h];by_cases b:(rN s 6).bs=s;rw[if_pos b,if_pos ((Y2 s hB h).2 b)];rw[if_neg b,if_neg (fun q=>b ((Y2 s hB h).1 q))]
 rw[if_neg h,if_neg h]
theorem aPJ(p z q:List Int)(k:Nat)(h:z.length=k):gL (p++(z++q)) p.length k=gv z:=by
 unfold gL;rw[List.drop_left,<- h,List.take_left]
theorem aT1(x:Bt)(hx:∀n∈x.fs,0<=n/\n<=4294967295):rN x.bs 6=x:=by
 obtain⟨g1,g2,g3,g4,g5,g6⟩:=aGj x _ hx;have e:∀k (n:Int) q,x.bs=x.hd k++(bK n 4++q)->k<=6->0<=n/\n<=4294967295->gL x.bs (8+4*k) 4=n:=by
  intro k n q h1 h2 h3;rw[h1,<- Jg x k h2,aPJ _ _ _ _ (aB _ _),aWa n h3]
 have f:x.bs=x.hd 6++(zl 28++bK (jW x.s60) 4):=by rw[Bt.bs,Bt.s60,aXR]
 have f5:x.bs=x.hd 5++(bK x.se 4++(zl 28++bK (jW x.s60) 4)):=by rw[f,aKT,aXR]
 have f4:x.bs=x.hd 4++(bK x.lc 4++(bK x.se 4++(zl 28++bK (jW x.s60) 4))):=by rw[f5,aKS,aXR]
 have f3:x.bs=x.hd 3++(bK x.lg 4++(bK x.lc 4++(bK x.se 4++(zl 28++bK (jW x.s60) 4)))):=by rw[f4,aKR,aXR]
 have f2:x.bs=x.hd 2++(bK x.mi 4++(bK x.lg 4++(bK x.lc 4++(bK x.se 4++(zl 28++bK (jW x.s60) 4))))):=by rw[f3,aKQ,aXR]
 have f1:x.bs=x.hd 1++(bK x.tb 4++(bK x.mi 4++(bK x.lg 4++(bK x.lc 4++(bK x.se 4++(zl 28++bK (jW x.s60) 4)))))):=by rw[f2,aKP,aXR]
 have f0:x.bs=x.hd 0++(bK x.cl 4++(bK x.tb 4++(bK x.mi 4++(bK x.lg 4++(bK x.lc 4++(bK x.se 4++(zl 28++bK (jW x.s60) 4))))))):=by rw[f1,aKO,aXR]
 rw[aPG,e 0 _ _ f0 (by omega) g1,e 1 _ _ f1 (by omega) g2,e 2 _ _ f2 (by omega) g3,e 3 _ _ f3 (by omega) g4,e 4 _ _ f4 (by omega) g5,e 5 _ _ f5 (by omega) g6]
theorem aPK(x:Bt)(h:jA x=0):fF x.bs=(x,0):=by
 rw[aKY _ (Co x)];unfold aPI;have r:=aT1 x (fun n hn=>by have:=Ge h n hn;omega)
 rw[if_pos (Dv x),r,if_pos rfl,if_pos h]
end
section
variable {G:aE}{B:aO}
theorem aBU(b:Bool)(e:Int):EV G (Tb B) 180 [vb b,vi e] []=some (vi (pD b e),[]):=by
 refine aA rfl ?_;cases b;all_goals simp (disch:=omega) only[go_sem,h180c]
 all_goals rfl
theorem aGk(l:List Int)(hl:l.length<=1000):EV G (Tb B) 179 [vl (el l)] []=some (vi (aS l),[]):=by
 refine aA rfl ?_;simp (disch:=omega) only[go_sem,h179c,aXC];have round:∀ k (hk:k < l.length),¬ l.getD k 0≠0->K6 [5,0,0] 0 (EC (EV G (Tb B)) G h179l0 ⟨(jk 5 (vl (el l)::vi l.length::vi k::jk 7 [])),[]⟩)=some ⟨(jk 5 (vl (el l)::vi l.length::vi (k+1:Nat)::jk 7 [])),[]⟩:=fun k hk hz=>by
  rw[cL l k hk] at hz;simp (disch:=omega) only[go_sem,h179l0,aXC,E4]
 rcases M8 (fun k=>l.getD k 0≠0) l.length with h|⟨j,hj,h1,h2⟩
 rw[aR (fun k=>⟨(jk 5 (vl (el l)::vi l.length::vi k::jk 7 [])),[]⟩) l.length ?_ ?_]
 rw[gR l h];simp (disch:=omega) only[go_sem,h179l0];rfl;exact fun k hk=>round k hk (h k hk)
 rw[aR (fun k=>⟨(jk 5 (vl (el l)::vi l.length::vi k::jk 7 [])),[]⟩) j ?_ ?_]
 rw[jQ l j hj h2 h1];rw[cL l j hj] at h1;simp (disch:=omega) only[go_sem,h179l0,aXC,E4];rfl;exact fun k hk=>round k (by omega) (h2 k hk)
theorem aGl(a b:Int):EV G (Tb B) 179 [vl [[ci a],[ci b]]] []=some (vi (aS [a,b]),[]):=aGk [a,b] (by simp)
theorem aGm(l:List Int):(dL l=⟨#[]⟩)=(l=[]):=by
 apply propext;refine⟨fun h=>?_,fun h=>by rw[h];rfl⟩
 have:=congrArg ByteArray.size h;rw[aF] at this;exact List.length_eq_zero_iff.1 this
def Y3(n:Nat):Int:=if n=0\/n % 64≠0 then 10 else if 131072<n then 8 else 0
def dkE(n:Nat):Int:=if Y3 n≠0 then Y3 n else if n % 256=0/\64<=n / 256/\n / 256<=512 then 0 else 10
theorem Vn(n m:Nat):(n:Int).tmod (m:Int)=((n % m:Nat):Int):=by
 rw[Int.tmod_eq_emod_of_nonneg (by omega)];simp
theorem aGn(n m:Nat):(n:Int).tdiv (m:Int)=((n / m:Nat):Int):=by
 rw[Int.tdiv_eq_ediv_of_nonneg (by omega)];simp
theorem aBV(l:List Int)(hl:l.length<=200000):EV G (Tb B) 140 [sv l] []=some (vi (Y3 l.length),[]):=by
 have u:=aBU (G:=G) (B:=B);have f:=aGl (G:=G) (B:=B);have m:(l.length:Int).tmod 64=((l.length % 64:Nat):Int):=Vn l.length 64;have e:=aGm l;refine aA rfl ?_;by_cases h0:l=[];have eN:(dL l=⟨#[]⟩)=True:=by rw[e];exact eq_true h0
 have hL:(l.length:Int)=0:=by rw[h0];rfl
 have ec:Y3 l.length=10:=by rw[h0];rfl
 have h4:(0:Int)<=131072:=by omega
 simp (disch:=omega) only[go_sem,h140c,aF,u,f,hL,eN,ec,h4,dV,eK,bL,decide_false,decide_true,aX5,not_true_eq_false];have h1:l.length≠0:=fun q=>h0 (List.length_eq_zero_iff.1 q)
 by_cases h2:l.length % 64=0;by_cases h3:131072<l.length;have ec:Y3 l.length=8:=by unfold Y3;rw[if_neg (by omega),if_pos h3]
 have h4:¬ (l.length:Int)<=131072:=by omega
 have h5:((l.length % 64:Nat):Int)=0:=by omega
 simp (disch:=omega) only[go_sem,h140c,aF,u,f,m,e,h0,h4,h5,ec,dV,eK,bL,decide_false,decide_true,aX5];have ec:Y3 l.length=0:=by unfold Y3;rw[if_neg (by omega),if_neg h3]
 have h4:(l.length:Int)<=131072:=by omega
 have h5:((l.length % 64:Nat):Int)=0:=by omega
 simp (disch:=omega) only[go_sem,h140c,aF,u,f,m,e,h0,h4,h5,ec,dV,eK,bL,decide_false,decide_true,aX5];have ec:Y3 l.length=10:=by unfold Y3;rw[if_pos (by omega)]
 have h5:¬ ((l.length % 64:Nat):Int)=0:=by omega
 simp (disch:=omega) only[go_sem,h140c,aF,u,f,m,e,h0,h5,ec,dV,eK,bL,decide_false,decide_true,aX5]
theorem St(l:List Int)(hl:l.length<=200000):EV G (Tb B) 95 [sv l] []=some (vi (l.length / 256:Nat),[]):=by
 have d:(l.length:Int).tdiv 256=((l.length / 256:Nat):Int):=aGn l.length 256;refine aA rfl ?_;simp (disch:=omega) only[go_sem,h95c,aF,d]
theorem aBW(l:List Int)(hl:l.length<=200000):EV G (Tb B) 87 [sv l] []=some (vi (dkE l.length),[]):=by
 have u:=gI (G:=G) (B:=B);have f:=mM (G:=G) (B:=B);have k:=aBV (G:=G) (B:=B) l hl;have n:=St (G:=G) (B:=B) l hl;have w:=iU (G:=G) (B:=B) (l.length / 256:Nat) 64 512;have m:(l.length:Int).tmod 256=((l.length % 256:Nat):Int):=Vn l.length 256;refine aA rfl ?_;have e:dkE l.length=if Y3 l.length=0 then pD (decide (l.length % 256=0/\64<=l.length / 256/\l.length / 256<=512)) 10 else Y3 l.length:=by
  unfold dkE pD;by_cases h:Y3 l.length=0;rw[if_neg (by simp[h]),if_pos h];simp;rw[if_pos h,if_neg h]
 rw[e];generalize l.length / 256=c at *;by_cases h2:l.length % 256=0;have h5:((l.length % 256:Nat):Int)=0:=by omega
 have e2:decide (l.length % 256=0/\64<=c/\c<=512)=decide ((64:Int)<=(c:Int)/\(c:Int)<=512):=by
  rw[decide_eq_decide];omega
 rw[e2];simp (disch:=omega) only[go_sem,h87c,aF,u,f,k,n,w,m,h5,bL,decide_true];have h5:¬ ((l.length % 256:Nat):Int)=0:=by omega
 have e2:decide (l.length % 256=0/\64<=c/\c<=512)=false:=by simp[h2]
 rw[e2];simp (disch:=omega) only[go_sem,h87c,aF,u,f,k,n,w,m,h5,bL,decide_false]
end
section
variable {G:aE}{B:aO}
noncomputable def zY(l:List Int):Bt×Int×Bool:=
 if (fF (l.take 64)).2=0/\(fF (l.take 64)).1.cl=(l.length / 256:Nat) then ((fF (l.take 64)).1,0,true)
 else if (fF (l.drop (l.length-64))).2=0/\(fF (l.drop (l.length-64))).1.cl=(l.length / 256:Nat) then ((fF (l.drop (l.length-64))).1,1,true) else (nB,0,false)
abbrev tB(b:Bool):TV:=.one (.dc (.raw (.bool b)))
theorem mS{n:Nat}{v:AV}{i:Int}:aMT n v (some i)=S6 n v i:=rfl
theorem pP{a b:aT}:S6 2 (.agg [a,b]) 0=some (.one a):=rfl
theorem rO{a b:aT}:S6 2 (.agg [a,b]) 1=some (.one b):=rfl
set_option maxHeartbeats 2000000 in
theorem aPL(hf:∀x:Bt,EV G (Tb B) 69 [.one (.ptr 0 0)] [x.o]=some (.one (.bls 1 0 6 1),[x.o,.box ptB]))(l:List Int)(hB:aM l)(hl:64<=l.length/\l.length<=200000):
  EV G (Tb B) 88 [sv l] []=some (.tup [.agg (zY l).1.cs,tI (zY l).2.1,tB (zY l).2.2],[]):=by
 have d1:=Ly (G:=G) (B:=B) hf (l.take 64) (fun x hx=>hB x (aX6 hx)) (by rw[aXK];omega)
 have d2:=Ly (G:=G) (B:=B) hf (l.drop (l.length-64)) (fun x hx=>hB x (aYl hx)) (by rw[aXS];omega)
 have n:=St (G:=G) (B:=B) l hl.2;unfold zY;generalize fF (l.take 64)=D1 at d1 ⊢;generalize fF (l.drop (l.length-64))=D2 at d2 ⊢;obtain⟨x1,e1⟩:=D1;obtain⟨x2,e2⟩:=D2;have t64:(64:Int).toNat=64:=rfl;have tl:((l.length:Int)-64).toNat=l.length-64:=by omega
 refine aA rfl ?_;simp (maxSteps:=2000000) (disch:=first|omega|(simp only[aXD,aXE,aXH,aXC,aB,aXO,aXK,aXS,aF,bF]<;>omega)|fail) only[go_sem,h88c,aF,t64,tl]
 have r0:¬ (e1=0/\x1.cl=(l.length / 256:Nat))->K6 [0,1,13,0] 1 (EC (EV G (Tb B)) G h88l0 ⟨(sv l::jk 1 (.one (.ptr 0 0)::jk 13 (.agg [.dc (.raw (.string (dL (l.take 64)))),.dc (.raw (.string (dL (l.drop (l.length-64)))))]::vi (0:Nat)::jk 21 []))),[nB.o]⟩)=some ⟨(sv l::jk 1 (.one (.ptr 0 0)::jk 13 (.agg [.dc (.raw (.string (dL (l.take 64)))),.dc (.raw (.string (dL (l.drop (l.length-64)))))]::vi (1:Nat)::jk 21 []))),[nB.o]⟩:=by
  intro h;by_cases h1:e1=0;have h2:¬ x1.cl=(l.length / 256:Nat):=fun q=>h ⟨h1,q⟩
  simp (maxSteps:=2000000) (disch:=omega) only[go_sem,h88l0,n,mS,pP,rO,Bt.o,Bt.cs,nB,Int.reduceAdd,Int.reduceLT,aYk,bH,d1,h1,h2];simp (maxSteps:=2000000) (disch:=omega) only[go_sem,h88l0,n,mS,pP,rO,Bt.o,Bt.cs,nB,Int.reduceAdd,Int.reduceLT,aYk,bH,d1,h1]
 have r1:¬ (e2=0/\x2.cl=(l.length / 256:Nat))->K6 [0,1,13,0] 1 (EC (EV G (Tb B)) G h88l0 ⟨(sv l::jk 1 (.one (.ptr 0 0)::jk 13 (.agg [.dc (.raw (.string (dL (l.take 64)))),.dc (.raw (.string (dL (l.drop (l.length-64)))))]::vi (1:Nat)::jk 21 []))),[nB.o]⟩)=some ⟨(sv l::jk 1 (.one (.ptr 0 0)::jk 13 (.agg [.dc (.raw (.string (dL (l.take 64)))),.dc (.raw (.string (dL (l.drop (l.length-64)))))]::vi (2:Nat)::jk 21 []))),[nB.o]⟩:=by
  intro h;by_cases h1:e2=0;have h2:¬ x2.cl=(l.length / 256:Nat):=fun q=>h ⟨h1,q⟩
  simp (maxSteps:=2000000) (disch:=omega) only[go_sem,h88l0,n,mS,pP,rO,Bt.o,Bt.cs,nB,Int.reduceAdd,Int.reduceLT,aYk,bH,d2,h1,h2];simp (maxSteps:=2000000) (disch:=omega) only[go_sem,h88l0,n,mS,pP,rO,Bt.o,Bt.cs,nB,Int.reduceAdd,Int.reduceLT,aYk,bH,d2,h1]
 by_cases c1:e1=0/\x1.cl=(l.length / 256:Nat);rw[if_pos c1];obtain⟨c1,c2⟩:=c1;rw[aR (fun k=>⟨(sv l::jk 1 (.one (.ptr 0 0)::jk 13 (.agg [.dc (.raw (.string (dL (l.take 64)))),.dc (.raw (.string (dL (l.drop (l.length-64)))))]::vi k::jk 21 []))),[nB.o]⟩) 0 ?_ ?_]
 simp (maxSteps:=2000000) (disch:=omega) only[go_sem,h88l0,n,mS,pP,rO,Bt.o,Bt.cs,nB,Int.reduceAdd,Int.reduceLT,aYk,bH,h88c,d1,c1,c2];rfl;intro k hk;omega;rw[if_neg c1];by_cases c3:e2=0/\x2.cl=(l.length / 256:Nat);rw[if_pos c3];obtain⟨c3,c4⟩:=c3;rw[aR (fun k=>⟨(sv l::jk 1 (.one (.ptr 0 0)::jk 13 (.agg [.dc (.raw (.string (dL (l.take 64)))),.dc (.raw (.string (dL (l.drop (l.length-64)))))]::vi k::jk 21 []))),[nB.o]⟩) 1 ?_ ?_]
 simp (maxSteps:=2000000) (disch:=omega) only[go_sem,h88l0,n,mS,pP,rO,Bt.o,Bt.cs,nB,Int.reduceAdd,Int.reduceLT,aYk,bH,h88c,d2,c3,c4];rfl;intro k hk;rw[show k=0 by omega];exact r0 c1;rw[if_neg c3];rw[aR (fun k=>⟨(sv l::jk 1 (.one (.ptr 0 0)::jk 13 (.agg [.dc (.raw (.string (dL (l.take 64)))),.dc (.raw (.string (dL (l.drop (l.length-64)))))]::vi k::jk 21 []))),[nB.o]⟩) 2 ?_ ?_]
 simp (maxSteps:=2000000) (disch:=omega) only[go_sem,h88l0,n,mS,pP,rO,Bt.o,Bt.cs,nB,Int.reduceAdd,Int.reduceLT,aYk,bH,h88c,d2];rfl;intro k hk;rcases (show k=0\/k=1 by omega) with rfl|rfl
 exact r0 c1;exact r1 c3
noncomputable def bW(l:List Int):Bt×Int×Int:=if dkE l.length=0 then ((zY l).1,(zY l).2.1,pD (zY l).2.2 6) else (nB,0,dkE l.length)
theorem dk0{n:Nat}(h:dkE n=0):n % 256=0/\64<=n / 256/\n / 256<=512:=by
 unfold dkE at h;split at h;rename_i q;exact absurd h q;split at h
 assumption
 cases h
set_option maxHeartbeats 1000000 in
theorem Su(hf:∀x:Bt,EV G (Tb B) 69 [.one (.ptr 0 0)] [x.o]=some (.one (.bls 1 0 6 1),[x.o,.box ptB]))(l:List Int)(hB:aM l)(hl:l.length<=200000):
  EV G (Tb B) 29 [sv l] []=some (.tup [.agg (bW l).1.cs,tI (bW l).2.1,tI (bW l).2.2],[]):=by
 have d:=aBW (G:=G) (B:=B) l hl;have u:=gI (G:=G) (B:=B);unfold bW;by_cases h:dkE l.length=0;rw[if_pos h];have k:=dk0 h;have b:=aPL (G:=G) hf l hB (by omega);generalize zY l=V at b ⊢;obtain⟨x,i,q⟩:=V;refine aA rfl ?_;simp (maxSteps:=2000000) (disch:=omega) only[go_sem,h29c,d,h,b,u,Bt.cs,nB];rw[if_neg h];refine aA rfl ?_;simp (maxSteps:=2000000) (disch:=omega) only[go_sem,h29c,d,h,Bt.cs,nB]
end
section
variable {G:aE}{B:aO}
theorem Cp(x:Bt):EV G (Tb B) 69 [.one (.ptr 0 0)] [x.o]=some (.one (.bls 1 0 6 1),[x.o,.box ptB]):=aA rfl (aBQ x)
theorem Cq(s t:List Int)(a:Nat)(h:a+t.length<=s.length)(hl:s.length<=1000000):EV G (Tb B) 24 [sv s,vi a,sv t] []=some (sv (fG s a t),[]):=by
 refine aA rfl ?_;have e:((a:Int)+(t.length:Int)).toNat=a+t.length:=by omega
 unfold fG;simp (disch:=first|omega|(simp only[aXD,aXE,aXH,aXC,aB,aXO,aXK,aXS,aF,bF]<;>omega)|fail) only[go_sem,h24c,aF,aYm,Int.toNat_zero,aYq,e,aXK,aXS]
def Dw(l:List Int)(x:Bt):List Int:=fG (fG l 0 x.bs) (l.length-64) x.bs
theorem aPM(l:List Int)(x:Bt)(hx:∀n∈x.fs,0<=n/\n<=4294967295)(hl:64<=l.length/\l.length<=200000):EV G (Tb B) 41 [sv l,x.v] []=some (sv (Dw l x),[]):=by
 have b:=aBR (G:=G) (B:=B) x hx;have lb:=Dv x;have p1:=Cq (G:=G) (B:=B) l x.bs 0 (by omega) (by omega);have l1:(fG l 0 x.bs).length=l.length:=cP (by omega);have p2:=Cq (G:=G) (B:=B) (fG l 0 x.bs) x.bs (l.length-64) (by omega) (by omega);rw[Int.natCast_zero] at p1;have e:((l.length-64:Nat):Int)=(l.length:Int)-64:=by omega
 rw[e] at p2;have r:Dw l x=fG (fG l 0 x.bs) (l.length-64) x.bs:=rfl;rw[r];generalize fG l 0 x.bs=M at *;generalize fG M (l.length-64) x.bs=M2 at *;refine aA rfl ?_;simp (disch:=omega) only[go_sem,h41c,aF,b,p1,p2,l1]
set_option maxHeartbeats 1000000 in
theorem aPN(l:List Int)(x:Bt)(N:Nat)(hN:l.length=N)(hR:B 170 [.one (.dc (.raw (.string ⟨#[0]⟩))),vi 28] []=some (sv (zl 28),[]))(hx:∀n∈x.fs,0<=n/\n<=4294967295)(hl:64<=N/\N<=200000):
  EV G (Tb B) 96 [.one (.bls 0 0 N 1),x.v] [yb l]=some (.tup [],[yb (Dw l x)]):=by
 have e:=Lx (G:=G) (B:=B) x (Cp x) hR hx;have lb:=Dv x;have c1:=oO l x.bs 0 N (Co x) (by omega);have l1:(fG l 0 x.bs).length=N:=by rw[cP (by omega),hN]
 have c2:=oO (fG l 0 x.bs) x.bs (N-64) 64 (Co x) (by omega);have r:Dw l x=fG (fG l 0 x.bs) (N-64) x.bs:=by rw[Dw,hN]
 rw[r];generalize fG l 0 x.bs=M at *;generalize fG M (N-64) x.bs=M2 at *;generalize x.bs=X at *;have tn:((N:Int)-64).toNat=N-64:=by omega
 have lX:(X.length:Int)=64:=by omega
 have e64:N-(N-64)=64:=by omega
 refine aA rfl ?_;simp (maxSteps:=2000000) (disch:=omega) only[go_sem,h96c,e,c1,c2,aXC,tn,lX,hN,l1,lb,e64]
end
section
variable {G:aE}{B:aO}
theorem aKZ{b s:List Int}{k:Nat}(hb:aM b)(hs:aM s):aM (fG b k s):=fun x hx=>by
 unfold fG at hx;rcases aYV.1 hx with hx|hx
 rcases aYV.1 hx with hx|hx;exact hb x (aX6 hx);exact hs x hx;exact hb x (aYl hx)
theorem aK0(l:List Int)(x:Bt)(h:64<=l.length):(Dw l x).length=l.length:=by
 have:=Dv x;rw[Dw,cP (by rw[cP (by omega)];omega),cP (by omega)]
theorem aGo(l:List Int)(x:Bt)(h:128<=l.length):(Dw l x).take 64=x.bs:=by
 have lb:=Dv x;have l1:(fG l 0 x.bs).length=l.length:=cP (by omega);unfold Dw;rw[fG,aXR,aY3 (by rw[aXK];omega),List.take_take,aY1 (by omega)];rw[fG,aYQ,aX4,aY3 (by omega),aYe (by omega)]
end
section
variable {G:aE}{B:aO}
def Kc(x:Bt)(n:Int):Int:=if jA x=0 then if 16<=n/\n<=96 then if x.tb+2*n<x.cl then if As x.tb (2*n) x.mi 8=true\/As x.tb (2*n) x.lg x.lc=true then 13 else 0 else 37 else 2 else jA x
theorem Vo(x:Bt)(n:Int):EV G (Tb B) 43 [x.v,vi n] []=some (vi (Kc x n),[]):=by
 have c:=aBN (G:=G) (B:=B) x;have w:=fun lo hi=>cB (G:=G) (B:=B) n lo hi
 unfold Kc;by_cases h:jA x=0
 rotate_left
 rw[if_neg h];refine aA rfl ?_;simp (maxSteps:=2000000) (disch:=omega) only[go_sem,h43c,c,h];rw[if_pos h];obtain⟨hn,hi,hf,hc⟩:=aBS h;obtain⟨h1,h2,h3,h4⟩:=jS.1 hn;obtain⟨k1,k2,k3⟩:=mA.1 hi;by_cases g:16<=n/\n<=96
 rotate_left
 rw[if_neg g];refine aA rfl ?_;simp (maxSteps:=2000000) (disch:=omega) only[go_sem,h43c,c,h,w,g];rw[if_pos g];by_cases e:x.tb+2*n<x.cl
 rotate_left
 have e':x.tb+2*n > x.cl-1:=by omega
 rw[if_neg e];refine aA rfl ?_;simp (maxSteps:=2000000) (disch:=omega) only[go_sem,h43c,c,h,w,g,eq_true e'];have e':¬ x.tb+2*n > x.cl-1:=by omega
 rw[if_pos e];have m1:=Cl (G:=G) (B:=B) x.tb (2*n) x.mi 8 (by omega) (by omega) (by omega) (by omega);have m2:=Cl (G:=G) (B:=B) x.tb (2*n) x.lg x.lc (by omega) (by omega) (by omega) (by omega);generalize As x.tb (2*n) x.mi 8=M1 at m1 ⊢;generalize As x.tb (2*n) x.lg x.lc=M2 at m2 ⊢;refine aA rfl ?_;cases M1;cases M2;simp (maxSteps:=2000000) (disch:=omega) only[go_sem,h43c,c,h,w,g,e',m1,m2];simp (maxSteps:=2000000) (disch:=omega) only[go_sem,h43c,c,h,w,g,e',m1,m2];simp (maxSteps:=2000000) (disch:=omega) only[go_sem,h43c,c,h,w,g,e',m1,m2]
end
section
variable {G:aE}{B:aO}
theorem Ji(n:Int)(h:-1000000<=n/\n<=1000000):EV G (Tb B) 100 [vi n] []=some (.agg [.dc (ci n),.dc (ci (n+1))],[]):=by
 refine aA rfl ?_;simp (disch:=omega) only[go_sem,h100c]
theorem N9(l:List Int)(N k:Nat)(hN:l.length=N)(h:k*256+256<=N)(hl:N<=200000):EV G (Tb B) 146 [.one (.bls 0 0 N 1),vi k] [yb l]=some (.one (.bls 0 (k*256) 256 1),[yb l]):=by
 have e:((k:Int)*256).toNat=k*256:=by omega
 have w:(k:Int)*256=((k*256:Nat):Int):=by omega
 generalize hm:k*256=m at *;have t2:(256:Int).toNat=256:=rfl;refine aA rfl ?_;simp (maxSteps:=2000000) (disch:=omega) only[go_sem,h146c,aXC,hN,w,e,t2]
end
section
variable {G:aE}{B:aO}
def mT(l b:List Int)(n0 n1:Nat):List Int:=fG (fG l (n0*256) (b.take 256)) (n1*256) (b.drop 256)
def aK1(l b:List Int)(n0 n1:Nat):Nat->List Int
 |0=>l
 |1=>fG l (n0*256) (b.take 256)
 |_=>mT l b n0 n1
set_option maxHeartbeats 1000000 in
theorem Sv(l b:List Int)(N n0 n1:Nat)(hN:l.length=N)(hb:b.length=512)(hB:aM b)(h0:n0*256+256<=N)(h1:n1*256+256<=N)(hl:N<=200000):
  EV G (Tb B) 99 [.one (.bls 0 0 N 1),sv b,.agg [.dc (ci n0),.dc (ci n1)]] [yb l]=some (.tup [],[yb (mT l b n0 n1)]):=by
 have q0:=N9 (G:=G) (B:=B) l N n0 hN h0 hl;have l1:(fG l (n0*256) (b.take 256)).length=N:=by rw[cP (by rw[aXK];omega),hN]
 have q1:=N9 (G:=G) (B:=B) (fG l (n0*256) (b.take 256)) N n1 l1 h1 hl;have B1:aM (b.take 256):=fun x hx=>hB x (aX6 hx)
 have B2:aM (b.drop 256):=fun x hx=>hB x (aYl hx)
 have c0:=oO l (b.take 256) (n0*256) 256 B1 (by rw[aXK];omega);rw[aYr,List.take_take,Nat.min_self] at c0;have c1:=oO (fG l (n0*256) (b.take 256)) (b.drop 256) (n1*256) 256 B2 (by rw[aXS];omega);have b5:b.take 512=b:=aYe (by omega);have t2:(256:Int).toNat=256:=rfl;refine aA rfl ?_;simp (maxSteps:=2000000) (disch:=omega) only[go_sem,h99c];rw[aR (fun k=>⟨(.one (.bls 0 0 N 1)::sv b::jk 6 (.agg [.dc (ci (n0:Nat)),.dc (ci (n1:Nat))]::vi k::jk 12 [])),[yb (aK1 l b n0 n1 k),.box [.dc (ci (n0:Nat)),.dc (ci (n1:Nat))]]⟩) 2 ?_ ?_]
 simp (maxSteps:=2000000) (disch:=omega) only[go_sem,h99l0,aK1];rfl;intro k hk;rcases (show k=0\/k=1 by omega) with rfl|rfl
 simp (maxSteps:=2000000) (disch:=omega) only[go_sem,h99l0,aK1,mS,pP,q0,aF,hb,aXC,hN,Int.zero_mul,Int.reduceMul,Int.reduceAdd,b5,c0,iQ];simp (maxSteps:=2000000) (disch:=omega) only[go_sem,h99l0,aK1,mT,mS,rO,q1,aF,hb,aXC,hN,l1,Int.zero_mul,Int.reduceMul,Int.reduceAdd,b5,t2,c1,iQ]
end
section
variable {G:aE}{B:aO}
def Oa(s:List Int)(n:Nat):List Int:=(s.drop (n*256)).take 256
def Dx(s:List Int)(a b:Nat):List Int:=Oa s a++Oa s b
abbrev pr2(a b:Nat):AV:=.agg [.dc (ci (a:Nat)),.dc (ci (b:Nat))]
theorem Sw{s:List Int}(h:aM s)(n:Nat):aM (Oa s n):=fun x hx=>h x (aYl (aX6 hx))
theorem qQ{s:List Int}(h:aM s)(a b:Nat):aM (Dx s a b):=fun x hx=>by
 rcases aYV.1 hx with q|q;exact Sw h a x q;exact Sw h b x q
theorem Gf{s:List Int}{n:Nat}(h:n*256+256<=s.length):(Oa s n).length=256:=by
 rw[Oa,aXK,aXS];omega
theorem Y4{s:List Int}{a b:Nat}(h:a*256+256<=s.length)(h':b*256+256<=s.length):(Dx s a b).length=512:=by
 rw[Dx,aXD,Gf h,Gf h']
theorem Y5(s:List Int)(n:Nat):List.take 256 (List.drop (n*256) (s.map yC))=(Oa s n).map yC:=by rw[Oa,aYr,aYS]
def bkH(s:List Int)(a b:Nat):Nat->List Int
 |0=>[]
 |1=>Oa s a
 |_=>Dx s a b
set_option maxHeartbeats 1000000 in
theorem Cr(x:Bt)(d6 d7 d9:DC)(s:List Int)(hB:aM s)(N a b:Nat)(hN:s.length=N)(h0:a*256+256<=N)(h1:b*256+256<=N)(hl:N<=200000):
  EV G (Tb B) 105 [.one (.ptr 0 0),pr2 a b] [rM x d6 d7 N d9,yb s]=some (sv (Dx s a b),[rM x d6 d7 N d9,yb s]):=by
 have q0:=N9 (G:=G) (B:=B) s N a hN h0 hl;have q1:=N9 (G:=G) (B:=B) s N b hN h1 hl;have e0:iV (List.take 256 (List.drop (a*256) (s.map yC)))=some ((Oa s a).map u8):=by rw[Y5,kN]
 have e1:iV (List.take 256 (List.drop (b*256) (s.map yC)))=some ((Oa s b).map u8):=by rw[Y5,kN]
 have l0:=Gf (s:=s) (n:=a) (by omega);have l1:=Gf (s:=s) (n:=b) (by omega);have n0:dL ([]:List Int)=⟨#[]⟩:=rfl;refine aA rfl ?_;simp (maxSteps:=2000000) (disch:=omega) only[go_sem,h105c,<- n0];rw[aR (fun k=>⟨(.one (.ptr 0 0)::jk 4 (sv (bkH s a b k)::jk 2 (pr2 a b::vi k::jk 13 []))),[rM x d6 d7 N d9,yb s,.box [.dc (ci (a:Nat)),.dc (ci (b:Nat))]]⟩) 2 ?_ ?_]
 simp (maxSteps:=2000000) (disch:=omega) only[go_sem,h105l0,bkH];simp (maxSteps:=2000000) (disch:=omega) only[go_sem,bkH];intro k hk;rcases (show k=0\/k=1 by omega) with rfl|rfl
 simp (maxSteps:=2000000) (disch:=first|omega|(simp only[aXD,aXE,aXH,aXC,aB,aXO,aXK,aXS,aF,bF]<;>omega)|fail) only[go_sem,h105l0,bkH,mS,pP,q0,hN,e0,Q2,aX4,Int.reduceAdd]
 simp (maxSteps:=2000000) (disch:=first|omega|(simp only[aXD,aXE,aXH,aXC,aB,aXO,aXK,aXS,aF,bF]<;>omega)|fail) only[go_sem,h105l0,bkH,Dx,mS,rO,q1,hN,e1,Q2,Int.reduceAdd]
theorem aT4{α:Type}(a b:α):[[a],[b]].flatten=[a,b]:=rfl
abbrev Y6(a b:Int):AV:=.agg [.dc (ci a),.dc (ci b)]
theorem aGp(cl:List Int)(n:Nat)(h:n+2<=cl.length):cl.drop n=cl.getD n 0::cl.getD (n+1) 0::cl.drop (n+2):=by
 rw[aYF (by omega),aYF (by omega)];simp[show n<cl.length by omega,show n+1<cl.length by omega]
theorem aGq(x:Bt)(d6 d7:DC)(N:Nat)(cl:List Int)(s:List Int)(n:Nat)(h:2*n+2<=cl.length)(hl:cl.length<=1000000):
  EV G (Tb B) 85 [.one (.ptr 0 0),vi n] [rM x d6 d7 N (.slc (cl.map fun n=>[ci n])),yb s]=some (Y6 (cl.getD (2*n) 0) (cl.getD (2*n+1) 0),[rM x d6 d7 N (.slc (cl.map fun n=>[ci n])),yb s]):=by
 have e:=aGp cl (2*n) h;have w:(2:Int)*(n:Int)=((2*n:Nat):Int):=by omega
 have lw:(cl.map fun n=>[ci n]).length=cl.length:=by rw[aXC]
 have dm:List.drop (2*n) (cl.map fun n=>[ci n])=[ci (cl.getD (2*n) 0)]::[ci (cl.getD (2*n+1) 0)]::(cl.drop (2*n+2)).map fun n=>[ci n]:=by rw[<- aYS,e];rfl
 have hall:((cl.map fun n=>[DC.raw (Value.int .i64 n)]).all fun e=>decide (e.length=1))=true:=by simp
 generalize hm:2*n=m at *;generalize cl.getD m 0=A at *;generalize cl.getD (m+1) 0=C at *;generalize (cl.drop (m+2)).map (fun n=>[ci n])=R at *
 refine aA rfl ?_;simp (maxSteps:=2000000) (disch:=omega) only[go_sem,h85c,w,lw,aYm,dm,hall,if_true,Zv,aT4]
theorem Em(x:Bt)(d6 d7 d9:DC)(N:Nat)(s:List Int)(n:Nat)(h:n<=1000)(hx:0<=x.mi/\x.mi<=1000):
  EV G (Tb B) 106 [.one (.ptr 0 0),vi n] [rM x d6 d7 N d9,yb s]=some (Y6 (x.mi+2*n) (x.mi+2*n+1),[rM x d6 d7 N d9,yb s]):=by
 have q:=Ji (G:=G) (B:=B) (x.mi+2*n) (by omega);refine aA rfl ?_;simp (maxSteps:=2000000) (disch:=omega) only[go_sem,h106c,q]
end
end Go.Proofs.YthepfneloomngaaGreatDoor
