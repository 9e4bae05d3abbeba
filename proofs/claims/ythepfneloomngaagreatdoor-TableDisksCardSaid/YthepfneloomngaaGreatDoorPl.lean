/- A boot record put on a disk. Conditions: as each theorem says. -/
import Derived.Test.YthepfneloomngaaGreatDoorPa
import Derived.Test.YthepfneloomngaaGreatDoorVh
import Derived.Test.YthepfneloomngaaGreatDoorTu
import Derived.Test.YthepfneloomngaaGreatDoorUn
namespace Go.Proofs.YthepfneloomngaaGreatDoor
set_option linter.unusedSimpArgs false
set_option linter.unusedVariables false
set_option maxRecDepth 4000
section
variable {G:aF} {B:aO}
theorem aEY(n:Int):EV G (Tb B) 75 [vi n] []=some (vb (decide (0<=n/\n<=2147483647)),[]):=by
 have w:=fun n lo hi=>Gk (G:=G) (B:=B) n lo hi
 refine aA rfl ?_;by_cases h:0<=n
 all_goals simp (disch:=omega) only[go_sem,h75c,w]
 all_goals simp[h]
theorem L7(a m b n:Int)(h:-1000000<=a/\a<=1000000)(h':-1000000<=m/\m<=1000000)(h1:-1000000<=b/\b<=1000000)(h1':-1000000<=n/\n<=1000000):EV G (Tb B) 76 [vi a,vi m,vi b,vi n] []=some (vb (C9 a m b n),[]):=by
 refine aA rfl ?_;by_cases h:a < b+n
 all_goals simp (disch:=omega) only[go_sem,h76c]
 all_goals simp[h,C9]
set_option maxHeartbeats 2000000 in
theorem Cb(x:Bt):EV G (Tb B) 16 [x.v] []=some (vi (fH x),[]):=by
 have w:=fun n lo hi=>Gk (G:=G) (B:=B) n lo hi
 have s:=aEY (G:=G) (B:=B);by_cases h1:64<=x.cl/\x.cl<=512
 rotate_left
 ·have hn:x.num=false:=by rw[aXA];exact fun h=>h1 (kT.1 h).1
  rw[pW hn];refine aA rfl ?_;simp (disch:=omega) only[go_sem,h16c,w,s,h1]
 by_cases h3:8<=x.lc/\x.lc<=64
 rotate_left
 ·have hn:x.num=false:=by rw[aXA];exact fun h=>h3 (kT.1 h).2.2.1
  rw[pW hn];refine aA rfl ?_;simp (disch:=omega) only[go_sem,h16c,w,s,h1,h3]
 by_cases h2:x.lc.tmod 2=0
 rotate_left
 ·have hn:x.num=false:=by rw[aXA];exact fun h=>h2 (kT.1 h).2.1
  rw[pW hn];refine aA rfl ?_;simp (disch:=omega) only[go_sem,h16c,w,s,h1,h3,h2]
 by_cases h4:0<=x.se/\x.se<=2147483647
 rotate_left
 ·have hn:x.num=false:=by rw[aXA];exact fun h=>h4 (kT.1 h).2.2.2
  rw[pW hn];refine aA rfl ?_;simp (disch:=omega) only[go_sem,h16c,w,s,h1,h3,h2,h4]
 have hn:x.num=true:=kT.2 ⟨h1,h2,h3,h4⟩;by_cases k1:1<=x.tb/\x.tb<=x.cl - 2
 rotate_left
 ·have hi:x.ins=false:=by rw[aXA];exact fun h=>k1 (oU.1 h).1
  rw[sL hi];refine aA rfl ?_;simp (disch:=omega) only[go_sem,h16c,w,s,h1,h3,h2,h4,k1]
 by_cases k2:1<=x.mi/\x.mi<=x.cl - 2
 rotate_left
 ·have hi:x.ins=false:=by rw[aXA];exact fun h=>k2 (oU.1 h).2.1
  rw[sL hi];refine aA rfl ?_;simp (disch:=omega) only[go_sem,h16c,w,s,h1,h3,h2,h4,k1,k2]
 by_cases k3:1<=x.lg/\x.lg<=x.cl - 2
 rotate_left
 ·have hi:x.ins=false:=by rw[aXA];exact fun h=>k3 (oU.1 h).2.2
  rw[sL hi];refine aA rfl ?_;simp (disch:=omega) only[go_sem,h16c,w,s,h1,h3,h2,h4,k1,k2,k3]
 have hi:x.ins=true:=oU.2 ⟨k1,k2,k3⟩;by_cases j1:x.mi+8 < x.cl
 rotate_left
 ·have hf:x.fit=false:=by rw[aXA];exact fun h=>j1 (A1.1 h).1
  have j:x.mi+8 > x.cl - 1:=by omega
  rw[Hn hn hi hf];refine aA rfl ?_;simp (disch:=omega) only[go_sem,h16c,w,s,h1,h3,h2,h4,k1,k2,k3,j]
 by_cases j2:x.lg+x.lc < x.cl
 rotate_left
 ·have hf:x.fit=false:=by rw[aXA];exact fun h=>j2 (A1.1 h).2
  have j:¬ x.mi+8 > x.cl - 1:=by omega
  have j':x.lg+x.lc > x.cl - 1:=by omega
  rw[Hn hn hi hf];refine aA rfl ?_;simp (disch:=omega) only[go_sem,h16c,w,s,h1,h3,h2,h4,k1,k2,k3,j,j']
 have j:¬ x.mi+8 > x.cl - 1:=by omega
 have j':¬ x.lg+x.lc > x.cl - 1:=by omega
 have hf:x.fit=true:=A1.2 ⟨j1,j2⟩;have m1:=L7 (G:=G) (B:=B) x.tb 2 x.mi 8 (by omega) (by omega) (by omega) (by omega);have m2:=L7 (G:=G) (B:=B) x.tb 2 x.lg x.lc (by omega) (by omega) (by omega) (by omega);have m3:=L7 (G:=G) (B:=B) x.mi 8 x.lg x.lc (by omega) (by omega) (by omega) (by omega);have d':x.cla=(!C9 x.tb 2 x.mi 8&&!C9 x.tb 2 x.lg x.lc&&!C9 x.mi 8 x.lg x.lc):=rfl;generalize C9 x.tb 2 x.mi 8=M1 at m1 d';generalize C9 x.tb 2 x.lg x.lc=M2 at m2 d';generalize C9 x.mi 8 x.lg x.lc=M3 at m3 d';rw[Qm hn hi hf,d'];refine aA rfl ?_;cases M1
 ·cases M2
  ·cases M3
   all_goals simp (disch:=omega) only[go_sem,h16c,w,s,h1,h3,h2,h4,k1,k2,k3,j,j',m1,m2,m3]
   all_goals rfl
  ·simp (disch:=omega) only[go_sem,h16c,w,s,h1,h3,h2,h4,k1,k2,k3,j,j',m1,m2,m3];rfl
 ·simp (disch:=omega) only[go_sem,h16c,w,s,h1,h3,h2,h4,k1,k2,k3,j,j',m1,m2,m3];rfl
end
section
variable {G:aF} {B:aO}
theorem Cc(n lo hi:Int):EV G (Tb B) 172 [vi n,vi lo,vi hi] []=some (vb (decide (lo<=n/\n<=hi)),[]):=by
 refine aA rfl ?_;by_cases h:lo<=n
 all_goals simp (disch:=omega) only[go_sem,h172c]
 all_goals simp[h]
theorem Cd(b:Bool)(e:Int):EV G (Tb B) 169 [vb b,vi e] []=some (vi (oH b e),[]):=by
 refine aA rfl ?_;cases b
 all_goals simp (disch:=omega) only[go_sem,h169c]
 all_goals rfl
theorem Ce(l:List Int)(h:l.length<=200000):EV G (Tb B) 168 [sv l] []=some (vi 0,[]):=by
 have u:=Cd (G:=G) (B:=B);refine aA rfl ?_;have e:(l.length:Int)<=200000:=by omega
 simp (disch:=omega) only[go_sem,h168c,u,e,dZ]
theorem J0(n:Int)(h:1<=n/\n<=6):EV G (Tb B) 171 [vi n] []=some (vi 0,[]):=by
 have u:=Cd (G:=G) (B:=B);have w:=fun n lo hi=>Cc (G:=G) (B:=B) n lo hi
 refine aA rfl ?_;simp (disch:=omega) only[go_sem,h171c,u,w,dZ,h]
theorem aEZ(l:List Int)(hl:l.length<=1000):EV G (Tb B) 167 [vl (el l)] []=some (vi (aQ l),[]):=by
 refine aA rfl ?_;simp (disch:=omega) only[go_sem,h167c,aWf];have round:∀ k (hk:k < l.length),¬ l.getD k 0≠0->K1 [5,0,0] 0 (EC (EV G (Tb B)) G h167l0 ⟨(jk 5 (vl (el l)::vi l.length::vi k::jk 7 [])),[]⟩)=some ⟨(jk 5 (vl (el l)::vi l.length::vi (k+1:Nat)::jk 7 [])),[]⟩:=fun k hk hz=>by
  rw[cY l k hk] at hz;simp (disch:=omega) only[go_sem,h167l0,aWf,Gc]
 rcases La (fun k=>l.getD k 0≠0) l.length with h | ⟨j,hj,h1,h2⟩
 ·rw[aU (fun k=>⟨(jk 5 (vl (el l)::vi l.length::vi k::jk 7 [])),[]⟩) l.length ?_ ?_]
  ·rw[fX l h];simp (disch:=omega) only[go_sem,h167l0]
  ·rfl
  ·exact fun k hk=>round k hk (h k hk)
 ·rw[aU (fun k=>⟨(jk 5 (vl (el l)::vi l.length::vi k::jk 7 [])),[]⟩) j ?_ ?_]
  ·rw[iY l j hj h2 h1];rw[cY l j hj] at h1;simp (disch:=omega) only[go_sem,h167l0,aWf,Gc]
  ·rfl
  ·exact fun k hk=>round k (by omega) (h2 k hk)
theorem Qn(a b:Int):EV G (Tb B) 167 [vl [[ci a],[ci b]]] []=some (vi (aQ [a,b]),[]):=aEZ [a,b] (by simp)
theorem aE0:EV G (Tb B) 177 [vi 4] []=some (vi 4294967296,[]):=by
 refine aA rfl ?_;have e:(1:Int) * 2 ^ min 32 64=4294967296:=rfl;simp (disch:=omega) only[go_sem,h177c,Int.reduceMul,Int.reduceToNat,IntKind.bits,e]
theorem aJm(n:Int)(j:Nat)(p:Int)(hp:0 < p)(h:(2:Int) ^ min (8 * (j:Int)).toNat 64=p):n.fdiv (2 ^ min (8 * (j:Int)).toNat 64)=n / p:=by
 rw[h,Int.fdiv_eq_ediv_of_nonneg _ (by omega)]
theorem aAG(n:Int)(hn:0<=n/\n<=4294967295):EV G (Tb B) 178 [vi n,vi 4] []=some (sv (cC n 4),[]):=by
 refine aA rfl ?_;simp (disch:=omega) only[go_sem,h178c];rw[aU (fun j=>⟨(vi n::jk 4 (.one (.bld 0 4)::jk 4 (vi 4::vi j::jk 13 []))),[.arr 0 1 (bl (cC n j++(zl 4).drop j))]⟩) 4 ?_ ?_]
 ·have e:cC n 4++List.drop 4 (zl 4)=cC n 4:=by simp[zl]
  have e2:List.take 4 (bl (cC n 4))=bl (cC n 4):=aWP (by simp[aB]);simp (disch:=omega) only[go_sem,h178l0,e,e2,aWf,aB]
 ·rfl
 ·intro j hj;have e0:=aJm n 0 1 (by decide) rfl;have e1:=aJm n 1 256 (by decide) rfl;have e2:=aJm n 2 65536 (by decide) rfl;have e3:=aJm n 3 16777216 (by decide) rfl;have g2:n / 65536=n / 256 / 256:=by omega
  have g3:n / 16777216=n / 256 / 256 / 256:=by omega
  rw[Int.ediv_one] at e0;rw[g2] at e2;rw[g3] at e3;simp only[Int.natCast_zero,Int.natCast_one,show ((2:Nat):Int)=2 from rfl,show ((3:Nat):Int)=3 from rfl] at e0 e1 e2 e3
  have t2:(2:Int).toNat=2:=rfl;have t3:(3:Int).toNat=3:=rfl;rcases (show j=0\/j=1\/j=2\/j=3 by omega) with rfl | rfl | rfl | rfl
  all_goals simp (disch:=omega) only[go_sem,h178l0,t2,t3,cC,H4,zl,List.replicate,aW7,aXJ,aWL,aWR,aWp,aWw,sZ,wu8,e0,e1,e2,e3,aWV,Int.reduceAdd]
abbrev tS(l:List Int):TV:=.one (.dc (.raw (.string (dO l))))
abbrev tI(n:Int):TV:=.one (.dc (.raw (.int .i64 n)))
theorem Tz(n:Int)(hn:0<=n/\n<=4294967295):EV G (Tb B) 137 [vi n,vi 4] []=some (.tup [tS (cC n 4),tI 0],[]):=by
 have c:=J0 (G:=G) (B:=B) 4 (by omega);have l:=aE0 (G:=G) (B:=B);have w:=Cc (G:=G) (B:=B) n 0 4294967295;have q:=aAG (G:=G) (B:=B) n hn;refine aA rfl ?_;simp (disch:=omega) only[go_sem,h137c,c,l,w,q,hn,Int.reduceSub]
theorem jE(n:Int)(hn:0<=n/\n<=4294967295):EV G (Tb B) 74 [vi n] []=some (sv (cC n 4),[]):=by
 have q:=Tz (G:=G) (B:=B) n hn;refine aA rfl ?_;simp (disch:=omega) only[go_sem,h74c,q]
def aNY(s:Int):Int:=(2 * s) % 2147483648+s / 1073741824
def Im(s c:Int):Int:=(aNY s+c) % 2147483648
def jJ(l:List Int):Int:=l.foldl Im 0
theorem aJn(s c:Int):0<=Im s c/\Im s c<=2147483647:=by unfold Im;omega
theorem Cf(l:List Int)(a:Int):jJ (l++[a])=Im (jJ l) a:=by simp[jJ]
theorem A2:∀ l:List Int,0<=jJ l/\jJ l<=2147483647:=by
 intro l;rcases List.eq_nil_or_concat l with rfl | ⟨l,a,rfl⟩
 ·simp[jJ]
 ·rw[List.concat_eq_append,Cf];exact aJn _ _
theorem aUF(x:Int)(h:0<=x/\x<=4294967296):Su .i64 x 2147483647=x % 2147483648:=by
 obtain⟨x,rfl⟩:=aXi h.1;have h1:(BitVec.ofInt 64 (x:Int) &&& BitVec.ofInt 64 2147483647).toNat=x % 2147483648:=by
  rw[BitVec.toNat_and,show (BitVec.ofInt 64 2147483647).toNat=2 ^ 31 - 1 from rfl,Nat.and_two_pow_sub_one_eq_mod,BitVec.ofInt_natCast,BitVec.toNat_ofNat]
  omega
 show IntKind.i64.wrap (((BitVec.ofInt 64 (x:Int) &&& BitVec.ofInt 64 2147483647).toNat:Nat):Int)=_;rw[h1,uE (by omega)];omega
theorem orS(n b:Int)(hn:0<=n/\n<=4294967296)(hb:0<=b/\b<=1):Sv .i64 (n * 2) b=n * 2+b:=by
 obtain⟨n,rfl⟩:=aXi hn.1;obtain⟨b,rfl⟩:=aXi hb.1;have h1:((n:Int) * 2)=((n * 2:Nat):Int):=by simp
 have h2:n * 2 ||| b=n * 2+b:=by
  have:=Nat.shiftLeft_add_eq_or_of_lt (show b < 2 ^ 1 by omega) n;rw[Nat.shiftLeft_eq] at this;exact this.symm
 rw[Sv,h1,Gl,BitVec.ofInt_natCast,BitVec.ofInt_natCast,BitVec.toNat_or,BitVec.toNat_ofNat,BitVec.toNat_ofNat,aXd (by omega),aXd (by omega),h2,uE (by omega)];simp
theorem aAH(s c:Int)(hs:0<=s/\s<=2147483647)(hc:0<=c/\c<=255):EV G (Tb B) 128 [vi s,vi c] []=some (vi (Im s c),[]):=by
 have e1:s * 2 ^ min 1 64=s * 2:=rfl;have e2:s.fdiv (2 ^ min 30 64)=s / 1073741824:=Int.fdiv_eq_ediv_of_nonneg _ (by decide);have e3:Su .i64 (s * 2) 2147483647=s % 1073741824 * 2:=by rw[aUF _ (by omega)];omega
 have e4:=orS (s % 1073741824) (s / 1073741824) (by omega) (by omega);have e5:Im s c=(s % 1073741824 * 2+s / 1073741824+c) % 2147483648:=by unfold Im aNY;omega
 have e6:(s % 1073741824 * 2+s / 1073741824+c).tmod 2147483648=(s % 1073741824 * 2+s / 1073741824+c) % 2147483648:=Int.tmod_eq_emod_of_nonneg (by omega);refine aA rfl ?_;simp (disch:=omega) only[go_sem,h128c,Int.reduceToNat,IntKind.bits,e1,e2,e3,e4,e5,e6]
theorem aJo(l:List Int)(hB:aL l)(hl:l.length<=200000):EV G (Tb B) 127 [sv l,vi 0,.one (.fn 128 [])] []=some (.tup [tI (jJ l),tI 0],[]):=by
 have q:=Ce (G:=G) (B:=B) l hl;have hD:=kQ l hB;refine aA rfl ?_;simp (disch:=omega) only[go_sem,h127c,q,hD,aWf];rw[aU (fun k=>⟨(jk 1 (vi (jJ (l.take k))::.one (.fn 128 [])::jk 14 (vl (bl l)::vi l.length::vi k::jk 10 []))),[]⟩) l.length ?_ ?_]
 ·simp (disch:=omega) only[go_sem,h127l0,aWY]
 ·rfl
 ·intro k hk;have hb:=hB _ (aWq hk);have s:=aAH (G:=G) (B:=B) (jJ (l.take k)) l[k] (A2 _) hb;have hu:=iD _ hb;rw[aXe hk,Cf];simp (disch:=omega) only[go_sem,h127l0,aWf,sZ,s,hu,aW0]
theorem aE1(l:List Int)(hB:aL l)(hl:l.length<=200000):EV G (Tb B) 71 [sv l] []=some (.tup [tI (jJ l),tI 0],[]):=by
 have q:=aJo (G:=G) (B:=B) l hB hl;refine aA rfl ?_;simp (disch:=omega) only[go_sem,h71c,q]
theorem aNZ(l:List Int)(hB:aL l)(hl:l.length<=4):EV G (Tb B) 126 [sv l] []=some (vi (gv l),[]):=by
 refine aA rfl ?_;have g:gv l=gL l 0 l.length:=by unfold gL;rw[aW7,aWY]
 rw[g];simp (disch:=first | omega | (simp only[aWg,aWh,aWk,aWf,aB];omega)) only[go_sem,h126c]
 rw[aU (fun j=>⟨(sv l::jk 2 (vi (gL l (l.length - j) j)::vi ((l.length:Int) - 1 - j)::jk 15 [])),[]⟩) l.length ?_ ?_]
 ·have e2:¬ 0<=(l.length:Int) - 1 - (l.length:Int):=by omega
  have e3:l.length - l.length=0:=by omega
  simp (disch:=first | omega | (simp only[aWg,aWh,aWk,aWf,aB];omega)) only[go_sem,h126l0,e2,e3]
 ·simp[gL,gv,jk]
 ·intro j hj;have hx:=hB _ (aWq (show l.length - 1 - j < l.length by omega));have g1:=pO hB (l.length - j) j (by omega);have e1:gL l (l.length - (j+1)) (j+1)=gL l (l.length - j) j * 256+l[l.length - 1 - j]'(by omega):=by
   have:l.length - (j+1) < l.length:=by omega
   rw[aII l _ j this,show l.length - (j+1)+1=l.length - j by omega,Int.mul_comm];rw[Int.add_comm];congr 1;congr 1;omega
  have e2:0<=(l.length:Int) - 1 - (j:Int):=by omega
  rw[e1];generalize gL l (l.length - j) j=z at g1 ⊢;have eN:((l.length:Int) - 1 - (j:Int)).toNat=l.length - 1 - j:=by omega
  have hu:=iD _ hx;have o:=orL z _ (by omega) hx;simp (disch:=first | omega | (simp only[aWg,aWh,aWk,aWf,aB];omega)) only[go_sem,h126l0,eq_true e2,aW0,eN,hu,Int.reduceToNat,Int.reducePow,o]
  rw[show (l.length:Int) - 1 - (j:Int) - 1=(l.length:Int) - 1 - ((j:Int)+1) by omega]
theorem aN0(l:List Int)(a k:Nat)(h:a+k<=l.length)(hk:1<=k/\k<=6)(hl:l.length<=200000):EV G (Tb B) 125 [sv l,vi a,vi k] []=some (.tup [tS ((l.drop a).take k),tI 0],[]):=by
 have q:=Ce (G:=G) (B:=B) l hl;have c:=J0 (G:=G) (B:=B) k (by omega);have f:=Qn (G:=G) (B:=B) 0 0;have w:=Cc (G:=G) (B:=B) a 0 ((l.length:Int) - k);have e:(0:Int)<=a/\(a:Int)<=(l.length:Int) - k:=by omega
 rw[decide_eq_true e] at w;have e2:aQ [0,0]=0:=rfl;rw[e2] at f;refine aA rfl ?_;simp (disch:=first | omega | (simp only[aWg,aWh,aWk,aWf,aB,aWu,aWm,aWt,aC,bG]<;>omega) | fail) only[go_sem,h125c,q,c,f,w]
theorem tJ(l:List Int)(hB:aL l)(a:Nat)(h:a+4<=l.length)(hl:l.length<=200000):EV G (Tb B) 70 [sv l,vi a,vi 4] []=some (.tup [tI (gL l a 4),tI 0],[]):=by
 have c:=aN0 (G:=G) (B:=B) l a 4 h (by omega) hl;have n:=aNZ (G:=G) (B:=B) ((l.drop a).take 4) (rZ hB a 4) (by rw[aWm];omega);rw[show ((4:Nat):Int)=4 from rfl] at c
 refine aA rfl ?_;simp (disch:=omega) only[go_sem,h70c,c,n,gL]
theorem aN1(hR:B 170 [.one (.dc (.raw (.string ⟨#[0]⟩))),vi 28] []=some (sv (zl 28),[]))(l:List Int)(h:l.length=32):EV G (Tb B) 124 [sv l,vi 60] []=some (.tup [tS (l++zl 28),tI 0],[]):=by
 have q:=Ce (G:=G) (B:=B) l (by omega);have u:=Cd (G:=G) (B:=B) true 11;have f:=Qn (G:=G) (B:=B) 0 0;have e2:aQ [0,0]=0:=rfl;rw[e2] at f;have hR':EV G (Tb B) 170 [.one (.dc (.raw (.string ⟨#[0]⟩))),vi 28] []=some (sv (zl 28),[]):=iI rfl hR;refine aA rfl ?_;have hL:(l.length:Int)=32:=by omega
 have m:(32:Int).tmod 60=32:=rfl;simp (disch:=first | omega | (simp only[aWg,aWh,aWk,aWf,aB,aWu,aWm,aWt,aC,bG]<;>omega) | fail) only[go_sem,h124c,q,u,f,hL,m,hR',dZ,Int.reduceLT,Int.reduceSub,Int.reduceGT,decide_true,decide_false,Int.reduceEq]
end
section
variable {G:aF} {B:aO}
abbrev ptB:List aR:=[.ptr 0 0,.ptr 0 1,.ptr 0 2,.ptr 0 3,.ptr 0 4,.ptr 0 5]
theorem aAI(x:Bt):Br true h69.rs 1 (EC (EV G (Tb B)) G h69.code ⟨[.one (.ptr 0 0)]++qS (h69.nt - 1),[x.o]⟩)=some (.one (.bls 1 0 6 1),[x.o,.box ptB]):=by
 simp (maxSteps:=2000000) (disch:=omega) only[go_sem,h69c]
def sM:List Int:=[68,69,80,79,83,73,84,49]
def Bt.fs(x:Bt):List Int:=[x.cl,x.tb,x.mi,x.lg,x.lc,x.se]
def Bt.hd(x:Bt)(k:Nat):List Int:=sM++((x.fs.take k).flatMap fun n=>cC n 4)
def Bt.s60(x:Bt):List Int:=x.hd 6++zl 28
def Bt.bs(x:Bt):List Int:=x.s60++cC (jJ x.s60) 4
theorem aSa(x:Bt):x.hd 0=sM:=by simp[Bt.hd]
theorem aJp(x:Bt):x.hd 1=x.hd 0++cC x.cl 4:=by simp[Bt.hd,Bt.fs]
theorem aJq(x:Bt):x.hd 2=x.hd 1++cC x.tb 4:=by simp[Bt.hd,Bt.fs]
theorem aJr(x:Bt):x.hd 3=x.hd 2++cC x.mi 4:=by simp[Bt.hd,Bt.fs]
theorem aJs(x:Bt):x.hd 4=x.hd 3++cC x.lg 4:=by simp[Bt.hd,Bt.fs]
theorem aJt(x:Bt):x.hd 5=x.hd 4++cC x.lc 4:=by simp[Bt.hd,Bt.fs]
theorem aJu(x:Bt):x.hd 6=x.hd 5++cC x.se 4:=by simp[Bt.hd,Bt.fs]
theorem Ho(x:Bt)(k:Nat)(h:k<=6):(x.hd k).length=8+4 * k:=by
 rcases (show k=0\/k=1\/k=2\/k=3\/k=4\/k=5\/k=6 by omega) with rfl | rfl | rfl | rfl | rfl | rfl | rfl<;>simp[Bt.hd,Bt.fs,aB,sM]
theorem J1:aL sM:=by unfold aL sM;decide
theorem aJv(x:Bt)(k:Nat):aL (x.hd k):=by
 intro b hb;rcases aXy.1 hb with h | h
 ·exact J1 b h
 ·obtain⟨n,_,h2⟩:=List.mem_flatMap.1 h;exact cL _ _ b h2
theorem Hp(x:Bt):aL x.s60:=by
 intro b hb;rcases aXy.1 hb with h | h
 ·exact aJv x 6 b h
 ·have:=(List.mem_replicate.1 h).2;omega
theorem tK(x:Bt):x.s60.length=60:=by rw[Bt.s60,aWg,Ho x 6 (by omega),bG]
theorem qN(x:Bt):x.bs.length=64:=by rw[Bt.bs,aWg,tK,aB]
theorem mQ(x:Bt):aL x.bs:=by
 intro b hb;rcases aXy.1 hb with h | h
 ·exact Hp x b h
 ·exact cL _ _ b h
set_option maxHeartbeats 1000000 in
theorem J2(x:Bt)(hf:EV G (Tb B) 69 [.one (.ptr 0 0)] [x.o]=some (.one (.bls 1 0 6 1),[x.o,.box ptB]))(hR:B 170 [.one (.dc (.raw (.string ⟨#[0]⟩))),vi 28] []=some (sv (zl 28),[]))
  (hx:∀ n∈x.fs,0<=n/\n<=4294967295):EV G (Tb B) 68 [x.v] []=some (sv x.bs,[]):=by
 refine aA rfl ?_;simp (maxSteps:=2000000) (disch:=omega) only[go_sem,h68c,hf];rw[aU (fun k=>⟨(jk 3 (sv (x.hd k)::jk 4 (.one (.bls 1 0 6 1)::vi 6::vi k::jk 24 []))),[x.o,.box ptB]⟩) 6 ?_ ?_]
 ·have l6:=Ho x 6 (by omega);have p:=aN1 (G:=G) hR (x.hd 6) l6;have s:=aE1 (G:=G) (B:=B) x.s60 (Hp x) (by rw[tK];omega);have q:=jE (G:=G) (B:=B) (jJ x.s60) (by have:=A2 x.s60;omega);have e:x.bs=x.s60++cC (jJ x.s60) 4:=rfl;have l60:=tK x
  change EV G (Tb B) _ _ _=some (.tup [tS x.s60,tI 0],[]) at p
  rw[e];generalize x.s60=S at p s q l60 ⊢;generalize x.hd 6=H at p l6 ⊢;simp (maxSteps:=2000000) (disch:=first | omega | (simp only[aWg,aWh,aWk,aWf,aB,aWu,aWm,aWt,aC,bG]<;>omega) | fail) only[go_sem,h68l0,p,s,q]
 ·rfl
 ·intro j hj;have g:=fun n=>jE (G:=G) (B:=B) n
  simp only[Bt.fs,aXn,aXF,or_false,forall_eq_or_imp,forall_eq] at hx;obtain⟨g1,g2,g3,g4,g5,g6⟩:=hx;have hl:=Ho x j (by omega);have t2:(2:Int).toNat=2:=rfl;have t3:(3:Int).toNat=3:=rfl;have t4:(4:Int).toNat=4:=rfl;have t5:(5:Int).toNat=5:=rfl;rcases (show j=0\/j=1\/j=2\/j=3\/j=4\/j=5 by omega) with rfl | rfl | rfl | rfl | rfl | rfl
  ·have q:=jE (G:=G) (B:=B) x.cl g1;rw[aJp];generalize x.hd 0=H at hl ⊢;simp (maxSteps:=2000000) (disch:=first | omega | (simp only[aWg,aWh,aWk,aWf,aB,aWu,aWm,aWt,aC,bG]<;>omega) | fail) only[go_sem,h68l0,q,Int.reduceAdd,aWV,t2,t3,t4,t5]
  ·have q:=jE (G:=G) (B:=B) x.tb g2;rw[aJq];generalize x.hd 1=H at hl ⊢;simp (maxSteps:=2000000) (disch:=first | omega | (simp only[aWg,aWh,aWk,aWf,aB,aWu,aWm,aWt,aC,bG]<;>omega) | fail) only[go_sem,h68l0,q,Int.reduceAdd,aWV,t2,t3,t4,t5]
  ·have q:=jE (G:=G) (B:=B) x.mi g3;rw[aJr];generalize x.hd 2=H at hl ⊢;simp (maxSteps:=2000000) (disch:=first | omega | (simp only[aWg,aWh,aWk,aWf,aB,aWu,aWm,aWt,aC,bG]<;>omega) | fail) only[go_sem,h68l0,q,Int.reduceAdd,aWV,t2,t3,t4,t5]
  ·have q:=jE (G:=G) (B:=B) x.lg g4;rw[aJs];generalize x.hd 3=H at hl ⊢;simp (maxSteps:=2000000) (disch:=first | omega | (simp only[aWg,aWh,aWk,aWf,aB,aWu,aWm,aWt,aC,bG]<;>omega) | fail) only[go_sem,h68l0,q,Int.reduceAdd,aWV,t2,t3,t4,t5]
  ·have q:=jE (G:=G) (B:=B) x.lc g5;rw[aJt];generalize x.hd 4=H at hl ⊢;simp (maxSteps:=2000000) (disch:=first | omega | (simp only[aWg,aWh,aWk,aWf,aB,aWu,aWm,aWt,aC,bG]<;>omega) | fail) only[go_sem,h68l0,q,Int.reduceAdd,aWV,t2,t3,t4,t5]
  ·have q:=jE (G:=G) (B:=B) x.se g6;rw[aJu];generalize x.hd 5=H at hl ⊢;simp (maxSteps:=2000000) (disch:=first | omega | (simp only[aWg,aWh,aWk,aWf,aB,aWu,aWm,aWt,aC,bG]<;>omega) | fail) only[go_sem,h68l0,q,Int.reduceAdd,aWV,t2,t3,t4,t5]
end
section
variable {G:aF} {B:aO}
noncomputable def T0(l:List Int):Nat:=ix (fun k=>¬ l.getD (l.length - 1 - k) 0=0) l.length
noncomputable def lzN(l:List Int):Nat:=ix (fun k=>¬ l.getD k 0=0) l.length
theorem Es{l:List Int}{k:Nat}{x:Int}(h:k < l.length)(e:l.getD k 0=x):l[k]?=some x:=by
 simp only[aWn,aWo h,aWX] at e ⊢;rw[e]
theorem aE2(l:List Int)(hB:aL l)(hl:l.length<=1000000):EV G (Tb B) 130 [sv l,vu 0] []=some (sv (l.take (l.length - T0 l)),[]):=by
 refine aA rfl ?_;have h6:((u8 0).toNat:Int)=0:=rfl;simp (disch:=omega) only[go_sem,h130c];rw[jH (fun k=>⟨(sv (l.take (l.length - k))::vu 0::jk 21 []),[]⟩) (fun k=>¬ l.getD (l.length - 1 - k) 0=0) l.length ?_ ?_]
 rotate_left
 ·simp[jk]
 ·intro k hk hn;have h1:=Classical.not_not.1 (hn k (aWj _));have hL:(l.take (l.length - k)).length=l.length - k:=by rw[aWm];omega
  have g:(l.take (l.length - k))[l.length - k - 1]?=some 0:=by
   rw[aWH,if_pos (by omega),show l.length - k - 1=l.length - 1 - k by omega];exact Es (by omega) h1
  have e:(l.take (l.length - k)).take (l.length - k - 1)=l.take (l.length - (k+1)):=by
   rw[List.take_take];congr 1;omega
  have hp:((l.length - k:Nat):Int) > 0:=by omega
  have hq:l.length - k<=1000000:=by omega
  generalize l.take (l.length - k)=T at hL g e ⊢;generalize l.take (l.length - (k+1))=T' at e ⊢;generalize l.length - k=n at *;simp (disch:=omega) only[go_sem,h130l0,aC,hL,g,e,eq_true hp,h6]
 obtain⟨hk,hp,hn⟩:=bZ (fun k=>¬ l.getD (l.length - 1 - k) 0=0) l.length
 rw[show T0 l=ix (fun k=>¬ l.getD (l.length - 1 - k) 0=0) l.length from rfl]
 generalize ix (fun k=>¬ l.getD (l.length - 1 - k) 0=0) l.length=k at *
 have hL:(l.take (l.length - k)).length=l.length - k:=by rw[aWm];omega
 rcases hp with rfl | ⟨hk',hp⟩
 ·rw[aW3] at hL ⊢;simp (disch:=omega) only[go_sem,h130l0,aC,hL]
 ·have g:(l.take (l.length - k))[l.length - k - 1]?=some (l.getD (l.length - 1 - k) 0):=by
   rw[aWH,if_pos (by omega),show l.length - k - 1=l.length - 1 - k by omega];exact Es (by omega) rfl
  have hb:0<=l.getD (l.length - 1 - k) 0/\l.getD (l.length - 1 - k) 0<=255:=by
   rw[cY l _ (by omega)];exact hB _ (aWq _)
  have hp':((l.length - k:Nat):Int) > 0:=by omega
  have hq:l.length - k<=1000000:=by omega
  generalize l.getD (l.length - 1 - k) 0=x at *;have hu:=iD x hb;generalize l.take (l.length - k)=T at hL g ⊢;generalize l.length - k=n at *;simp (disch:=omega) only[go_sem,h130l0,aC,hL,g,eq_true hp',hu,eq_false hp]
theorem aE3(l:List Int)(hB:aL l)(hl:l.length<=1000000):EV G (Tb B) 129 [sv l,vu 0] []=some (sv (l.drop (lzN l)),[]):=by
 refine aA rfl ?_;have h6:((u8 0).toNat:Int)=0:=rfl;simp (disch:=omega) only[go_sem,h129c];rw[jH (fun k=>⟨(sv (l.drop k)::vu 0::jk 15 []),[]⟩) (fun k=>¬ l.getD k 0=0) l.length ?_ ?_]
 rotate_left
 ·simp[jk]
 ·intro k hk hn;have h1:=Classical.not_not.1 (hn k (aWj _));have hL:(l.drop k).length=l.length - k:=aWt;have g:(l.drop k)[0]?=some 0:=by
   rw[aWK];exact Es (by omega) h1
  have e:(l.drop k).drop 1=l.drop (k+1):=by rw[List.drop_drop]
  have hp:((l.length - k:Nat):Int) > 0:=by omega
  have hq:l.length - k<=1000000:=by omega
  have hz:1<=l.length - k:=by omega
  generalize l.drop k=T at hL g e ⊢;generalize l.drop (k+1)=T' at e ⊢;generalize l.length - k=n at *;have tk:T.take n=T:=by rw[<- hL,aWY]
  simp (disch:=omega) only[go_sem,h129l0,aC,hL,g,e,eq_true hp,h6,tk]
 obtain⟨hk,hp,hn⟩:=bZ (fun k=>¬ l.getD k 0=0) l.length
 rw[show lzN l=ix (fun k=>¬ l.getD k 0=0) l.length from rfl]
 generalize ix (fun k=>¬ l.getD k 0=0) l.length=k at *
 have hL:(l.drop k).length=l.length - k:=aWt;rcases hp with rfl | ⟨hk',hp⟩
 ·rw[aW3] at hL;simp (disch:=omega) only[go_sem,h129l0,aC,hL]
 ·have g:(l.drop k)[0]?=some (l.getD k 0):=by
   rw[aWK];exact Es (by omega) rfl
  have hb:0<=l.getD k 0/\l.getD k 0<=255:=by
   rw[cY l _ (by omega)];exact hB _ (aWq _)
  have hp':((l.length - k:Nat):Int) > 0:=by omega
  have hq:l.length - k<=1000000:=by omega
  generalize l.getD k 0=x at *;have hu:=iD x hb;generalize l.drop k=T at hL g ⊢;generalize l.length - k=n at *;simp (disch:=omega) only[go_sem,h129l0,aC,hL,g,eq_true hp',hu,eq_false hp]
noncomputable def trZ(l:List Int):List Int:=(l.take (l.length - T0 l)).drop (lzN (l.take (l.length - T0 l)))
theorem aJw(l:List Int):trZ l=[]↔l=zl l.length:=by
 obtain⟨hk,hp,hn⟩:=bZ (fun k=>¬ l.getD (l.length - 1 - k) 0=0) l.length
 have e:T0 l=ix (fun k=>¬ l.getD (l.length - 1 - k) 0=0) l.length:=rfl
 rw[<- e] at hk hp hn;constructor
 ·intro h;rcases hp with hp | ⟨h1,h2⟩
  ·refine List.ext_getElem (by rw[bG]) fun i h3 h4=>?_
   have h5:=Classical.not_not.1 (hn (l.length - 1 - i) (by omega));rw[show l.length - 1 - (l.length - 1 - i)=i by omega,cY l i h3] at h5;rw[h5];simp[zl]
  ·exfalso;unfold trZ at h;obtain⟨k1,k2,k3⟩:=bZ (fun k=>¬ (l.take (l.length - T0 l)).getD k 0=0) (l.take (l.length - T0 l)).length
   have e2:lzN (l.take (l.length - T0 l))=ix (fun k=>¬ (l.take (l.length - T0 l)).getD k 0=0) (l.take (l.length - T0 l)).length:=rfl
   rw[<- e2] at k1 k2 k3;have hL:(l.take (l.length - T0 l)).length=l.length - T0 l:=by rw[aWm];omega
   rw[List.drop_eq_nil_iff] at h;have h3:=k3 (l.length - 1 - T0 l) (by omega);apply h2;have h4:=Classical.not_not.1 h3;simp only[aWn,aWH] at h4 ⊢;rw[if_pos (by omega)] at h4;exact h4
 ·intro h;have hz:T0 l=l.length:=by
   rcases hp with hp | ⟨h1,h2⟩
   ·exact hp
   ·exfalso;apply h2;have hm:∀ x∈l,x=0:=fun x hx=>by
     rw[h] at hx;exact (List.mem_replicate.1 hx).2
    rw[cY l _ (by omega)];exact hm _ (aWq _)
  unfold trZ;rw[hz,aW3,aXq,List.drop_nil]
theorem aE4{l:List Int}(h:aL l):aL (trZ l):=fun x hx=>h x (aWF (aWT hx))
theorem aJx(l:List Int)(hB:aL l)(hl:l.length<=1000000)(h0:l≠[]):EV G (Tb B) 72 [sv l,.one (.dc (.raw (.string ⟨#[0]⟩)))] []=some (sv (trZ l),[]):=by
 have q1:=aE2 (G:=G) (B:=B) l hB hl;have q2:=aE3 (G:=G) (B:=B) (l.take (l.length - T0 l)) (fun x hx=>hB x (aWF hx)) (by rw[aWm];omega)
 have i0:E1 (.one (.dc (.raw (.string ⟨#[0]⟩)))) 0=some (vu 0):=by rfl
 have e0:¬ dO l=⟨#[]⟩:=by
  intro h;have:=congrArg ByteArray.size h;rw[aC] at this;exact h0 (List.length_eq_zero_iff.1 this)
 have e1:¬ (⟨#[0]⟩:ByteArray)=⟨#[]⟩:=by decide
 have e5:((UInt8.toNat 0:Nat):Int)=0:=rfl;have e4:(((#[0]:Array UInt8).size:Nat):Int)=1:=rfl;refine aA rfl ?_;simp (disch:=omega) only[go_sem,h72c,q1,q2,i0,e0,e1,e4,e5,trZ]
theorem aJy(s p:List Int)(hs:aL s)(hp:aL p)(hl:s.length<=1000000)(h:p.length<=s.length):EV G (Tb B) 73 [sv s,sv p] []=some (vb (decide (s.take p.length=p)),[]):=by
 have b:aL (s.take p.length):=fun x hx=>hs x (aWF hx)
 have e:=gJ b hp;have l:EV G (Tb B) 136 [sv s,sv p] []=some (vb (decide (s.take p.length=p)),[]):=by
  refine aA rfl ?_;simp (disch:=first | omega | (simp only[aWg,aWh,aWk,aWf,aB,aWu,aWm,aWt,aC,bG]<;>omega) | fail) only[go_sem,h136c,aC,e]
 refine aA rfl ?_;simp (disch:=omega) only[go_sem,h73c,l]
end
section
variable {G:aF} {B:aO}
def nB:Bt:=⟨0,0,0,0,0,0⟩
def mR(s:List Int)(k:Nat):Bt:=⟨if 0 < k then gL s 8 4 else 0,if 1 < k then gL s 12 4 else 0,if 2 < k then gL s 16 4 else 0,if 3 < k then gL s 20 4 else 0,if 4 < k then gL s 24 4 else 0,if 5 < k then gL s 28 4 else 0⟩
noncomputable def aN2(s:List Int):Bool:=decide (s.take 8=sM)&&decide (trZ ((s.take 60).drop 32)=[])&&decide (s.drop 60=cC (jJ (s.take 60)) 4)
noncomputable def dY(s:List Int):Bt × Int:=if s.length=64 then if aN2 s=true then (if fH (mR s 6)=0 then (mR s 6,0) else (nB,fH (mR s 6))) else (nB,3) else (nB,10)
abbrev ptC:List aR:=[.ptr 1 0,.ptr 1 1,.ptr 1 2,.ptr 1 3,.ptr 1 4,.ptr 1 5]
theorem aSb(s:List Int):mR s 0=⟨0,0,0,0,0,0⟩:=by simp[mR]
theorem aSc(s:List Int):mR s 1=⟨gL s 8 4,0,0,0,0,0⟩:=by simp[mR]
theorem aSd(s:List Int):mR s 2=⟨gL s 8 4,gL s 12 4,0,0,0,0⟩:=by simp[mR]
theorem aSe(s:List Int):mR s 3=⟨gL s 8 4,gL s 12 4,gL s 16 4,0,0,0⟩:=by simp[mR]
theorem aSf(s:List Int):mR s 4=⟨gL s 8 4,gL s 12 4,gL s 16 4,gL s 20 4,0,0⟩:=by simp[mR]
theorem aSg(s:List Int):mR s 5=⟨gL s 8 4,gL s 12 4,gL s 16 4,gL s 20 4,gL s 24 4,0⟩:=by simp[mR]
theorem aE5(s:List Int):mR s 6=⟨gL s 8 4,gL s 12 4,gL s 16 4,gL s 20 4,gL s 24 4,gL s 28 4⟩:=by simp[mR]
set_option maxHeartbeats 2000000 in
theorem tL(hf:∀ x:Bt,EV G (Tb B) 69 [.one (.ptr 0 0)] [x.o]=some (.one (.bls 1 0 6 1),[x.o,.box ptB]))(s:List Int)(hB:aL s)(hl:s.length<=200000):
  EV G (Tb B) 14 [sv s] []=some (.tup [.agg (dY s).1.cs,tI (dY s).2],[]):=by
 have hf0:EV G (Tb B) 69 [.one (.ptr 0 0)] [.box [.dc (.raw (Zi 0)),.dc (.raw (Zi 0)),.dc (.raw (Zi 0)),.dc (.raw (Zi 0)),.dc (.raw (Zi 0)),.dc (.raw (Zi 0))]]=some (.one (.bls 1 0 6 1),[.box [.dc (.raw (Zi 0)),.dc (.raw (Zi 0)),.dc (.raw (Zi 0)),.dc (.raw (Zi 0)),.dc (.raw (Zi 0)),.dc (.raw (Zi 0))],.box ptB]):=hf nB;by_cases h:s.length=64
 rotate_left
 ·rw[show dY s=(nB,10) by unfold dY;rw[if_neg h]];refine aA rfl ?_;have e:¬ (s.length:Int)=64:=by omega
  simp (disch:=omega) only[go_sem,h14c,aC,e];rfl
 have hL:(s.length:Int)=64:=by omega
 refine aA rfl ?_;simp (maxSteps:=2000000) (disch:=omega) only[go_sem,h14c,aC,hL,hf0,Int.reduceEq];rw[aU (fun k=>⟨(sv s::jk 1 (.one (.ptr 0 0)::jk 1 (.one (.ptr 1 0)::jk 10 (.one (.bls 2 0 6 1)::vi 6::vi k::jk 51 [])))),[nB.o,(mR s k).o,.box ptC]⟩) 6 ?_ ?_]
 rotate_left
 ·rw[aSb];rfl
 ·intro j hj;have t2:(2:Int).toNat=2:=rfl;have t3:(3:Int).toNat=3:=rfl;have t4:(4:Int).toNat=4:=rfl;have t5:(5:Int).toNat=5:=rfl;rcases (show j=0\/j=1\/j=2\/j=3\/j=4\/j=5 by omega) with rfl | rfl | rfl | rfl | rfl | rfl
  ·have q:=tJ (G:=G) (B:=B) s hB 8 (by omega) hl;rw[show ((8:Nat):Int)=8 from rfl] at q
   rw[aSb,aSc];generalize gL s 8 4=z at q ⊢;simp (maxSteps:=2000000) (disch:=omega) only[go_sem,h14l0,q,Bt.o,Bt.cs,nB,Int.reduceAdd,Int.reduceMul,aWV,t2,t3,t4,t5]
  ·have q:=tJ (G:=G) (B:=B) s hB 12 (by omega) hl;rw[show ((12:Nat):Int)=12 from rfl] at q
   rw[aSc,aSd];generalize gL s 12 4=z at q ⊢;simp (maxSteps:=2000000) (disch:=omega) only[go_sem,h14l0,q,Bt.o,Bt.cs,nB,Int.reduceAdd,Int.reduceMul,aWV,t2,t3,t4,t5]
  ·have q:=tJ (G:=G) (B:=B) s hB 16 (by omega) hl;rw[show ((16:Nat):Int)=16 from rfl] at q
   rw[aSd,aSe];generalize gL s 16 4=z at q ⊢;simp (maxSteps:=2000000) (disch:=omega) only[go_sem,h14l0,q,Bt.o,Bt.cs,nB,Int.reduceAdd,Int.reduceMul,aWV,t2,t3,t4,t5]
  ·have q:=tJ (G:=G) (B:=B) s hB 20 (by omega) hl;rw[show ((20:Nat):Int)=20 from rfl] at q
   rw[aSe,aSf];generalize gL s 20 4=z at q ⊢;simp (maxSteps:=2000000) (disch:=omega) only[go_sem,h14l0,q,Bt.o,Bt.cs,nB,Int.reduceAdd,Int.reduceMul,aWV,t2,t3,t4,t5]
  ·have q:=tJ (G:=G) (B:=B) s hB 24 (by omega) hl;rw[show ((24:Nat):Int)=24 from rfl] at q
   rw[aSf,aSg];generalize gL s 24 4=z at q ⊢;simp (maxSteps:=2000000) (disch:=omega) only[go_sem,h14l0,q,Bt.o,Bt.cs,nB,Int.reduceAdd,Int.reduceMul,aWV,t2,t3,t4,t5]
  ·have q:=tJ (G:=G) (B:=B) s hB 28 (by omega) hl;rw[show ((28:Nat):Int)=28 from rfl] at q
   rw[aSg,aE5];generalize gL s 28 4=z at q ⊢;simp (maxSteps:=2000000) (disch:=omega) only[go_sem,h14l0,q,Bt.o,Bt.cs,nB,Int.reduceAdd,Int.reduceMul,aWV,t2,t3,t4,t5]
 have hL60:(s.take 60).length=60:=by rw[aWm];omega
 have q1:=aE1 (G:=G) (B:=B) (s.take 60) (fun x hx=>hB x (aWF hx)) (by omega)
 have hf1:=hf (mR s 6);have hB60:aL (s.take 60):=fun x hx=>hB x (aWF hx)
 have hBT:aL ((s.take 60).drop 32):=fun x hx=>hB60 x (aWT hx)
 have hLT:((s.take 60).drop 32).length=28:=by rw[aWt];omega
 have q2:=aJx (G:=G) (B:=B) ((s.take 60).drop 32) hBT (by omega) (by intro e;rw[e] at hLT;cases hLT);have q3:EV G (Tb B) 73 [sv s,.one (.dc (.raw (.string ⟨#[68,69,80,79,83,73,84,49]⟩)))] []=some (vb (decide (s.take 8=sM)),[]):=aJy s sM hB J1 (by omega) (by rw[h];decide);have q4:=jE (G:=G) (B:=B) (jJ (s.take 60)) (by have:=A2 (s.take 60);omega);have u:=gS (G:=G) (B:=B);have f:=lV (G:=G) (B:=B);have c:=lW (G:=G) (B:=B) (mR s 6);have eT:(dO (trZ ((s.take 60).drop 32))=⟨#[]⟩)=(trZ ((s.take 60).drop 32)=[]):=gJ (b:=[]) (aE4 hBT) (fun b hb=>by cases hb)
 have eE:(dO (s.drop 60)=dO (cC (jJ (s.take 60)) 4))=(s.drop 60=cC (jJ (s.take 60)) 4):=gJ (fun x hx=>hB x (aWT hx)) (cL _ _)
 have r:dY s=if (decide (s.take 8=sM)&&decide (trZ ((s.take 60).drop 32)=[])&&decide (s.drop 60=cC (jJ (s.take 60)) 4))=true then (if fH (mR s 6)=0 then (mR s 6,0) else (nB,fH (mR s 6))) else (nB,3):=by
  unfold dY;rw[if_pos h];rfl
 have e32:(8:Int)+4 * 6=32:=rfl;have t60:(60:Int).toNat=60:=rfl;have t32:(32:Int).toNat=32:=rfl;generalize mR s 6=X at hf1 c r ⊢;generalize dY s=D at r ⊢;generalize decide (s.take 8=sM)=b1 at q3 r;cases b1
 ·have rD:D=(nB,3):=by rw[r];rfl
  rw[rD];simp (maxSteps:=2000000) (disch:=omega) only[go_sem,h14l0,q1,q2,q3,q4,u,c,f,hf1,hL,hL60,eT,eE,e32,t60,t32,Bt.o,Bt.cs,nB,bO,dZ,eQ,Int.reduceMul,Int.reduceAdd,Int.reduceEq,if_true,if_false]
 ·by_cases b2:trZ ((s.take 60).drop 32)=[]
  ·by_cases b3:s.drop 60=cC (jJ (s.take 60)) 4
   ·rw[decide_eq_true b2,decide_eq_true b3] at r;by_cases c0:fH X=0
    ·have rD:D=(X,0):=by rw[r];simp[c0]
     rw[rD];simp (maxSteps:=2000000) (disch:=omega) only[go_sem,h14l0,q1,q2,q3,q4,u,c,f,hf1,hL,hL60,eT,eE,e32,t60,t32,Bt.o,Bt.cs,nB,bO,dZ,eQ,Int.reduceMul,Int.reduceAdd,Int.reduceEq,if_true,if_false,eq_true b2,eq_true b3,c0]
    ·have rD:D=(nB,fH X):=by rw[r];simp[c0]
     rw[rD];simp (maxSteps:=2000000) (disch:=omega) only[go_sem,h14l0,q1,q2,q3,q4,u,c,f,hf1,hL,hL60,eT,eE,e32,t60,t32,Bt.o,Bt.cs,nB,bO,dZ,eQ,Int.reduceMul,Int.reduceAdd,Int.reduceEq,if_true,if_false,eq_true b2,eq_true b3,c0]
   ·rw[decide_eq_false b3] at r;have rD:D=(nB,3):=by rw[r];simp
    rw[rD];simp (maxSteps:=2000000) (disch:=omega) only[go_sem,h14l0,q1,q2,q3,q4,u,c,f,hf1,hL,hL60,eT,eE,e32,t60,t32,Bt.o,Bt.cs,nB,bO,dZ,eQ,Int.reduceMul,Int.reduceAdd,Int.reduceEq,if_true,if_false,eq_true b2,eq_false b3]
  ·rw[decide_eq_false b2] at r;have rD:D=(nB,3):=by rw[r];simp
   rw[rD];simp (maxSteps:=2000000) (disch:=omega) only[go_sem,h14l0,q1,q2,q3,q4,u,c,f,hf1,hL,hL60,eT,eE,e32,t60,t32,Bt.o,Bt.cs,nB,bO,dZ,eQ,Int.reduceMul,Int.reduceAdd,Int.reduceEq,if_true,if_false,eq_false b2]
end
section
variable {G:aF} {B:aO}
theorem aN3(l:List Int)(hB:aL l)(a k:Nat)(ha:a+k<=l.length)(hk:k<=4)(hl:l.length<=1000000):EV G (Tb B) 27 [sv l,vi a,vi k] []=some (vi (gL l a k),[]):=by
 refine aA rfl ?_;simp (disch:=first | omega | (simp only[aWg,aWh,aWk,aWf,aB];omega)) only[go_sem,h27c]
 rw[aU (fun j=>⟨(sv l::vi a::jk 5 (vi (gL l (a+k - j) j)::vi ((k:Int) - 1 - j)::jk 16 [])),[]⟩) k ?_ ?_]
 ·have e:a+k - k=a:=by omega
  have e2:¬ 0<=(k:Int) - 1 - (k:Int):=by omega
  simp (disch:=first | omega | (simp only[aWg,aWh,aWk,aWf,aB];omega)) only[go_sem,h27l0,e,e2]
 ·simp[gL,gv,jk]
 ·intro j hj;have hx:=hB _ (aWq (show a+k - 1 - j < l.length by omega));have g1:=pO hB (a+k - j) j (by omega);have e1:gL l (a+k - (j+1)) (j+1)=gL l (a+k - j) j * 256+l[a+k - 1 - j]'(by omega):=by
   have:a+k - (j+1) < l.length:=by omega
   rw[aII l _ j this,show a+k - (j+1)+1=a+k - j by omega,Int.mul_comm];rw[Int.add_comm];congr 1;congr 1;omega
  have e2:0<=(k:Int) - 1 - (j:Int):=by omega
  rw[e1];generalize gL l (a+k - j) j=z at g1 ⊢;have eN:((a:Int)+((k:Int) - 1 - (j:Int))).toNat=a+k - 1 - j:=by omega
  have hu:=iD _ hx;simp (disch:=first | omega | (simp only[aWg,aWh,aWk,aWf,aB];omega)) only[go_sem,h27l0,eq_true e2,aW0,eN,hu]
  rw[show (k:Int) - 1 - (j:Int) - 1=(k:Int) - 1 - ((j:Int)+1) by omega]
theorem aN4(l:List Int)(hB:aL l)(hl:l.length<=200000):EV G (Tb B) 78 [sv l] []=some (vi (jJ l),[]):=by
 refine aA rfl ?_;simp (disch:=omega) only[go_sem,h78c];rw[aU (fun k=>⟨(sv l::jk 2 (vi (jJ (l.take k))::vi k::jk 20 [])),[]⟩) l.length ?_ ?_]
 ·simp (disch:=omega) only[go_sem,h78l0,aWY,aC]
 ·rfl
 ·intro k hk;have hb:=hB _ (aWq hk);have hu:=iD _ hb;have hs:=A2 (l.take k);rw[aXe hk,Cf];generalize jJ (l.take k)=z at hs ⊢;have m1:=aKz (G:=G) (B:=B) (z * 2) 2147483648;have m2:=aKz (G:=G) (B:=B) ((z * 2) % 2147483648+z / 1073741824+l[k]) 2147483648;have d:z.tdiv 1073741824=z / 1073741824:=Int.tdiv_eq_ediv_of_nonneg hs.1;have e:Im z l[k]=((z * 2) % 2147483648+z / 1073741824+l[k]) % 2147483648:=by unfold Im aNY;rw[Int.mul_comm 2 z]
  rw[e];simp (disch:=omega) only[go_sem,h78l0,aC,hu,m1,m2,d,aW0]
theorem aE6(x:Bt)(p:Int->Prop)(h:∀ n∈x.fs,p n):p x.cl/\p x.tb/\p x.mi/\p x.lg/\p x.lc/\p x.se:=by
 simpa only[Bt.fs,aXn,aXF,or_false,forall_eq_or_imp,forall_eq] using h
theorem Cg(x:Bt)(hx:∀ n∈x.fs,0<=n/\n<=4294967295):EV G (Tb B) 17 [x.v] []=some (sv x.bs,[]):=by
 obtain⟨g1,g2,g3,g4,g5,g6⟩:=aE6 x _ hx;have q:=fun n (h:0<=n/\n<=4294967295)=>aDK (G:=G) (B:=B) n 4 (by omega) (by omega)
 have q1:=q _ g1;have q2:=q _ g2;have q3:=q _ g3;have q4:=q _ g4;have q5:=q _ g5;have q6:=q _ g6;have q7:=q (jJ x.s60) (by have:=A2 x.s60;omega);rw[show ((4:Nat):Int)=4 from rfl] at q1 q2 q3 q4 q5 q6 q7
 have z:=aIt (G:=G) (B:=B) 28 (by omega);rw[show (28:Int).toNat=28 from rfl] at z
 have s:=aN4 (G:=G) (B:=B) x.s60 (Hp x) (by rw[tK];omega);have e6:sM++cC x.cl 4++cC x.tb 4++cC x.mi 4++cC x.lg 4++cC x.lc 4++cC x.se 4=x.hd 6:=by
  rw[aJu,aJt,aJs,aJr,aJq,aJp,aSa]
 have l6:=Ho x 6 (by omega);have e7:x.hd 6++List.replicate 28 0=x.s60:=rfl;have e8:x.s60++cC (jJ x.s60) 4=x.bs:=rfl;have es:(⟨#[68,69,80,79,83,73,84,49]⟩:ByteArray)=dO sM:=rfl;have ls:sM.length=8:=rfl;have l60:=tK x;generalize x.s60=S at *;generalize x.hd 6=H at *;refine aA rfl ?_;have lH:(H.length:Int)=32:=by omega
 simp (maxSteps:=2000000) (disch:=first | omega | (simp only[aWg,aWh,aWk,aWf,aB,aWu,aWm,aWt,aC,bG]<;>omega) | fail) only[go_sem,h17c,es,q1,q2,q3,q4,q5,q6,q7,z,s,ls,e6,e7,e8,lH,Int.reduceSub]
noncomputable def Hq(s:List Int):Bt × Int:=if s.length=64 then if (mR s 6).bs=s then (if fH (mR s 6)=0 then (mR s 6,0) else (nB,fH (mR s 6))) else (nB,3) else (nB,10)
theorem aSh{s:List Int}(hB:aL s):∀ n∈(mR s 6).fs,0<=n/\n<=4294967295:=by
 have h:=fun a=>pO hB a 4 (by omega)
 rw[aE5];simp only[Bt.fs,aXn,aXF,or_false,forall_eq_or_imp,forall_eq];exact⟨by have:=h 8;omega,by have:=h 12;omega,by have:=h 16;omega,by have:=h 20;omega,by have:=h 24;omega,by have:=h 28;omega⟩
set_option maxHeartbeats 1000000 in
theorem Hr(s:List Int)(hB:aL s)(hl:s.length<=200000):
  EV G (Tb B) 15 [sv s] []=some (.tup [.agg (Hq s).1.cs,tI (Hq s).2],[]):=by
 by_cases h:s.length=64
 rotate_left
 ·rw[show Hq s=(nB,10) by unfold Hq;rw[if_neg h]];refine aA rfl ?_;have e:¬ (s.length:Int)=64:=by omega
  simp (disch:=omega) only[go_sem,h15c,aC,e];rfl
 have hL:(s.length:Int)=64:=by omega
 have q:=fun a (ha:a+4<=s.length)=>aN3 (G:=G) (B:=B) s hB a 4 ha (by omega) (by omega)
 have q1:=q 8 (by omega);have q2:=q 12 (by omega);have q3:=q 16 (by omega);have q4:=q 20 (by omega);have q5:=q 24 (by omega);have q6:=q 28 (by omega);simp only[show ((4:Nat):Int)=4 from rfl,show ((8:Nat):Int)=8 from rfl,show ((12:Nat):Int)=12 from rfl,show ((16:Nat):Int)=16 from rfl,show ((20:Nat):Int)=20 from rfl,show ((24:Nat):Int)=24 from rfl,show ((28:Nat):Int)=28 from rfl] at q1 q2 q3 q4 q5 q6
 have b:=Cg (G:=G) (B:=B) (mR s 6) (aSh hB);have c:=Cb (G:=G) (B:=B) (mR s 6);have r:Hq s=if (mR s 6).bs=s then (if fH (mR s 6)=0 then (mR s 6,0) else (nB,fH (mR s 6))) else (nB,3):=by unfold Hq;rw[if_pos h]
 have eE:(dO (mR s 6).bs=dO s)=((mR s 6).bs=s):=gJ (mQ _) hB;generalize Hq s=D at r ⊢;generalize hX:(mR s 6).bs=Y at b r eE;rw[aE5] at b c r;generalize gL s 8 4=z1 at *;generalize gL s 12 4=z2 at *;generalize gL s 16 4=z3 at *;generalize gL s 20 4=z4 at *;generalize gL s 24 4=z5 at *;generalize gL s 28 4=z6 at *;refine aA rfl ?_;by_cases b1:Y=s
 ·rw[if_pos b1] at r;by_cases c0:fH ⟨z1,z2,z3,z4,z5,z6⟩=0
  ·rw[if_pos c0] at r;rw[r];simp (maxSteps:=2000000) (disch:=omega) only[go_sem,h15c,aC,hL,q1,q2,q3,q4,q5,q6,b,c,eE,b1,c0,Bt.v,Bt.o,Bt.cs,nB,Int.reduceEq]
  ·rw[if_neg c0] at r;rw[r];simp (maxSteps:=2000000) (disch:=omega) only[go_sem,h15c,aC,hL,q1,q2,q3,q4,q5,q6,b,c,eE,b1,c0,Bt.v,Bt.o,Bt.cs,nB,Int.reduceEq]
 ·rw[if_neg b1] at r;rw[r];simp (maxSteps:=2000000) (disch:=omega) only[go_sem,h15c,aC,hL,q1,q2,q3,q4,q5,q6,b,c,eE,b1,Bt.v,Bt.o,Bt.cs,nB,Int.reduceEq]
end
section
variable {G:aF} {B:aO}
theorem aJz{x:Bt}(h:fH x=0):x.num=true/\x.ins=true/\x.fit=true/\x.cla=true:=by
 cases hn:x.num with
 | false=>rw[pW hn] at h;cases h
 | true=>cases hi:x.ins with
  | false=>rw[sL hi] at h;cases h
  | true=>cases hf:x.fit with
   | false=>rw[Hn hn hi hf] at h;cases h
   | true=>cases hc:x.cla with
    | false=>rw[Qm hn hi hf,hc] at h;cases h
    | true=>exact⟨rfl,rfl,rfl,rfl⟩
theorem tN{x:Bt}(h:fH x=0):∀ n∈x.fs,0<=n/\n<=2147483647:=by
 obtain⟨hn,hi,_,_⟩:=aJz h;obtain⟨h1,h2,h3,h4⟩:=kT.1 hn;obtain⟨k1,k2,k3⟩:=oU.1 hi;simp only[Bt.fs,aXn,aXF,or_false,forall_eq_or_imp,forall_eq];omega
theorem J3(x:Bt)(hf:EV G (Tb B) 69 [.one (.ptr 0 0)] [x.o]=some (.one (.bls 1 0 6 1),[x.o,.box ptB]))(hR:B 170 [.one (.dc (.raw (.string ⟨#[0]⟩))),vi 28] []=some (sv (zl 28),[])):
  EV G (Tb B) 13 [x.v] []=some (.tup [tS (if fH x=0 then x.bs else []),tI (fH x)],[]):=by
 have c:=lW (G:=G) (B:=B) x;refine aA rfl ?_;by_cases h:fH x=0
 ·have hx:∀ n∈x.fs,0<=n/\n<=4294967295:=fun n hn=>by have:=tN h n hn;omega
  have e:=J2 (G:=G) x hf hR hx;rw[if_pos h];rw[h] at c ⊢;simp (maxSteps:=2000000) (disch:=omega) only[go_sem,h13c,c,e]
 ·rw[if_neg h];simp (maxSteps:=2000000) (disch:=omega) only[go_sem,h13c,c,h]
  try rfl
theorem aUG(n:Int)(h:0<=n/\n<=4294967295):gv (cC n 4)=n:=by
 simp only[cC,H4,aWL,aWR,gv];omega
theorem aUH{l:List Int}(h:l.length=4):∃ a b c d,l=[a,b,c,d]:=by
 match l,h with
 | [a,b,c,d],_=>exact⟨a,b,c,d,rfl⟩
theorem sg4(l:List Int)(h:l.length=4)(hB:aL l):cC (gv l) 4=l:=by
 obtain⟨a,b,c,d,rfl⟩:=aUH h;have h1:=hB a (by simp);have h2:=hB b (by simp);have h3:=hB c (by simp);have h4:=hB d (by simp);simp only[cC,H4,aWL,aWR,gv,List.cons.injEq,and_true];omega
theorem sgL(s:List Int)(hB:aL s)(a:Nat)(h:a+4<=s.length):cC (gL s a 4) 4=(s.drop a).take 4:=by
 unfold gL;exact sg4 _ (by rw[aWm,aWt];omega) (rZ hB a 4)
theorem nW(s:List Int)(a b n:Nat):(s.drop a).take b++(s.drop (a+b)).take n=(s.drop a).take (b+n):=by
 rw[List.take_add,List.drop_drop]
theorem aSi(s:List Int)(hB:aL s)(h:s.length=64):(mR s 6).hd 6=sM++(s.drop 8).take 24:=by
 rw[aE5,aJu,aJt,aJs,aJr,aJq,aJp,aSa,sgL s hB 8 (by omega),sgL s hB 12 (by omega),sgL s hB 16 (by omega),sgL s hB 20 (by omega),sgL s hB 24 (by omega),sgL s hB 28 (by omega)];simp only[aWv];rw[nW s 24 4 4,nW s 20 4 8,nW s 16 4 12,nW s 12 4 16,nW s 8 4 20]
theorem Xe(s:List Int)(hB:aL s)(h:s.length=64):aN2 s=true↔(mR s 6).bs=s:=by
 have e:(mR s 6).s60=sM++(s.drop 8).take 24++zl 28:=by rw[Bt.s60,aSi s hB h]
 have hs:s.take 8++(s.drop 8).take 24++(s.take 60).drop 32=s.take 60:=by
  have h1:s.take 8++(s.drop 8).take 24=s.take 32:=by rw[show (32:Nat)=8+24 from rfl,List.take_add]
  have h2:s.take 32=(s.take 60).take 32:=by rw[List.take_take];rfl
  rw[h1,h2,aXs]
 have lz:((s.take 60).drop 32).length=28:=by rw[aWt,aWm];omega
 have z:trZ ((s.take 60).drop 32)=[]↔(s.take 60).drop 32=zl 28:=by rw[aJw,lz]
 have key:(mR s 6).s60=s.take 60↔s.take 8=sM/\(s.take 60).drop 32=zl 28:=by
  rw[e,<- hs];have l8:sM.length=(s.take 8).length:=by rw[aWm,h];rfl
  constructor
  ·intro q;obtain⟨q1,q2⟩:=List.append_inj q (by rw[aWg,aWg,l8]);obtain⟨q3,_⟩:=List.append_inj q1 l8;refine⟨q3.symm, ?_⟩;rw[hs];exact q2.symm
  ·rintro⟨q1,q2⟩;rw[hs] at q2;rw[q1,q2]
 have whole:(mR s 6).bs=s↔(mR s 6).s60=s.take 60/\cC (jJ (mR s 6).s60) 4=s.drop 60:=by
  constructor
  ·intro q;have q':(mR s 6).s60++cC (jJ (mR s 6).s60) 4=s.take 60++s.drop 60:=by rw[aXs];exact q
   exact List.append_inj q' (by rw[tK,aWm];omega)
  ·rintro⟨q1,q2⟩;rw[Bt.bs,q2,q1,aXs]
 rw[whole,key];unfold aN2;simp only[aWs,decide_eq_true_eq];rw[z];constructor
 ·rintro⟨h1,h3⟩;refine⟨h1, ?_⟩;rw[key.2 h1];exact h3.symm
 ·rintro⟨h1,h3⟩;refine⟨h1, ?_⟩;rw[key.2 h1] at h3;exact h3.symm
theorem Et(s:List Int)(hB:aL s):dY s=Hq s:=by
 unfold dY Hq;by_cases h:s.length=64
 ·rw[if_pos h,if_pos h];by_cases b:(mR s 6).bs=s
  ·rw[if_pos b,if_pos ((Xe s hB h).2 b)]
  ·rw[if_neg b,if_neg (fun q=>b ((Xe s hB h).1 q))]
 ·rw[if_neg h,if_neg h]
theorem aN5(p z q:List Int)(k:Nat)(h:z.length=k):gL (p++(z++q)) p.length k=gv z:=by
 unfold gL;rw[List.drop_left,<- h,List.take_left]
theorem aSj(x:Bt)(hx:∀ n∈x.fs,0<=n/\n<=4294967295):mR x.bs 6=x:=by
 obtain⟨g1,g2,g3,g4,g5,g6⟩:=aE6 x _ hx;have e:∀ k (n:Int) q,x.bs=x.hd k++(cC n 4++q)->k<=6->0<=n/\n<=4294967295->gL x.bs (8+4 * k) 4=n:=by
  intro k n q h1 h2 h3;rw[h1,<- Ho x k h2,aN5 _ _ _ _ (aB _ _),aUG n h3]
 have f:x.bs=x.hd 6++(zl 28++cC (jJ x.s60) 4):=by rw[Bt.bs,Bt.s60,aWv]
 have f5:x.bs=x.hd 5++(cC x.se 4++(zl 28++cC (jJ x.s60) 4)):=by rw[f,aJu,aWv]
 have f4:x.bs=x.hd 4++(cC x.lc 4++(cC x.se 4++(zl 28++cC (jJ x.s60) 4))):=by rw[f5,aJt,aWv]
 have f3:x.bs=x.hd 3++(cC x.lg 4++(cC x.lc 4++(cC x.se 4++(zl 28++cC (jJ x.s60) 4)))):=by rw[f4,aJs,aWv]
 have f2:x.bs=x.hd 2++(cC x.mi 4++(cC x.lg 4++(cC x.lc 4++(cC x.se 4++(zl 28++cC (jJ x.s60) 4))))):=by rw[f3,aJr,aWv]
 have f1:x.bs=x.hd 1++(cC x.tb 4++(cC x.mi 4++(cC x.lg 4++(cC x.lc 4++(cC x.se 4++(zl 28++cC (jJ x.s60) 4)))))):=by rw[f2,aJq,aWv]
 have f0:x.bs=x.hd 0++(cC x.cl 4++(cC x.tb 4++(cC x.mi 4++(cC x.lg 4++(cC x.lc 4++(cC x.se 4++(zl 28++cC (jJ x.s60) 4))))))):=by rw[f1,aJp,aWv]
 rw[aE5,e 0 _ _ f0 (by omega) g1,e 1 _ _ f1 (by omega) g2,e 2 _ _ f2 (by omega) g3,e 3 _ _ f3 (by omega) g4,e 4 _ _ f4 (by omega) g5,e 5 _ _ f5 (by omega) g6]
theorem T1(x:Bt)(h:fH x=0):dY x.bs=(x,0):=by
 rw[Et _ (mQ x)];unfold Hq;have r:=aSj x (fun n hn=>by have:=tN h n hn;omega)
 rw[if_pos (qN x),r,if_pos rfl,if_pos h]
end
section
variable {G:aF} {B:aO}
theorem aAJ(b:Bool)(e:Int):EV G (Tb B) 180 [vb b,vi e] []=some (vi (oH b e),[]):=by
 refine aA rfl ?_;cases b
 all_goals simp (disch:=omega) only[go_sem,h180c]
 all_goals rfl
theorem aE7(l:List Int)(hl:l.length<=1000):EV G (Tb B) 179 [vl (el l)] []=some (vi (aQ l),[]):=by
 refine aA rfl ?_;simp (disch:=omega) only[go_sem,h179c,aWf];have round:∀ k (hk:k < l.length),¬ l.getD k 0≠0->K1 [5,0,0] 0 (EC (EV G (Tb B)) G h179l0 ⟨(jk 5 (vl (el l)::vi l.length::vi k::jk 7 [])),[]⟩)=some ⟨(jk 5 (vl (el l)::vi l.length::vi (k+1:Nat)::jk 7 [])),[]⟩:=fun k hk hz=>by
  rw[cY l k hk] at hz;simp (disch:=omega) only[go_sem,h179l0,aWf,Gc]
 rcases La (fun k=>l.getD k 0≠0) l.length with h | ⟨j,hj,h1,h2⟩
 ·rw[aU (fun k=>⟨(jk 5 (vl (el l)::vi l.length::vi k::jk 7 [])),[]⟩) l.length ?_ ?_]
  ·rw[fX l h];simp (disch:=omega) only[go_sem,h179l0]
  ·rfl
  ·exact fun k hk=>round k hk (h k hk)
 ·rw[aU (fun k=>⟨(jk 5 (vl (el l)::vi l.length::vi k::jk 7 [])),[]⟩) j ?_ ?_]
  ·rw[iY l j hj h2 h1];rw[cY l j hj] at h1;simp (disch:=omega) only[go_sem,h179l0,aWf,Gc]
  ·rfl
  ·exact fun k hk=>round k (by omega) (h2 k hk)
theorem aE8(a b:Int):EV G (Tb B) 179 [vl [[ci a],[ci b]]] []=some (vi (aQ [a,b]),[]):=aE7 [a,b] (by simp)
theorem T2(l:List Int):(dO l=⟨#[]⟩)=(l=[]):=by
 apply propext;refine⟨fun h=>?_,fun h=>by rw[h];rfl⟩
 have:=congrArg ByteArray.size h;rw[aC] at this;exact List.length_eq_zero_iff.1 this
def Eu(n:Nat):Int:=if n=0\/n % 64≠0 then 10 else if 131072 < n then 8 else 0
def uY(n:Nat):Int:=if Eu n≠0 then Eu n else if n % 256=0/\64<=n / 256/\n / 256<=512 then 0 else 10
theorem Ch(n m:Nat):(n:Int).tmod (m:Int)=((n % m:Nat):Int):=by
 rw[Int.tmod_eq_emod_of_nonneg (by omega)];simp
theorem L8(n m:Nat):(n:Int).tdiv (m:Int)=((n / m:Nat):Int):=by
 rw[Int.tdiv_eq_ediv_of_nonneg (by omega)];simp
theorem aAK(l:List Int)(hl:l.length<=200000):EV G (Tb B) 140 [sv l] []=some (vi (Eu l.length),[]):=by
 have u:=aAJ (G:=G) (B:=B);have f:=aE8 (G:=G) (B:=B);have m:(l.length:Int).tmod 64=((l.length % 64:Nat):Int):=Ch l.length 64;have e:=T2 l;refine aA rfl ?_;by_cases h0:l=[]
 ·have eN:(dO l=⟨#[]⟩)=True:=by rw[e];exact eq_true h0
  have hL:(l.length:Int)=0:=by rw[h0];rfl
  have ec:Eu l.length=10:=by rw[h0];rfl
  have h4:(0:Int)<=131072:=by omega
  simp (disch:=omega) only[go_sem,h140c,aC,u,f,hL,eN,ec,h4,dZ,eQ,bO,decide_false,decide_true,aWO,not_true_eq_false]
 ·have h1:l.length≠0:=fun q=>h0 (List.length_eq_zero_iff.1 q)
  by_cases h2:l.length % 64=0
  ·by_cases h3:131072 < l.length
   ·have ec:Eu l.length=8:=by unfold Eu;rw[if_neg (by omega),if_pos h3]
    have h4:¬ (l.length:Int)<=131072:=by omega
    have h5:((l.length % 64:Nat):Int)=0:=by omega
    simp (disch:=omega) only[go_sem,h140c,aC,u,f,m,e,h0,h4,h5,ec,dZ,eQ,bO,decide_false,decide_true,aWO]
   ·have ec:Eu l.length=0:=by unfold Eu;rw[if_neg (by omega),if_neg h3]
    have h4:(l.length:Int)<=131072:=by omega
    have h5:((l.length % 64:Nat):Int)=0:=by omega
    simp (disch:=omega) only[go_sem,h140c,aC,u,f,m,e,h0,h4,h5,ec,dZ,eQ,bO,decide_false,decide_true,aWO]
  ·have ec:Eu l.length=10:=by unfold Eu;rw[if_pos (by omega)]
   have h5:¬ ((l.length % 64:Nat):Int)=0:=by omega
   simp (disch:=omega) only[go_sem,h140c,aC,u,f,m,e,h0,h5,ec,dZ,eQ,bO,decide_false,decide_true,aWO]
theorem Hs(l:List Int)(hl:l.length<=200000):EV G (Tb B) 95 [sv l] []=some (vi (l.length / 256:Nat),[]):=by
 have d:(l.length:Int).tdiv 256=((l.length / 256:Nat):Int):=L8 l.length 256;refine aA rfl ?_;simp (disch:=omega) only[go_sem,h95c,aC,d]
theorem Ht(l:List Int)(hl:l.length<=200000):EV G (Tb B) 82 [sv l] []=some (vi (l.length / 256:Nat),[]):=by
 have d:(l.length:Int).tdiv 256=((l.length / 256:Nat):Int):=L8 l.length 256;refine aA rfl ?_;simp (disch:=omega) only[go_sem,h82c,aC,d]
theorem J4(l:List Int)(hl:l.length<=200000):EV G (Tb B) 87 [sv l] []=some (vi (uY l.length),[]):=by
 have u:=gS (G:=G) (B:=B);have f:=lV (G:=G) (B:=B);have k:=aAK (G:=G) (B:=B) l hl;have n:=Hs (G:=G) (B:=B) l hl;have w:=jD (G:=G) (B:=B) (l.length / 256:Nat) 64 512;have m:(l.length:Int).tmod 256=((l.length % 256:Nat):Int):=Ch l.length 256;refine aA rfl ?_;have e:uY l.length=if Eu l.length=0 then oH (decide (l.length % 256=0/\64<=l.length / 256/\l.length / 256<=512)) 10 else Eu l.length:=by
  unfold uY oH;by_cases h:Eu l.length=0
  ·rw[if_neg (by simp[h]),if_pos h];simp
  ·rw[if_pos h,if_neg h]
 rw[e];generalize l.length / 256=c at *;by_cases h2:l.length % 256=0
 ·have h5:((l.length % 256:Nat):Int)=0:=by omega
  have e2:decide (l.length % 256=0/\64<=c/\c<=512)=decide ((64:Int)<=(c:Int)/\(c:Int)<=512):=by
   rw[decide_eq_decide];omega
  rw[e2];simp (disch:=omega) only[go_sem,h87c,aC,u,f,k,n,w,m,h5,bO,decide_true]
 ·have h5:¬ ((l.length % 256:Nat):Int)=0:=by omega
  have e2:decide (l.length % 256=0/\64<=c/\c<=512)=false:=by simp[h2]
  rw[e2];simp (disch:=omega) only[go_sem,h87c,aC,u,f,k,n,w,m,h5,bO,decide_false]
theorem aN6(l:List Int)(hl:l.length<=200000):EV G (Tb B) 89 [sv l] []=some (vi (l.length / 64:Nat),[]):=by
 have d:(l.length:Int).tdiv 64=((l.length / 64:Nat):Int):=L8 l.length 64;refine aA rfl ?_;simp (disch:=omega) only[go_sem,h89c,aC,d]
theorem aN7(l:List Int)(hl:l.length<=200000):EV G (Tb B) 30 [sv l] []=some (vi (Eu l.length),[]):=by
 have s:=aN6 (G:=G) (B:=B) l hl;have m:(l.length:Int).tmod 64=((l.length % 64:Nat):Int):=Ch l.length 64;have e:=T2 l;refine aA rfl ?_;by_cases h0:l=[]
 ·have eN:(dO l=⟨#[]⟩)=True:=by rw[e];exact eq_true h0
  have ec:Eu l.length=10:=by rw[h0];rfl
  simp (disch:=omega) only[go_sem,h30c,eN,ec]
 ·have eN:(dO l=⟨#[]⟩)=False:=by rw[e];exact eq_false h0
  have h1:l.length≠0:=fun q=>h0 (List.length_eq_zero_iff.1 q)
  by_cases h2:l.length % 64=0
  ·have h5:((l.length % 64:Nat):Int)=0:=by omega
   by_cases h3:131072 < l.length
   ·have ec:Eu l.length=8:=by unfold Eu;rw[if_neg (by omega),if_pos h3]
    have h4:((l.length / 64:Nat):Int) > 2048:=by omega
    simp (disch:=omega) only[go_sem,h30c,aC,eN,ec,m,s,h5,eq_true h4]
   ·have ec:Eu l.length=0:=by unfold Eu;rw[if_neg (by omega),if_neg h3]
    have h4:¬ ((l.length / 64:Nat):Int) > 2048:=by omega
    simp (disch:=omega) only[go_sem,h30c,aC,eN,ec,m,s,h5,h4]
  ·have ec:Eu l.length=10:=by unfold Eu;rw[if_pos (by omega)]
   have h5:¬ ((l.length % 64:Nat):Int)=0:=by omega
   simp (disch:=omega) only[go_sem,h30c,aC,eN,ec,m,h5]
theorem Qp(l:List Int)(hl:l.length<=200000):EV G (Tb B) 81 [sv l] []=some (vi (uY l.length),[]):=by
 have k:=aN7 (G:=G) (B:=B) l hl;have n:=Ht (G:=G) (B:=B) l hl;have w:=Gk (G:=G) (B:=B) (l.length / 256:Nat) 64 512;have m:(l.length:Int).tmod 256=((l.length % 256:Nat):Int):=Ch l.length 256;refine aA rfl ?_;by_cases h:Eu l.length=0
 ·by_cases h2:l.length % 256=0
  ·have h5:((l.length % 256:Nat):Int)=0:=by omega
   by_cases h3:64<=l.length / 256/\l.length / 256<=512
   ·have e:uY l.length=0:=by unfold uY;rw[if_neg (by simp[h]),if_pos ⟨h2,h3⟩]
    have h6:(64:Int)<=(l.length / 256:Nat)/\((l.length / 256:Nat):Int)<=512:=by omega
    rw[decide_eq_true h6] at w;generalize l.length / 256=c at *;simp (disch:=omega) only[go_sem,h81c,aC,k,n,w,m,h,h5,e,aWS]
   ·have e:uY l.length=10:=by unfold uY;rw[if_neg (by simp[h]),if_neg (fun q=>h3 q.2)]
    have h6:¬ ((64:Int)<=(l.length / 256:Nat)/\((l.length / 256:Nat):Int)<=512):=by omega
    rw[decide_eq_false h6] at w;generalize l.length / 256=c at *;simp (disch:=omega) only[go_sem,h81c,aC,k,n,w,m,h,h5,e,aWO]
  ·have h5:¬ ((l.length % 256:Nat):Int)=0:=by omega
   have e:uY l.length=10:=by unfold uY;rw[if_neg (by simp[h]),if_neg (fun q=>h2 q.1)]
   simp (disch:=omega) only[go_sem,h81c,aC,k,m,h,h5,e]
 ·have e:uY l.length=Eu l.length:=by unfold uY;rw[if_pos h]
  simp (disch:=omega) only[go_sem,h81c,k,h,e]
end
section
variable {G:aF} {B:aO}
noncomputable def qT(l:List Int):Bt × Int × Bool:=
 if (dY (l.take 64)).2=0/\(dY (l.take 64)).1.cl=(l.length / 256:Nat) then ((dY (l.take 64)).1,0,true)
 else if (dY (l.drop (l.length - 64))).2=0/\(dY (l.drop (l.length - 64))).1.cl=(l.length / 256:Nat) then ((dY (l.drop (l.length - 64))).1,1,true) else (nB,0,false)
abbrev tB(b:Bool):TV:=.one (.dc (.raw (.bool b)))
theorem lZ{n:Nat}{v:AV}{i:Int}:aLu n v (some i)=Rj n v i:=rfl
theorem pA{a b:aR}:Rj 2 (.agg [a,b]) 0=some (.one a):=rfl
theorem qO{a b:aR}:Rj 2 (.agg [a,b]) 1=some (.one b):=rfl
set_option maxHeartbeats 2000000 in
theorem aN8(hf:∀ x:Bt,EV G (Tb B) 69 [.one (.ptr 0 0)] [x.o]=some (.one (.bls 1 0 6 1),[x.o,.box ptB]))(l:List Int)(hB:aL l)(hl:64<=l.length/\l.length<=200000):
  EV G (Tb B) 88 [sv l] []=some (.tup [.agg (qT l).1.cs,tI (qT l).2.1,tB (qT l).2.2],[]):=by
 have d1:=tL (G:=G) (B:=B) hf (l.take 64) (fun x hx=>hB x (aWF hx)) (by rw[aWm];omega)
 have d2:=tL (G:=G) (B:=B) hf (l.drop (l.length - 64)) (fun x hx=>hB x (aWT hx)) (by rw[aWt];omega)
 have n:=Hs (G:=G) (B:=B) l hl.2;unfold qT;generalize dY (l.take 64)=D1 at d1 ⊢;generalize dY (l.drop (l.length - 64))=D2 at d2 ⊢;obtain⟨x1,e1⟩:=D1;obtain⟨x2,e2⟩:=D2;have t64:(64:Int).toNat=64:=rfl;have tl:((l.length:Int) - 64).toNat=l.length - 64:=by omega
 refine aA rfl ?_;simp (maxSteps:=2000000) (disch:=first | omega | (simp only[aWg,aWh,aWk,aWf,aB,aWu,aWm,aWt,aC,bG]<;>omega) | fail) only[go_sem,h88c,aC,t64,tl]
 have r0:¬ (e1=0/\x1.cl=(l.length / 256:Nat))->K1 [0,1,13,0] 1 (EC (EV G (Tb B)) G h88l0 ⟨(sv l::jk 1 (.one (.ptr 0 0)::jk 13 (.agg [.dc (.raw (.string (dO (l.take 64)))),.dc (.raw (.string (dO (l.drop (l.length - 64)))))]::vi (0:Nat)::jk 21 []))),[nB.o]⟩)=some ⟨(sv l::jk 1 (.one (.ptr 0 0)::jk 13 (.agg [.dc (.raw (.string (dO (l.take 64)))),.dc (.raw (.string (dO (l.drop (l.length - 64)))))]::vi (1:Nat)::jk 21 []))),[nB.o]⟩:=by
  intro h;by_cases h1:e1=0
  ·have h2:¬ x1.cl=(l.length / 256:Nat):=fun q=>h ⟨h1,q⟩
   simp (maxSteps:=2000000) (disch:=omega) only[go_sem,h88l0,n,lZ,pA,qO,Bt.o,Bt.cs,nB,Int.reduceAdd,Int.reduceLT,aWV,bE,d1,h1,h2]
  ·simp (maxSteps:=2000000) (disch:=omega) only[go_sem,h88l0,n,lZ,pA,qO,Bt.o,Bt.cs,nB,Int.reduceAdd,Int.reduceLT,aWV,bE,d1,h1]
 have r1:¬ (e2=0/\x2.cl=(l.length / 256:Nat))->K1 [0,1,13,0] 1 (EC (EV G (Tb B)) G h88l0 ⟨(sv l::jk 1 (.one (.ptr 0 0)::jk 13 (.agg [.dc (.raw (.string (dO (l.take 64)))),.dc (.raw (.string (dO (l.drop (l.length - 64)))))]::vi (1:Nat)::jk 21 []))),[nB.o]⟩)=some ⟨(sv l::jk 1 (.one (.ptr 0 0)::jk 13 (.agg [.dc (.raw (.string (dO (l.take 64)))),.dc (.raw (.string (dO (l.drop (l.length - 64)))))]::vi (2:Nat)::jk 21 []))),[nB.o]⟩:=by
  intro h;by_cases h1:e2=0
  ·have h2:¬ x2.cl=(l.length / 256:Nat):=fun q=>h ⟨h1,q⟩
   simp (maxSteps:=2000000) (disch:=omega) only[go_sem,h88l0,n,lZ,pA,qO,Bt.o,Bt.cs,nB,Int.reduceAdd,Int.reduceLT,aWV,bE,d2,h1,h2]
  ·simp (maxSteps:=2000000) (disch:=omega) only[go_sem,h88l0,n,lZ,pA,qO,Bt.o,Bt.cs,nB,Int.reduceAdd,Int.reduceLT,aWV,bE,d2,h1]
 by_cases c1:e1=0/\x1.cl=(l.length / 256:Nat)
 ·rw[if_pos c1];obtain⟨c1,c2⟩:=c1;rw[aU (fun k=>⟨(sv l::jk 1 (.one (.ptr 0 0)::jk 13 (.agg [.dc (.raw (.string (dO (l.take 64)))),.dc (.raw (.string (dO (l.drop (l.length - 64)))))]::vi k::jk 21 []))),[nB.o]⟩) 0 ?_ ?_]
  ·simp (maxSteps:=2000000) (disch:=omega) only[go_sem,h88l0,n,lZ,pA,qO,Bt.o,Bt.cs,nB,Int.reduceAdd,Int.reduceLT,aWV,bE,h88c,d1,c1,c2]
  ·rfl
  ·intro k hk;omega
 ·rw[if_neg c1];by_cases c3:e2=0/\x2.cl=(l.length / 256:Nat)
  ·rw[if_pos c3];obtain⟨c3,c4⟩:=c3;rw[aU (fun k=>⟨(sv l::jk 1 (.one (.ptr 0 0)::jk 13 (.agg [.dc (.raw (.string (dO (l.take 64)))),.dc (.raw (.string (dO (l.drop (l.length - 64)))))]::vi k::jk 21 []))),[nB.o]⟩) 1 ?_ ?_]
   ·simp (maxSteps:=2000000) (disch:=omega) only[go_sem,h88l0,n,lZ,pA,qO,Bt.o,Bt.cs,nB,Int.reduceAdd,Int.reduceLT,aWV,bE,h88c,d2,c3,c4]
   ·rfl
   ·intro k hk;rw[show k=0 by omega];exact r0 c1
  ·rw[if_neg c3];rw[aU (fun k=>⟨(sv l::jk 1 (.one (.ptr 0 0)::jk 13 (.agg [.dc (.raw (.string (dO (l.take 64)))),.dc (.raw (.string (dO (l.drop (l.length - 64)))))]::vi k::jk 21 []))),[nB.o]⟩) 2 ?_ ?_]
   ·simp (maxSteps:=2000000) (disch:=omega) only[go_sem,h88l0,n,lZ,pA,qO,Bt.o,Bt.cs,nB,Int.reduceAdd,Int.reduceLT,aWV,bE,h88c,d2]
   ·rfl
   ·intro k hk;rcases (show k=0\/k=1 by omega) with rfl | rfl
    ·exact r0 c1
    ·exact r1 c3
noncomputable def cH(l:List Int):Bt × Int × Int:=if uY l.length=0 then ((qT l).1,(qT l).2.1,oH (qT l).2.2 6) else (nB,0,uY l.length)
theorem dk0{n:Nat}(h:uY n=0):n % 256=0/\64<=n / 256/\n / 256<=512:=by
 unfold uY at h;split at h
 ·rename_i q;exact absurd h q
 ·split at h
  ·assumption
  ·cases h
set_option maxHeartbeats 1000000 in
theorem A3(hf:∀ x:Bt,EV G (Tb B) 69 [.one (.ptr 0 0)] [x.o]=some (.one (.bls 1 0 6 1),[x.o,.box ptB]))(l:List Int)(hB:aL l)(hl:l.length<=200000):
  EV G (Tb B) 29 [sv l] []=some (.tup [.agg (cH l).1.cs,tI (cH l).2.1,tI (cH l).2.2],[]):=by
 have d:=J4 (G:=G) (B:=B) l hl;have u:=gS (G:=G) (B:=B);unfold cH;by_cases h:uY l.length=0
 ·rw[if_pos h];have k:=dk0 h;have b:=aN8 (G:=G) hf l hB (by omega);generalize qT l=V at b ⊢;obtain⟨x,i,q⟩:=V;refine aA rfl ?_;simp (maxSteps:=2000000) (disch:=omega) only[go_sem,h29c,d,h,b,u,Bt.cs,nB]
 ·rw[if_neg h];refine aA rfl ?_;simp (maxSteps:=2000000) (disch:=omega) only[go_sem,h29c,d,h,Bt.cs,nB]
set_option maxHeartbeats 1000000 in
theorem aAL(l:List Int)(hB:aL l)(hl:l.length<=200000):
  EV G (Tb B) 21 [sv l] []=some (.tup [.agg (cH l).1.cs,tI (cH l).2.1,tI (cH l).2.2],[]):=by
 have d:=Qp (G:=G) (B:=B) l hl;have n:=Ht (G:=G) (B:=B) l hl;have p1:=Hr (G:=G) (B:=B) (l.take 64) (fun x hx=>hB x (aWF hx)) (by rw[aWm];omega)
 have p2:=Hr (G:=G) (B:=B) (l.drop (l.length - 64)) (fun x hx=>hB x (aWT hx)) (by rw[aWt];omega)
 rw[<- Et _ (fun x hx=>hB x (aWF hx))] at p1
 rw[<- Et _ (fun x hx=>hB x (aWT hx))] at p2
 unfold cH qT;by_cases h:uY l.length=0
 ·rw[if_pos h];have k:=dk0 h;have t64:(64:Int).toNat=64:=rfl;have tl:((l.length:Int) - 64).toNat=l.length - 64:=by omega
  generalize dY (l.take 64)=D1 at p1 ⊢;generalize dY (l.drop (l.length - 64))=D2 at p2 ⊢;obtain⟨x1,e1⟩:=D1;obtain⟨x2,e2⟩:=D2;refine aA rfl ?_;by_cases c1:e1=0/\x1.cl=(l.length / 256:Nat)
  ·rw[if_pos c1];obtain⟨c1,c2⟩:=c1;simp (maxSteps:=2000000) (disch:=first | omega | (simp only[aWg,aWh,aWk,aWf,aB,aWu,aWm,aWt,aC,bG]<;>omega) | fail) only[go_sem,h21c,aC,t64,tl,d,h,n,p1,c1,c2,Bt.cs,nB,dZ]
  ·rw[if_neg c1];by_cases c3:e2=0/\x2.cl=(l.length / 256:Nat)
   ·rw[if_pos c3];obtain⟨c3,c4⟩:=c3;by_cases f1:e1=0
    ·have f2:¬ x1.cl=(l.length / 256:Nat):=fun q=>c1 ⟨f1,q⟩
     simp (maxSteps:=2000000) (disch:=first | omega | (simp only[aWg,aWh,aWk,aWf,aB,aWu,aWm,aWt,aC,bG]<;>omega) | fail) only[go_sem,h21c,aC,t64,tl,d,h,n,p1,p2,f1,f2,c3,c4,Bt.cs,nB,dZ]
    ·simp (maxSteps:=2000000) (disch:=first | omega | (simp only[aWg,aWh,aWk,aWf,aB,aWu,aWm,aWt,aC,bG]<;>omega) | fail) only[go_sem,h21c,aC,t64,tl,d,h,n,p1,p2,f1,c3,c4,Bt.cs,nB,dZ]
   ·rw[if_neg c3];by_cases f1:e1=0
    ·have f2:¬ x1.cl=(l.length / 256:Nat):=fun q=>c1 ⟨f1,q⟩
     by_cases g1:e2=0
     ·have g2:¬ x2.cl=(l.length / 256:Nat):=fun q=>c3 ⟨g1,q⟩
      simp (maxSteps:=2000000) (disch:=first | omega | (simp only[aWg,aWh,aWk,aWf,aB,aWu,aWm,aWt,aC,bG]<;>omega) | fail) only[go_sem,h21c,aC,t64,tl,d,h,n,p1,p2,f1,f2,g1,g2,Bt.cs,nB,eQ]
     ·simp (maxSteps:=2000000) (disch:=first | omega | (simp only[aWg,aWh,aWk,aWf,aB,aWu,aWm,aWt,aC,bG]<;>omega) | fail) only[go_sem,h21c,aC,t64,tl,d,h,n,p1,p2,f1,f2,g1,Bt.cs,nB,eQ]
    ·by_cases g1:e2=0
     ·have g2:¬ x2.cl=(l.length / 256:Nat):=fun q=>c3 ⟨g1,q⟩
      simp (maxSteps:=2000000) (disch:=first | omega | (simp only[aWg,aWh,aWk,aWf,aB,aWu,aWm,aWt,aC,bG]<;>omega) | fail) only[go_sem,h21c,aC,t64,tl,d,h,n,p1,p2,f1,g1,g2,Bt.cs,nB,eQ]
     ·simp (maxSteps:=2000000) (disch:=first | omega | (simp only[aWg,aWh,aWk,aWf,aB,aWu,aWm,aWt,aC,bG]<;>omega) | fail) only[go_sem,h21c,aC,t64,tl,d,h,n,p1,p2,f1,g1,Bt.cs,nB,eQ]
 ·rw[if_neg h];refine aA rfl ?_;simp (maxSteps:=2000000) (disch:=omega) only[go_sem,h21c,d,h,Bt.cs,nB]
end
section
variable {G:aF} {B:aO}
theorem nX(x:Bt):EV G (Tb B) 69 [.one (.ptr 0 0)] [x.o]=some (.one (.bls 1 0 6 1),[x.o,.box ptB]):=aA rfl (aAI x)
theorem Qq(s t:List Int)(a:Nat)(h:a+t.length<=s.length)(hl:s.length<=1000000):EV G (Tb B) 24 [sv s,vi a,sv t] []=some (sv (gT s a t),[]):=by
 refine aA rfl ?_;have e:((a:Int)+(t.length:Int)).toNat=a+t.length:=by omega
 unfold gT;simp (disch:=first | omega | (simp only[aWg,aWh,aWk,aWf,aB,aWu,aWm,aWt,aC,bG]<;>omega) | fail) only[go_sem,h24c,aC,aW6,Int.toNat_zero,aW7,e,aWm,aWt]
def pX(l:List Int)(x:Bt):List Int:=gT (gT l 0 x.bs) (l.length - 64) x.bs
theorem aN9(l:List Int)(x:Bt)(hx:∀ n∈x.fs,0<=n/\n<=4294967295)(hl:64<=l.length/\l.length<=200000):EV G (Tb B) 41 [sv l,x.v] []=some (sv (pX l x),[]):=by
 have b:=Cg (G:=G) (B:=B) x hx;have lb:=qN x;have p1:=Qq (G:=G) (B:=B) l x.bs 0 (by omega) (by omega);have l1:(gT l 0 x.bs).length=l.length:=cN (by omega);have p2:=Qq (G:=G) (B:=B) (gT l 0 x.bs) x.bs (l.length - 64) (by omega) (by omega);rw[Int.natCast_zero] at p1;have e:((l.length - 64:Nat):Int)=(l.length:Int) - 64:=by omega
 rw[e] at p2;have r:pX l x=gT (gT l 0 x.bs) (l.length - 64) x.bs:=rfl;rw[r];generalize gT l 0 x.bs=M at *;generalize gT M (l.length - 64) x.bs=M2 at *;refine aA rfl ?_;simp (disch:=omega) only[go_sem,h41c,aC,b,p1,p2,l1]
def uB(l:List Int)(x:Bt):Int:=if uY l.length=0 then if fH x=0 then if x.cl=(l.length / 256:Nat) then 0 else 13 else fH x else uY l.length
theorem aAM(l:List Int)(x:Bt)(hl:l.length<=200000):EV G (Tb B) 40 [sv l,x.v] []=some (vi (uB l x),[]):=by
 have d:=Qp (G:=G) (B:=B) l hl;have c:=Cb (G:=G) (B:=B) x;have n:=Ht (G:=G) (B:=B) l hl;unfold uB;refine aA rfl ?_;by_cases h:uY l.length=0
 ·rw[if_pos h];by_cases h2:fH x=0
  ·rw[if_pos h2];by_cases h3:x.cl=(l.length / 256:Nat)
   ·rw[if_pos h3];simp (maxSteps:=2000000) (disch:=omega) only[go_sem,h40c,d,c,n,h,h2,eq_true h3]
   ·rw[if_neg h3];simp (maxSteps:=2000000) (disch:=omega) only[go_sem,h40c,d,c,n,h,h2,h3]
  ·rw[if_neg h2];simp (maxSteps:=2000000) (disch:=omega) only[go_sem,h40c,d,c,n,h,h2]
 ·rw[if_neg h];simp (maxSteps:=2000000) (disch:=omega) only[go_sem,h40c,d,h]
set_option maxHeartbeats 1000000 in
theorem aE9(l:List Int)(x:Bt)(N:Nat)(hN:l.length=N)(hR:B 170 [.one (.dc (.raw (.string ⟨#[0]⟩))),vi 28] []=some (sv (zl 28),[]))(hx:∀ n∈x.fs,0<=n/\n<=4294967295)(hl:64<=N/\N<=200000):
  EV G (Tb B) 96 [.one (.bls 0 0 N 1),x.v] [yb l]=some (.tup [],[yb (pX l x)]):=by
 have e:=J2 (G:=G) (B:=B) x (nX x) hR hx;have lb:=qN x;have c1:=nK l x.bs 0 N (mQ x) (by omega);have l1:(gT l 0 x.bs).length=N:=by rw[cN (by omega),hN]
 have c2:=nK (gT l 0 x.bs) x.bs (N - 64) 64 (mQ x) (by omega);have r:pX l x=gT (gT l 0 x.bs) (N - 64) x.bs:=by rw[pX,hN]
 rw[r];generalize gT l 0 x.bs=M at *;generalize gT M (N - 64) x.bs=M2 at *;generalize x.bs=X at *;have tn:((N:Int) - 64).toNat=N - 64:=by omega
 have lX:(X.length:Int)=64:=by omega
 have e64:N - (N - 64)=64:=by omega
 refine aA rfl ?_;simp (maxSteps:=2000000) (disch:=omega) only[go_sem,h96c,e,c1,c2,aWf,tn,lX,hN,l1,lb,e64]
set_option maxHeartbeats 1000000 in
theorem aAN(l:List Int)(x:Bt)(hB:aL l)(hR:B 170 [.one (.dc (.raw (.string ⟨#[0]⟩))),vi 28] []=some (sv (zl 28),[]))(hl:l.length<=200000):
  EV G (Tb B) 39 [sv l,x.v] []=some (.tup [tS (if uB l x=0 then pX l x else []),tI (uB l x)],[]):=by
 have d:=J4 (G:=G) (B:=B) l hl;have c:=lW (G:=G) (B:=B) x;have n:=Hs (G:=G) (B:=B) l hl;have f:=lV (G:=G) (B:=B);by_cases h:uY l.length=0
 ·by_cases h2:fH x=0
  ·by_cases h3:x.cl=(l.length / 256:Nat)
   ·have e:uB l x=0:=by unfold uB;rw[if_pos h,if_pos h2,if_pos h3]
    rw[e,if_pos rfl];have k:=dk0 h;have hx:∀ n∈x.fs,0<=n/\n<=4294967295:=fun n hn=>by have:=tN h2 n hn;omega
    have p:=aE9 (G:=G) l x l.length rfl hR hx (by omega);have hD:=kQ l hB;have hE:=G2 (b:=l) rfl (show 0 < l.length by omega);have hF:=sC l;have lM:(pX l x).length=l.length:=by
     have:=qN x;rw[pX,cN (by rw[cN (by omega)];omega),cN (by omega)]
    generalize pX l x=M at *;have bM:hP (List.take l.length (List.map yC M))=some (M.map u8):=by rw[aWP (by rw[aWf];omega),iZ]
    refine aA rfl ?_;simp (maxSteps:=2000000) (disch:=omega) only[go_sem,h39c,d,c,n,f,h,h2,eq_true h3,bO,aC,hD,hE,hF,aWf,p,bM,Le]
   ·have e:uB l x=13:=by unfold uB;rw[if_pos h,if_pos h2,if_neg h3]
    rw[e,if_neg (by decide)];refine aA rfl ?_;simp (maxSteps:=2000000) (disch:=omega) only[go_sem,h39c,d,c,n,f,h,h2,h3,bO];rfl
  ·have e:uB l x=fH x:=by unfold uB;rw[if_pos h,if_neg h2]
   rw[e,if_neg h2];refine aA rfl ?_;simp (maxSteps:=2000000) (disch:=omega) only[go_sem,h39c,d,c,f,h,h2,bO];rfl
 ·have e:uB l x=uY l.length:=by unfold uB;rw[if_neg h]
  rw[e,if_neg h];refine aA rfl ?_;simp (maxSteps:=2000000) (disch:=omega) only[go_sem,h39c,d,c,f,h,bO];rfl
end
end Go.Proofs.YthepfneloomngaaGreatDoor
