/- Numbers that are read of bytes. Conditions: none. -/
import Derived.Test.YthepfneloomngaaGreatDoorUb
import Derived.Test.YthepfneloomngaaGreatDoorUh
namespace Go.Proofs.YthepfneloomngaaGreatDoor
set_option linter.unusedSimpArgs false
set_option linter.unusedVariables false
set_option maxRecDepth 4000
section
variable {G:aF} {B:aO}
def tb3(a b c:Int):Nat->Int
 | 0=>a
 | 1=>b
 | _=>c
theorem aKG(a b c:Int):tb3 a b c 0=a:=rfl
theorem Pd(a b c:Int):tb3 a b c 1=b:=rfl
theorem aDV(a b c:Int):tb3 a b c 2=c:=rfl
abbrev bS(l:List Int):aD:=.box [.dc (.raw (.string (dO l)))]
def qJ:List Int->Int
 | [x]=>if 128<=x then x - 256 else x
 | [x,y]=>if 32768<=y * 256+x then y * 256+x - 65536 else y * 256+x
 | _=>0
def gV(bs:List Int)(a:Nat):Int × Bool × List Int:=if bs.length < a then (0,false,bs) else (qJ (bs.take a),decide (sz (qJ (bs.take a))=a),bs.drop a)
def mL(last h:Int)(t:List Int):bF × Bool × List Int:=
 if (1<=h % 16/\h % 16<=2)/\h / 16<=2 then
  if (gV t (h % 16).toNat).2.1=false\/h / 16=0 then (⟨-1,(gV t (h % 16).toNat).1⟩,(gV t (h % 16).toNat).2.1,(gV t (h % 16).toNat).2.2)
  else (⟨last+(gV (gV t (h % 16).toNat).2.2 (h / 16).toNat).1,(gV t (h % 16).toNat).1⟩,(gV (gV t (h % 16).toNat).2.2 (h / 16).toNat).2.1&&!decide (last+(gV (gV t (h % 16).toNat).2.2 (h / 16).toNat).1=-1),(gV (gV t (h % 16).toNat).2.2 (h / 16).toNat).2.2)
 else (⟨0,0⟩,false,t)
theorem aDW(n b:Int)(hn:0<=n/\n<=255)(hb:0<=b/\b<=255):Sv .i64 (n * 256) b=n * 256+b:=by
 obtain⟨n,rfl⟩:=aXi hn.1;obtain⟨b,rfl⟩:=aXi hb.1;have h1:((n:Int) * 256)=((n * 256:Nat):Int):=by simp
 have h2:n * 256 ||| b=n * 256+b:=by
  have:=Nat.shiftLeft_add_eq_or_of_lt (show b < 2 ^ 8 by omega) n;rw[Nat.shiftLeft_eq] at this;exact this.symm
 rw[Sv,h1,Gl,BitVec.ofInt_natCast,BitVec.ofInt_natCast,BitVec.toNat_or,BitVec.toNat_ofNat,BitVec.toNat_ofNat,aXd (by omega),aXd (by omega),h2,uE (by omega)];simp
theorem aKH(h:Int)(hh:0<=h/\h<=255):Su .i64 h 15=h % 16:=by
 obtain⟨n,rfl⟩:=aXi hh.1;have h2:n &&& 15=n % 16:=Nat.and_two_pow_sub_one_eq_mod n 4;have h3:(15:Int)=((15:Nat):Int):=rfl;rw[Su,h3,Gl,BitVec.ofInt_natCast,BitVec.ofInt_natCast,BitVec.toNat_and,BitVec.toNat_ofNat,BitVec.toNat_ofNat,aXd (by omega),aXd (by omega),h2,uE (by omega)];simp
theorem B3(n:Int):n.fdiv 16=n / 16:=Int.fdiv_eq_ediv_of_nonneg _ (by decide)
theorem kC{x:Int}{l:List Int}(h:aL (x::l)):(0<=x/\x<=255)/\aL l:=⟨h x aWy,fun b hb=>h b (aWG _ hb)⟩
theorem aAl(bs:List Int)(hB:aL bs):EV G (Tb B) 346 [.one (.ptr 0 0),vi 1] [bS bs]=some (.tup [.one (.dc (ci (gV bs 1).1)),.one (bC (gV bs 1).2.1)],[bS (gV bs 1).2.2]):=by
 refine aA rfl ?_
 match bs,hB with
 | [],hB=>
  simp (disch:=first | omega | (simp only[aWg,aWh,aWk,aWf,aB];omega)) only[go_sem,h346c,gV,aC]
  rfl
 | x::t,hB=>
  obtain⟨hx,_⟩:=kC hB;have o1:=aDW 0 x (by omega) hx;rw[Int.zero_mul,aWV] at o1;simp (disch:=first | omega | (simp only[aWg,aWh,aWk,aWf,aB];omega)) only[go_sem,h346c,Int.reduceSub]
  rw[aU (fun k=>⟨(.one (.ptr 0 0)::vi 1::jk 4 (vi (tb3 0 x x k)::vi (tb3 0 (-1) (-1) k)::jk 44 [])),[bS (x::t)]⟩) 1 ?_ ?_]
  ·have hv:gV (x::t) 1=(qJ [x],decide (sz (qJ [x])=1),t):=by rw[gV,if_neg (by simp)];rfl
   rw[hv];simp only[qJ];by_cases c:128<=x
   ·have s1:=pL (G:=G) (B:=B) (x - 256) (by omega);simp (disch:=first | omega | (simp only[aWg,aWh,aWk,aWf,aB];omega)) only[go_sem,h346l0,Pd,Int.reduceMul,Int.reduceSub,Int.reduceToNat,Int.reducePow,Nat.reducePow,Int.reduceNeg,c,s1,bC]
   ·have s1:=pL (G:=G) (B:=B) x (by omega);simp (disch:=first | omega | (simp only[aWg,aWh,aWk,aWf,aB];omega)) only[go_sem,h346l0,Pd,Int.reduceMul,Int.reduceSub,Int.reduceToNat,Int.reducePow,Nat.reducePow,Int.reduceNeg,c,s1,bC]
  ·rfl
  ·intro k hk;have hk0:k=0:=by omega
   subst hk0;simp (disch:=first | omega | (simp only[aWg,aWh,aWk,aWf,aB];omega)) only[go_sem,h346l0,aKG,Pd,Int.reduceMul,Int.reduceSub,Int.reduceToNat,Int.reducePow,Nat.reducePow,Int.reduceNeg,o1,Int.zero_mul]
theorem aAm(bs:List Int)(hB:aL bs):EV G (Tb B) 346 [.one (.ptr 0 0),vi 2] [bS bs]=some (.tup [.one (.dc (ci (gV bs 2).1)),.one (bC (gV bs 2).2.1)],[bS (gV bs 2).2.2]):=by
 refine aA rfl ?_
 match bs,hB with
 | [],hB=>
  simp (disch:=first | omega | (simp only[aWg,aWh,aWk,aWf,aB];omega)) only[go_sem,h346c,gV,aC]
  rfl
 | [x],hB=>
  simp (disch:=first | omega | (simp only[aWg,aWh,aWk,aWf,aB];omega)) only[go_sem,h346c,gV,aC]
  rfl
 | x::y::t,hB=>
  obtain⟨hx,hB'⟩:=kC hB;obtain⟨hy,_⟩:=kC hB';have o1:=aDW 0 y (by omega) hy;have o2:=aDW y x hy hx;rw[Int.zero_mul,aWV] at o1;simp (disch:=first | omega | (simp only[aWg,aWh,aWk,aWf,aB];omega)) only[go_sem,h346c,Int.reduceSub]
  rw[aU (fun k=>⟨(.one (.ptr 0 0)::vi 2::jk 4 (vi (tb3 0 y (y * 256+x) k)::vi (tb3 1 0 (-1) k)::jk 44 [])),[bS (x::y::t)]⟩) 2 ?_ ?_]
  ·have hv:gV (x::y::t) 2=(qJ [x,y],decide (sz (qJ [x,y])=2),t):=by rw[gV,if_neg (by simp)];rfl
   rw[hv];simp only[qJ];by_cases c:32768<=y * 256+x
   ·have s1:=pL (G:=G) (B:=B) (y * 256+x - 65536) (by omega);simp (disch:=first | omega | (simp only[aWg,aWh,aWk,aWf,aB];omega)) only[go_sem,h346l0,aDV,Int.reduceMul,Int.reduceSub,Int.reduceToNat,Int.reducePow,Nat.reducePow,Int.reduceNeg,c,s1,bC]
   ·have s1:=pL (G:=G) (B:=B) (y * 256+x) (by omega);simp (disch:=first | omega | (simp only[aWg,aWh,aWk,aWf,aB];omega)) only[go_sem,h346l0,aDV,Int.reduceMul,Int.reduceSub,Int.reduceToNat,Int.reducePow,Nat.reducePow,Int.reduceNeg,c,s1,bC]
  ·rfl
  ·intro k hk;rcases (show k=0\/k=1 by omega) with rfl | rfl
   ·simp (disch:=first | omega | (simp only[aWg,aWh,aWk,aWf,aB];omega)) only[go_sem,h346l0,aKG,Pd,Int.reduceMul,Int.reduceSub,Int.reduceToNat,Int.reducePow,Nat.reducePow,Int.reduceNeg,o1,Int.zero_mul]
   ·simp (disch:=first | omega | (simp only[aWg,aWh,aWk,aWf,aB];omega)) only[go_sem,h346l0,Pd,aDV,Int.reduceMul,Int.reduceSub,Int.reduceToNat,Int.reducePow,Nat.reducePow,Int.reduceNeg,o2,Int.zero_mul]
theorem Pe(bs:List Int)(hB:aL bs)(a:Int)(ha:1<=a/\a<=2):EV G (Tb B) 346 [.one (.ptr 0 0),vi a] [bS bs]=some (.tup [.one (.dc (ci (gV bs a.toNat).1)),.one (bC (gV bs a.toNat).2.1)],[bS (gV bs a.toNat).2.2]):=by
 rcases (show a=1\/a=2 by omega) with rfl | rfl
 ·exact aAl bs hB
 ·exact aAm bs hB
theorem Pf{l m:List Int}(h:aL l)(hs:∀ x∈m,x∈l):aL m:=fun b hb=>h b (hs b hb)
theorem pN{bs:List Int}(h:aL bs)(a:Nat):aL (gV bs a).2.2:=by
 unfold gV;split
 ·exact h
 ·exact Pf h (fun x hx=>aWT hx)
theorem Lj{bs:List Int}(h:aL bs)(a:Nat):-32768<=(gV bs a).1/\(gV bs a).1<=32767:=by
 unfold gV;split
 ·simp
 ·have h2:aL (bs.take a):=Pf h (fun x hx=>aWF hx)
  simp only;generalize bs.take a=m at h2
  match m,h2 with
  | [],_=>simp[qJ]
  | [x],h2=>have:=h2 x (by simp);simp only[qJ];split<;>omega
  | [x,y],h2=>have:=h2 x (by simp);have:=h2 y (by simp);simp only[qJ];split<;>omega
  | x::y::z::w,_=>simp[qJ]
theorem Gw(bs:List Int)(a:Nat):(gV bs a).2.2.length<=bs.length:=by
 unfold gV;split
 ·exact aWj _
 ·simp
set_option maxHeartbeats 1000000 in
theorem aKI(last h:Int)(t:List Int)(hB:aL (h::t))(hl:-1000000000<=last/\last<=1000000000):EV G (Tb B) 334 [.one (.ptr 0 0),vi last] [bS (h::t)]=
  some (.tup [.agg [.dc (ci (mL last h t).1.s),.dc (ci (mL last h t).1.n)],.one (bC (mL last h t).2.1)],[bS (mL last h t).2.2]):=by
 refine aA rfl ?_;obtain⟨hh,hB'⟩:=kC hB;have ha:=aKH h hh;unfold mL;by_cases c1:1<=h % 16/\h % 16<=2
 ·by_cases c2:h / 16<=2
  ·rw[if_pos ⟨c1,c2⟩];have s1:=Pe (G:=G) (B:=B) t hB' (h % 16) c1;have k1:=Lj hB' (h % 16).toNat;have b1:=pN hB' (h % 16).toNat;generalize gV t (h % 16).toNat=N1 at s1 k1 b1 ⊢;obtain⟨n1,ok1,t1⟩:=N1;simp only at s1 k1 b1 ⊢;by_cases c3:h / 16=0
   ·rw[if_pos (Or.inr c3)];cases ok1
    all_goals simp (disch:=first | omega | (simp only[aWg,aWh,aWk,aWf,aB];omega)) only[go_sem,h334c,Int.reduceToNat,Int.reducePow,ha,B3,c1,c2,c3,iM,s1,bC]
   ·cases ok1
    ·rw[if_pos (Or.inl rfl)];simp (disch:=first | omega | (simp only[aWg,aWh,aWk,aWf,aB];omega)) only[go_sem,h334c,Int.reduceToNat,Int.reducePow,ha,B3,c1,c2,c3,iM,s1,bC]
    ·rw[if_neg (by simp[c3])];have s2:=Pe (G:=G) (B:=B) t1 b1 (h / 16) (by omega);have k2:=Lj b1 (h / 16).toNat;generalize gV t1 (h / 16).toNat=N2 at s2 k2 ⊢;obtain⟨n2,ok2,t2⟩:=N2;simp only at s2 k2 ⊢;cases ok2
     all_goals simp (disch:=first | omega | (simp only[aWg,aWh,aWk,aWf,aB];omega)) only[go_sem,h334c,Int.reduceToNat,Int.reducePow,ha,B3,c1,c2,c3,iM,s1,s2,bC,iN]
  ·rw[if_neg (by omega)];simp (disch:=first | omega | (simp only[aWg,aWh,aWk,aWf,aB];omega)) only[go_sem,h334c,Int.reduceToNat,Int.reducePow,ha,B3,c1,c2,iM,bC]
 ·rw[if_neg (by omega)];simp (disch:=first | omega | (simp only[aWg,aWh,aWk,aWf,aB];omega)) only[go_sem,h334c,Int.reduceToNat,Int.reducePow,ha,B3,c1,iM,bC]
structure DS where
 bs:List Int
 last:Int
 out:List bF
def kD(z:DS):Option DS:=
 match z.bs with
 | []=>none
 | h::t=>if h=0 then none else if (mL z.last h t).2.1=true then some ⟨(mL z.last h t).2.2,if (mL z.last h t).1.s=-1 then z.last else (mL z.last h t).1.s,z.out++[(mL z.last h t).1]⟩ else none
def dK(s:List Int):Nat->DS
 | 0=>⟨s,0,[]⟩
 | k+1=>(kD (dK s k)).getD (dK s k)
noncomputable def Ie(s:List Int):Nat:=ix (fun k=>kD (dK s k)=none) (s.length+1)
def aAn(bs:List Int):Int:=match bs with
 | []=>3
 | h::t=>if h=0/\t=[] then 0 else 3
def Dr(z:DS):List bF × Int:=if aAn z.bs≠0 then ([],3) else if (oQ z.out).2≠0 then ([],(oQ z.out).2) else (z.out,0)
noncomputable def Ig(s:List Int):List bF × Int:=if (s.length:Int) > 400 then ([],8) else Dr (dK s (Ie s))
theorem aDX(last h:Int)(t:List Int):(mL last h t).2.2.length<=t.length:=by
 unfold mL;split
 ·split
  ·exact Gw _ _
  ·exact Nat.le_trans (Gw _ _) (Gw _ _)
 ·exact aWj _
theorem aAo(last h:Int){t:List Int}(hB:aL t):aL (mL last h t).2.2:=by
 unfold mL;split
 ·split
  ·exact pN hB _
  ·exact pN (pN hB _) _
 ·exact hB
theorem aIF(last h:Int){t:List Int}(hB:aL t):(mL last h t).1.s=-1\/(mL last h t).1.s=0\/(last - 32768<=(mL last h t).1.s/\(mL last h t).1.s<=last+32767):=by
 unfold mL;split
 ·split
  ·exact .inl rfl
  ·have:=Lj (pN hB (h % 16).toNat) (h / 16).toNat;exact .inr (.inr ⟨by simp only;omega,by simp only;omega⟩)
 ·exact .inr (.inl rfl)
theorem aDY(s:List Int)(hB:aL s):∀ k,(∀ j,j < k->¬ kD (dK s j)=none)->(dK s k).bs.length+k<=s.length/\(dK s k).out.length=k/\(-40000 * (k:Int)<=(dK s k).last/\(dK s k).last<=40000 * k)/\aL (dK s k).bs:=by
 intro k
 induction k with
 | zero=>intro _;exact⟨by simp[dK],rfl,by simp[dK],hB⟩
 | succ k ih=>
  intro h;obtain⟨h1,h2,h3,h4⟩:=ih (fun j hj=>h j (by omega))
  have h5:=h k (by omega);simp only[dK];generalize dK s k=z at h1 h2 h3 h4 h5 ⊢;obtain⟨bs,last,out⟩:=z;simp only at h1 h2 h3 h4 h5;cases bs with
  | nil=>exact absurd rfl h5
  | cons h t=>
   obtain⟨hh,ht⟩:=kC h4;have l1:=aDX last h t;have l2:=aAo last h ht;have l3:=aIF last h ht;simp only[kD] at h5 ⊢;split
   ·rename_i c;rw[if_pos c] at h5;exact absurd rfl h5
   ·rename_i c;rw[if_neg c] at h5;split
    ·simp only[aWX,aWg,aWh,aWk] at h1 ⊢;refine⟨by omega,by omega, ?_,l2⟩;split<;>omega
    ·rename_i c';rw[if_neg c'] at h5;exact absurd rfl h5
theorem aAp(s:List Int)(hB:aL s):Ie s<=s.length/\kD (dK s (Ie s))=none/\∀ j,j < Ie s->¬ kD (dK s j)=none:=by
 obtain⟨h1,h2,h3⟩:=bZ (fun k=>kD (dK s k)=none) (s.length+1)
 have h4:=(aDY s hB (Ie s) h3).1;refine⟨by omega, ?_,h3⟩;rcases h2 with h2 | h2
 ·exact absurd h4 (by unfold Ie;omega)
 ·exact h2.2
theorem Pg(h:Int)(t:List Int):(dO (h::t)=dO [])=False:=by
 apply eq_false;intro e;have:=congrArg ByteArray.size e;simp[aC] at this
attribute [go_sem] Pg
set_option maxHeartbeats 1000000 in
theorem aDZ(s:List Int)(hB:aL s):EV G (Tb B) 301 [sv s] []=some (.tup [.one (.dc (.slc ((Ig s).1.map bF.e))),.one (.dc (ci (Ig s).2))],[]):=by
 refine aA rfl ?_;unfold Ig;by_cases c0:(s.length:Int) > 400
 ·rw[if_pos c0];simp (disch:=first | omega | (simp only[aWg,aWh,aWk,aWf,aB];omega)) only[go_sem,h301c,aWw]
 ·rw[if_neg c0];simp (disch:=first | omega | (simp only[aWg,aWh,aWk,aWf,aB];omega)) only[go_sem,h301c]
  rw[jH (fun k=>⟨(jk 1 (.one (.ptr 0 0)::jk 2 (.one (.bld 1 (dK s k).out.length)::vi (dK s k).last::jk 39 []))),[bS (dK s k).bs,.arr 0 2 ((dK s k).out.map bF.e)]⟩) (fun k=>kD (dK s k)=none) (s.length+1) ?_ ?_]
  ·obtain⟨e1,e2,e3⟩:=aAp s hB;obtain⟨g1,g2,g3,g4⟩:=aDY s hB _ e3;rw[show ix (fun k=>kD (dK s k)=none) (s.length+1)=Ie s from rfl]
   generalize dK s (Ie s)=z at *;obtain⟨bs,last,out⟩:=z;simp only at e2 g1 g2 g3 g4 ⊢;cases bs with
   | nil=>
    rw[show Dr ⟨[],last,out⟩=([],3) from rfl]
    simp (disch:=first | omega | (simp only[aWg,aWh,aWk,aWf,aB];omega)) only[go_sem,h301l0,bD,aWw]
   | cons h t=>
    obtain⟨hh,ht⟩:=kC g4;by_cases c:h=0
    ·subst c
     match t with
     | []=>
      have hl:=Oz out;by_cases c2:(oQ out).2=0
      ·rw[c2] at hl;rw[show Dr ⟨[0],last,out⟩=(out,0) by simp[Dr,aAn,c2]];simp (disch:=first | omega | (simp only[aWg,aWh,aWk,aWf,aB];omega)) only[go_sem,h301l0,bD,Ei,hl,kP]
      ·rw[show Dr ⟨[0],last,out⟩=([],(oQ out).2) by simp[Dr,aAn,c2]];simp (disch:=first | omega | (simp only[aWg,aWh,aWk,aWf,aB];omega)) only[go_sem,h301l0,bD,Ei,hl,c2,kP,aWw]
     | x::t=>
      rw[show Dr ⟨0::x::t,last,out⟩=([],3) by simp[Dr,aAn]];simp (disch:=first | omega | (simp only[aWg,aWh,aWk,aWf,aB];omega)) only[go_sem,h301l0,bD,aWw]
    ·have r1:=aKI (G:=G) (B:=B) last h t g4 (by omega);simp only[kD,if_neg c] at e2;rw[show Dr ⟨h::t,last,out⟩=([],3) by simp[Dr,aAn,c]];generalize mL last h t=r at r1 e2;obtain⟨r,ok,rest⟩:=r;cases ok
     ·simp only at r1;simp (disch:=first | omega | (simp only[aWg,aWh,aWk,aWf,aB];omega)) only[go_sem,h301l0,bD,aWw,r1,c,bC]
     ·simp at e2
  ·rfl
  ·intro k hk hn;obtain⟨g1,g2,g3,g4⟩:=aDY s hB k (fun j hj=>hn j (by omega))
   have e2:=hn k (aWj _);rw[show dK s (k+1)=(kD (dK s k)).getD (dK s k) from rfl]
   generalize dK s k=z at *;obtain⟨bs,last,out⟩:=z;simp only at e2 g1 g2 g3 g4 ⊢;cases bs with
   | nil=>exact absurd rfl e2
   | cons h t=>
    obtain⟨hh,ht⟩:=kC g4;by_cases c:h=0
    ·simp[kD,c] at e2
    ·have r1:=aKI (G:=G) (B:=B) last h t g4 (by omega);simp only[kD,if_neg c] at e2 ⊢;generalize mL last h t=r at r1 e2;obtain⟨⟨rs,rn⟩,ok,rest⟩:=r;cases ok
     ·simp at e2
     ·simp only at r1;by_cases c2:rs=-1
      ·simp (disch:=first | omega | (simp only[aWg,aWh,aWk,aWf,aB];omega)) only[go_sem,h301l0,bD,r1,c,c2,bC,iN,aWX,O0,aWg]
      ·simp (disch:=first | omega | (simp only[aWg,aWh,aWk,aWf,aB];omega)) only[go_sem,h301l0,bD,r1,c,c2,bC,iN,aWX,O0,aWg]
end
section
variable {G:aF} {B:aO}
end
section
variable {G:aF} {bb:Bool}
theorem aKJ{p:Nat->Prop}{n m:Nat}(hm:m < n)(h1:p m)(h2:∀ j,j < m->¬ p j):ix p n=m:=by
 obtain⟨g1,g2,g3⟩:=bZ p n;rcases Nat.lt_trichotomy (ix p n) m with h | h | h
 ·rcases g2 with g2 | ⟨_,g2⟩
  ·omega
  ·exact absurd g2 (h2 _ h)
 ·exact h
 ·exact absurd h1 (g3 _ h)
theorem An(n:Int):sz n=1\/sz n=2:=by unfold sz;split<;>simp
theorem aRD(n:Int)(h:-128<=n/\n<=127):qJ (cC n 1)=n:=by
 show qJ [n % 256]=n;simp only[qJ];split<;>omega
theorem aRE(n:Int)(h:-32768<=n/\n<=32767):qJ (cC n 2)=n:=by
 show qJ [n % 256,n / 256 % 256]=n;simp only[qJ];split<;>omega
theorem Wn(n:Int)(h:-32768<=n/\n<=32767)(rest:List Int):gV (cC n (sz n).toNat++rest) (sz n).toNat=(n,true,rest):=by
 unfold gV;rw[if_neg (by rw[aWg,aB];omega),aXz (aB _ _),List.drop_left' (aB _ _)];have e:qJ (cC n (sz n).toNat)=n:=by
  unfold sz;split
  ·exact aRD n (by assumption)
  ·exact aRE n h
 rw[e];have:sz n=((sz n).toNat:Int):=by have:=An n;omega
 rw[decide_eq_true this]
def Ds(last:Int)(r:bF):Int:=if r.s=-1 then sz r.n else 16 * sz (r.s - last)+sz r.n
def Ph(last:Int)(r:bF):List Int:=if r.s=-1 then cC r.n (sz r.n).toNat else cC r.n (sz r.n).toNat++cC (r.s - last) (sz (r.s - last)).toNat
theorem Ao(last:Int)(r:bF):Bx last r=Ds last r::Ph last r:=by
 unfold Bx Ds Ph;split<;>rfl
theorem aD0(last:Int)(r:bF):Ds last r≠0:=by
 have h1:=An r.n;have h2:=An (r.s - last);unfold Ds;split<;>omega
theorem aD1{r:bF}(h:cJ r.s r.n=0):(1<=r.n/\r.n<=4096)/\(r.s=-1\/0<=r.s/\r.s<=511):=by
 rcases kB h with⟨h1,h2,h3⟩ | ⟨s,n,h1,h2,h3,h4⟩
 ·exact⟨by omega,by omega⟩
 ·exact⟨by omega,by omega⟩
theorem aD2{last:Int}{r:bF}(hr:cJ r.s r.n=0)(hl:0<=last/\last<=511)(rest:List Int):mL last (Ds last r) (Ph last r++rest)=(r,true,rest):=by
 obtain⟨⟨a1,a2⟩,a3⟩:=aD1 hr;have s1:=An r.n;have s2:=An (r.s - last);have n1:=Wn r.n (by omega);unfold Ds Ph;by_cases c:r.s=-1
 ·rw[if_pos c,if_pos c];have e1:sz r.n % 16=sz r.n:=by omega
  have e2:sz r.n / 16=0:=by omega
  unfold mL;rw[e1,e2,if_pos (by omega),if_pos (.inr rfl),n1 rest];simp only;cases r;simp only at c;rw[c]
 ·rw[if_neg c,if_neg c];have e1:(16 * sz (r.s - last)+sz r.n) % 16=sz r.n:=by omega
  have e2:(16 * sz (r.s - last)+sz r.n) / 16=sz (r.s - last):=by omega
  unfold mL;rw[e1,e2,if_pos (by omega),aWv,n1,if_neg (by simp;omega)];simp only;rw[Wn (r.s - last) (by omega) rest];simp only;rw[show last+(r.s - last)=r.s by omega,decide_eq_false c];cases r;rfl
def Pi(last:Int)(r:bF):Int:=if r.s=-1 then last else r.s
theorem aAq{last:Int}{r:bF}(hr:cJ r.s r.n=0)(hl:0<=last/\last<=511)(rest:List Int)(out:List bF):kD ⟨Bx last r++rest,last,out⟩=some ⟨rest,Pi last r,out++[r]⟩:=by
 rw[Ao];unfold kD;simp only[aWR];rw[if_neg (aD0 _ _),aD2 hr hl];simp only[if_true];rfl
def eX(last:Int):List bF->List Int
 | []=>[]
 | r::l=>Bx last r++eX (Pi last r) l
theorem Gx(l:List bF):(nI l).1=eX 0 l:=by
 have key:∀ (l:List bF) (p:List Int) (last:Int),(l.foldl est (p,last)).1=p++eX last l:=by
  intro l
  induction l with
  | nil=>intro p last;simp[eX]
  | cons r l ih=>
   intro p last;have e:est (p,last) r=(p++Bx last r,Pi last r):=rfl;rw[aXp,e,ih];simp only[eX,aWv]
 have:=key l [] 0;simpa[nI] using this
def dM:Nat->DS->DS
 | 0,z=>z
 | k+1,z=>(kD (dM k z)).getD (dM k z)
theorem aIG(s:List Int):∀ k,dK s k=dM k ⟨s,0,[]⟩
 | 0=>rfl
 | k+1=>by rw[dK,dM,aIG s k]
theorem Ll{z z':DS}(h:kD z=some z'):∀ k,dM (k+1) z=dM k z'
 | 0=>by show (kD z).getD z=z';rw[h];rfl
 | k+1=>by rw[dM,Ll h k,dM]
theorem aNn{last:Int}{r:bF}(hr:cJ r.s r.n=0)(hl:0<=last/\last<=511):0<=Pi last r/\Pi last r<=511:=by
 have:=(aD1 hr).2;unfold Pi;split<;>omega
theorem aD3:∀ (l:List bF) (last:Int) (out:List bF) (rest:List Int),(∀ r∈l,cJ r.s r.n=0)->0<=last/\last<=511->
  (∃ x,dM l.length ⟨eX last l++rest,last,out⟩=⟨rest,x,out++l⟩)/\∀ j,j < l.length->¬ kD (dM j ⟨eX last l++rest,last,out⟩)=none
 | [],last,out,rest,_,_=>⟨⟨last,by simp[dM,eX]⟩,fun j hj=>by simp at hj⟩
 | r::l,last,out,rest,h,hl=>by
  have hr:=h r aWy;have hs:=aAq hr hl (eX (Pi last r) l++rest) out;obtain⟨⟨x,h1⟩,h2⟩:=aD3 l (Pi last r) (out++[r]) rest (fun q hq=>h q (aWG _ hq)) (aNn hr hl)
  have e:eX last (r::l)++rest=Bx last r++(eX (Pi last r) l++rest):=by rw[eX,aWv]
  rw[e];refine⟨⟨x, ?_⟩,fun j hj=>?_⟩
  ·show dM (l.length+1) _=_;rw[Ll hs,h1,aWv];rfl
  ·cases j with
   | zero=>
    intro g;have g':kD ⟨Bx last r++(eX (Pi last r) l++rest),last,out⟩=none:=g;rw[hs] at g';cases g'
   | succ j=>rw[Ll hs];exact h2 j (by simpa using hj)
theorem aD4{l:List bF}(h:(oQ l).2=0):(eX 0 l).length<=320:=by
 rw[<- Gx];exact aDU h
theorem aIH{l:List bF}(h:(oQ l).2=0):Ig ((nI l).1++[0])=(l,0):=by
 have hlen:=aD4 h;obtain⟨⟨x,h1⟩,h2⟩:=aD3 l 0 [] [0] (K8 h) (by omega);have hl:=oR h;have hll:l.length < (eX 0 l++[0]).length+1:=by
  have:∀ (l:List bF) (last:Int),l.length<=(eX last l).length:=by
   intro l
   induction l with
   | nil=>intro _;simp
   | cons r l ih=>intro last;have:=ih (Pi last r);simp only[eX,Ao,aWg,aWh];omega
  have:=this l 0;simp only[aWg,aWh,aWk];omega
 rw[Gx];have hE:Ie (eX 0 l++[0])=l.length:=by
  unfold Ie;refine aKJ hll ?_ (fun j hj=>?_)
  ·rw[aIG,h1];rfl
  ·rw[aIG];exact h2 j hj
 unfold Ig;rw[if_neg (by simp only[aWg,aWh,aWk];omega),hE,aIG,h1];unfold Dr;rw[if_neg (by simp[aAn]),if_neg (by simp only[aWL];omega)];rfl
end
section
variable {G:aF} {bb:Bool}
theorem tC(p L:List Int)(n:Int)(a:Nat)(h:p.length<=a):∀ k,aT (p++L) a n k=p++aT L (a - p.length) n k
 | 0=>rfl
 | k+1=>by
  rw[aT,tC p L n a h k,aT,List.set_append_right _ _ (by omega)];congr 2;omega
theorem B4(z X:List Int)(n:Int):∀ k,z.length=k->aT (z++X) 0 n k=cC n k++X:=by
 have key:∀ (k:Nat) (z X:List Int),z.length=k->aT (z++X) 0 n k=cC n k++X:=by
  intro k
  induction k with
  | zero=>
   intro z X h;have:z=[]:=List.length_eq_zero_iff.1 h;subst this;rfl
  | succ k ih=>
   intro z X h;obtain⟨z',x,rfl⟩:∃ z' x,z=z'++[x]:=by
    rcases List.eq_nil_or_concat z with rfl | ⟨z',x,e⟩
    ·simp at h
    ·exact⟨z',x,by rw[e,List.concat_eq_append]⟩
   have h':z'.length=k:=by simpa using h
   rw[aT,aWv,ih z' ([x]++X) h',aWZ,List.set_append_right _ _ (by rw[aB];omega),aB,aW3,cC,aWv];rfl
 exact fun k h=>key k z X h
theorem Gy(p L s:List Int)(a:Nat)(h:p.length<=a):gT (p++L) a s=p++gT L (a - p.length) s:=by
 unfold gT;rw[List.take_append,aWP h,List.drop_append,List.drop_of_length_le (by omega),aWL,aWv,aWv];rw[show a+s.length - p.length=a - p.length+s.length by omega,aWv]
theorem aD5(z X s:List Int)(h:z.length=s.length):gT (z++X) 0 s=s++X:=by
 unfold gT;rw[aXq,aWL,aWZ,List.drop_left' h]
theorem Lm(z X s:List Int)(a:Nat)(ha:a=0)(h:z.length=s.length):gT (z++X) a s=s++X:=by subst ha;exact aD5 z X s h
theorem S7(a b:Nat):zl (a+b)=zl a++zl b:=by unfold zl;rw[List.replicate_append_replicate]
structure aK.Dc (a:aK):Prop where
 ty:0<=a.ty/\a.ty < 4294967296
 nm:aL a.nm
 nl:a.nm.length<=255
 id:0<=a.id/\a.id < 65536
 fl:0<=a.fl/\a.fl < 65536
 va:aL a.va
 vl:a.va.length<=1000
 t:a.res=true->a.rs=[]/\a.fi=0/\a.al=0/\a.sz=0/\a.vd=0
 f:a.res=false->a.va=[]/\(oQ a.rs).2=0/\(0<=a.fi/\a.fi < 4294967296)/\(0<=a.al/\a.al < 4294967296)/\(0<=a.sz/\a.sz < 4294967296)/\(0<=a.vd/\a.vd < 4294967296)
theorem aK.Dc.bd{a:aK}(h:a.Dc):a.Bd:=by
 have h1:=h.ty;have h2:=h.nl;have h3:=h.id;have h4:=h.fl;have h5:=h.vl;cases hr:a.res with
 | true=>
  obtain⟨q1,q2,q3,q4,q5⟩:=h.t hr;have:jO a.rs=0:=by rw[q1];rfl
  exact⟨h.nm,h.va,by omega,by omega,by rw[q1];simp,by omega,by omega,by omega,by omega,by omega,by omega,by omega,by omega⟩
 | false=>
  obtain⟨q1,q2,q3,q4,q5,q6⟩:=h.f hr;obtain⟨c1,c2,c3⟩:=aDT q2;exact⟨h.nm,h.va,by omega,by omega,by omega,by omega,by omega,by omega,by omega,by omega,by omega,by omega,by omega⟩
theorem aK.Ok.dc{a:aK}(h:a.Ok):a.Dc:=by
 have g1:=aDS h.ty;have g2:=Wm h.nm;obtain⟨g3,g4⟩:=h.rg;have h4:=h.e;unfold Gu at h4;refine⟨by omega,h.w.nm,by omega,by omega,by omega,h.w.va, ?_,fun hr=>?_,fun hr=>?_⟩
 ·split at h4
  ·have:=S6 h4;omega
  ·have:=(Li h4).2.1;rw[this];simp
 ·rw[if_pos hr] at h4;obtain⟨q1,q2,q3,q4,q5,_⟩:=S6 h4;exact⟨q1,q2,q3,q4,q5⟩
 ·rw[if_neg (by rw[hr];decide)] at h4;obtain⟨r1,r2,r3,r4,r5,r6,r7,r8,r9⟩:=Li h4;exact⟨r2,r4,by omega,by omega,by omega,by omega⟩
theorem Gz{a:aK}(h:a.Dc):rfb a=tR a:=by
 unfold rfb tR;cases hr:a.res with
 | true=>rfl
 | false=>
  rw[if_neg (by decide),if_neg (by decide)];obtain⟨_,q2,_⟩:=h.f hr;unfold Ak;rw[if_neg (by rw[Oz];simpa using q2)]
theorem Wo(x:Int):cC (x % 4294967296) 4=cC x 4:=by
 simp only[cC,H4,aWL,aWR];congr 1
 ·omega
 ·congr 1
  ·omega
  ·congr 1
   ·omega
   ·congr 1;omega
theorem C5(a:aK):gY a % 8=0/\Bc a+a.nm.length<=gY a/\gY a+(tR a).length<=iC a/\iC a % 8=0/\iC a<=gY a+(tR a).length+7:=by
 unfold iC gY;omega
theorem aD6(X N u:Nat)(h:N=X+8+u)(h1:N % 8=0)(h2:u<=7):(X+7) / 8 * 8 - X=u:=by omega
set_option maxHeartbeats 1000000 in
theorem aRF{a:aK}(h:a.Dc)(hr:a.res=true):tU a=jA a:=by
 obtain⟨o1,o2,o3,o4,o5⟩:=C5 a;have hb:=Gz h;have eh:Bc a=24:=by simp[Bc,hr]
 have ebd:tR a=a.va:=by simp[tR,hr]
 rw[eh] at o2;rw[ebd] at o3 o5;obtain⟨g,eg⟩:∃ g,gY a=24+(a.nm.length+g):=⟨gY a - 24 - a.nm.length,by omega⟩;obtain⟨u,eu⟩:∃ u,iC a=gY a+(a.va.length+u):=⟨iC a - gY a - a.va.length,by omega⟩;have eN:iC a=4+(4+(1+(1+(2+(2+(2+(4+(4+(a.nm.length+(g+(a.va.length+u))))))))))):=by omega
 have eZ:zl (iC a)=zl 4++(zl 4++(zl 1++(zl 1++(zl 2++(zl 2++(zl 2++(zl 4++(zl 4++(zl a.nm.length++(zl g++(zl a.va.length++zl u))))))))))):=by
  conv=>lhs;rw[eN]
  simp only[S7]
 unfold tU Pa O9;rw[if_pos hr,eZ,eh,ebd];simp (disch:=first | omega | (simp only[bG,aB]<;>omega) | fail) only[tC,B4,bG,aB,Nat.reduceSub,aW3]
 simp (disch:=first | omega | (simp only[bG,aB]<;>omega) | fail) only[Gy,Lm,bG,aB,Nat.reduceSub,aW3]
 unfold jA rf3 rf2 rf1 aAk;rw[if_pos hr,if_pos hr,eh,hb,ebd];simp only[aWv];simp only[aWg,aB,aWu];have e1:zl 1=cC 0 1:=rfl;have e2:gY a - 24 - a.nm.length=g:=by omega
 rw[e2];have e3:(1+(1+(2+(2+(2+(4+(4+(a.nm.length+(g+a.va.length))))))))+7) / 8 * 8 - (1+(1+(2+(2+(2+(4+(4+(a.nm.length+(g+a.va.length)))))))))=u:=by omega
 rw[e3];rfl
set_option maxHeartbeats 1000000 in
theorem aRG{a:aK}(h:a.Dc)(hr:a.res=false):tU a=jA a:=by
 obtain⟨o1,o2,o3,o4,o5⟩:=C5 a;have hr':¬ a.res=true:=by rw[hr];decide
 have hb:=Gz h;have eh:Bc a=40:=by simp[Bc,hr]
 rw[eh] at o2;obtain⟨g,eg⟩:∃ g,gY a=40+(a.nm.length+g):=⟨gY a - 40 - a.nm.length,by omega⟩;obtain⟨u,eu⟩:∃ u,iC a=gY a+((tR a).length+u):=⟨iC a - gY a - (tR a).length,by omega⟩;have eN:iC a=4+(4+(1+(1+(2+(2+(2+(4+(4+(2+(2+(4+(4+(4+(a.nm.length+(g+((tR a).length+u)))))))))))))))):=by omega
 have eZ:zl (iC a)=zl 4++(zl 4++(zl 1++(zl 1++(zl 2++(zl 2++(zl 2++(zl 4++(zl 4++(zl 2++(zl 2++(zl 4++(zl 4++(zl 4++(zl a.nm.length++(zl g++(zl (tR a).length++zl u)))))))))))))))):=by
  conv=>lhs;rw[eN]
  simp only[S7]
 unfold tU Pa O9;rw[if_neg hr',eZ,eh];simp (disch:=first | omega | (simp only[bG,aB]<;>omega) | fail) only[tC,B4,bG,aB,Nat.reduceSub,aW3]
 simp (disch:=first | omega | (simp only[bG,aB]<;>omega) | fail) only[Gy,Lm,bG,aB,Nat.reduceSub,aW3]
 unfold jA rf3 rf2 rf1 aAk;rw[if_neg hr',if_neg hr',eh,hb,Wo];simp only[aWv];simp only[aWg,aB,aWu];have e1:zl 1=cC 0 1:=rfl;have e2:gY a - 40 - a.nm.length=g:=by omega
 rw[e2];have e3:(1+(1+(2+(2+(2+(4+(4+(2+(2+(4+(4+(4+(a.nm.length+(g+(tR a).length)))))))))))))+7) / 8 * 8 - (1+(1+(2+(2+(2+(4+(4+(2+(2+(4+(4+(4+(a.nm.length+(g+(tR a).length))))))))))))))=u:=aD6 _ (iC a) u (by clear eZ eN e2;omega) o4 (by clear eZ eN e2;omega);rw[e3];rfl
theorem B5{a:aK}(h:a.Dc):tU a=jA a:=by
 cases hr:a.res with
 | true=>exact aRF h hr
 | false=>exact aRG h hr
end
section
variable {G:aF} {bb:Bool}
def gv:List Int->Int
 | []=>0
 | b::t=>b+256 * gv t
def gL(l:List Int)(a k:Nat):Int:=gv ((l.drop a).take k)
theorem aII(l:List Int)(a k:Nat)(h:a < l.length):gL l a (k+1)=l[a]+256 * gL l (a+1) k:=by
 unfold gL;rw[aXo h,aXO,gv]
theorem Wp:∀ (l:List Int) (m:Nat),aL l->l.length<=m->0<=gv l/\gv l < 256 ^ m
 | [],m,_,_=>by
  have:(0:Int) < 256 ^ m:=Int.pow_pos (by decide);simp only[gv];omega
 | b::t,0,_,h=>by simp at h
 | b::t,m+1,hB,h=>by
  obtain⟨hb,ht⟩:=kC hB;have ih:=Wp t m ht (by simpa using h);rw[gv,Int.pow_succ];omega
theorem rZ{l:List Int}(h:aL l)(a k:Nat):aL ((l.drop a).take k):=fun b hb=>h b (aWT (aWF hb))
theorem pO{l:List Int}(h:aL l)(a k:Nat)(hk:k<=4):0<=gL l a k/\gL l a k < 4294967296:=by
 have h1:=Wp ((l.drop a).take k) k (rZ h a k) (by rw[aWm];omega);unfold gL;rcases (show k=0\/k=1\/k=2\/k=3\/k=4 by omega) with rfl | rfl | rfl | rfl | rfl<;>simp only[Int.reducePow] at h1<;>omega
theorem S8{l:List Int}(h:aL l)(a:Nat):0<=gL l a 2/\gL l a 2 < 65536:=by
 have h1:=Wp ((l.drop a).take 2) 2 (rZ h a 2) (by rw[aWm];omega);unfold gL;simp only[Int.reducePow] at h1;omega
theorem aD7{l:List Int}(h:aL l)(a:Nat):0<=gL l a 1/\gL l a 1 < 256:=by
 have h1:=Wp ((l.drop a).take 1) 1 (rZ h a 1) (by rw[aWm];omega);unfold gL;simp only[Int.reducePow] at h1;omega
theorem orL(n b:Int)(hn:0<=n/\n<=4294967296)(hb:0<=b/\b<=255):Sv .i64 (n * 256) b=n * 256+b:=by
 obtain⟨n,rfl⟩:=aXi hn.1;obtain⟨b,rfl⟩:=aXi hb.1;have h1:((n:Int) * 256)=((n * 256:Nat):Int):=by simp
 have h2:n * 256 ||| b=n * 256+b:=by
  have:=Nat.shiftLeft_add_eq_or_of_lt (show b < 2 ^ 8 by omega) n;rw[Nat.shiftLeft_eq] at this;exact this.symm
 rw[Sv,h1,Gl,BitVec.ofInt_natCast,BitVec.ofInt_natCast,BitVec.toNat_or,BitVec.toNat_ofNat,BitVec.toNat_ofNat,aXd (by omega),aXd (by omega),h2,uE (by omega)];simp
theorem C6(l:List Int)(hB:aL l)(a k:Nat)(ha:a+k<=l.length)(hk:k<=4)(hl:l.length<=1000000):EV G (Tb (bs bb)) 300 [sv l,vi a,vi k] []=some (vi (gL l a k),[]):=by
 refine aA rfl ?_;simp (disch:=first | omega | (simp only[aWg,aWh,aWk,aWf,aB];omega)) only[go_sem,h300c]
 rw[aU (fun j=>⟨(sv l::vi a::jk 5 (vi (gL l (a+k - j) j)::vi ((k:Int) - 1 - j)::jk 16 [])),[]⟩) k ?_ ?_]
 ·have e:a+k - k=a:=by omega
  have e2:¬ 0<=(k:Int) - 1 - (k:Int):=by omega
  simp (disch:=first | omega | (simp only[aWg,aWh,aWk,aWf,aB];omega)) only[go_sem,h300l0,e,e2]
 ·simp[gL,gv,jk]
 ·intro j hj;have hx:=hB _ (aWq (show a+k - 1 - j < l.length by omega));have g1:=pO hB (a+k - j) j (by omega);have e1:gL l (a+k - (j+1)) (j+1)=gL l (a+k - j) j * 256+l[a+k - 1 - j]'(by omega):=by
   have:a+k - (j+1) < l.length:=by omega
   rw[aII l _ j this,show a+k - (j+1)+1=a+k - j by omega,Int.mul_comm];rw[Int.add_comm];congr 1;congr 1;omega
  have e2:0<=(k:Int) - 1 - (j:Int):=by omega
  rw[e1];generalize gL l (a+k - j) j=z at g1 ⊢;have eN:((a:Int)+((k:Int) - 1 - (j:Int))).toNat=a+k - 1 - j:=by omega
  have hu:=iD _ hx;have o:=orL z _ (by omega) hx;simp (disch:=first | omega | (simp only[aWg,aWh,aWk,aWf,aB];omega)) only[go_sem,h300l0,eq_true e2,aW0,eN,hu,Int.reduceToNat,Int.reducePow,o]
  rw[show (k:Int) - 1 - (j:Int) - 1=(k:Int) - 1 - ((j:Int)+1) by omega]
theorem gv1(n:Int)(h:0<=n/\n < 256):gv (cC n 1)=n:=by
 show n % 256+256 * 0=n;omega
theorem gv2(n:Int)(h:0<=n/\n < 65536):gv (cC n 2)=n:=by
 show n % 256+256 * (n / 256 % 256+256 * 0)=n;omega
theorem gv4(n:Int)(h:0<=n/\n < 4294967296):gv (cC n 4)=n:=by
 show n % 256+256 * (n / 256 % 256+256 * (n / 256 / 256 % 256+256 * (n / 256 / 256 / 256 % 256+256 * 0)))=n;omega
theorem fZ(p L:List Int)(a k:Nat)(h:p.length<=a):gL (p++L) a k=gL L (a - p.length) k:=by
 unfold gL;rw[List.drop_append,List.drop_of_length_le (by omega),aWL]
theorem Lo(z L:List Int)(k:Nat)(h:z.length=k):gL (z++L) 0 k=gv z:=by
 unfold gL;rw[aW7,aXz h]
end
end Go.Proofs.YthepfneloomngaaGreatDoor
