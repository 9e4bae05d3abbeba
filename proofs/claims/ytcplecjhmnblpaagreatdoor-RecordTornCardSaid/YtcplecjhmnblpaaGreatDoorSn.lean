/- An attribute of a record replaced, by the program. Conditions: as each theorem says. -/
import Derived.Test.YtcplecjhmnblpaaGreatDoorSg
import Derived.Test.YtcplecjhmnblpaaGreatDoorUw
namespace Go.Proofs.YtcplecjhmnblpaaGreatDoor
set_option linter.unusedSimpArgs false
set_option linter.unusedVariables false
set_option maxRecDepth 4000
section
variable {G:aH} {bb:Bool}
theorem Db{r:bZ}(h:pO r=false):qQ r=(0,2):=by
 have h0:Lh r=2:=by unfold Lh;rw[h,fU,aQ _ _ (by decide)]
 unfold qQ;rw[if_pos (by rw[h0];decide),h0]
theorem aJA{r:bZ}(h:pO r=true):Lh r=aS [sC r.br r.bq,un (iC r.fl||C1 r) 3]:=by
 unfold Lh;rw[h,eI,aP]
theorem aBH{r:bZ}{e:Int}(h:Lh r=e)(he:e≠0):qQ r=(0,e):=by
 unfold qQ;rw[if_pos (by rw[h];exact he),h]
set_option maxHeartbeats 4000000 in
theorem Ls(r:bZ)(hW:r.W)(n1:1<=r.sq/\r.sq<=65535)(n2:0<=r.li/\r.li<=65535)(n3:0<=r.fl/\r.fl<=3)(n4:0<=r.nx/\r.nx<=65535)(n5:0<=r.ls/\r.ls<=2147483647)
  (z0:sC r.br r.bq=0) (hh:iC r.fl=true\/iC r.fl=false/\r.ats=[]/\r.li=0/\r.br=0/\r.bq=0/\r.fl=0/\r.nx=0):
  EV G (Tb (iM bb)) 18 [r.v] []=some (iiv (if (kV r.ats).2≠0 then kV r.ats else if 0<=Ho r then (Ho r,9) else (0,un (decide (dV r.ats<=440)) 16)),[]):=by
 have hln:=hW.ln;have w:=mZ (G:=G) (bb:=bb);have q1:=C7 (G:=G) (bb:=bb) r.br r.bq;rw[z0] at q1;have q2:=R7 (G:=G) (bb:=bb) r ⟨n3.1,by omega⟩;have q4:=up (aAQ (G:=G) (bb:=bb) r.ats hW.at' (by omega));have hs:=Lk (l:=r.ats);have hlen:r.ats.length<=900:=hln;generalize ho:kV r.ats=o at *;obtain⟨o1,o2⟩:=o;dsimp only at q4 ⊢;by_cases c2:o2=0
 ·have he:∀ a∈r.ats,hZ a=0:=((sS r.ats).1 (hs c2)).1;have q6:=aFB (G:=G) (bb:=bb) r.ats hW.at' he (by omega);rw[if_neg (not_not_intro c2)];have hg:Ho r=if ix (fun k=>decide (r.nx<=(r.ats.getD k aE.nil).id)=true) r.ats.length=r.ats.length then -1 else ((ix (fun k=>decide (r.nx<=(r.ats.getD k aE.nil).id)=true) r.ats.length:Nat):Int):=rfl
  generalize Ho r=g at *;refine aB rfl ?_;rcases hh with hu | ⟨hu,f1,f2,f3,f4,f5,f6⟩
  ·rw[hu] at q2;simp (disch:=omega) only[go_sem,h18c,w,q1,q2,q4,eq_true c2,eq_true n1,eq_true n2,eq_true n3,eq_true n4,eq_true n5,decide_true,aQV];rw[gA (fun k=>⟨(jk 1 (.one (.ptr 0 0)::jk 5 (vi k::jk 95 []))),[.box r.c]⟩) (fun k=>decide (r.nx<=(r.ats.getD k aE.nil).id)=true) r.ats.length ?_ ?_]
   rotate_left
   ·rfl
   ·intro k hk hn;have h3:=hn k (aQf _);rw[fE r.ats k hk,decide_eq_true_eq] at h3;simp (disch:=omega) only[go_sem,h18l0,aQb,ixA,aE.e,h3]
   obtain⟨hk,hp,hn⟩:=bW (fun k=>decide (r.nx<=(r.ats.getD k aE.nil).id)=true) r.ats.length
   generalize ix (fun k=>decide (r.nx<=(r.ats.getD k aE.nil).id)=true) r.ats.length=k at *
   rcases hp with rfl | ⟨hk',hp⟩
   ·rw[if_pos rfl] at hg;subst hg;rw[if_neg (by decide)];by_cases c4:dV r.ats<=440
    ·have c5:¬ 440 < dV r.ats:=by omega
     rw[decide_eq_true c4,eI];simp (disch:=omega) only[go_sem,h18l0,aQb,q6,c5]
    ·have c5:440 < dV r.ats:=by omega
     rw[decide_eq_false c4,fU];simp (disch:=omega) only[go_sem,h18l0,aQb,q6,eq_true c5]
   ·rw[if_neg (by omega)] at hg;subst hg;rw[if_pos (by omega)];rw[fE r.ats k hk',decide_eq_true_eq] at hp;simp (disch:=omega) only[go_sem,h18l0,aQb,ixA,aE.e,eq_true hp]
  ·rw[hu] at q2;have d2:¬ 0 < (r.ats.length:Int):=by rw[f1];simp
   simp (disch:=omega) only[go_sem,h18c,w,q1,q2,q4,eq_true c2,eq_true n1,eq_true n2,eq_true n3,eq_true n4,eq_true n5,decide_true,aQV,aQb,d2,eq_true f2,eq_true f3,eq_true f4,eq_true f5,eq_true f6];rw[gA (fun k=>⟨(jk 1 (.one (.ptr 0 0)::jk 5 (vi k::jk 95 []))),[.box r.c]⟩) (fun k=>decide (r.nx<=(r.ats.getD k aE.nil).id)=true) r.ats.length ?_ ?_]
   rotate_left
   ·rfl
   ·intro k hk hn;rw[f1] at hk;simp at hk
   obtain⟨hk,hp,hn⟩:=bW (fun k=>decide (r.nx<=(r.ats.getD k aE.nil).id)=true) r.ats.length
   generalize ix (fun k=>decide (r.nx<=(r.ats.getD k aE.nil).id)=true) r.ats.length=k at *
   rcases hp with rfl | ⟨hk',hp⟩
   ·rw[if_pos rfl] at hg;subst hg;rw[if_neg (by decide)];by_cases c4:dV r.ats<=440
    ·have c5:¬ 440 < dV r.ats:=by omega
     rw[decide_eq_true c4,eI];simp (disch:=omega) only[go_sem,h18l0,aQb,q6,c5]
    ·have c5:440 < dV r.ats:=by omega
     rw[decide_eq_false c4,fU];simp (disch:=omega) only[go_sem,h18l0,aQb,q6,eq_true c5]
   ·rw[if_neg (by omega)] at hg;subst hg;rw[if_pos (by omega)];rw[fE r.ats k hk',decide_eq_true_eq] at hp;simp (disch:=omega) only[go_sem,h18l0,aQb,ixA,aE.e,eq_true hp]
 ·rw[if_pos c2];refine aB rfl ?_;rcases hh with hu | ⟨hu,f1,f2,f3,f4,f5,f6⟩
  ·rw[hu] at q2;simp (disch:=omega) only[go_sem,h18c,w,q1,q2,q4,c2,eq_true n1,eq_true n2,eq_true n3,eq_true n4,eq_true n5,decide_true,aQV]
  ·rw[hu] at q2;have d2:¬ 0 < (r.ats.length:Int):=by rw[f1];simp
   simp (disch:=omega) only[go_sem,h18c,w,q1,q2,q4,c2,eq_true n1,eq_true n2,eq_true n3,eq_true n4,eq_true n5,decide_true,aQV,aQb,d2,eq_true f2,eq_true f3,eq_true f4,eq_true f5,eq_true f6]
set_option maxHeartbeats 4000000 in
theorem aBI(r:bZ)(hW:r.W):EV G (Tb (iM bb)) 18 [r.v] []=some (iiv (qQ r),[]):=by
 have w:=mZ (G:=G) (bb:=bb);have q1:=C7 (G:=G) (bb:=bb) r.br r.bq;by_cases n1:1<=r.sq/\r.sq<=65535
 ·by_cases n2:0<=r.li/\r.li<=65535
  ·by_cases n3:0<=r.fl/\r.fl<=3
   ·by_cases n4:0<=r.nx/\r.nx<=65535
    ·by_cases n5:0<=r.ls/\r.ls<=2147483647
     ·have hn:pO r=true:=by simp[pO,n1,n2,n3,n4,n5]
      have hd:=aJA hn;by_cases z0:sC r.br r.bq=0
      ·rw[z0,aP] at hd;have q2:=R7 (G:=G) (bb:=bb) r ⟨n3.1,by omega⟩;cases hu:iC r.fl with
       | true=>
        rw[hu,aRa,eI] at hd;have h0:Lh r=0:=hd;have e:qQ r=if (kV r.ats).2≠0 then kV r.ats else if 0<=Ho r then (Ho r,9) else (0,un (decide (dV r.ats<=440)) 16):=by
         unfold qQ;rw[if_neg (not_not_intro h0)]
        rw[e];exact Ls r hW n1 n2 n3 n4 n5 z0 (.inl hu)
       | false=>
        rw[hu,aQT] at hd;rw[hu] at q2;rw[z0] at q1;cases he:C1 r with
        | true=>
         rw[he,eI] at hd;have h0:Lh r=0:=hd;have e:qQ r=if (kV r.ats).2≠0 then kV r.ats else if 0<=Ho r then (Ho r,9) else (0,un (decide (dV r.ats<=440)) 16):=by
          unfold qQ;rw[if_neg (not_not_intro h0)]
         rw[e];simp only[C1,aQp,decide_eq_true_eq] at he;exact Ls r hW n1 n2 n3 n4 n5 z0 (.inr ⟨hu,he.2.1,he.2.2.1,he.2.2.2.1.1,he.2.2.2.1.2,he.1,he.2.2.2.2⟩)
        | false=>
         rw[he,fU] at hd;have h0:Lh r=3:=hd;rw[aBH h0 (by decide)];refine aB rfl ?_;by_cases c2:r.ats=[]
         ·have d2:¬ 0 < (r.ats.length:Int):=by rw[c2];simp
          by_cases c3:r.li=0
          ·by_cases c4:r.br=0
           ·by_cases c5:r.bq=0
            ·by_cases c1:r.fl=0
             ·by_cases c6:r.nx=0
              ·simp[C1,c1,c2,c3,c4,c5,c6] at he
              ·simp (disch:=omega) only[go_sem,h18c,w,q1,q2,eq_true n1,eq_true n2,eq_true n3,eq_true n4,eq_true n5,decide_true,aQV,aQb,d2,eq_true c3,eq_true c4,eq_true c5,eq_true c1,c6]
             ·simp (disch:=omega) only[go_sem,h18c,w,q1,q2,eq_true n1,eq_true n2,eq_true n3,eq_true n4,eq_true n5,decide_true,aQV,aQb,d2,eq_true c3,eq_true c4,eq_true c5,c1]
            ·simp (disch:=omega) only[go_sem,h18c,w,q1,q2,eq_true n1,eq_true n2,eq_true n3,eq_true n4,eq_true n5,decide_true,aQV,aQb,d2,eq_true c3,eq_true c4,c5]
           ·simp (disch:=omega) only[go_sem,h18c,w,q1,q2,eq_true n1,eq_true n2,eq_true n3,eq_true n4,eq_true n5,decide_true,aQV,aQb,d2,eq_true c3,c4]
          ·simp (disch:=omega) only[go_sem,h18c,w,q1,q2,eq_true n1,eq_true n2,eq_true n3,eq_true n4,eq_true n5,decide_true,aQV,aQb,d2,c3]
         ·have d2:0 < (r.ats.length:Int):=by
           have:=List.length_pos_iff.2 c2;omega
          simp (disch:=omega) only[go_sem,h18c,w,q1,q2,eq_true n1,eq_true n2,eq_true n3,eq_true n4,eq_true n5,decide_true,aQV,aQb,eq_true d2]
      ·rw[aQ _ _ z0] at hd;rw[aBH hd z0];refine aB rfl ?_;simp (disch:=omega) only[go_sem,h18c,w,q1,eq_true n1,eq_true n2,eq_true n3,eq_true n4,eq_true n5,decide_true,aQV,z0]
     ·rw[Db (by simp[pO,n5])];refine aB rfl ?_;simp (disch:=omega) only[go_sem,h18c,w,eq_true n1,eq_true n2,eq_true n3,eq_true n4,n5,decide_true,aQV,decide_false,aRm]
    ·rw[Db (by simp[pO,n4])];refine aB rfl ?_;simp (disch:=omega) only[go_sem,h18c,w,eq_true n1,eq_true n2,eq_true n3,n4,decide_true,aQV,decide_false,aRm]
   ·rw[Db (by simp[pO,n3])];refine aB rfl ?_;simp (disch:=omega) only[go_sem,h18c,w,eq_true n1,eq_true n2,n3,decide_true,aQV,decide_false,aRm]
  ·rw[Db (by simp[pO,n2])];refine aB rfl ?_;simp (disch:=omega) only[go_sem,h18c,w,eq_true n1,n2,decide_true,aQV,decide_false,aRm]
 ·rw[Db (by simp[pO,n1])];refine aB rfl ?_;simp (disch:=omega) only[go_sem,h18c,w,n1,decide_false,aRm]
theorem Hu(r:bZ)(hW:r.W):EV G (Tb (iM bb)) 29 [r.v] []=some (vi (dG r),[]):=by
 refine aB rfl ?_;have q:=aBI (G:=G) (bb:=bb) r hW;unfold dG;generalize qQ r=o at *;obtain⟨o1,o2⟩:=o;simp (disch:=omega) only[go_sem,h29c,q]
def aBJ(r:bZ)(e:Int):Int × Int:=if e≠0 then (0,e) else (440 - dV r.ats,0)
theorem kG(r:bZ)(hW:r.W):EV G (Tb (iM bb)) 68 [r.v] []=some (vi (dG r),[]):=by
 refine aB rfl ?_;have q:=aBG (G:=G) (bb:=bb) r hW;unfold dG;generalize qQ r=o at *;obtain⟨o1,o2⟩:=o;simp (disch:=omega) only[go_sem,h68c,q]
theorem aBK(r:bZ)(hW:r.W):EV G (Tb (iM bb)) 15 [r.v] []=some (iiv (aBJ r (dG r)),[]):=by
 refine aB rfl ?_;have q:=kG (G:=G) (bb:=bb) r hW;have hln:=hW.ln;have q2:=Da (G:=G) (bb:=bb) r.ats hW.at' (by omega);have q3:=wR r.ats hW.at';unfold aBJ;generalize dG r=e at *;by_cases c:e=0
 ·rw[if_neg (not_not_intro c)];simp (disch:=omega) only[go_sem,h15c,q,q2,eq_true c]
 ·rw[if_pos c];simp (disch:=omega) only[go_sem,h15c,q,c]
theorem aM6(q f a b:Int):EV G (Tb (iM bb)) 16 [vi q,vi f,rfv a b] []=some (rcv (aJp q f a b),[]):=by
 have w:=mY (G:=G) (bb:=bb) q 1 65535;have u:=lM (G:=G) (bb:=bb);have q1:=Fh (G:=G) (bb:=bb) a b;have q3:=wQ (G:=G) (bb:=bb);unfold aJp;have h0:aFt q f a b=aS [un (decide (1<=q/\q<=65535)&&(decide (f=1)||decide (f=3))) 2,sC a b]:=rfl
 generalize aFt q f a b=e at *;generalize sC a b=z at *;have fin:∀ c2:Bool,EV G (Tb (iM bb)) 16 [vi q,vi f,rfv a b] []=some (rcv (if e≠0 then (.nil,e) else (⟨q,0,f,a,b,0,0,[]⟩,0)),[]):=fun _=>by
  refine aB rfl ?_;cases c1:decide (1<=q/\q<=65535)
  all_goals rw[c1] at w h0
  all_goals by_cases c2:f=1
  all_goals by_cases c4:e=0
  all_goals first | rw[if_neg (not_not_intro c4)] | rw[if_pos c4]
  all_goals first | rw[decide_eq_true c2] at h0 | rw[decide_eq_false c2] at h0
  all_goals simp only[aQW,aRi,aRa,aQT] at h0
  ·simp (disch:=omega) only[go_sem,h16c,w,u,q1,q3,<- h0,eq_true c2,eq_true c4,bZ.nil];rfl
  ·simp (disch:=omega) only[go_sem,h16c,w,u,q1,q3,<- h0,eq_true c2,c4,bZ.nil];rfl
  ·by_cases c3:f=3
   all_goals simp (disch:=omega) only[go_sem,h16c,w,u,q1,q3,<- h0,c2,eq_true c4,bZ.nil]
   all_goals rfl
  ·by_cases c3:f=3
   all_goals simp (disch:=omega) only[go_sem,h16c,w,u,q1,q3,<- h0,c2,c4,bZ.nil]
   all_goals rfl
  ·simp (disch:=omega) only[go_sem,h16c,w,u,q1,q3,<- h0,eq_true c2,eq_true c4,bZ.nil];rfl
  ·simp (disch:=omega) only[go_sem,h16c,w,u,q1,q3,<- h0,eq_true c2,c4,bZ.nil];rfl
  ·by_cases c3:f=3
   ·rw[decide_eq_true c3] at h0;simp (disch:=omega) only[go_sem,h16c,w,u,q1,q3,<- h0,c2,eq_true c3,eq_true c4,bZ.nil];rfl
   ·rw[decide_eq_false c3] at h0;simp (disch:=omega) only[go_sem,h16c,w,u,q1,q3,<- h0,c2,c3,eq_true c4,bZ.nil];rfl
  ·by_cases c3:f=3
   ·rw[decide_eq_true c3] at h0;simp (disch:=omega) only[go_sem,h16c,w,u,q1,q3,<- h0,c2,eq_true c3,c4,bZ.nil];rfl
   ·rw[decide_eq_false c3] at h0;simp (disch:=omega) only[go_sem,h16c,w,u,q1,q3,<- h0,c2,c3,c4,bZ.nil];rfl
 exact fin true
theorem Hv(n:Int)(h:0<=n/\n<=65535):EV G (Tb (iM bb)) 69 [vi n,vi 65535] []=some (vi (kW n),[]):=by
 refine aB rfl ?_;have e:n.tmod 65535=n % 65535:=by rw[aRJ h.1]
 unfold kW;simp (disch:=omega) only[go_sem,h69c,e]
theorem aBL(n:Int)(h:0<=n/\n<=65535):EV G (Tb (iM bb)) 71 [vi n] []=some (vi (kW n),[]):=by
 refine aB rfl ?_;have e:n.tmod 65535=n % 65535:=by rw[aRJ h.1]
 unfold kW;simp (disch:=omega) only[go_sem,h71c,e]
end
section
variable {G:aH} {bb:Bool}
theorem aBM(l:List aE)(hW:∀ a∈l,a.W)(hl:l.length<=1000):EV G (Tb (iM bb)) 95 [vl (l.map aE.e),vl (l.map aE.e)] []=some (vb true,[]):=up (aBa l hW hl)
set_option maxHeartbeats 1000000 in
theorem Vu(r:bZ)(hW:r.W):EV G (Tb (iM bb)) 39 [r.v,r.v] []=some (vb true,[]):=by
 refine aB rfl ?_;have q:=aBM (G:=G) (bb:=bb) r.ats hW.at' (by have:=hW.ln;omega);simp (disch:=omega) only[go_sem,h39c,q]
theorem xX(r:bZ)(hW:r.W):EV G (Tb (iM bb)) 14 [r.v] []=some (r.v,[]):=by
 refine aB rfl ?_;have hl:=hW.ln;have q:=up (aAS (G:=G) (bb:=bb) r.ats (by omega) (fun a ha=>by have:=(hW.at' a ha).rl;omega))
 simp (disch:=omega) only[go_sem,h14c,q]
theorem R9(a:aE):EV G (Tb (iM bb)) 25 [a.v] []=some (vb (Cf a),[]):=by
 refine aB rfl ?_;unfold Cf;have e1:((a.rs.length:Int)<=80)=(a.rs.length<=80):=by apply propext;omega
 have e2:((a.va.length:Int)<=500)=(a.va.length<=500):=by apply propext;omega
 have e3:((a.nm.length:Int)<=60)=(a.nm.length<=60):=by apply propext;omega
 by_cases c1:a.rs.length<=80
 ·by_cases c2:a.va.length<=500
  ·simp (disch:=omega) only[go_sem,h25c,aQb,e1,e2,e3,eq_true c1,eq_true c2]
   all_goals simp[c1,c2]
  ·simp (disch:=omega) only[go_sem,h25c,aQb,e1,e2,e3,eq_true c1,c2]
   all_goals simp[c1,c2]
 ·simp (disch:=omega) only[go_sem,h25c,aQb,e1,e2,e3,c1]
  all_goals simp[c1]
def Ot(r:bZ):Bool:=r.ats.all Cf&&decide (r.ats.length<=40)
theorem Ou(r:bZ)(hl:r.ats.length<=9223372036854775807):EV G (Tb (iM bb)) 12 [r.v] []=some (vb (Ot r),[]):=by
 refine aB rfl ?_;unfold Ot;simp (disch:=omega) only[go_sem,h12c];rw[gA (fun k=>⟨(jk 1 (.one (.ptr 0 0)::jk 1 (vi k::jk 18 []))),[.box r.c]⟩) (fun k=>Cf (r.ats.getD k aE.nil)=false) r.ats.length ?_ ?_]
 rotate_left
 ·rfl
 ·intro k hk hn;have h1:=hn k (aQf _);rw[fE r.ats k hk] at h1;have h2:Cf r.ats[k]=true:=by simpa using h1
  have q:=R9 (G:=G) (bb:=bb) r.ats[k];rw[h2] at q;simp (disch:=omega) only[go_sem,h12l0,aQb,ixA,aE.e,q]
 have hx:=aJd r.ats aE.nil Cf;obtain⟨hk,hp,hn⟩:=bW (fun k=>Cf (r.ats.getD k aE.nil)=false) r.ats.length
 generalize ix (fun k=>Cf (r.ats.getD k aE.nil)=false) r.ats.length=k at *
 rcases hp with rfl | ⟨hk',hp⟩
 ·rw[hx.1 rfl];by_cases c:r.ats.length<=40
  ·have c':(r.ats.length:Int)<=40:=by omega
   simp (disch:=omega) only[go_sem,h12l0,aQb,eq_true c'];simp[c]
  ·have c':¬ (r.ats.length:Int)<=40:=by omega
   simp (disch:=omega) only[go_sem,h12l0,aQb,c'];simp[c]
 ·have e:r.ats.all Cf=false:=by
   cases h:r.ats.all Cf with
   | false=>rfl
   | true=>have:=hx.2 h;omega
  rw[e];rw[fE r.ats k hk'] at hp;have q:=R9 (G:=G) (bb:=bb) r.ats[k];rw[hp] at q;simp (disch:=omega) only[go_sem,h12l0,aQb,ixA,aE.e,q]
theorem Ov{r:bZ}(h:Ot r=true)(hB:∀ a∈r.ats,aM a.nm/\aM a.va):r.W:=by
 simp only[Ot,aQp,decide_eq_true_eq,aRl] at h;refine⟨fun a ha=>?_,by omega⟩
 have h1:=h.1 a ha;simp only[Cf,aQp,decide_eq_true_eq] at h1;exact⟨(hB a ha).1,(hB a ha).2,by omega,by omega,by omega⟩
theorem aFD(r:bZ)(hW:r.W):EV G (Tb (iM bb)) 17 [r.v] []=some (rcv (aFs r),[]):=by
 refine aB rfl ?_;have q1:=kG (G:=G) (bb:=bb) r hW;have q2:=C8 (G:=G) (bb:=bb) r;have u:=lM (G:=G) (bb:=bb);have q3:=wQ (G:=G) (bb:=bb);unfold aFs;have hz:∀ e,e=dG r->(e=0->1<=r.sq/\r.sq<=65535):=fun e h1 h2=>(kX (h1 ▸ h2)).num.1
 have hz1:=hz (dG r) rfl;generalize dG r=e at *;by_cases c:aS [e,un (iC r.fl) 20]=0
 ·rw[if_neg (not_not_intro c)];have q4:=Hv (G:=G) (bb:=bb) r.sq (by have:=hz1 (Hp c).1;omega);simp (disch:=omega) only[go_sem,h17c,q1,q2,u,q3,q4,eq_true c,aFr];rfl
 ·rw[if_pos c];simp (disch:=omega) only[go_sem,h17c,q1,q2,u,q3,c,bZ.nil];rfl
theorem aM7:EV G (Tb (iM true)) 11 [] []=some (vb true,[]):=jE rfl rfl
end
section
variable {G:aH} {bb:Bool}
abbrev bZ.c2(r:bZ):List aR:=[.dc (ci r.sq),.dc (ci r.li),.dc (ci r.fl),.dc (ci r.br),.dc (ci r.bq),.dc (ci r.nx),.dc (ci r.ls),.bld 2 r.ats.length]
theorem aBN{α:Type}(l:List α)(k:Nat)(h:k < l.length):l.set k l[k]=l:=List.set_getElem_self h
set_option maxHeartbeats 4000000 in
theorem Vv(r:bZ)(hW:r.W):EV G (Tb (iM bb)) 74 [r.v] []=some (.agg r.c2,[.box r.c2,.box r.c2,.arr 0 11 (r.ats.map aE.e)]):=by
 refine aB rfl ?_;have hl:=hW.ln;have q:=aA7 (G:=G) (bb:=bb) r.ats (by omega);simp (disch:=omega) only[go_sem,h74c,q];rw[bG (fun k=>⟨(jk 1 (.one (.ptr 0 0)::.one (.ptr 1 0)::jk 7 (vi r.ats.length::vi k::jk 16 []))),[.box [.dc (ci r.sq),.dc (ci r.li),.dc (ci r.fl),.dc (ci r.br),.dc (ci r.bq),.dc (ci r.nx),.dc (ci r.ls),.bld 2 r.ats.length],.box [.dc (ci 0),.dc (ci 0),.dc (ci 0),.dc (ci 0),.dc (ci 0),.dc (ci 0),.dc (ci 0),.dc (.raw (.slice none 0 0))],.arr 0 11 (r.ats.map aE.e)]⟩) r.ats.length ?_ ?_]
 ·simp (disch:=omega) only[go_sem,h74l0,aQb]
 ·rfl
 ·intro k hk;have q2:=up (Q9 (G:=G) (bb:=bb) r.ats[k].rs (by have:=(hW.at' _ (aQm hk)).rl;omega));have e:=ixA r.ats k hk;have hs:(r.ats.map aE.e).set k r.ats[k].e=r.ats.map aE.e:=by
   have:=aBN (r.ats.map aE.e) k (by rw[aQb];exact hk);rwa[aQw] at this
  simp (disch:=omega) only[go_sem,h74l0,aQb,e,aE.e,q2];rw[hs]
theorem aJB(a b:aE)(ha:aM a.nm)(hb:aM b.nm):EV G (Tb (iM bb)) 131 [b.v,.one (.ptr 0 0)] [.box a.c]=some (vb (nL a b),[.box a.c]):=by
 refine aB rfl ?_;have e:=cW ha hb;unfold nL;by_cases c1:a.ty=b.ty
 ·by_cases c2:a.nm=b.nm
  ·rw[eq_true c2] at e;simp (disch:=omega) only[go_sem,h131c,eq_true c1,e]
   all_goals simp[c1,c2]
  ·rw[eq_false c2] at e;simp (disch:=omega) only[go_sem,h131c,eq_true c1,e]
   all_goals simp[c1,c2]
 ·simp (disch:=omega) only[go_sem,h131c,c1]
  all_goals simp[c1]
abbrev aE.dd(a:aE):List DC:=[ci a.ty,.raw (.string (eG a.nm)),ci a.id,ci a.fl,.raw (.bool a.res),.raw (.string (eG a.va)),ci a.fi,.slc (a.rs.map bI.e),ci a.al,ci a.sz,ci a.vd]
theorem aJC(r:bZ)(a:aE)(hW:r.W)(ha:aM a.nm):EV G (Tb (iM bb)) 73 [r.v,a.v] []=some (vb (D1 r a),[]):=by
 refine aB rfl ?_;have hl:=hW.ln;have q:EV G (Tb (iM bb)) 130 [vl (r.ats.map aE.e),.one (.fn 131 [.ptr 0 0])] [.box a.c]=some (vb (r.ats.any fun b=>nL a b),[.box a.c]):=
  aJw 131 a.dd (fun b=>nL a b) r.ats (by omega) (fun b hb=>aJB a b ha (hW.at' b hb).nm)
 unfold D1;by_cases c:a.ty=48
 ·simp (disch:=omega) only[go_sem,h73c,eq_true c]
  all_goals simp[c]
 ·simp (disch:=omega) only[go_sem,h73c,c,q]
  all_goals simp[c]
end
section
variable {G:aH} {bb:Bool}
theorem aFE{a:aE}{i:Int}(h:a.W):(dQ a i).W:=⟨h.nm,h.va,h.nl,h.vl,h.rl⟩
theorem aM8(l:List aE):((l.length:Int) < 32)=(l.length < 32):=by apply propext;omega
set_option maxHeartbeats 8000000 in
theorem aFF(r:bZ)(hW:r.W)(a:aE)(haW:a.W):EV G (Tb (iM bb)) 26 [r.v,a.v] []=some (rcv (Oj r a),[]):=by
 refine aB rfl ?_;have q1:=kG (G:=G) (bb:=bb) r hW;have q2:=C8 (G:=G) (bb:=bb) r;have u:=lM (G:=G) (bb:=bb);have q3:=C6 (G:=G) (bb:=bb);have hok:dG r=0->r.Ok:=kX;have hb:=aFE (i:=r.nx) haW;have q4:=up (vZ (G:=G) (bb:=bb) (dQ a r.nx) hb);have q5:=aJC (G:=G) (bb:=bb) r (dQ a r.nx) hW hb.nm;have e5:D1 r (dQ a r.nx)=D1 r a:=rfl;rw[e5] at q5;unfold Oj Li Ru;by_cases c1:aS [dG r,un (iC r.fl) 20,un (decide (r.nx < 65535)) 16]=0
 ·rw[if_neg (not_not_intro c1)];obtain⟨z1,z2,z3⟩:=sX c1;have hO:=hok z1;have hn:=hO.num.2.2.2.1;have hln:=hO.ln;clear hok;have e3:=aM8 r.ats;by_cases c2:aS [hZ (dQ a r.nx),un (!D1 r a) 5,un (decide (r.ats.length < 32)) 8]=0
  ·rw[if_neg (not_not_intro c2)];obtain⟨y1,y2,y3⟩:=sX c2;have hl:r.ats.length < 32:=by
    have:=Hq (by decide) y3;simpa using this
   have q6:=Vv (G:=G) (bb:=bb) r hW;have hs:=R4 hO y1 hl;have hWn:∀ x∈r.ats++[dQ a r.nx],x.W:=fun x hx=>by
    rcases List.mem_append.1 hx with hx | hx
    ·exact hW.at' x hx
    ·rw[List.mem_singleton.1 hx];exact hb
   have hll:(r.ats++[dQ a r.nx]).length=r.ats.length+1:=by simp
   have q7:=aA9 (G:=G) (bb:=bb) (r.ats++[dQ a r.nx]) hWn (by omega);rw[if_pos hs,hs] at q7;have q8:=Da (G:=G) (bb:=bb) (dL (r.ats++[dQ a r.nx])) (fun x hx=>hWn x (Ck.1 hx)) (by rw[wE];omega)
   have tk:∀ x:List DC,List.take (r.ats.length+1) (List.map aE.e r.ats++[x])=List.map aE.e r.ats++[x]:=fun x=>aQM (by rw[aQc,aQb];exact aQf _)
   unfold qR;simp only[aQL,aQo,aQn] at q7;generalize dL (r.ats++[dQ a r.nx])=m at *;generalize hZ (dQ a r.nx)=ea at *;generalize D1 r a=hb' at *;generalize dG r=re at *;generalize iC r.fl=ub at *;simp only[dQ] at q4 q5 q7 ⊢;generalize dV m=z at *;by_cases c3:z<=440
   ·have d3:¬ 440 < z:=by omega
    rw[if_pos c3];simp (disch:=omega) only[go_sem,h26c,q1,q2,u,q3,q4,q5,q6,q7,q8,eq_true c1,eq_true c2,d3,e3,aQb,aQc,aQd,aQe,aQQ,aQf,tk]
    all_goals rfl
   ·have d3:440 < z:=by omega
    rw[if_neg c3];simp (disch:=omega) only[go_sem,h26c,q1,q2,u,q3,q4,q5,q6,q7,q8,eq_true c1,eq_true c2,eq_true d3,e3,aQb,aQc,aQd,aQe,aQQ,aQf,tk,bZ.nil];rfl
  ·rw[if_pos c2];generalize hZ (dQ a r.nx)=ea at *;generalize D1 r a=hb' at *;generalize dG r=re at *;generalize iC r.fl=ub at *;simp only[dQ] at q4 q5;simp (disch:=omega) only[go_sem,h26c,q1,q2,u,q3,q4,q5,eq_true c1,c2,e3,aQb,bZ.nil];rfl
 ·rw[if_pos c1];generalize dG r=re at *;generalize iC r.fl=ub at *;simp (disch:=omega) only[go_sem,h26c,q1,q2,u,q3,c1,bZ.nil];rfl
end
section
variable {G:aH} {bb:Bool}
end
end Go.Proofs.YtcplecjhmnblpaaGreatDoor
