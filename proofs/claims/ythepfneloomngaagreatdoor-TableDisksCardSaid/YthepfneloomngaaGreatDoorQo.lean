/- What is asked of a table, by the program: one record, its place, that of a reference. Conditions: as each theorem says. -/
import Derived.Test.YthepfneloomngaaGreatDoorPl
import Derived.Test.YthepfneloomngaaGreatDoorPq
import Derived.Test.YthepfneloomngaaGreatDoorPa
import Derived.Test.YthepfneloomngaaGreatDoorSz
import Derived.Test.YthepfneloomngaaGreatDoorWb
import Derived.Test.YthepfneloomngaaGreatDoorPt
import Derived.Test.YthepfneloomngaaGreatDoorSg
namespace Go.Proofs.YthepfneloomngaaGreatDoor
set_option linter.unusedSimpArgs false
set_option linter.unusedVariables false
set_option maxRecDepth 4000
section
variable {G:aF} {B:aO}
theorem aAP{b s:List Int}{k:Nat}(hb:aL b)(hs:aL s):aL (gT b k s):=fun x hx=>by
 unfold gT at hx;rcases aXy.1 hx with hx | hx
 ·rcases aXy.1 hx with hx | hx
  ·exact hb x (aWF hx)
  ·exact hs x hx
 ·exact hb x (aWT hx)
theorem Ev(l:List Int)(x:Bt)(h:64<=l.length):(pX l x).length=l.length:=by
 have:=qN x;rw[pX,cN (by rw[cN (by omega)];omega),cN (by omega)]
theorem Qv(l:List Int)(x:Bt)(h:128<=l.length):(pX l x).take 64=x.bs:=by
 have lb:=qN x;have l1:(gT l 0 x.bs).length=l.length:=cN (by omega);unfold pX;rw[gT,aWv,aXK (by rw[aWm];omega),List.take_take,aXD (by omega)];rw[gT,aXq,aWL,aXK (by omega),aWP (by omega)]
theorem aJH(l:List Int)(x:Bt)(h:uB l x=0):cH (pX l x)=(x,0,0):=by
 unfold uB at h;by_cases h1:uY l.length=0
 ·rw[if_pos h1] at h;by_cases h2:fH x=0
  ·rw[if_pos h2] at h;by_cases h3:x.cl=(l.length / 256:Nat)
   ·have k:=dk0 h1;unfold cH;rw[Ev l x (by omega),if_pos h1];unfold qT;rw[Qv l x (by omega),T1 x h2,Ev l x (by omega),if_pos ⟨rfl,h3⟩];rfl
   ·rw[if_neg h3] at h;cases h
  ·rw[if_neg h2] at h;exact absurd h h2
 ·rw[if_neg h1] at h;exact absurd h h1
theorem aJI(l:List Int):EV G (Tb B) 18 [sv l] []=some (vb (decide (l.length<=24576\/l.length % 256≠0/\l.length<=200000)),[]):=by
 have m:(l.length:Int).tmod 256=((l.length % 256:Nat):Int):=Ch l.length 256;refine aA rfl ?_;by_cases h1:l.length<=24576
 ·have e1:(l.length:Int)<=24576:=by omega
  simp (disch:=omega) only[go_sem,h18c,aC,e1,h1,true_or]
 ·have e1:¬ (l.length:Int)<=24576:=by omega
  by_cases h2:l.length % 256=0
  ·have e2:((l.length % 256:Nat):Int)=0:=by omega
   simp (disch:=omega) only[go_sem,h18c,aC,e1,h1,m,e2];simp[h2]
  ·have e2:¬ ((l.length % 256:Nat):Int)=0:=by omega
   by_cases h3:l.length<=200000
   ·have e3:(l.length:Int)<=200000:=by omega
    simp (disch:=omega) only[go_sem,h18c,aC,e1,h1,m,e2,e3];simp[h1,h2,h3]
   ·have e3:¬ (l.length:Int)<=200000:=by omega
    simp (disch:=omega) only[go_sem,h18c,aC,e1,h1,m,e2,e3];simp[h1,h2,h3]
set_option maxHeartbeats 2000000 in
theorem aJJ(hR:B 170 [.one (.dc (.raw (.string ⟨#[0]⟩))),vi 28] []=some (sv (zl 28),[]))
  (hA:EV G (Tb B) 11 [] []=some (vb true,[])) (l:List Int) (hB:aL l) (x:Bt):EV G (Tb B) 6 [sv l,x.v] []=some (vb true,[]):=by
 have s:=aJI (G:=G) (B:=B) l;by_cases hs:l.length<=24576\/l.length % 256≠0/\l.length<=200000
 rotate_left
 ·rw[decide_eq_false hs] at s;refine aA rfl ?_;simp (disch:=omega) only[go_sem,h6c,hA,s,aWS,aWO]
 rw[decide_eq_true hs] at s;have hl:l.length<=200000:=by omega
 have i:=A3 (G:=G) (B:=B) nX l hB hl;have p:=aAN (G:=G) l x hB hR hl;have r:=aAL (G:=G) (B:=B) l hB hl;have e:=aAM (G:=G) (B:=B) l x hl;generalize cH l=V at i r;obtain⟨y,at',n⟩:=V;by_cases h:uB l x=0
 ·have ib:=A3 (G:=G) (B:=B) nX (pX l x) (aAP (aAP hB (mQ x)) (mQ x)) (by
   by_cases q:64<=l.length
   ·rw[Ev l x q];exact hl
   ·have:=qN x;simp only[pX,gT,aWg,aWm,aWt];omega)
  rw[aJH l x h] at ib;have k:uY l.length=0/\fH x=0:=by
   unfold uB at h;by_cases h1:uY l.length=0
   ·rw[if_pos h1] at h;by_cases h2:fH x=0
    ·exact⟨h1,h2⟩
    ·rw[if_neg h2] at h;exact absurd h h2
   ·rw[if_neg h1] at h;exact absurd h h1
  have k2:=dk0 k.1;have b:=aN9 (G:=G) (B:=B) l x (fun n hn=>by have:=tN k.2 n hn;omega) (by omega)
  rw[if_pos h] at p;rw[h] at p e;generalize pX l x=M at b ib p;refine aA rfl ?_;simp (maxSteps:=2000000) (disch:=omega) only[go_sem,h6c,hA,s,i,p,r,e,b,ib,aWS,aWO]
 ·rw[if_neg h] at p;refine aA rfl ?_;simp (maxSteps:=2000000) (disch:=omega) only[go_sem,h6c,hA,s,i,p,r,e,h,aWS,aWO];rfl
end
section
variable {G:aF} {B:aO}
def aJK(x:Bt)(n:Int):Int:=if fH x=0 then if 16<=n/\n<=96 then if x.tb+2 * n < x.cl then if C9 x.tb (2 * n) x.mi 8=true\/C9 x.tb (2 * n) x.lg x.lc=true then 13 else 0 else 37 else 2 else fH x
end
section
variable {G:aF} {B:aO}
theorem Hu(n:Int)(h:-1000000<=n/\n<=1000000):EV G (Tb B) 100 [vi n] []=some (.agg [.dc (ci n),.dc (ci (n+1))],[]):=by
 refine aA rfl ?_;simp (disch:=omega) only[go_sem,h100c]
theorem Ma(l:List Int)(N k:Nat)(hN:l.length=N)(h:k * 256+256<=N)(hl:N<=200000):EV G (Tb B) 146 [.one (.bls 0 0 N 1),vi k] [yb l]=some (.one (.bls 0 (k * 256) 256 1),[yb l]):=by
 have e:((k:Int) * 256).toNat=k * 256:=by omega
 have w:(k:Int) * 256=((k * 256:Nat):Int):=by omega
 generalize hm:k * 256=m at *;have t2:(256:Int).toNat=256:=rfl;refine aA rfl ?_;simp (maxSteps:=2000000) (disch:=omega) only[go_sem,h146c,aWf,hN,w,e,t2]
end
section
variable {G:aF} {B:aO}
def oO(l b:List Int)(n0 n1:Nat):List Int:=gT (gT l (n0 * 256) (b.take 256)) (n1 * 256) (b.drop 256)
def aJL(l b:List Int)(n0 n1:Nat):Nat->List Int
 | 0=>l
 | 1=>gT l (n0 * 256) (b.take 256)
 | _=>oO l b n0 n1
set_option maxHeartbeats 1000000 in
theorem Qw(l b:List Int)(N n0 n1:Nat)(hN:l.length=N)(hb:b.length=512)(hB:aL b)(h0:n0 * 256+256<=N)(h1:n1 * 256+256<=N)(hl:N<=200000):
  EV G (Tb B) 99 [.one (.bls 0 0 N 1),sv b,.agg [.dc (ci n0),.dc (ci n1)]] [yb l]=some (.tup [],[yb (oO l b n0 n1)]):=by
 have q0:=Ma (G:=G) (B:=B) l N n0 hN h0 hl;have l1:(gT l (n0 * 256) (b.take 256)).length=N:=by rw[cN (by rw[aWm];omega),hN]
 have q1:=Ma (G:=G) (B:=B) (gT l (n0 * 256) (b.take 256)) N n1 l1 h1 hl;have B1:aL (b.take 256):=fun x hx=>hB x (aWF hx)
 have B2:aL (b.drop 256):=fun x hx=>hB x (aWT hx)
 have c0:=nK l (b.take 256) (n0 * 256) 256 B1 (by rw[aWm];omega);rw[aW2,List.take_take,Nat.min_self] at c0;have c1:=nK (gT l (n0 * 256) (b.take 256)) (b.drop 256) (n1 * 256) 256 B2 (by rw[aWt];omega);have b5:b.take 512=b:=aWP (by omega);have t2:(256:Int).toNat=256:=rfl;refine aA rfl ?_;simp (maxSteps:=2000000) (disch:=omega) only[go_sem,h99c];rw[aU (fun k=>⟨(.one (.bls 0 0 N 1)::sv b::jk 6 (.agg [.dc (ci (n0:Nat)),.dc (ci (n1:Nat))]::vi k::jk 12 [])),[yb (aJL l b n0 n1 k),.box [.dc (ci (n0:Nat)),.dc (ci (n1:Nat))]]⟩) 2 ?_ ?_]
 ·simp (maxSteps:=2000000) (disch:=omega) only[go_sem,h99l0,aJL]
 ·rfl
 ·intro k hk;rcases (show k=0\/k=1 by omega) with rfl | rfl
  ·simp (maxSteps:=2000000) (disch:=omega) only[go_sem,h99l0,aJL,lZ,pA,q0,aC,hb,aWf,hN,Int.zero_mul,Int.reduceMul,Int.reduceAdd,b5,c0,jP]
  ·simp (maxSteps:=2000000) (disch:=omega) only[go_sem,h99l0,aJL,oO,lZ,qO,q1,aC,hb,aWf,hN,l1,Int.zero_mul,Int.reduceMul,Int.reduceAdd,b5,t2,c1,jP]
end
section
variable {G:aF} {B:aO}
def Mb(s:List Int)(n:Nat):List Int:=(s.drop (n * 256)).take 256
def Dw(s:List Int)(a b:Nat):List Int:=Mb s a++Mb s b
abbrev pr2(a b:Nat):AV:=.agg [.dc (ci (a:Nat)),.dc (ci (b:Nat))]
theorem Qx{s:List Int}(h:aL s)(n:Nat):aL (Mb s n):=fun x hx=>h x (aWT (aWF hx))
theorem A5{s:List Int}(h:aL s)(a b:Nat):aL (Dw s a b):=fun x hx=>by
 rcases aXy.1 hx with q | q
 ·exact Qx h a x q
 ·exact Qx h b x q
theorem Ew{s:List Int}{n:Nat}(h:n * 256+256<=s.length):(Mb s n).length=256:=by
 rw[Mb,aWm,aWt];omega
theorem Xf{s:List Int}{a b:Nat}(h:a * 256+256<=s.length)(h':b * 256+256<=s.length):(Dw s a b).length=512:=by
 rw[Dw,aWg,Ew h,Ew h']
theorem Xg(s:List Int)(n:Nat):List.take 256 (List.drop (n * 256) (s.map yC))=(Mb s n).map yC:=by rw[Mb,aW2,aXt]
def bkH(s:List Int)(a b:Nat):Nat->List Int
 | 0=>[]
 | 1=>Mb s a
 | _=>Dw s a b
set_option maxHeartbeats 1000000 in
theorem Qy(x:Bt)(d6 d7 d9:DC)(s:List Int)(hB:aL s)(N a b:Nat)(hN:s.length=N)(h0:a * 256+256<=N)(h1:b * 256+256<=N)(hl:N<=200000):
  EV G (Tb B) 105 [.one (.ptr 0 0),pr2 a b] [uX x d6 d7 N d9,yb s]=some (sv (Dw s a b),[uX x d6 d7 N d9,yb s]):=by
 have q0:=Ma (G:=G) (B:=B) s N a hN h0 hl;have q1:=Ma (G:=G) (B:=B) s N b hN h1 hl;have e0:hP (List.take 256 (List.drop (a * 256) (s.map yC)))=some ((Mb s a).map u8):=by rw[Xg,iZ]
 have e1:hP (List.take 256 (List.drop (b * 256) (s.map yC)))=some ((Mb s b).map u8):=by rw[Xg,iZ]
 have l0:=Ew (s:=s) (n:=a) (by omega);have l1:=Ew (s:=s) (n:=b) (by omega);have n0:dO ([]:List Int)=⟨#[]⟩:=rfl;refine aA rfl ?_;simp (maxSteps:=2000000) (disch:=omega) only[go_sem,h105c,<- n0];rw[aU (fun k=>⟨(.one (.ptr 0 0)::jk 4 (sv (bkH s a b k)::jk 2 (pr2 a b::vi k::jk 13 []))),[uX x d6 d7 N d9,yb s,.box [.dc (ci (a:Nat)),.dc (ci (b:Nat))]]⟩) 2 ?_ ?_]
 ·simp (maxSteps:=2000000) (disch:=omega) only[go_sem,h105l0,bkH]
 ·simp (maxSteps:=2000000) (disch:=omega) only[go_sem,bkH]
 ·intro k hk;rcases (show k=0\/k=1 by omega) with rfl | rfl
  ·simp (maxSteps:=2000000) (disch:=first | omega | (simp only[aWg,aWh,aWk,aWf,aB,aWu,aWm,aWt,aC,bG]<;>omega) | fail) only[go_sem,h105l0,bkH,lZ,pA,q0,hN,e0,Le,aWL,Int.reduceAdd]
  ·simp (maxSteps:=2000000) (disch:=first | omega | (simp only[aWg,aWh,aWk,aWf,aB,aWu,aWm,aWt,aC,bG]<;>omega) | fail) only[go_sem,h105l0,bkH,Dw,lZ,qO,q1,hN,e1,Le,Int.reduceAdd]
theorem aSn{α:Type}(a b:α):[[a],[b]].flatten=[a,b]:=rfl
abbrev prI(a b:Int):AV:=.agg [.dc (ci a),.dc (ci b)]
theorem aFi(cl:List Int)(n:Nat)(h:n+2<=cl.length):cl.drop n=cl.getD n 0::cl.getD (n+1) 0::cl.drop (n+2):=by
 rw[aXo (by omega),aXo (by omega)];simp[show n < cl.length by omega,show n+1 < cl.length by omega]
theorem aFj(x:Bt)(d6 d7:DC)(N:Nat)(cl:List Int)(s:List Int)(n:Nat)(h:2 * n+2<=cl.length)(hl:cl.length<=1000000):
  EV G (Tb B) 85 [.one (.ptr 0 0),vi n] [uX x d6 d7 N (.slc (cl.map fun n=>[ci n])),yb s]=some (prI (cl.getD (2 * n) 0) (cl.getD (2 * n+1) 0),[uX x d6 d7 N (.slc (cl.map fun n=>[ci n])),yb s]):=by
 have e:=aFi cl (2 * n) h;have w:(2:Int) * (n:Int)=((2 * n:Nat):Int):=by omega
 have lw:(cl.map fun n=>[ci n]).length=cl.length:=by rw[aWf]
 have dm:List.drop (2 * n) (cl.map fun n=>[ci n])=[ci (cl.getD (2 * n) 0)]::[ci (cl.getD (2 * n+1) 0)]::(cl.drop (2 * n+2)).map fun n=>[ci n]:=by rw[<- aXt,e];rfl
 have hall:((cl.map fun n=>[DC.raw (Value.int .i64 n)]).all fun e=>decide (e.length=1))=true:=by simp
 generalize hm:2 * n=m at *;generalize cl.getD m 0=A at *;generalize cl.getD (m+1) 0=C at *;generalize (cl.drop (m+2)).map (fun n=>[ci n])=R at *
 refine aA rfl ?_;simp (maxSteps:=2000000) (disch:=omega) only[go_sem,h85c,w,lw,aW6,dm,hall,if_true,X4,aSn]
theorem Qz(x:Bt)(d6 d7 d9:DC)(N:Nat)(s:List Int)(n:Nat)(h:n<=1000)(hx:0<=x.mi/\x.mi<=1000):
  EV G (Tb B) 106 [.one (.ptr 0 0),vi n] [uX x d6 d7 N d9,yb s]=some (prI (x.mi+2 * n) (x.mi+2 * n+1),[uX x d6 d7 N d9,yb s]):=by
 have q:=Hu (G:=G) (B:=B) (x.mi+2 * n) (by omega);refine aA rfl ?_;simp (maxSteps:=2000000) (disch:=omega) only[go_sem,h106c,q]
end
section
variable {G:aF} {bb:Bool}
end
section
variable {G:aF} {bb:Bool}
theorem aUJ(l:List aK)(k:Nat)(hk:k < l.length):((l.take (k+1)).map fG).flatten=((l.take k).map fG).flatten++fG l[k]:=by
 rw[aXe hk,aWW,List.flatten_append];simp
abbrev bkv(p:List Int × Int):AV:=.tup [.one (.dc (.raw (.string (dO p.1)))),.one (.dc (ci p.2))]
abbrev cR.u(r:cR)(u:Int):AV:=.agg (r.c++[.dc (ci u)])
set_option maxHeartbeats 8000000 in
theorem aFk(hG:G9 G)(r:cR)(hW:r.W)(u:Int):EV G (Tb (mE bb)) 181 [r.u u] []=some (bkv (C8 r u),[]):=by
 refine aA rfl ?_;have q1:=sK (G:=G) (bb:=bb) r hW;have w:=pU (G:=G) (bb:=bb) u 1 65535;have un9:=pV (G:=G) (bb:=bb);have q3:=Qf (G:=G) (bb:=bb);unfold C8 aI9;by_cases c:aQ [gW r,un (decide (1<=u/\u<=65535)) 2]=0
 ·rw[if_neg (not_not_intro c)];obtain⟨z1,z2⟩:=aJa c;have hu:1<=u/\u<=65535:=of_decide_eq_true (aEL (by decide) z2);have hO:=Aw z1;have hln:=hO.ln;have hat:=P2 hO;have hBa:aL (iR r):=Jv fun p hp=>by
   obtain⟨a,ha,rfl⟩:=List.mem_map.1 hp;exact (L2 (hW.at' a ha) (hO.errs.1 a ha)).1
  generalize gW r=re at *;have e0:(dO []:ByteArray)=⟨#[]⟩:=rfl;have qb:=up (W8 (G:=G) (bb:=bb) hG r (iR r) hO.n9 (by omega) hBa);have hbl:=W0 r (68+((iR r).length:Int)) (iR r) (by omega);have hby:=Hk r (68+((iR r).length:Int)) (iR r) hBa;have hz:((jI r (68+((iR r).length:Int)) (iR r)).drop 40).take 18=zl 18:=by
   refine S9 (by rw[aWm,aWt,hbl,bG];decide) (fun j hj=>?_)
   rw[aWm,aWt,hbl] at hj;rw[Lp _ _ _ _ (by omega),aD9,aKT _ _ _ _ (by omega) (by omega)]
  have qp:=up (aAt (G:=G) (bb:=bb) _ u hbl hby hz hu);unfold mP;generalize jI r (68+((iR r).length:Int)) (iR r)=b at *;generalize oT b u 8=p at *;have hE:iR r=(r.ats.map fG).flatten:=rfl;rw[hE] at qb;clear hE hat hBa;simp (disch:=omega) only[go_sem,h181c,q1,w,un9,q3,eq_true c,aWf];rw[aU (fun k=>⟨(jk 1 (.one (.ptr 0 0)::jk 3 (sv ((r.ats.take k).map fG).flatten::jk 18 (vl (r.ats.map aK.e)::vi r.ats.length::vi k::jk 21 [])))),[.box (r.c++[.dc (ci u)]),.arr 0 1 [[ci re],[ci (un (decide (1<=u/\u<=65535)) 2)]]]⟩) r.ats.length ?_ ?_]
  ·simp (disch:=omega) only[go_sem,h181l0,aWY,qb,qp,aWR,aWL]
  ·rfl
  ·intro k hk;have q:=up (Jn (G:=G) (bb:=bb) r.ats[k] (hW.at' _ (aWq hk)));rw[aUJ r.ats k hk];have b1:=Qi (r.ats.take k) (aKW hW.at' k);have b2:=Ju (r.ats.take k);have b3:=sD (hW.at' _ (aWq hk));rw[aWm] at b1;have b4:(((r.ats.take k).map fG).flatten.length:Int)+(fG r.ats[k]).length<=9223372036854775807:=by omega
   clear b1 b2 b3;generalize ((r.ats.take k).map fG).flatten=s at *;have eb:eC .add (sv s) (sv (fG r.ats[k]))=some (sv (s++fG r.ats[k])):=by
    rw[zZ (by rw[aC,aC];omega),Ej]
   simp (disch:=omega) only[go_sem,h181l0,aWf,ixA,aK.e,q,eb,aWR,aWL]
 ·rw[if_pos c];generalize gW r=re at *;simp (disch:=omega) only[go_sem,h181c,q1,w,un9,q3,c];rfl
end
section
variable {G:aF} {bb:Bool}
abbrev dcv(p:cR × Int × Int):AV:=.tup [.agg (p.1.c++[.dc (ci p.2.1)]),.one (.dc (ci p.2.2))]
end
section
variable {G:aF} {bb:Bool}
theorem Q1:∀ ps:List (List Int),(∀ p∈ps,(cK p).2=0)->iF ps=(ps.map fun p=>(cK p).1,0)
 | [],_=>rfl
 | p::t,h=>by
  have h1:=h p aWy;have ih:=Q1 t (fun q hq=>h q (aWG _ hq))
  rw[iF,if_neg (not_not_intro h1),ih];simp
theorem Q2:∀ (ps:List (List Int)) (k:Nat),k < ps.length->(∀ j,j < k->(cK (ps.getD j [])).2=0)->(cK (ps.getD k [])).2≠0->iF ps=([],(cK (ps.getD k [])).2)
 | [],k,hk,_,_=>by simp at hk
 | p::t,0,_,_,h=>by
  have h':(cK p).2≠0:=h;rw[iF,if_pos h'];rfl
 | p::t,k+1,hk,hj,h=>by
  have h0:(cK p).2=0:=hj 0 (by omega);have ih:=Q2 t k (by simpa using hk) (fun j hj'=>hj (j+1) (by omega)) h
  have h':(cK (t.getD k [])).2≠0:=h;rw[iF,if_neg (not_not_intro h0),ih,if_pos h'];rfl
theorem T4{l:List Int}(hB:aL l)(a k:Nat)(h:a+k<=l.length)(hk:k<=4):0<=gL l a k/\gL l a k<=4294967295:=by
 have h1:=pO hB a k hk;have:(256:Int) ^ k<=256 ^ 4:=by
  rcases k with _ | _ | _ | _ | _ | k<;>first | decide | omega
 omega
theorem aOf{o:List Int}(ho:o.length=512)(hB:aL o)(l:List aK):aNK (iT o l):=by
 have h1:=T4 hB 16 2 (by omega) (by omega);have h2:=T4 hB 18 2 (by omega) (by omega);have h3:=T4 hB 22 2 (by omega) (by omega);have h4:=T4 hB 32 4 (by omega) (by omega);have h5:=T4 hB 36 2 (by omega) (by omega);have h6:=T4 hB 38 2 (by omega) (by omega);have h7:=T4 hB 8 4 (by omega) (by omega);refine⟨?_, ?_, ?_, ?_, ?_, ?_, ?_⟩<;>simp only[iT]<;>omega
abbrev r9(o:List Int):List aR:=[.dc (ci (gL o 16 2)),.dc (ci (gL o 18 2)),.dc (ci (gL o 22 2)),.dc (ci (gL o 32 4)),.dc (ci (gL o 36 2)),.dc (ci (gL o 38 2)),.dc (ci (gL o 8 4))]
abbrev z9:List aR:=[.dc (ci 0),.dc (ci 0),.dc (ci 0),.dc (ci 0),.dc (ci 0),.dc (ci 0),.dc (ci 0),.dc (.raw (.slice none 0 0)),.dc (ci 0)]
noncomputable def aJM(o:List Int)(u:Int)(d:List aK × Int):cR × Int × Int:=if d.2≠0 then (.nil,0,d.2) else if gW (iT o d.1)≠0 then (.nil,0,gW (iT o d.1)) else (iT o d.1,u,0)
def Mc:HC:=sB (sB (sB (sB (sB (sB (sB (sB h159c)))))))
abbrev aUK(e:Int):AV:=.tup [.agg [.dc (ci 0),.dc (ci 0),.dc (ci 0),.dc (ci 0),.dc (ci 0),.dc (ci 0),.dc (ci 0),.dc (.slc []),.dc (ci 0)],.one (.dc (ci e))]
theorem aFl(e:Int):dcv (.nil,0,e)=aUK e:=rfl
set_option maxHeartbeats 4000000 in
theorem aOg(o:List Int)(u:Int)(ps:List (List Int))(hps:ps.length<=1000)(hDec:∀ k (hk:k < ps.length),EV G (Tb (Bf G bb)) 213 [sv ps[k]] []=some (rtv (cK ps[k]),[]))
  (q5:EV G (Tb (Bf G bb)) 186 [(iT o (iF ps).1).v] []=some (vi (gW (iT o (iF ps).1)),[])) {st:AS}
  (h0:st=⟨(jk 2 (.one (.ptr 0 0)::jk 2 (vi u::jk 1 (.one (.ptr 1 0)::jk 63 (vl (ps.map Ax)::vi ps.length::vi (0:Nat)::jk 28 []))))),[.box z9,.box (r9 o++[.bld 2 0]),.arr 0 11 []]⟩):
  Br false [.cell 2 true 9,.tmp 3] 0 (sqK (EV G (Tb (Bf G bb))) G Mc (Fy 0 (EL (EV G (Tb (Bf G bb))) G h159l0 [2,2,1,63,0,0] 3 st)))=some (dcv (aJM o u (iF ps)),[]):=by
 have row:∀ k (hk:k < ps.length),(ps.map Ax)[k]?=some (Ax ps[k]):=fun k hk=>by rw[aWl,aWo hk];rfl
 have gd:∀ k (hk:k < ps.length),ps.getD k []=ps[k]:=fun k hk=>by simp[List.getD,hk]
 rw[jH (fun k=>⟨(jk 2 (.one (.ptr 0 0)::jk 2 (vi u::jk 1 (.one (.ptr 1 0)::jk 63 (vl (ps.map Ax)::vi ps.length::vi k::jk 28 []))))),[.box z9,.box (r9 o++[.bld 2 ((ps.take k).map fun p=>(cK p).1.e).length]),.arr 0 11 ((ps.take k).map fun p=>(cK p).1.e)]⟩) (fun k=>(cK (ps.getD k [])).2≠0) ps.length ?_ ?_]
 rotate_left
 ·rw[h0];rfl
 ·intro k hk hn;have hz:=Classical.not_not.1 (hn k (aWj _));rw[gd k hk] at hz;have qd:=hDec k hk;have e:=row k hk;have hb:((ps.take k).map fun p=>(cK p).1.e).length<=1000:=by rw[aWf,aWm];omega
  have hall:fM 11 ((ps.take k).map fun p=>(cK p).1.e)=true:=jZ (f:=fun p=>(cK p).1.e) (fun _=>rfl) _
  have et:(ps.take (k+1)).map (fun p=>(cK p).1.e)=(ps.take k).map (fun p=>(cK p).1.e)++[(cK ps[k]).1.e]:=by
   rw[aXe hk,aWW,aWp,aWw]
  rw[et];clear q5 hDec row gd h0 hn et;have htk:((ps.take k).map fun p=>(cK p).1.e).take ((ps.take k).map fun p=>(cK p).1.e).length=(ps.take k).map fun p=>(cK p).1.e:=aWY
  generalize (ps.take k).map (fun p=>(cK p).1.e)=C at *
  generalize cK ps[k]=d at *;obtain⟨x,z⟩:=d;dsimp only at hz qd ⊢;subst hz;generalize ps[k]=p at *;rw[aWg];simp (disch:=omega) only[go_sem,h159l0,aWf,e,qd,aK.e,hall,htk,aWh,aWk,aWj,aWR,aWL,aWZ]
 obtain⟨hk,hp,hn⟩:=bZ (fun k=>(cK (ps.getD k [])).2≠0) ps.length
 generalize ix (fun k=>(cK (ps.getD k [])).2≠0) ps.length=k at *
 rcases hp with rfl | ⟨hk',hp⟩
 ·have hd:=Q1 ps (fun p hp=>by
   obtain⟨j,hj,rfl⟩:=List.mem_iff_getElem.1 hp;have:=Classical.not_not.1 (hn j hj);rwa[gd j hj] at this)
  have em:(ps.take ps.length).map (fun p=>(cK p).1.e)=(ps.map fun p=>(cK p).1).map aK.e:=by rw[aWY,aWE];rfl
  have hle:((ps.map fun p=>(cK p).1).map aK.e).length=ps.length:=by simp
  have ht:((ps.map fun p=>(cK p).1).map aK.e).take ps.length=(ps.map fun p=>(cK p).1).map aK.e:=aWP (by omega)
  rw[em,hle];rw[hd] at q5 ⊢;unfold aJM;rw[if_neg (not_not_intro rfl)];dsimp only at q5 ⊢;clear hDec row gd h0 hd em hn;generalize (ps.map fun p=>(cK p).1)=L at *
  by_cases c4:gW (iT o L)=0
  ·rw[if_neg (not_not_intro c4)];rw[c4] at q5;simp only[iT,cR.v,cR.c] at q5;generalize eM:L.map aK.e=M at *;simp (disch:=omega) only[go_sem,Mc,sB,h159c,h159l0,aWf,q5,hle,ht,aWj,aWR,aWL];simp only[dcv,iT,cR.c,eM,aWR,aWL]
  ·rw[if_pos c4,aFl];generalize gW (iT o L)=re at *;simp only[iT,cR.v,cR.c] at q5;generalize L.map aK.e=M at *;simp (disch:=omega) only[go_sem,Mc,sB,h159c,h159l0,aWf,q5,c4,hle,ht,aWj,aWR,aWL]
 ·have hd:=Q2 ps k hk' (fun j hj=>Classical.not_not.1 (hn j hj)) hp
  rw[gd k hk'] at hp hd;rw[hd];unfold aJM;dsimp only;rw[if_pos hp,aFl];have qd:=hDec k hk';have e:=row k hk';clear hDec row gd h0 hd hn q5;generalize (ps.take k).map (fun p=>(cK p).1.e)=C at *
  generalize cK ps[k]=d at *;obtain⟨x,z⟩:=d;dsimp only at hp qd ⊢;generalize ps[k]=p at *;simp (disch:=omega) only[go_sem,Mc,sB,h159c,h159l0,aWf,e,qd,aK.e,hp,aWR,aWL]
end
section
variable {G:aF} {bb:Bool}
set_option maxHeartbeats 8000000 in
theorem Q3(hG:G9 G)(s:List Int)(hB:aL s)(hl:s.length<=9223372036854775807):EV G (Tb (Bf G bb)) 159 [sv s] []=some (dcv (jQ s),[]):=by
 refine aA rfl ?_;unfold jQ;by_cases c1:s.length=512
 ·rw[if_neg (not_not_intro c1)];have q1:=up2 (up (aNs (G:=G) (bb:=bb) s c1 hB));by_cases c2:lY s
  ·rw[if_neg (not_not_intro c2)];rw[if_pos c2] at q1;have u0:¬ pP s=0:=c2.1;have ho:=Ap c1;have hoB:=P6 c1 hB;have f1:EV G (Tb (Bf G bb)) 209 [Ik 16 2,sv (iO s)] []=some (vi (gL (iO s) 16 2),[]):=up2 (up (sH (G:=G) (bb:=bb) (iO s) hoB 16 2 (by omega) (by omega) (by omega)));have f2:EV G (Tb (Bf G bb)) 209 [Ik 18 2,sv (iO s)] []=some (vi (gL (iO s) 18 2),[]):=up2 (up (sH (G:=G) (bb:=bb) (iO s) hoB 18 2 (by omega) (by omega) (by omega)));have f3:EV G (Tb (Bf G bb)) 209 [Ik 22 2,sv (iO s)] []=some (vi (gL (iO s) 22 2),[]):=up2 (up (sH (G:=G) (bb:=bb) (iO s) hoB 22 2 (by omega) (by omega) (by omega)));have f4:EV G (Tb (Bf G bb)) 209 [Ik 32 4,sv (iO s)] []=some (vi (gL (iO s) 32 4),[]):=up2 (up (sH (G:=G) (bb:=bb) (iO s) hoB 32 4 (by omega) (by omega) (by omega)));have f5:EV G (Tb (Bf G bb)) 209 [Ik 36 2,sv (iO s)] []=some (vi (gL (iO s) 36 2),[]):=up2 (up (sH (G:=G) (bb:=bb) (iO s) hoB 36 2 (by omega) (by omega) (by omega)));have f6:EV G (Tb (Bf G bb)) 209 [Ik 38 2,sv (iO s)] []=some (vi (gL (iO s) 38 2),[]):=up2 (up (sH (G:=G) (bb:=bb) (iO s) hoB 38 2 (by omega) (by omega) (by omega)));have f7:EV G (Tb (Bf G bb)) 209 [Ik 8 4,sv (iO s)] []=some (vi (gL (iO s) 8 4),[]):=up2 (up (sH (G:=G) (bb:=bb) (iO s) hoB 8 4 (by omega) (by omega) (by omega)));have q2:=up2 (up (Ts (G:=G) (bb:=bb) (iO s) ho hoB));have g1:=hG.sq;have g2:=hG.li;have g3:=hG.fl;have g4:=hG.ba;have g5:=hG.bo;have g6:=hG.nx;have g7:=hG.ls;cases hq:Av ((iO s).drop 64) with
   | none=>
    rw[hq] at q2;generalize pP s=u at *;simp (maxSteps:=2000000) (disch:=omega) only[go_sem,h159c,aC,c1,q1,u0,g1,g2,g3,g4,g5,g6,g7,f1,f2,f3,f4,f5,f6,f7,q2,cR.nil]
    all_goals rfl
   | some ps=>
    rw[hq] at q2;obtain⟨h1,h2,h3,h4⟩:=aEN c1 hB hq;have q3:=aJk (G:=G) (bb:=bb) ps (by omega) (by omega);have q4:=up2 (up (W8 (G:=G) (bb:=bb) hG (iT (iO s) []) ps.flatten (aOf ho hoB []) h2 h4));have eS:=gJ (Hk (iT (iO s) []) (68+(ps.flatten.length:Int)) ps.flatten h4) hoB;have hdW:=aR3 c1 hB hq;have eD:aEJ s ps=if jI (iT (iO s) []) (68+(ps.flatten.length:Int)) ps.flatten≠iO s then (.nil,0,3) else aJM (iO s) (pP s) (iF ps):=rfl
    dsimp only;rw[eD];clear eD;by_cases c3:jI (iT (iO s) []) (68+(ps.flatten.length:Int)) ps.flatten=iO s
    ·rw[if_neg (not_not_intro c3)];rw[eq_true c3] at eS;have c3':=c3;have hps:ps.length<=1000:=by omega
     have hDec:∀ k (hk:k < ps.length),EV G (Tb (Bf G bb)) 213 [sv ps[k]] []=some (rtv (cK ps[k]),[]):=fun k hk=>by
      obtain⟨b1,b2,_⟩:=h1 _ (aWq hk);exact up2 (up (aAA (G:=G) (bb:=bb) ps[k] b1 b2))
     have q5:=up2 (sK (G:=G) (bb:=bb) (iT (iO s) (iF ps).1) hdW);clear h1 h2 h3 h4 hdW c3 hq;generalize ps.flatten=fl at *;generalize jI (iT (iO s) []) (68+(fl.length:Int)) fl=Y at *;simp only[iT,cR.v,cR.c,aWw] at q4;generalize pP s=u at *;simp (maxSteps:=2000000) (disch:=omega) only[go_sem,h159c,aC,c1,q1,u0,g1,g2,g3,g4,g5,g6,g7,f1,f2,f3,f4,f5,f6,f7,q2,q3,q4,eS,aMP,aWf];exact aOg (iO s) u ps hps hDec q5 rfl
    ·rw[if_pos c3];rw[eq_false c3] at eS;generalize ps.flatten=fl at *;generalize jI (iT (iO s) []) (68+(fl.length:Int)) fl=Y at *;simp only[iT,cR.v,cR.c,aWw] at q4;generalize pP s=u at *;simp (maxSteps:=2000000) (disch:=omega) only[go_sem,h159c,aC,c1,q1,u0,g1,g2,g3,g4,g5,g6,g7,f1,f2,f3,f4,f5,f6,f7,q2,q3,q4,eS,aMP,cR.nil]
     all_goals rfl
  ·rw[if_pos c2];rw[if_neg c2] at q1;simp (maxSteps:=2000000) (disch:=omega) only[go_sem,h159c,aC,c1,q1,cR.nil]
   all_goals rfl
 ·rw[if_pos c1];have c1':¬ (s.length:Int)=512:=by omega
  simp (maxSteps:=2000000) (disch:=omega) only[go_sem,h159c,aC,c1',cR.nil]
  all_goals rfl
end
section
variable {G:aF} {bb:Bool}
noncomputable def T5(p q:List Int):cR × Int × Int:=if (jQ p).2.2=0 then jQ p else if (jQ q).2.2=0 then jQ q else jQ p
set_option maxHeartbeats 2000000 in
theorem Hv(hG:G9 G)(x:Bt)(d6 d7 d9:DC)(s:List Int)(hB:aL s)(N a b c d:Nat)(hN:s.length=N)(h0:a * 256+256<=N)(h1:b * 256+256<=N)(h2:c * 256+256<=N)(h3:d * 256+256<=N)(hl:N<=200000):
  EV G (Tb (eI G bb)) 138 [.one (.ptr 0 0),pr2 a b,pr2 c d] [uX x d6 d7 N d9,yb s]=some (dcv (T5 (Dw s a b) (Dw s c d)),[uX x d6 d7 N d9,yb s]):=by
 have q1:=Qy (G:=G) (B:=eI G bb) x d6 d7 d9 s hB N a b hN h0 h1 hl;have q2:=Qy (G:=G) (B:=eI G bb) x d6 d7 d9 s hB N c d hN h2 h3 hl;have r1:=upT (Q3 (bb:=bb) hG (Dw s a b) (A5 hB a b) (by rw[Xf (by omega) (by omega)];omega));have r2:=upT (Q3 (bb:=bb) hG (Dw s c d) (A5 hB c d) (by rw[Xf (by omega) (by omega)];omega));unfold T5;generalize Dw s a b=P at *;generalize Dw s c d=Q at *;generalize jQ P=X at *;generalize jQ Q=Y at *;obtain⟨r,u,e⟩:=X;obtain⟨r',u',e'⟩:=Y;refine aA rfl ?_;by_cases c1:e=0
 ·rw[if_pos c1];simp (maxSteps:=2000000) (disch:=omega) only[go_sem,h138c,q1,r1,c1];rfl
 ·rw[if_neg c1];by_cases c2:e'=0
  ·rw[if_pos c2];simp (maxSteps:=2000000) (disch:=omega) only[go_sem,h138c,q1,r1,q2,r2,c1,c2];rfl
  ·rw[if_neg c2];simp (maxSteps:=2000000) (disch:=omega) only[go_sem,h138c,q1,r1,q2,r2,c1,c2];rfl
end
section
variable {G:aF} {B:aO}
theorem aOh(fn:Nat)(p:aK->Bool)(l:List aK)(hl:l.length<=1000000)(hq:∀ a∈l,EV G (Tb B) fn [a.v] []=some (vb (p a),[])):
  EV G (Tb B) 150 [vl (l.map aK.e),.one (.fn fn [])] []=some (vi (lI p l),[]):=by
 refine aA rfl ?_;simp (disch:=omega) only[go_sem,h150c,aWf];unfold lI;rw[jH (fun k=>⟨(vl (l.map aK.e)::.one (.fn fn [])::jk 5 (vi l.length::vi k::jk 10 [])),[]⟩) (fun k=>p (l.getD k aK.nil)=true) l.length ?_ ?_]
 rotate_left
 ·rfl
 ·intro k hk hn;have h3:=hn k (aWj _);rw[gZ l k hk] at h3;have h4:p l[k]=false:=by simpa using h3
  have q:=hq l[k] (aWq hk);rw[h4] at q;simp (disch:=omega) only[go_sem,h150l0,aWf,ixA,aK.e,q]
 obtain⟨hk,hp,hn⟩:=bZ (fun k=>p (l.getD k aK.nil)=true) l.length
 generalize ix (fun k=>p (l.getD k aK.nil)=true) l.length=k at *
 rcases hp with rfl | ⟨hk',hp⟩
 ·rw[if_pos rfl];simp (disch:=omega) only[go_sem,h150l0,aWf]
 ·rw[if_neg (by omega)];rw[gZ l k hk'] at hp;have q:=hq l[k] (aWq hk');rw[hp] at q;simp (disch:=omega) only[go_sem,h150l0,aWf,ixA,aK.e,q]
noncomputable def T6(p:bF->Bool)(l:List bF):Int:=if ix (fun k=>p (l.getD k ⟨0,0⟩)=true) l.length=l.length then -1 else (ix (fun k=>p (l.getD k ⟨0,0⟩)=true) l.length:Nat)
theorem Q4(p:bF->Bool)(l:List bF):decide (0<=T6 p l)=l.any p:=by
 unfold T6;obtain⟨hk,hp,hn⟩:=bZ (fun k=>p (l.getD k ⟨0,0⟩)=true) l.length
 generalize ix (fun k=>p (l.getD k ⟨0,0⟩)=true) l.length=k at *
 rcases hp with rfl | ⟨hk',hp⟩
 ·rw[if_pos rfl]
  symm
  rw[show decide ((0:Int)<=-1)=false from rfl,aXE]
  intro x hx;obtain⟨j,hj,rfl⟩:=List.getElem_of_mem hx;have:=hn j hj;rw[C3 l j hj] at this;exact this
 ·rw[if_neg (by omega),decide_eq_true (by omega)];rw[C3 l k hk'] at hp;exact (List.any_eq_true.2 ⟨_,aWq hk',hp⟩).symm
theorem aJN(fn:Nat)(p:bF->Bool)(l:List bF)(hl:l.length<=1000000)(hq:∀ r:bF,EV G (Tb B) fn [r.v] []=some (vb (p r),[])):
  EV G (Tb B) 121 [gF l,.one (.fn fn [])] []=some (vb (l.any p),[]):=by
 have q:EV G (Tb B) 163 [gF l,.one (.fn fn [])] []=some (vi (T6 p l),[]):=Pn (G:=G) (B:=B) p fn hq l hl;rw[<- Q4];generalize T6 p l=I at *;refine aA rfl ?_;simp (disch:=omega) only[go_sem,h121c,q,ge_iff_le]
theorem aOi(fn:Nat)(ds:List DC)(p:bF->Bool)(l:List bF)(hl:l.length<=1000000)(hq:∀ r∈l,EV G (Tb B) fn [r.v,.one (.ptr 0 0)] [.box (ds.map aR.dc)]=some (vb (p r),[.box (ds.map aR.dc)])):
  EV G (Tb B) 163 [gF l,.one (.fn fn [.ptr 0 0])] [.box (ds.map aR.dc)]=some (vi (T6 p l),[.box (ds.map aR.dc)]):=by
 refine aA rfl ?_;simp (disch:=omega) only[go_sem,h163c,aWf,nP,nQ,nR,nS,kS];unfold T6;rw[jH (fun k=>⟨(gF l::.one (.fn fn [.ptr 0 0])::jk 5 (vi l.length::vi k::jk 10 [])),[.box (ds.map aR.dc)]⟩) (fun k=>p (l.getD k ⟨0,0⟩)=true) l.length ?_ ?_]
 rotate_left
 ·rfl
 ·intro k hk hn;have h3:=hn k (aWj _);rw[C3 l k hk] at h3;have h4:p l[k]=false:=by simpa using h3
  have q:=hq l[k] (aWq hk);rw[h4] at q;simp (disch:=omega) only[go_sem,h163l0,aWf,bF.e,q,nP,nQ,nR,nS,kS]
 obtain⟨hk,hp,hn⟩:=bZ (fun k=>p (l.getD k ⟨0,0⟩)=true) l.length
 generalize ix (fun k=>p (l.getD k ⟨0,0⟩)=true) l.length=k at *
 rcases hp with rfl | ⟨hk',hp⟩
 ·rw[if_pos rfl];simp (disch:=omega) only[go_sem,h163l0,aWf,nP,nQ,nR,nS,kS]
 ·rw[if_neg (by omega)];rw[C3 l k hk'] at hp;have q:=hq l[k] (aWq hk');rw[hp] at q;simp (disch:=omega) only[go_sem,h163l0,aWf,bF.e,q,nP,nQ,nR,nS,kS]
theorem aJO(fn:Nat)(ds:List DC)(p:bF->Bool)(l:List bF)(hl:l.length<=1000000)(hq:∀ r∈l,EV G (Tb B) fn [r.v,.one (.ptr 0 0)] [.box (ds.map aR.dc)]=some (vb (p r),[.box (ds.map aR.dc)])):
  EV G (Tb B) 121 [gF l,.one (.fn fn [.ptr 0 0])] [.box (ds.map aR.dc)]=some (vb (l.any p),[.box (ds.map aR.dc)]):=by
 have q:=aOi (G:=G) (B:=B) fn ds p l hl hq;rw[<- Q4];generalize T6 p l=I at *;refine aA rfl ?_;simp (disch:=omega) only[go_sem,h121c,q,ge_iff_le,nP,nQ,nR,nS,kS]
def nY(a:aK):Bool:=decide (a.ty=128)&&decide (a.nm=[])
theorem aFm(a:aK):EV G (Tb B) 151 [a.v] []=some (vb (nY a),[]):=by
 have e:=T2 a.nm;unfold nY;refine aA rfl ?_;by_cases c:a.ty=128
 ·simp (disch:=omega) only[go_sem,h151c,eq_true c,e,decide_true,aWN]
 ·simp (disch:=omega) only[go_sem,h151c,c,decide_false,aWU]
theorem aOj(r:bF):EV G (Tb B) 152 [r.v] []=some (vb (decide (r.s=-1)),[]):=by
 refine aA rfl ?_;simp (disch:=omega) only[go_sem,h152c]
theorem aFn(r:bF)(x:Bt)(h:-1000000<=r.s/\r.s<=1000000)(h':-1000000<=r.n/\r.n<=1000000):EV G (Tb B) 153 [r.v,.one (.ptr 0 0)] [x.o]=some (vb (decide (r.s+r.n > x.cl)),[x.o]):=by
 have q:=nV (G:=G) (B:=B) r.s r.n h h';refine aA rfl ?_;simp (disch:=omega) only[go_sem,h153c,q]
theorem T7(l:List aK)(hl:l.length<=1000000):EV G (Tb B) 150 [vl (l.map aK.e),.one (.fn 151 [])] []=some (vi (lI nY l),[]):=aOh _ _ l hl (fun a _=>aFm a)
theorem Xh(l:List bF)(hl:l.length<=1000000):EV G (Tb B) 121 [gF l,.one (.fn 152 [])] []=some (vb (l.any fun r=>decide (r.s=-1)),[]):=aJN _ _ l hl aOj
abbrev Bt.d(x:Bt):List DC:=[ci x.cl,ci x.tb,ci x.mi,ci x.lg,ci x.lc,ci x.se]
theorem Xi(l:List bF)(x:Bt)(hl:l.length<=1000000)(h:∀ r∈l,(-1000000<=r.s/\r.s<=1000000)/\(-1000000<=r.n/\r.n<=1000000)):EV G (Tb B) 121 [gF l,.one (.fn 153 [.ptr 0 0])] [x.o]=some (vb (l.any fun r=>decide (r.s+r.n > x.cl)),[x.o]):=
 aJO _ x.d _ l hl (fun r hr=>aFn r x (h r hr).1 (h r hr).2)
end
section
variable {G:aF} {bb:Bool}
abbrev tE(e:Int):TV:=.one (.dc (ci e))
abbrev ptN:TV:=.one (.dc (.raw (.pointer none)))
theorem aFo{a b:Nat}{x y:Int}(h:(a:Int)=x)(h':(b:Int)=y):pr2 a b=prI x y:=by subst h;subst h';rfl
set_option maxHeartbeats 4000000 in
theorem aJP(s:List Int)(hB:aL s)(hl:s.length<=200000)(h:(cH s).2.2≠0):EV G (Tb (eI G bb)) 104 [sv s] []=some (.tup [ptN,tE (cH s).2.2],[]):=by
 have q:=A3 (G:=G) (B:=eI G bb) nX s hB hl;generalize cH s=V at *;obtain⟨x,a,e⟩:=V;refine aA rfl ?_;simp (maxSteps:=2000000) (disch:=omega) only[go_sem,h104c,q,h,Bt.cs]
structure Pre (G:aF) (bb:Bool) (s:List Int) (x:Bt) (r:cR) (u e:Int):Prop where
 hB:aL s
 pos:0 < s.length
 len:s.length<=200000
 q:∃ a,EV G (Tb (eI G bb)) 29 [sv s] []=some (.tup [.agg x.cs,tI a,tI 0],[])
 nT:EV G (Tb (eI G bb)) 100 [vi x.tb] []=some (prI x.tb (x.tb+1),[])
 nM:EV G (Tb (eI G bb)) 100 [vi x.mi] []=some (prI x.mi (x.mi+1),[])
 ei:EV G (Tb (eI G bb)) 138 [.one (.ptr 0 0),prI x.tb (x.tb+1),prI x.mi (x.mi+1)] [uX x (.raw (.slice none 0 0)) (.raw (.int .i64 0)) s.length (.raw (.slice none 0 0)),yb s]=some (dcv (r,u,e),[uX x (.raw (.slice none 0 0)) (.raw (.int .i64 0)) s.length (.raw (.slice none 0 0)),yb s])
def blT(s:List Int)(x:Bt):List Int:=Dw s x.tb.toNat (x.tb.toNat+1)
def blM(s:List Int)(x:Bt):List Int:=Dw s x.mi.toNat (x.mi.toNat+1)
theorem aFp(hG:G9 G)(s:List Int)(hB:aL s)(hl:s.length<=200000)(h:(cH s).2.2=0)(hx:(0<=(cH s).1.tb/\(cH s).1.tb * 256+512<=s.length)/\(0<=(cH s).1.mi/\(cH s).1.mi * 256+512<=s.length)):
  Pre G bb s (cH s).1 (T5 (blT s (cH s).1) (blM s (cH s).1)).1 (T5 (blT s (cH s).1) (blM s (cH s).1)).2.1 (T5 (blT s (cH s).1) (blM s (cH s).1)).2.2:=by
 have q:=A3 (G:=G) (B:=eI G bb) nX s hB hl;generalize cH s=V at *;obtain⟨x,a,e⟩:=V;simp only at h hx q ⊢;subst h;obtain⟨T,hT⟩:∃ T:Nat,x.tb=T:=⟨x.tb.toNat,by omega⟩;obtain⟨M,hM⟩:∃ M:Nat,x.mi=M:=⟨x.mi.toNat,by omega⟩;have eT:x.tb.toNat=T:=by omega
 have eM:x.mi.toNat=M:=by omega
 have ei:=Hv (G:=G) (bb:=bb) hG x (.raw (.slice none 0 0)) (.raw (.int .i64 0)) (.raw (.slice none 0 0)) s hB s.length T (T+1) M (M+1) rfl (by omega) (by omega) (by omega) (by omega) hl;rw[aFo (x:=x.tb) (y:=x.tb+1) (by omega) (by omega),aFo (x:=x.mi) (y:=x.mi+1) (by omega) (by omega),<- eT,<- eM] at ei;exact⟨hB,by omega,hl,⟨a,q⟩,Hu _ (by omega),Hu _ (by omega),ei⟩
set_option maxHeartbeats 8000000 in
theorem aJQ{s:List Int}{x:Bt}{r:cR}{u e:Int}(hp:Pre G bb s x r u e)(hE:e≠0):EV G (Tb (eI G bb)) 104 [sv s] []=some (.tup [ptN,tE e],[]):=by
 obtain⟨hB,hpos,hl,⟨a,q⟩,nT,nM,ei⟩:=hp;have hD:=kQ s hB;have hEn:=G2 (b:=s) rfl hpos;have hF:=sC s;refine aA rfl ?_;simp (maxSteps:=2000000) (disch:=omega) only[go_sem,h104c,q,Bt.cs,hD,hEn,hF,aC,aWf,nT,nM,ei,hE]
set_option maxHeartbeats 8000000 in
theorem aJR{s:List Int}{x:Bt}{r:cR}{u:Int}(hp:Pre G bb s x r u 0)(hrl:r.ats.length<=1000000)(hI:lI nY r.ats < 0):EV G (Tb (eI G bb)) 104 [sv s] []=some (.tup [ptN,tE 6],[]):=by
 obtain⟨hB,hpos,hl,⟨a,q⟩,nT,nM,ei⟩:=hp;have hD:=kQ s hB;have hEn:=G2 (b:=s) rfl hpos;have hF:=sC s;have qi:=T7 (G:=G) (B:=eI G bb) r.ats hrl;generalize lI nY r.ats=I at *;refine aA rfl ?_;simp (maxSteps:=2000000) (disch:=omega) only[go_sem,h104c,q,Bt.cs,hD,hEn,hF,aC,aWf,nT,nM,ei,qi,hI]
def Md(x:Bt)(a:aK):Int:=aQ [oH (!a.res&&decide (a.fi=0)) 15,oH (!a.rs.any fun r=>decide (r.s=-1)) 14,oH (!a.rs.any fun r=>decide (r.s+r.n > x.cl)) 37]
theorem Hw{B:aO}(a b c:Int):EV G (Tb B) 61 [vl [[ci a],[ci b],[ci c]]] []=some (vi (aQ [a,b,c]),[]):=Ql [a,b,c] (by simp)
set_option maxHeartbeats 16000000 in
theorem aJS{s:List Int}{x:Bt}{r:cR}{u:Int}(hp:Pre G bb s x r u 0)(hrl:r.ats.length<=1000000)(K:Nat)(hK:K < r.ats.length)(hI:lI nY r.ats=K)(hl2:r.ats[K].rs.length<=1000000)(hr:∀ q∈r.ats[K].rs,(-1000000<=q.s/\q.s<=1000000)/\(-1000000<=q.n/\q.n<=1000000))
  (hE:Md x r.ats[K]≠0):EV G (Tb (eI G bb)) 104 [sv s] []=some (.tup [ptN,tE (Md x r.ats[K])],[]):=by
 obtain⟨hB,hpos,hl,⟨a,q⟩,nT,nM,ei⟩:=hp;have hD:=kQ s hB;have hEn:=G2 (b:=s) rfl hpos;have hF:=sC s;have qi:=T7 (G:=G) (B:=eI G bb) r.ats hrl;rw[hI] at qi;have w:=gS (G:=G) (B:=eI G bb);have f3:=Hw (G:=G) (B:=eI G bb);have hx:=ixA r.ats K hK;unfold Md at hE ⊢;generalize r.ats[K]=A at *;have c1:=Xh (G:=G) (B:=eI G bb) A.rs hl2;have c2:=Xi (G:=G) (B:=eI G bb) A.rs x hl2 hr;generalize (A.rs.any fun r=>decide (r.s=-1))=H1 at *
 generalize (A.rs.any fun r=>decide (r.s+r.n > x.cl))=H2 at *
 have hp0:(0:Int)<=(K:Int):=by omega
 refine aA rfl ?_;cases hres:A.res
 ·rw[hres] at hE;by_cases hfi:A.fi=0
  ·rw[decide_eq_true hfi] at hE ⊢;have hE2:¬ aQ [oH true 15,oH (!H1) 14,oH (!H2) 37]=0:=hE;simp (maxSteps:=2000000) (disch:=omega) only[go_sem,h104c,q,Bt.cs,hD,hEn,hF,aC,aWf,nT,nM,ei,qi,hx,aK.e,hres,hfi,c1,c2,w,f3,hE2,aWO,aWS,aWN,aWU]
  ·rw[decide_eq_false hfi] at hE ⊢;have hE2:¬ aQ [oH false 15,oH (!H1) 14,oH (!H2) 37]=0:=hE;simp (maxSteps:=2000000) (disch:=omega) only[go_sem,h104c,q,Bt.cs,hD,hEn,hF,aC,aWf,nT,nM,ei,qi,hx,aK.e,hres,hfi,c1,c2,w,f3,hE2,aWO,aWS,aWN,aWU,Bool.and_false]
 ·rw[hres] at hE;have hE2:¬ aQ [oH false 15,oH (!H1) 14,oH (!H2) 37]=0:=hE;simp (maxSteps:=2000000) (disch:=omega) only[go_sem,h104c,q,Bt.cs,hD,hEn,hF,aC,aWf,nT,nM,ei,qi,hx,aK.e,hres,c1,c2,w,f3,hE2,aWO,aWS,aWN,aWU]
end
section
variable {G:aF} {bb:Bool}
theorem aOl(x:Bt)(d6 d7:DC)(N:Nat)(cl:List Int)(s:List Int)(hx:(-1000000<=x.mi/\x.mi<=1000000)/\2<=x.cl/\x.cl<=1000000)(hl:cl.length<=1000000):
  EV G (Tb (eI G bb)) 154 [.one (.ptr 0 0)] [uX x d6 d7 N (.slc (el cl)),yb s]=some (vb (A4 x cl),[uX x d6 d7 N (.slc (el cl)),yb s]):=aSk x d6 d7 N cl s hx hl
theorem A6{B:aO}(x:Bt)(d6 d7:DC)(N:Nat)(cl:List Int)(s:List Int)(n:Nat)(h:2 * n+2<=cl.length)(hl:cl.length<=1000000):
  EV G (Tb B) 85 [.one (.ptr 0 0),vi n] [uX x d6 d7 N (.slc (el cl)),yb s]=some (prI (cl.getD (2 * n) 0) (cl.getD (2 * n+1) 0),[uX x d6 d7 N (.slc (el cl)),yb s]):=aFj x d6 d7 N cl s n h hl
def clE(x:Bt)(cl:List Int):Int:=aQ [oH (!A4 x cl) 13,oH (decide (cl.length % 2=0)&&decide (16<=cl.length / 2/\cl.length / 2<=96)) 2,oH (decide (2<=cl.length)&&decide (cl.getD 0 0=x.tb/\cl.getD 1 0=x.tb+1)) 9]
abbrev rc9(r:cR)(u:Int):List aR:=[.dc (ci r.sq),.dc (ci r.li),.dc (ci r.fl),.dc (ci r.br),.dc (ci r.bq),.dc (ci r.nx),.dc (ci r.ls),.dc (.slc (r.ats.map aK.e)),.dc (ci u)]
abbrev opH(x:Bt)(r:cR)(u:Int)(s:List Int)(rs:List bF)(cl:List Int):List aD:=[x.o,yb s,uX x (.slc (rs.map bF.e)) (ci (cl.length / 2:Nat)) s.length (.slc (el cl)),.box (rc9 r u),.dead]
abbrev opB(x:Bt)(N:Nat)(rs:List bF)(n:Nat):aD:=.box [.dc (ci x.cl),.dc (ci x.tb),.dc (ci x.mi),.dc (ci x.lg),.dc (ci x.lc),.dc (ci x.se),.dc (.slc (rs.map bF.e)),.dc (ci 0),.bls 1 0 N 1,.bld 4 n]
theorem aSq(q:bF)(h:q.s≠-1)(n:Nat):Gg q (n+1)=Gg q n++[q.s+n]:=by rw[aDB,if_neg h]
set_option maxHeartbeats 4000000 in
theorem aUL(x:Bt)(r:cR)(u:Int)(s:List Int)(rs:List bF)(k:Nat)(q:bF)(hq:-1<=q.s/\q.s<=1000)(D:List Int)(hD:D.length<=1000000)(j:Nat)(hj:j < q.n.toNat)(hn:q.n<=100000000):
  K1 [4,2,6,93,0,0,4,0] 6 (EC (EV G (Tb (eI G bb))) G h104l0 ⟨(jk 4 (.one (.ptr 0 0)::jk 2 (.one (.ptr 2 0)::jk 6 (.one (.ptr 5 0)::jk 93 (gF rs::vi rs.length::vi k::jk 4 (vi q.n::vi j::jk 59 [])))))),[x.o,yb s,opB x s.length rs D.length,.box (rc9 r u),.arr 0 1 (el D),.box [.dc (ci q.s),.dc (ci q.n)]]⟩)=
   some ⟨(jk 4 (.one (.ptr 0 0)::jk 2 (.one (.ptr 2 0)::jk 6 (.one (.ptr 5 0)::jk 93 (gF rs::vi rs.length::vi k::jk 4 (vi q.n::vi (j+1:Nat)::jk 59 [])))))),[x.o,yb s,opB x s.length rs (D++[q.s+j]).length,.box (rc9 r u),.arr 0 1 (el (D++[q.s+j])),.box [.dc (ci q.s),.dc (ci q.n)]]⟩:=by
 have hlt:(j:Int) < q.n:=by omega
 have e:List.take D.length (List.map Gc D)=List.map Gc D:=aWP (by rw[aWf];exact aWj _);simp (maxSteps:=2000000) (disch:=omega) only[go_sem,h104l0,aWf,hlt,aRN,aWg,jP,nJ,e]
set_option maxHeartbeats 4000000 in
theorem aSr(x:Bt)(r:cR)(u:Int)(s:List Int)(rs:List bF)(hf:Ag rs)(hh:∀ q∈rs,q.s≠-1)(hls:cD rs<=100000)(k:Nat)(hk:k < rs.length):
  K1 [4,2,100,0,0] 5 (EC (EV G (Tb (eI G bb))) G h104l1 ⟨(jk 4 (.one (.ptr 0 0)::jk 2 (.one (.ptr 2 0)::jk 100 (gF rs::vi rs.length::vi k::jk 65 [])))),[x.o,yb s,opB x s.length rs (Gi (rs.take k)).length,.box (rc9 r u),.arr 0 1 (el (Gi (rs.take k)))]⟩)=
   some ⟨(jk 4 (.one (.ptr 0 0)::jk 2 (.one (.ptr 2 0)::jk 100 (gF rs::vi rs.length::vi (k+1:Nat)::jk 65 [])))),[x.o,yb s,opB x s.length rs (Gi (rs.take (k+1))).length,.box (rc9 r u),.arr 0 1 (el (Gi (rs.take (k+1))))]⟩:=by
 have h1:=hf.el _ (aWq hk);have h2:=hf.n_le (aWq hk);have h3:=Wd (rs.take k) (fun r hr=>(hf.el r (aWF hr)).2.2)
 have h4:=hY rs k (fun r hr=>(hf.el r hr).2.2)
 have hs:=hh _ (aWq hk);have hln:=hf.len;have h6:=sY rs k hk;have h7:=hY rs (k+1) (fun r hr=>(hf.el r hr).2.2)
 rw[aDC rs k hk];generalize Gi (rs.take k)=C at *;simp (maxSteps:=2000000) (disch:=omega) only[go_sem,h104l1,aWf,jP,nJ,bF.e];rw[aU (fun j=>⟨(jk 4 (.one (.ptr 0 0)::jk 2 (.one (.ptr 2 0)::jk 6 (.one (.ptr 5 0)::jk 93 (gF rs::vi rs.length::vi k::jk 4 (vi rs[k].n::vi j::jk 59 [])))))),[x.o,yb s,opB x s.length rs (C++Gg rs[k] j).length,.box (rc9 r u),.arr 0 1 (el (C++Gg rs[k] j)),.box [.dc (ci rs[k].s),.dc (ci rs[k].n)]]⟩) rs[k].n.toNat ?_ ?_]
 ·have hx:((rs[k].n.toNat:Nat):Int)=rs[k].n:=by omega
  simp (maxSteps:=2000000) (disch:=omega) only[go_sem,h104l0,aWf,bF.e,hx,jP,nJ]
 ·simp[Gg,jk]
 ·intro j hj;have hlen:(C++Gg rs[k] j).length=C.length+j:=by simp[Gg]
  rw[aSq rs[k] hs,<- aWv];exact aUL x r u s rs k rs[k] (by omega) (C++Gg rs[k] j) (by omega) j hj (by omega)
set_option maxHeartbeats 32000000 in
theorem aOm{s:List Int}{x:Bt}{r:cR}{u:Int}(hp:Pre G bb s x r u 0)(hrl:r.ats.length<=1000000)(K:Nat)(hK:K < r.ats.length)(hI:lI nY r.ats=K)(hf:Ag r.ats[K].rs)(hx:(0<=x.mi/\x.mi<=1000)/\2<=x.cl/\x.cl<=1000)(hls:cD r.ats[K].rs<=100000)(hr:∀ q∈r.ats[K].rs,q.n<=100000)
  (hE:Md x r.ats[K]=0):EV G (Tb (eI G bb)) 104 [sv s] []=some (.tup [.one (.ptr 2 0),tE (clE x (Gi r.ats[K].rs))],opH x r u s r.ats[K].rs (Gi r.ats[K].rs)):=by
 obtain⟨hB,hpos,hl,⟨a,q⟩,nT,nM,ei⟩:=hp;have hD:=kQ s hB;have hEn:=G2 (b:=s) rfl hpos;have hF:=sC s;have qi:=T7 (G:=G) (B:=eI G bb) r.ats hrl;rw[hI] at qi;have w:=gS (G:=G) (B:=eI G bb);have f3:=Hw (G:=G) (B:=eI G bb);have hxx:=ixA r.ats K hK;unfold Md at hE;generalize r.ats[K]=A at *;have hl2:A.rs.length<=1000000:=by have:=hf.len;omega
 have c1:=Xh (G:=G) (B:=eI G bb) A.rs hl2;have c2:=Xi (G:=G) (B:=eI G bb) A.rs x hl2 (fun q hq=>by have:=hf.el q hq;have:=hr q hq;omega)
 have hp0:(0:Int)<=(K:Int):=by omega
 have e1:A.res=false/\A.fi=0/\(A.rs.any fun r=>decide (r.s=-1))=false/\(A.rs.any fun r=>decide (r.s+r.n > x.cl))=false:=by
  cases h5:A.res
  ·by_cases h6:A.fi=0
   ·rw[h5,decide_eq_true h6] at hE;refine⟨rfl,h6, ?_⟩;revert hE;cases (A.rs.any fun r=>decide (r.s=-1))<;>cases (A.rs.any fun r=>decide (r.s+r.n > x.cl))<;>simp[oH,aQ]
   ·rw[h5,decide_eq_false h6] at hE;revert hE;cases (A.rs.any fun r=>decide (r.s=-1))<;>cases (A.rs.any fun r=>decide (r.s+r.n > x.cl))<;>simp[oH,aQ]
  ·rw[h5] at hE;revert hE;cases (A.rs.any fun r=>decide (r.s=-1))<;>cases (A.rs.any fun r=>decide (r.s+r.n > x.cl))<;>simp[oH,aQ]
 obtain⟨hres,hfi,h3,h4⟩:=e1;rw[h3] at c1;rw[h4] at c2;have e0:aQ [oH true 15,oH true 14,oH true 37]=0:=rfl;refine aA rfl ?_;simp (maxSteps:=2000000) (disch:=omega) only[go_sem,h104c,q,Bt.cs,hD,hEn,hF,aC,aWf,nT,nM,ei,qi,hxx,aK.e,hres,hfi,c1,c2,w,f3,e0,aWO,aWS,aWN,aWU];rw[aU (fun k=>⟨(jk 4 (.one (.ptr 0 0)::jk 2 (.one (.ptr 2 0)::jk 100 (gF A.rs::vi A.rs.length::vi k::jk 65 [])))),[x.o,yb s,opB x s.length A.rs (Gi (A.rs.take k)).length,.box (rc9 r u),.arr 0 1 (el (Gi (A.rs.take k)))]⟩) A.rs.length ?_ ?_]
 rotate_left
 ·rfl
 ·exact fun k hk=>aSr x r u s A.rs hf (fun q hq e=>by
   have:=aXE.1 h3 q hq;simp[e] at this) hls k hk
 clear q hD hEn hF qi ei c1 c2 hxx e0 f3;have f3:=Hw (G:=G) (B:=eI G bb);have lc:=Wd A.rs (fun r hr=>(hf.el r hr).2.2)
 rw[aWY];generalize Gi A.rs=C at *;have hcl:=aOl (G:=G) (bb:=bb) x (.slc (A.rs.map bF.e)) (ci (C.length / 2:Nat)) s.length C s (by omega) (by omega);unfold clE;generalize A4 x C=CB at *;have hrem:(C.length:Int).tmod 2=((C.length % 2:Nat):Int):=Ch C.length 2;have hdiv:(C.length:Int).tdiv 2=((C.length / 2:Nat):Int):=L8 C.length 2;have wt:=jD (G:=G) (B:=eI G bb) (C.length / 2:Nat) 16 96;have eW:decide ((16:Int)<=(C.length / 2:Nat)/\((C.length / 2:Nat):Int)<=96)=decide (16<=C.length / 2/\C.length / 2<=96):=by rw[decide_eq_decide];omega
 rw[eW] at wt;generalize decide (16<=C.length / 2/\C.length / 2<=96)=W at *;by_cases g1:C.length % 2=0
 ·have g1':((C.length % 2:Nat):Int)=0:=by omega
  rw[decide_eq_true g1,aWN];by_cases g2:2<=C.length
  ·have g2':(C.length:Int)≥2:=by omega
   rw[decide_eq_true g2,aWN];have pl:EV G (Tb (eI G bb)) 85 [.one (.ptr 0 0),vi 0] [uX x (.slc (A.rs.map bF.e)) (ci (C.length / 2:Nat)) s.length (.slc (el C)),yb s]=some (prI (C.getD 0 0) (C.getD 1 0),[uX x (.slc (A.rs.map bF.e)) (ci (C.length / 2:Nat)) s.length (.slc (el C)),yb s]):=A6 x _ _ _ C s 0 (by omega) (by omega);generalize C.getD 0 0=y0 at *;generalize C.getD 1 0=y1 at *;by_cases g3:y0=x.tb
   ·by_cases g4:y1=x.tb+1
    ·rw[decide_eq_true (And.intro g3 g4)];simp (maxSteps:=2000000) (disch:=omega) only[go_sem,h104l1,aWf,jP,nJ,hrem,hdiv,g1',eq_true g2',hcl,pl,nT,w,wt,f3,eq_true g3,eq_true g4]
    ·rw[decide_eq_false (fun h=>g4 h.2)]
     simp (maxSteps:=2000000) (disch:=omega) only[go_sem,h104l1,aWf,jP,nJ,hrem,hdiv,g1',eq_true g2',hcl,pl,nT,w,wt,f3,eq_true g3,g4]
   ·rw[decide_eq_false (fun h=>g3 h.1)]
    simp (maxSteps:=2000000) (disch:=omega) only[go_sem,h104l1,aWf,jP,nJ,hrem,hdiv,g1',eq_true g2',hcl,pl,nT,w,wt,f3,g3]
  ·have g2':¬ (C.length:Int)≥2:=by omega
   rw[decide_eq_false g2,aWU];simp (maxSteps:=2000000) (disch:=omega) only[go_sem,h104l1,aWf,jP,nJ,hrem,hdiv,g1',g2',hcl,w,wt,f3]
 ·have g1':¬ ((C.length % 2:Nat):Int)=0:=by omega
  rw[decide_eq_false g1,aWU];by_cases g2:2<=C.length
  ·have g2':(C.length:Int)≥2:=by omega
   rw[decide_eq_true g2,aWN];have pl:EV G (Tb (eI G bb)) 85 [.one (.ptr 0 0),vi 0] [uX x (.slc (A.rs.map bF.e)) (ci (C.length / 2:Nat)) s.length (.slc (el C)),yb s]=some (prI (C.getD 0 0) (C.getD 1 0),[uX x (.slc (A.rs.map bF.e)) (ci (C.length / 2:Nat)) s.length (.slc (el C)),yb s]):=A6 x _ _ _ C s 0 (by omega) (by omega);generalize C.getD 0 0=y0 at *;generalize C.getD 1 0=y1 at *;by_cases g3:y0=x.tb
   ·by_cases g4:y1=x.tb+1
    ·rw[decide_eq_true (And.intro g3 g4)];simp (maxSteps:=2000000) (disch:=omega) only[go_sem,h104l1,aWf,jP,nJ,hrem,hdiv,g1',eq_true g2',hcl,pl,nT,w,f3,eq_true g3,eq_true g4]
    ·rw[decide_eq_false (fun h=>g4 h.2)]
     simp (maxSteps:=2000000) (disch:=omega) only[go_sem,h104l1,aWf,jP,nJ,hrem,hdiv,g1',eq_true g2',hcl,pl,nT,w,f3,eq_true g3,g4]
   ·rw[decide_eq_false (fun h=>g3 h.1)]
    simp (maxSteps:=2000000) (disch:=omega) only[go_sem,h104l1,aWf,jP,nJ,hrem,hdiv,g1',eq_true g2',hcl,pl,nT,w,f3,g3]
  ·have g2':¬ (C.length:Int)≥2:=by omega
   rw[decide_eq_false g2,aWU];simp (maxSteps:=2000000) (disch:=omega) only[go_sem,h104l1,aWf,jP,nJ,hrem,hdiv,g1',g2',hcl,w,f3]
end
section
variable {G:aF} {bb:Bool}
theorem Me{a:aK}(hW:a.W)(h:gU a=0):(oQ a.rs).2=0:=by
 have h4:=(mM hW h).e;unfold Gu at h4;split at h4
 ·rename_i hr;unfold S5 at h4;split at h4
  ·rename_i q;rw[q.1];rfl
  ·cases h4
 ·exact (Li h4).2.2.2.1
theorem Mf{l:List bF}(h:(oQ l).2=0):Ag l/\cD l<=4096/\∀ q∈l,(-1<=q.s/\q.s<=1000)/\(0<=q.n/\q.n<=4096):=by
 have h1:=Ah h;have h2:=aRs h;refine⟨h1,h2.2,fun q hq=>?_⟩
 have h3:=h1.el q hq;obtain⟨i,hi,rfl⟩:=List.mem_iff_getElem.1 hq;have h4:=sY l i hi;have h5:=hY l (i+1) (fun r hr=>(h1.el r hr).2.2)
 have h6:=fW (l.take i) (fun r hr=>(h1.el r (aWF hr)).2.2)
 omega
noncomputable def mA(s:List Int):cR × Int × Int:=T5 (blT s (cH s).1) (blM s (cH s).1)
noncomputable def J5(s:List Int):aK:=(mA s).1.ats.getD (lI nY (mA s).1.ats).toNat aK.nil
noncomputable def qW(s:List Int):Int:=if (cH s).2.2≠0 then (cH s).2.2 else if (mA s).2.2≠0 then (mA s).2.2 else if lI nY (mA s).1.ats < 0 then 6 else Md (cH s).1 (J5 s)
noncomputable def nZ(s:List Int):List Int:=Gi (J5 s).rs
noncomputable def Q5(s:List Int):Int:=clE (cH s).1 (nZ s)
noncomputable def Dx(s:List Int):Int:=if qW s≠0 then qW s else Q5 s
theorem aOn{s:List Int}(h:(cH s).2.2=0):uY s.length=0/\fH (cH s).1=0/\(cH s).1.cl=(s.length / 256:Nat):=by
 unfold cH at h ⊢;by_cases h1:uY s.length=0
 ·rw[if_pos h1] at h ⊢;have key:∀ l:List Int,(dY l).2=0->fH (dY l).1=0:=by
   intro l hl;unfold dY at hl ⊢;split at hl
   ·split at hl
    ·split at hl
     ·rename_i a b c;rw[if_pos a,if_pos b,if_pos c];exact c
     ·rename_i c;exact absurd hl c
    ·cases hl
   ·cases hl
  unfold qT at h ⊢;by_cases h2:(dY (s.take 64)).2=0/\(dY (s.take 64)).1.cl=(s.length / 256:Nat)
  ·rw[if_pos h2];exact⟨h1,key _ h2.1,h2.2⟩
  ·rw[if_neg h2] at h ⊢;by_cases h3:(dY (s.drop (s.length - 64))).2=0/\(dY (s.drop (s.length - 64))).1.cl=(s.length / 256:Nat)
   ·rw[if_pos h3];exact⟨h1,key _ h3.1,h3.2⟩
   ·rw[if_neg h3] at h;cases h
 ·rw[if_neg h1] at h;exact absurd h h1
structure Bok (x:Bt) (N:Nat):Prop where
 cl:x.cl=(N / 256:Nat)
 n:N % 256=0/\64<=N / 256/\N / 256<=512
 tb:1<=x.tb/\x.tb<=x.cl - 2
 mi:1<=x.mi/\x.mi+8 < x.cl
 lg:1<=x.lg/\x.lg+x.lc < x.cl
 lc:8<=x.lc/\x.lc<=64
theorem Mg{s:List Int}(h:(cH s).2.2=0):Bok (cH s).1 s.length:=by
 obtain⟨h1,h2,h3⟩:=aOn h;obtain⟨a,b,c,d⟩:=aJz h2;obtain⟨n1,n2,n3,n4⟩:=kT.1 a;obtain⟨i1,i2,i3⟩:=oU.1 b;have f:=A1.1 c;exact⟨h3,dk0 h1,i1,⟨i2.1,f.1⟩,⟨i3.1,f.2⟩,n3⟩
theorem aOo(p q:List Int)(hp:aL p)(hq:aL q):(T5 p q).1.W/\((T5 p q).2.2=0->gW (T5 p q).1=0):=by
 have k:∀ p:List Int,aL p->(jQ p).1.W/\((jQ p).2.2=0->gW (jQ p).1=0):=fun p hp=>⟨aR4 hp,fun h=>by
  rcases aNN hp with q | q
  ·exact absurd h q.1
  ·exact q.2.1⟩
 unfold T5;split
 ·exact k p hp
 ·split
  ·exact k q hq
  ·exact k p hp
theorem T8(s:List Int)(hB:aL s):(mA s).1.W/\((mA s).2.2=0->gW (mA s).1=0):=aOo _ _ (A5 hB _ _) (A5 hB _ _)
theorem Xj{s:List Int}(h:¬ lI nY (mA s).1.ats < 0):∃ K:Nat,∃ hK:K < (mA s).1.ats.length,lI nY (mA s).1.ats=K/\J5 s=(mA s).1.ats[K]/\nY (mA s).1.ats[K]=true/\∀ j,j < K->nY ((mA s).1.ats.getD j aK.nil)=false:=by
 unfold J5;generalize (mA s).1.ats=l at *;unfold lI at h ⊢;obtain⟨hk,hp,hn⟩:=bZ (fun k=>nY (l.getD k aK.nil)=true) l.length
 generalize ix (fun k=>nY (l.getD k aK.nil)=true) l.length=k at *
 rcases hp with rfl | ⟨hk',hp⟩
 ·rw[if_pos rfl] at h;exact absurd (by decide) h
 ·rw[if_neg (by omega)];refine⟨k,hk',rfl, ?_,by rw[<- gZ l k hk'];exact hp,fun j hj=>by simpa using hn j hj⟩
  rw[aW6,gZ l k hk']
theorem T9{s:List Int}(hB:aL s)(h1:(mA s).2.2=0)(h2:¬ lI nY (mA s).1.ats < 0):(J5 s).W/\gU (J5 s)=0:=by
 obtain⟨K,hK,_,h3,_⟩:=Xj h2;obtain⟨h4,h5⟩:=T8 s hB;rw[h3];exact⟨h4.at' _ (aWq hK),(Aw (h5 h1)).errs.1 _ (aWq hK)⟩
theorem Q6(hG:G9 G)(s:List Int)(hB:aL s)(hl:s.length<=200000)(h:qW s≠0):EV G (Tb (eI G bb)) 104 [sv s] []=some (.tup [ptN,tE (qW s)],[]):=by
 unfold qW at h ⊢;by_cases h1:(cH s).2.2=0
 ·rw[if_neg (not_not_intro h1)] at h ⊢;have b:=Mg h1;have b2:=b.cl;have b3:=b.n;have b4:=b.tb;have b5:=b.mi;have hp:=aFp (bb:=bb) hG s hB hl h1 ⟨⟨by omega,by omega⟩,⟨by omega,by omega⟩⟩
  change Pre G bb s (cH s).1 (mA s).1 (mA s).2.1 (mA s).2.2 at hp
  by_cases h2:(mA s).2.2=0
  ·rw[if_neg (not_not_intro h2)] at h ⊢;rw[h2] at hp;have hW:=(T8 s hB).1.ln;by_cases h3:lI nY (mA s).1.ats < 0
   ·rw[if_pos h3];exact aJR hp (by omega) h3
   ·rw[if_neg h3] at h ⊢;obtain⟨hA,hA2⟩:=T9 hB h2 h3;obtain⟨K,hK,k1,k2,_⟩:=Xj h3;obtain⟨c1,c2,c3⟩:=Mf (Me hA hA2);rw[k2] at h hA hA2 c1 c2 c3 ⊢;exact aJS hp (by omega) K hK k1 (by have:=c1.len;omega) (fun q hq=>by have:=c3 q hq;omega) h
  ·rw[if_pos h2];exact aJQ hp h2
 ·rw[if_pos h1];exact aJP s hB hl h1
theorem aFq{s:List Int}(h:qW s=0):(cH s).2.2=0/\(mA s).2.2=0/\¬ lI nY (mA s).1.ats < 0/\Md (cH s).1 (J5 s)=0:=by
 unfold qW at h;by_cases h1:(cH s).2.2=0
 ·rw[if_neg (not_not_intro h1)] at h;by_cases h2:(mA s).2.2=0
  ·rw[if_neg (not_not_intro h2)] at h;by_cases h3:lI nY (mA s).1.ats < 0
   ·rw[if_pos h3] at h;cases h
   ·rw[if_neg h3] at h;exact⟨h1,h2,h3,h⟩
  ·rw[if_pos h2] at h;exact absurd h h2
 ·rw[if_pos h1] at h;exact absurd h h1
theorem Ex(hG:G9 G)(s:List Int)(hB:aL s)(hl:s.length<=200000)(h:qW s=0):EV G (Tb (eI G bb)) 104 [sv s] []=some (.tup [.one (.ptr 2 0),tE (Q5 s)],opH (cH s).1 (mA s).1 (mA s).2.1 s (J5 s).rs (nZ s)):=by
 obtain⟨h1,h2,h3,h4⟩:=aFq h;have b:=Mg h1;have b2:=b.cl;have b3:=b.n;have b4:=b.tb;have b5:=b.mi;have hp:=aFp (bb:=bb) hG s hB hl h1 ⟨⟨by omega,by omega⟩,⟨by omega,by omega⟩⟩
 change Pre G bb s (cH s).1 (mA s).1 (mA s).2.1 (mA s).2.2 at hp
 rw[h2] at hp;have hW:=(T8 s hB).1.ln;obtain⟨hA,hA2⟩:=T9 hB h2 h3;obtain⟨K,hK,k1,k2,_⟩:=Xj h3;obtain⟨c1,c2,c3⟩:=Mf (Me hA hA2);unfold Q5 nZ;rw[k2] at h4 hA hA2 c1 c2 c3 ⊢;exact aOm hp (by omega) K hK k1 c1 ⟨by omega,by omega⟩ (by omega) (fun q hq=>by have:=c3 q hq;omega) h4
end
section
variable {G:aF} {bb:Bool}
structure Tok (x:Bt) (N:Nat) (C:List Int):Prop where
 b:Bok x N
 rg:∀ c∈C,1<=c/\c<=x.cl - 2
 mi:∀ c∈C,¬ (x.mi<=c/\c<=x.mi+7)
 nd:C.Nodup
 ev:C.length % 2=0
 ln:16<=C.length / 2/\C.length / 2<=96
 h0:C.getD 0 0=x.tb/\C.getD 1 0=x.tb+1
theorem aJT{l:List bF}(hh:∀ q∈l,q.s≠-1){c:Int}(h:c∈Gi l):∃ q∈l,q.s<=c/\c < q.s+q.n:=by
 obtain⟨q,hq,hc⟩:=List.mem_flatMap.1 h;refine⟨q,hq, ?_⟩;unfold Gg at hc;obtain⟨k,hk,rfl⟩:=List.mem_map.1 hc;have hk:=List.mem_range.1 hk;rw[if_neg (hh q hq)];omega
theorem Hx{b:Bool}{e:Int}(he:e≠0)(h:oH b e=0):b=true:=by
 unfold oH at h;split at h
 ·assumption
 ·exact absurd h he
theorem aOp{x:Bt}{a:aK}(h:Md x a=0):a.res=false/\a.fi=0/\(∀ q∈a.rs,q.s≠-1)/\∀ q∈a.rs,q.s+q.n<=x.cl:=by
 obtain⟨h1,h2,h3⟩:=tF h;have h1:=Hx (by decide) h1;have h2:=Hx (by decide) h2;have h3:=Hx (by decide) h3;simp only[aWs,aXg,decide_eq_true_eq,aXE] at h1 h2 h3;exact⟨h1.1,h1.2,fun q hq e=>h2 q hq e,fun q hq=>by have:=h3 q hq;omega⟩
theorem aJU{x:Bt}{C:List Int}(h:A4 x C=false):∀ k (hk:k < C.length),C[k]≠0/\C[k]≠x.cl - 1/\¬ C[k]∈C.take k/\¬ (x.mi<=C[k]/\C[k]<=x.mi+7):=by
 intro k hk;have h:=of_decide_eq_false h;have e:C.getD k 0=C[k]:=by simp[hk]
 refine⟨fun q=>h ⟨k,hk,.inl ?_⟩,fun q=>h ⟨k,hk,.inl ?_⟩,fun q=>h ⟨k,hk,.inl ?_⟩,fun q=>h ⟨k,hk,.inr ?_⟩⟩
 ·rw[e,q];simp
 ·rw[e,q];simp
 ·rw[e];simp[q]
 ·rw[e];omega
theorem pY{s:List Int}(hB:aL s)(h:Dx s=0):qW s=0/\Q5 s=0/\Tok (cH s).1 s.length (nZ s):=by
 have h1:qW s=0:=by
  unfold Dx at h;by_cases q:qW s=0
  ·exact q
  ·rw[if_pos q] at h;exact absurd h q
 have h2:Q5 s=0:=by
  unfold Dx at h;rw[if_neg (not_not_intro h1)] at h;exact h
 obtain⟨g1,g2,g3,g4⟩:=aFq h1;have b:=Mg g1;obtain⟨hA,hA2⟩:=T9 hB g2 g3;obtain⟨c1,c2,c3⟩:=Mf (Me hA hA2);obtain⟨d1,d2,d3,d4⟩:=aOp g4;refine⟨h1,h2, ?_⟩;unfold Q5 clE at h2;obtain⟨e1,e2,e3⟩:=tF h2;have e1:=Hx (by decide) e1;have e2:=Hx (by decide) e2;have e3:=Hx (by decide) e3;simp only[aWs,aXg,decide_eq_true_eq] at e1 e2 e3;have no:=aJU e1;have rg:∀ c∈nZ s,0<=c/\c < (cH s).1.cl:=fun c hc=>by
  obtain⟨q,hq,h1,h2⟩:=aJT d3 hc;have:=d4 q hq;have:=c3 q hq;have:=d3 q hq;omega
 refine⟨b,fun c hc=>?_,fun c hc=>?_, ?_,e2.1,e2.2,e3.2⟩
 ·have r:=rg c hc;obtain⟨k,hk,rfl⟩:=List.mem_iff_getElem.1 hc;have:=no k hk;omega
 ·obtain⟨k,hk,rfl⟩:=List.mem_iff_getElem.1 hc;exact (no k hk).2.2.2
 ·rw[List.nodup_iff_pairwise_ne,aXR];intro i j hi hj hij e;refine (no j hj).2.2.1 ?_;rw[<- e];exact List.mem_take_iff_getElem.2 ⟨i,by omega,rfl⟩
noncomputable def Ua(s:List Int)(x:Bt)(C:List Int)(n:Nat):cR × Int × Int:=
 T5 (Dw s (C.getD (2 * n) 0).toNat (C.getD (2 * n+1) 0).toNat) (if n < 4 then Dw s (x.mi.toNat+2 * n) (x.mi.toNat+2 * n+1) else Dw s (C.getD (2 * n) 0).toNat (C.getD (2 * n+1) 0).toNat)
theorem Tok.at{x:Bt}{N:Nat}{C:List Int}(h:Tok x N C){k:Nat}(hk:k < C.length):∃ c:Nat,C.getD k 0=c/\c * 256+256<=N/\1<=c/\c * 256+512<=N:=by
 have e:C.getD k 0=C[k]:=by simp[hk]
 have:=h.rg _ (aWq hk);have:=h.b.cl;have:=h.b.n;exact⟨C[k].toNat,by omega,by omega,by omega,by omega⟩
set_option maxHeartbeats 4000000 in
theorem Xk(hG:G9 G)(x:Bt)(d6 d7:DC)(s:List Int)(hB:aL s)(hl:s.length<=200000)(C:List Int)(hT:Tok x s.length C)(n:Nat)(hn:n < C.length / 2):
  EV G (Tb (eI G bb)) 84 [.one (.ptr 0 0),vi n] [uX x d6 d7 s.length (.slc (el C)),yb s]=some (dcv (Ua s x C n),[uX x d6 d7 s.length (.slc (el C)),yb s]):=by
 have hln:=hT.ln;have pl:=A6 (G:=G) (B:=eI G bb) x d6 d7 s.length C s n (by omega) (by omega);obtain⟨a,ha,a1,a2,_⟩:=hT.at (k:=2 * n) (by omega);obtain⟨c,hc,c1,c2,_⟩:=hT.at (k:=2 * n+1) (by omega);obtain⟨b,_,_,_,_,_⟩:=hT;have b2:=b.cl;have b3:=b.n;have b5:=b.mi;unfold Ua;rw[ha,hc] at pl ⊢;rw[aW6,aW6];by_cases h4:n < 4
 ·rw[if_pos h4];have mi:=Qz (G:=G) (B:=eI G bb) x d6 d7 (.slc (el C)) s.length s n (by omega) (by omega);have ei:=Hv (G:=G) (bb:=bb) hG x d6 d7 (.slc (el C)) s hB s.length a c (x.mi.toNat+2 * n) (x.mi.toNat+2 * n+1) rfl (by omega) (by omega) (by omega) (by omega) hl;rw[aFo (a:=x.mi.toNat+2 * n) (x:=x.mi+2 * n) (y:=x.mi+2 * n+1) (by omega) (by omega)] at ei;have h4':(n:Int) < 4:=by omega
  generalize T5 _ _=E at *;obtain⟨r,u,e⟩:=E;refine aA rfl ?_;simp (maxSteps:=2000000) (disch:=omega) only[go_sem,h84c,pl,mi,ei,h4',aWf]
  try rfl
 ·rw[if_neg h4];have ei:=Hv (G:=G) (bb:=bb) hG x d6 d7 (.slc (el C)) s hB s.length a c a c rfl (by omega) (by omega) (by omega) (by omega) hl;have h4':¬ (n:Int) < 4:=by omega
  generalize T5 _ _=E at *;obtain⟨r,u,e⟩:=E;refine aA rfl ?_;simp (maxSteps:=2000000) (disch:=omega) only[go_sem,h84c,pl,ei,h4',aWf]
  try rfl
end
section
variable {G:aF} {bb:Bool}
noncomputable def Rg(s:List Int):Nat:=(nZ s).length / 2
theorem aFr{s:List Int}(h:Dx s≠0):(qW s≠0/\qW s=Dx s)\/(qW s=0/\Q5 s=Dx s):=by
 unfold Dx at h ⊢;by_cases q:qW s=0
 ·rw[if_neg (not_not_intro q)];exact .inr ⟨q,rfl⟩
 ·rw[if_pos q];exact .inl ⟨q,rfl⟩
theorem Hy(hG:G9 G)(s:List Int)(hB:aL s)(hl:s.length<=200000)(n:Int)(h:Dx s≠0):EV G (Tb (eI G bb)) 83 [sv s,vi n] []=some (.tup [ptN,tE (Dx s)],[]):=by
 rcases aFr h with⟨q,e⟩ | ⟨q,e⟩
 ·have o:=Q6 (bb:=bb) hG s hB hl q;rw[e] at o;refine aA rfl ?_;simp (maxSteps:=2000000) (disch:=omega) only[go_sem,h83c,o,h]
 ·have o:=Ex (bb:=bb) hG s hB hl q;rw[e] at o;generalize nZ s=C at *;refine aA rfl ?_;simp (maxSteps:=2000000) (disch:=omega) only[go_sem,h83c,o,h,aWp,aWw,dP,uK]
theorem tO(hG:G9 G)(s:List Int)(hB:aL s)(hl:s.length<=200000)(n:Int)(h:Dx s=0):EV G (Tb (eI G bb)) 83 [sv s,vi n] []=some (.tup [.one (.ptr 2 0),tE (oH (decide (0<=n/\n<=(Rg s:Int) - 1)) 6)],opH (cH s).1 (mA s).1 (mA s).2.1 s (J5 s).rs (nZ s)):=by
 obtain⟨q1,q2,hT⟩:=pY hB h;have o:=Ex (bb:=bb) hG s hB hl q1;rw[q2] at o;have hln:=hT.ln;have w:=jD (G:=G) (B:=eI G bb) n 0 ((Rg s:Int) - 1);have u:=gS (G:=G) (B:=eI G bb);unfold Rg at w ⊢
 change _=some (_,opH (cH s).1 (mA s).1 (mA s).2.1 s (J5 s).rs (nZ s))
 generalize nZ s=C at *;generalize (cH s).1=x at *;generalize (mA s).1=r at *;generalize (mA s).2.1=us at *;generalize (J5 s).rs=rs at *;refine aA rfl ?_;simp (maxSteps:=2000000) (disch:=omega) only[go_sem,h83c,o,w,u,aWp,aWw,dP,uK]
noncomputable def Xl(s:List Int)(n:Int):Int:=if Dx s≠0 then Dx s else oH (decide (0<=n/\n<=(Rg s:Int) - 1)) 6
theorem aK0{s:List Int}{n:Int}(h:Xl s n=0):Dx s=0/\0<=n/\n.toNat < Rg s:=by
 unfold Xl at h;by_cases q:Dx s=0
 ·rw[if_neg (not_not_intro q)] at h;have:=of_decide_eq_true (Hx (by decide) h);exact⟨q,this.1,by omega⟩
 ·rw[if_pos q] at h;exact absurd h q
theorem aK1{s:List Int}{n:Int}(h:Xl s n≠0):Dx s≠0/\Xl s n=Dx s\/Dx s=0/\Xl s n=6/\oH (decide (0<=n/\n<=(Rg s:Int) - 1)) 6=6:=by
 unfold Xl at h ⊢;by_cases q:Dx s=0
 ·rw[if_neg (not_not_intro q)] at h ⊢;unfold oH at h ⊢;split
  ·rename_i r;rw[if_pos r] at h;exact absurd rfl h
  ·exact .inr ⟨q,rfl,rfl⟩
 ·rw[if_pos q];exact .inl ⟨q,rfl⟩
theorem aAQ(hG:G9 G)(s:List Int)(hB:aL s)(hl:s.length<=200000)(n:Int):EV G (Tb (eI G bb)) 23 [sv s,vi n] []=some (.tup [tI (if Xl s n=0 then (nZ s).getD (2 * n.toNat) 0 else 0),tE (Xl s n)],[]):=by
 by_cases h:Xl s n=0
 ·rw[if_pos h,h];obtain⟨h1,h2,h3⟩:=aK0 h;have o:=tO (bb:=bb) hG s hB hl n h1;obtain⟨_,_,hT⟩:=pY hB h1;have hln:=hT.ln;have e:oH (decide (0<=n/\n<=(Rg s:Int) - 1)) 6=0:=by rw[decide_eq_true (by omega)];rfl
  rw[e] at o;have en:n=(n.toNat:Int):=by omega
  unfold Rg at h3;have pl:=A6 (G:=G) (B:=eI G bb) (cH s).1 (.slc ((J5 s).rs.map bF.e)) (ci ((nZ s).length / 2:Nat)) s.length (nZ s) s n.toNat (by omega) (by omega);rw[<- en] at pl;generalize (nZ s).getD (2 * n.toNat) 0=y0 at *;generalize (nZ s).getD (2 * n.toNat+1) 0=y1 at *;generalize nZ s=C at *;generalize (cH s).1=x at *;generalize (mA s).1=r at *;generalize (mA s).2.1=us at *;generalize (J5 s).rs=rs at *;refine aA rfl ?_;simp (maxSteps:=2000000) (disch:=omega) only[go_sem,h23c,o,pl,aWp,aWw,dP,uK,pA,lZ]
 ·rw[if_neg h];rcases aK1 h with⟨h1,h2⟩ | ⟨h1,h2,h3⟩
  ·have o:=Hy (bb:=bb) hG s hB hl n h1;rw[h2];refine aA rfl ?_;simp (maxSteps:=2000000) (disch:=omega) only[go_sem,h23c,o,h1]
  ·have o:=tO (bb:=bb) hG s hB hl n h1;rw[h3] at o;rw[h2];generalize nZ s=C at *;generalize (cH s).1=x at *;generalize (mA s).1=r at *;generalize (mA s).2.1=us at *;generalize (J5 s).rs=rs at *;refine aA rfl ?_;simp (maxSteps:=2000000) (disch:=omega) only[go_sem,h23c,o,aWp,aWw,dP,uK]
noncomputable def rrV(s:List Int)(n:Int):cR × Int × Int:=if Xl s n=0 then Ua s (cH s).1 (nZ s) n.toNat else (.nil,0,Xl s n)
set_option maxHeartbeats 4000000 in
theorem aAR(hG:G9 G)(s:List Int)(hB:aL s)(hl:s.length<=200000)(n:Int):EV G (Tb (eI G bb)) 22 [sv s,vi n] []=some (dcv (rrV s n),[]):=by
 unfold rrV;by_cases h:Xl s n=0
 ·rw[if_pos h];obtain⟨h1,h2,h3⟩:=aK0 h;have o:=tO (bb:=bb) hG s hB hl n h1;obtain⟨_,_,hT⟩:=pY hB h1;have e:oH (decide (0<=n/\n<=(Rg s:Int) - 1)) 6=0:=by rw[decide_eq_true (by omega)];rfl
  rw[e] at o;have en:n=(n.toNat:Int):=by omega
  unfold Rg at h3;have rd:=Xk (bb:=bb) hG (cH s).1 (.slc ((J5 s).rs.map bF.e)) (ci ((nZ s).length / 2:Nat)) s hB hl (nZ s) hT n.toNat h3;rw[<- en] at rd;generalize Ua s (cH s).1 (nZ s) n.toNat=E at *;generalize nZ s=C at *;generalize (cH s).1=x at *;generalize (mA s).1=r at *;generalize (mA s).2.1=us at *;generalize (J5 s).rs=rs at *;obtain⟨r',u',e'⟩:=E;refine aA rfl ?_;simp (maxSteps:=2000000) (disch:=omega) only[go_sem,h22c,o,rd,aWp,aWw,dP,uK]
  try rfl
 ·rw[if_neg h];rcases aK1 h with⟨h1,h2⟩ | ⟨h1,h2,h3⟩
  ·have o:=Hy (bb:=bb) hG s hB hl n h1;rw[h2];refine aA rfl ?_;simp (maxSteps:=2000000) (disch:=omega) only[go_sem,h22c,o,h1]
   try rfl
  ·have o:=tO (bb:=bb) hG s hB hl n h1;rw[h3] at o;rw[h2];generalize nZ s=C at *;generalize (cH s).1=x at *;generalize (mA s).1=r at *;generalize (mA s).2.1=us at *;generalize (J5 s).rs=rs at *;refine aA rfl ?_;simp (maxSteps:=2000000) (disch:=omega) only[go_sem,h22c,o,aWp,aWw,dP,uK]
   try rfl
end
end Go.Proofs.YthepfneloomngaaGreatDoor
