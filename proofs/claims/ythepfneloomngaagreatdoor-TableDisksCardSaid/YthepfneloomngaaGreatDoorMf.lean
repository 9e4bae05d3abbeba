/- Arguments of some types, opened. Conditions: none. -/
import Derived.Test.YthepfneloomngaaGreatDoorQo
import Derived.Test.YthepfneloomngaaGreatDoorSg
import Derived.Test.YthepfneloomngaaGreatDoorPa
import Derived.Test.YthepfneloomngaaGreatDoorMb
import Derived.OpenShut
namespace Go.Proofs.YthepfneloomngaaGreatDoor
set_option linter.unusedSimpArgs false
set_option linter.unusedVariables false
set_option maxRecDepth 4000
section
variable {G:aF} {bb:Bool}
theorem J6{B:aO}(r:cR):EV G (Tb B) 90 [r.v] []=some (vb (fJ r.fl),[]):=by
 refine aA rfl ?_;unfold fJ;by_cases c:r.fl % 2=1
 ·have d:¬ r.fl % 2=0:=by omega
  simp (disch:=omega) only[go_sem,h90c,aJg,d,decide_eq_true c]
 ·have d:r.fl % 2=0:=by omega
  simp (disch:=omega) only[go_sem,h90c,aJg,eq_true d,decide_eq_false c]
noncomputable def aJV(s:List Int)(a b:Int):cR × Int:=if (rrV s a).2.2≠0 then (.nil,(rrV s a).2.2) else if fJ (rrV s a).1.fl=true/\(rrV s a).1.sq=b then ((rrV s a).1,0) else (.nil,32)
set_option maxHeartbeats 2000000 in
theorem aAS(hG:G9 G)(s:List Int)(hB:aL s)(hl:s.length<=200000)(a b:Int):EV G (Tb (eI G bb)) 31 [sv s,rfv a b] []=some (rcv (aJV s a b),[]):=by
 have q:=aAR (bb:=bb) hG s hB hl a;have u:=gS (G:=G) (B:=eI G bb);have f:=lV (G:=G) (B:=eI G bb);unfold aJV;generalize rrV s a=E at *;obtain⟨r,us,e⟩:=E;have iu:=J6 (G:=G) (B:=eI G bb) r;simp only at q ⊢;by_cases h:e=0
 ·rw[if_neg (not_not_intro h)];subst h;cases hu:fJ r.fl
  ·rw[hu] at iu;rw[if_neg (fun h=>by cases h.1)]
   refine aA rfl ?_;simp (maxSteps:=2000000) (disch:=omega) only[go_sem,h31c,q,u,f,iu,bO,dZ,eQ]
   try rfl
  ·rw[hu] at iu;by_cases hs:r.sq=b
   ·rw[if_pos ⟨rfl,hs⟩];refine aA rfl ?_;simp (maxSteps:=2000000) (disch:=omega) only[go_sem,h31c,q,u,f,iu,bO,dZ,eQ,eq_true hs]
    try rfl
   ·rw[if_neg (fun h=>hs h.2)]
    refine aA rfl ?_;simp (maxSteps:=2000000) (disch:=omega) only[go_sem,h31c,q,u,f,iu,bO,dZ,eQ,hs]
    try rfl
 ·rw[if_pos h];refine aA rfl ?_;cases hu:fJ r.fl
  ·rw[hu] at iu;simp (maxSteps:=2000000) (disch:=omega) only[go_sem,h31c,q,u,f,iu,bO,dZ,eQ,h]
   try rfl
  ·rw[hu] at iu;simp (maxSteps:=2000000) (disch:=omega) only[go_sem,h31c,q,u,f,iu,bO,h]
   try rfl
abbrev bo1(b:Bool):List DC:=[.raw (.bool b)]
noncomputable def usB(s:List Int)(x:Bt)(C:List Int)(k:Nat):Bool:=fJ (Ua s x C k).1.fl
noncomputable def Uc(s:List Int)(x:Bt)(C:List Int)(k:Nat):List Bool:=(List.range k).map (usB s x C)
theorem aSs(s:List Int)(x:Bt)(C:List Int)(k:Nat):Uc s x C (k+1)=Uc s x C k++[usB s x C k]:=by simp[Uc,List.range_succ]
theorem Ey(s:List Int)(x:Bt)(C:List Int)(k:Nat):(Uc s x C k).length=k:=by simp[Uc]
noncomputable def usI(s:List Int)(x:Bt)(C:List Int):Nat:=ix (fun k=>¬ (Ua s x C k).2.2=0) (C.length / 2)
noncomputable def Xm(s:List Int):List Bool × Int:=if Dx s≠0 then ([],Dx s) else if usI s (cH s).1 (nZ s)=Rg s then (Uc s (cH s).1 (nZ s) (Rg s),0) else ([],(Ua s (cH s).1 (nZ s) (usI s (cH s).1 (nZ s))).2.2)
abbrev boV(p:List Bool × Int):AV:=.tup [.one (.dc (.slc (p.1.map bo1))),tE p.2]
theorem aOs(l:List Bool):fM 1 (l.map bo1)=true:=jZ (f:=bo1) (fun _=>rfl) l
theorem aSt(l:List Bool)(b:Bool):l.map bo1++[[.raw (.bool b)]]=(l++[b]).map bo1:=by simp
set_option maxHeartbeats 8000000 in
theorem aOt(hG:G9 G)(s:List Int)(hB:aL s)(hl:s.length<=200000):EV G (Tb (eI G bb)) 91 [sv s] []=some (boV (Xm s),[]):=by
 unfold Xm;by_cases h:Dx s=0
 ·rw[if_neg (not_not_intro h)];obtain⟨q1,q2,hT⟩:=pY hB h;have o:=Ex (bb:=bb) hG s hB hl q1;rw[q2] at o;have hln:=hT.ln;unfold Rg;have rd:=fun n hn=>Xk (bb:=bb) hG (cH s).1 (.slc ((J5 s).rs.map bF.e)) (ci ((nZ s).length / 2:Nat)) s hB hl (nZ s) hT n hn
  have us:=fun n=>J6 (G:=G) (B:=eI G bb) (Ua s (cH s).1 (nZ s) n).1
  have hb:∀ n,usB s (cH s).1 (nZ s) n=fJ (Ua s (cH s).1 (nZ s) n).1.fl:=fun n=>rfl
  have L:=aSs s (cH s).1 (nZ s);have Ln:=Ey s (cH s).1 (nZ s);have L0:Uc s (cH s).1 (nZ s) 0=[]:=rfl;unfold usI;generalize Uc s (cH s).1 (nZ s)=U at *;generalize usB s (cH s).1 (nZ s)=Ub at *;generalize Ua s (cH s).1 (nZ s)=R at *;generalize nZ s=C at *;generalize (cH s).1=x at *;generalize (mA s).1=r at *;generalize (mA s).2.1=w at *;generalize (J5 s).rs=rs at *;refine aA rfl ?_;simp (maxSteps:=2000000) (disch:=omega) only[go_sem,h91c,o,aWp,aWw,dP,uK,jP];rw[jH (fun k=>⟨(jk 4 (.one (.ptr 2 0)::jk 1 (.one (.bld 5 (U k).length)::jk 15 (vi (C.length / 2:Nat)::vi k::jk 19 [])))),opH x r w s rs C++[.arr 0 1 ((U k).map bo1)]⟩) (fun k=>¬ (R k).2.2=0) (C.length / 2) ?_ ?_]
  rotate_left
  ·rw[L0];rfl
  ·intro k hk hn;have h3:=hn k (aWj _);have r1:=rd k hk;have u1:=us k;rw[show U (k+1)=U k++[fJ (R k).1.fl] from by rw[L k,hb k]]
   have Lk:=Ln k;generalize U k=V at *;generalize R k=E at *;obtain⟨r',u',e'⟩:=E;have h3:e'=0:=Classical.not_not.1 h3;subst h3;have hk':(k:Int) < (C.length / 2:Nat):=by omega
   simp (maxSteps:=2000000) (disch:=omega) only[go_sem,h91l0,hk',r1,u1,aWR,aWL,jP,nJ,aOs,aSt,aWg,aWf]
  obtain⟨hk,hp,hn⟩:=bZ (fun k=>¬ (R k).2.2=0) (C.length / 2)
  generalize ix (fun k=>¬ (R k).2.2=0) (C.length / 2)=k at *
  by_cases hk2:k=C.length / 2
  ·rw[if_pos hk2];have Lk:=Ln k;rw[<- hk2];generalize U k=V at *;rw[hk2] at Lk;rw[hk2];simp (maxSteps:=2000000) (disch:=omega) only[go_sem,h91l0,aWR,aWL,jP,nJ,aWf,aWp,aWw,dP,uK]
  ·rw[if_neg hk2];rcases hp with hp | ⟨hk',hp⟩
   ·exact absurd hp hk2
   have r1:=rd k hk';generalize R k=E at *;obtain⟨r',u',e'⟩:=E;have hp:¬ e'=0:=hp;have hk':(k:Int) < (C.length / 2:Nat):=by omega
   simp (maxSteps:=2000000) (disch:=omega) only[go_sem,h91l0,hk',r1,hp,aWR,aWL,jP,nJ,aWf];rfl
 ·rw[if_pos h];rcases aFr h with⟨q,e⟩ | ⟨q,e⟩
  ·have o:=Q6 (bb:=bb) hG s hB hl q;rw[e] at o;refine aA rfl ?_;simp (maxSteps:=2000000) (disch:=omega) only[go_sem,h91c,o,h]
   try rfl
  ·have o:=Ex (bb:=bb) hG s hB hl q;rw[e] at o;generalize nZ s=C at *;refine aA rfl ?_;simp (maxSteps:=2000000) (disch:=omega) only[go_sem,h91c,o,h,aWp,aWw,dP,uK]
   try rfl
theorem aJW(s:List Int)(hB:aL s):(Xm s).1.length<=96:=by
 unfold Xm;by_cases h:Dx s=0
 ·rw[if_neg (not_not_intro h)];obtain⟨q1,q2,hT⟩:=pY hB h;split
  ·show (Uc _ _ _ _).length<=_;rw[Ey];exact hT.ln.2
  ·exact aWA _
 ·rw[if_pos h];exact aWA _
noncomputable def ixB(l:List Bool):Int:=if ix (fun k=>l.getD k true=false) l.length=l.length then -1 else (ix (fun k=>l.getD k true=false) l.length:Nat)
theorem aFt{B:aO}(l:List Bool)(hl:l.length<=1000000):EV G (Tb B) 92 [vl (l.map bo1),vb false] []=some (vi (ixB l),[]):=by
 refine aA rfl ?_;simp (disch:=omega) only[go_sem,h92c,aWf];unfold ixB;have hx:∀ k (hk:k < l.length),(l.map bo1)[k]?=some (bo1 l[k]):=fun k hk=>by rw[aWl,aWo hk];rfl
 have e1:∀ k (hk:k < l.length),l.getD k true=l[k]:=fun k hk=>by simp[hk]
 rw[jH (fun k=>⟨(vl (l.map bo1)::vb false::jk 5 (vi l.length::vi k::jk 10 [])),[]⟩) (fun k=>l.getD k true=false) l.length ?_ ?_]
 rotate_left
 ·rfl
 ·intro k hk hn;have h3:=hn k (aWj _);rw[e1 k hk] at h3;have h4:l[k]=true:=by simpa using h3
  have q:=hx k hk;rw[h4] at q;simp (disch:=omega) only[go_sem,h92l0,aWf,q]
 obtain⟨hk,hp,hn⟩:=bZ (fun k=>l.getD k true=false) l.length
 generalize ix (fun k=>l.getD k true=false) l.length=k at *
 rcases hp with rfl | ⟨hk',hp⟩
 ·rw[if_pos rfl];simp (disch:=omega) only[go_sem,h92l0,aWf]
 ·rw[if_neg (by omega)];rw[e1 k hk'] at hp;have q:=hx k hk';rw[hp] at q;simp (disch:=omega) only[go_sem,h92l0,aWf,q]
noncomputable def frV(s:List Int):Int × Int:=if (Xm s).2≠0 then (0,(Xm s).2) else if ixB ((Xm s).1.drop 16) < 0 then (0,16) else (16+ixB ((Xm s).1.drop 16),0)
theorem aOu{s:List Int}(hB:aL s)(h:(Xm s).2=0):16<=(Xm s).1.length:=by
 unfold Xm at h ⊢;by_cases h0:Dx s=0
 ·rw[if_neg (not_not_intro h0)] at h ⊢;obtain⟨q1,q2,hT⟩:=pY hB h0;split
  ·show _<=(Uc _ _ _ _).length;rw[Ey];exact hT.ln.1
  ·rename_i h1;rw[if_neg h1] at h;unfold usI Rg at h1;unfold usI at h;obtain⟨hk,hp,hn⟩:=bZ (fun k=>¬ (Ua s (cH s).1 (nZ s) k).2.2=0) ((nZ s).length / 2)
   generalize ix (fun k=>¬ (Ua s (cH s).1 (nZ s) k).2.2=0) ((nZ s).length / 2)=K at *
   dsimp only at h hp;generalize (Ua s (cH s).1 (nZ s) K).2.2=e at *;rcases hp with hp | ⟨_,hp⟩
   ·exact absurd hp h1
   ·exact absurd h hp
 ·rw[if_pos h0] at h;exact absurd h h0
theorem aOv(l:List Bool):-1<=ixB l/\ixB l<=l.length:=by
 unfold ixB;obtain⟨hk,_⟩:=bZ (fun k=>l.getD k true=false) l.length
 split<;>omega
theorem Q7(hG:G9 G)(s:List Int)(hB:aL s)(hl:s.length<=200000):EV G (Tb (eI G bb)) 33 [sv s] []=some (.tup [tI (frV s).1,tE (frV s).2],[]):=by
 have o:=aOt (bb:=bb) hG s hB hl;have ln:=aJW s hB;have l16:=aOu (s:=s) hB;unfold frV;generalize Xm s=V at *;obtain⟨l,e⟩:=V;dsimp only at ln o l16 ⊢;by_cases h:e=0
 ·rw[if_neg (not_not_intro h)];have l16:=l16 h;subst h;have q:=aFt (G:=G) (B:=eI G bb) (l.drop 16) (by rw[aWt];omega);have rg:=aOv (l.drop 16);rw[aWt] at rg;rw[aXt] at q;generalize ixB (l.drop 16)=I at *;have hall:((l.map bo1).all fun e=>decide (e.length=1))=true:=by simp
  have t16:(16:Int).toNat=16:=rfl;refine aA rfl ?_;by_cases hI:I < 0
  ·rw[if_pos hI];simp (maxSteps:=2000000) (disch:=omega) only[go_sem,h33c,o,q,hI,aWf,hall,if_true,t16]
  ·rw[if_neg hI];simp (maxSteps:=2000000) (disch:=omega) only[go_sem,h33c,o,q,hI,aWf,hall,if_true,t16]
 ·rw[if_pos h];refine aA rfl ?_;simp (maxSteps:=2000000) (disch:=omega) only[go_sem,h33c,o,h]
end
section
variable {G:aF} {bb:Bool}
theorem Xn{q:bF}(h:0<=q.s/\1<=q.n/\q.s+q.n<=512):(oQ [q]).2=0:=by
 have r:cJ q.s q.n=0:=by
  unfold cJ;rw[if_neg (by omega),if_pos (by omega),if_pos (by omega)]
 have f:q.fresh U0=true:=by
  have:=K9 [] q (fun _ h=>(by cases h)) r
  exact this
 have e:nH none U0 q=0:=by
  unfold nH;rw[r,if_neg (by decide),if_neg (by simp),if_pos f]
 unfold oQ;rw[if_neg (by simp)];unfold uT;rw[e,if_neg (by decide)];unfold uT;show (if cD [q]<=4096 then (0:Int) else 8)=0
 rw[if_pos];simp[cD];omega
def uC:aK:=⟨16,[],0,0,true,zl 16,0,[],0,0,0⟩
def pB(l:List bF):aK:=⟨128,[],0,0,false,[],0,l,cD l * 256,cD l * 256,cD l * 256⟩
theorem aFu:uC.W:=⟨fun x h=>(by cases h),tG 16,by decide,by decide,by decide⟩
theorem Q8{l:List bF}(h:l.length<=100000):(pB l).W:=⟨fun x h=>(by cases h),fun x h=>(by cases h),aWA _,aWA _,h⟩
theorem aFv:Wk []=true:=by unfold Wk;exact decide_eq_true (.inl rfl)
theorem aJY:(fG uC).length<=40:=by
 unfold fG;split
 ·rename_i h;rw[lT uC (mM aFu h).bd]
  decide
 ·exact aWA _
theorem aOw{i:Int}(h:0<=i/\i<=100):gU (bP uC i)=0:=by
 unfold gU;rw[if_neg (by simp[bP,uC,S0]),if_neg (by show ¬ Wk []=false;rw[aFv];decide),if_neg (by simp only[bP,uC];omega)];have e:Gu (bP uC i)=0:=rfl;have z:iC (bP uC i)=40:=by unfold iC gY Bc tR;simp[bP,uC,zl]
 rw[e,if_neg (by decide),z,if_neg (by decide)]
theorem aFw{q:bF}(h:(oQ [q]).2=0)(i:Int):iC (bP (pB [q]) i)<=48:=by
 have hb:(tR (bP (pB [q]) i)).length<=6:=by
  show (if false=true then _ else (Ak [q]).1).length<=6
  rw[if_neg (by decide)];unfold Ak;rw[Oz,h,if_neg (by decide)];show ((nI [q]).1++[0]).length<=6;have:=O2 0 q;rw[Gx,eX,eX,aXr,aWg];show _+1<=6;omega
 unfold iC;have ha:gY (bP (pB [q]) i)=40:=by unfold gY Bc;simp[bP,pB]
 rw[ha];omega
theorem aFx{q:bF}(h:0<=q.s/\1<=q.n/\q.s+q.n<=512){i:Int}(hi:0<=i/\i<=100):gU (bP (pB [q]) i)=0:=by
 have hc:=Xn h;have hl:cD [q]=q.n:=by simp[cD]
 have hw:jO [q]=q.n:=by rw[aNx hc,hl]
 have hz:=aFw hc i;unfold gU;rw[if_neg (by simp[bP,pB,S0]),if_neg (by show ¬ Wk []=false;rw[aFv];decide),if_neg (by simp only[bP,pB];omega)];have e:Gu (bP (pB [q]) i)=0:=by
  show (if false=true then _ else Pc (bP (pB [q]) i))=0
  rw[if_neg (by decide)];have k1:(bP (pB [q]) i).al=q.n * 256:=by show cD [q] * 256=_;rw[hl]
  have k2:(bP (pB [q]) i).sz=q.n * 256:=k1;have k3:(bP (pB [q]) i).vd=q.n * 256:=k1;have k4:(bP (pB [q]) i).fi=0:=rfl;have k5:jO (bP (pB [q]) i).rs=q.n:=hw;unfold Pc;rw[if_neg (by simp[bP,pB,S1]),if_neg (by simp[bP,pB]),if_neg (by rw[k4];decide),if_neg (not_not_intro (show (oQ (bP (pB [q]) i).rs).2=0 from hc)),if_neg (by rw[k4];simp),if_neg (by rw[k4,k5];omega),if_neg (by rw[k4];simp),if_neg (by rw[k1,k2,k3];omega),if_neg (by rw[k2,k3];omega)]
 rw[e,if_neg (by decide),if_neg (by omega)]
theorem aJZ{q:bF}(h:0<=q.s/\1<=q.n/\q.s+q.n<=512){i:Int}(hi:0<=i/\i<=100):(fG (bP (pB [q]) i)).length<=48:=by
 have h1:=aFx h hi;unfold fG;rw[if_pos h1,lT _ (mM (L6 (Q8 (by simp))) h1).bd];exact aFw (Xn h) i
theorem Q9{r:cR}(h:r.ats=[]):gW r=hdE r:=by
 unfold gW Tp;have h1:(sF r.ats).2=0:=by
  unfold sF;rw[h];rw[if_neg (by decide)];rw[if_neg (by simp)]
 have h2:¬ 0<=gtI r:=by
  have:gtI r < 0:=sI.2 (fun a ha=>by rw[h] at ha;cases ha)
  omega
 have h3:eP r.ats=0:=by rw[h];rfl
 by_cases q:hdE r=0
 ·rw[if_neg (not_not_intro q),if_neg (not_not_intro h1),if_neg h2,h3,q];rfl
 ·rw[if_pos q]
def r00(fl:Int):cR:=⟨1,1,fl,0,0,0,0,[]⟩
theorem aOx{fl:Int}(h:fl=1\/fl=3):gW (r00 fl)=0:=by
 rw[Q9 rfl];rcases h with rfl | rfl<;>rfl
theorem aFy(fl:Int):(r00 fl).W:=⟨fun a h=>(by cases h),aWA _⟩
noncomputable def Db(fl:Int):cR:=nO (r00 fl) uC
theorem Xo{r:cR}{a:aK}(h0:gW r=0)(hu:fJ r.fl=true)(hn:r.nx < 65535)(he:gU (bP a r.nx)=0)(hs:Ca r a=false)(hl:r.ats.length < 32)(hd:eP (nO r a).ats<=440):Put r a/\Tq r a=(nO r a,0):=by
 refine⟨⟨Aw h0,hu,hn,he,hs,hl,hd⟩, ?_⟩;have e1:P0 r=0:=by unfold P0;rw[h0,hu,decide_eq_true hn];rfl
 have e2:P1 r a=0:=by unfold P1;rw[he,hs,decide_eq_true hl];rfl
 unfold Tq;rw[if_neg (not_not_intro e1),if_neg (not_not_intro e2),if_pos hd]
theorem aFz{r:cR}{a:aK}(hW:r.W)(haW:a.W)(hl:r.ats.length < 32):(nO r a).W:=by
 refine⟨fun x hx=>?_, ?_⟩
 ·rcases Az.1 hx with h | h
  ·exact hW.at' x h
  ·rw[h];exact L6 haW
 ·show (dL (r.ats++[bP a r.nx])).length<=900;rw[pT,aWg,List.length_singleton];omega
theorem Mh{fl:Int}(h:fl=1\/fl=3):Tq (r00 fl) uC=(Db fl,0)/\gW (Db fl)=0/\(Db fl).W/\eP (Db fl).ats<=40:=by
 have n:eP (Db fl).ats<=40:=by
  show eP (nO (r00 fl) uC).ats<=40;rw[Qb];have:=aJY;show eP []+_<=40;have e:bP uC (r00 fl).nx=uC:=rfl;rw[e];simp only[eP,aWw,List.sum_nil];omega
 have hu:fJ (r00 fl).fl=true:=by rcases h with rfl | rfl<;>rfl
 obtain⟨h1,h2⟩:=Xo (aOx h) hu (by show (0:Int) < 65535;decide) (aOw (by simp[r00]):gU (bP uC (r00 fl).nx)=0) rfl (by show (0:Nat) < 32;decide) (by have:eP (nO (r00 fl) uC).ats<=40:=n;omega);exact⟨h2,Xb (aFy fl) (fun x h=>(by cases h)) h1,aFz (aFy fl) aFu (by show (0:Nat) < 32;decide),n⟩
theorem Xp{fl:Int}{b:aK}:b∈(Db fl).ats↔b=uC:=by
 unfold Db;rw[Az];show b∈[]\/b=uC↔b=uC;simp
theorem Xq(fl:Int):(Db fl).ats.length=1:=by
 show (dL ([]++[bP uC 0])).length=1;rw[pT];rfl
noncomputable def Ra(fl:Int)(q:bF):cR:=nO (Db fl) (pB [q])
theorem Ci{fl:Int}(h:fl=1\/fl=3){q:bF}(hq:0<=q.s/\1<=q.n/\q.s+q.n<=512):Tq (Db fl) (pB [q])=(Ra fl q,0)/\gW (Ra fl q)=0/\(Ra fl q).W:=by
 obtain⟨_,k2,k3,k4⟩:=Mh h;have hu:fJ (Db fl).fl=true:=by rcases h with rfl | rfl<;>rfl
 have hW:=Q8 (l:=[q]) (by simp);have hn:(Db fl).nx=1:=rfl;have n:eP (nO (Db fl) (pB [q])).ats<=440:=by
  rw[Qb,hn];have:=aJZ hq (i:=1) (by decide);omega
 have hs:Ca (Db fl) (pB [q])=false:=by
  unfold Ca;have:((Db fl).ats.any fun b=>mN (pB [q]) b)=false:=by
   rw[aXE];intro b hb;rw[Xp.1 hb];simp[mN,pB,uC]
  rw[this,Bool.and_false]
 obtain⟨h1,h2⟩:=Xo k2 hu (by rw[hn];decide) (by rw[hn];exact aFx hq (by decide)) hs (by rw[Xq];decide) n;exact⟨h2,Xb k3 (fun x h=>(by cases h)) h1,aFz k3 hW (by rw[Xq];decide)⟩
theorem Xr{fl:Int}{q:bF}{b:aK}:b∈(Ra fl q).ats↔b=uC\/b=bP (pB [q]) 1:=by
 unfold Ra;rw[Az,Xp];rfl
def Dd(n:Int):Int:=if n=5 then 3 else 1
noncomputable def Mi(n:Int)(al mi lg:bF):cR:=if n=0 then Ra (Dd n) al else if n=1 then Ra (Dd n) mi else if n=2 then Ra (Dd n) lg else Db (Dd n)
theorem kU(n:Int):Dd n=1\/Dd n=3:=by unfold Dd;split<;>simp
def VR(q:bF):Prop:=0<=q.s/\1<=q.n/\q.s+q.n<=512
theorem Ud(n:Int){al mi lg:bF}(h1:VR al)(h2:VR mi)(h3:VR lg):gW (Mi n al mi lg)=0/\(Mi n al mi lg).W:=by
 unfold Mi;split
 ·exact (Ci (kU n) h1).2
 ·split
  ·exact (Ci (kU n) h2).2
  ·split
   ·exact (Ci (kU n) h3).2
   ·exact⟨(Mh (kU n)).2.1,(Mh (kU n)).2.2.1⟩
def frR:cR:=⟨1,0,0,0,0,0,0,[]⟩
theorem Cj:gW frR=0/\frR.W:=⟨by rw[Q9 rfl];rfl,⟨fun a h=>(by cases h),by decide⟩⟩
theorem aFA{r:cR}(h:gW r=0):C8 r 1=(mP r 1,0):=by
 unfold C8 aI9;rw[h];rfl
end
section
variable {G:aF} {bb:Bool}
theorem Ue:EV G (Tb (eI G bb)) 142 [] []=some (uC.v,[]):=by
 have r:=aFh (G:=G) (bb:=bb) (n:=16) (by decide);have q:EV G (Tb (eI G bb)) 170 [.one (.dc (.raw (.string ⟨#[0]⟩))),vi 16] []=some (sv (zl 16),[]):=iI rfl r;refine aA rfl ?_;simp (maxSteps:=2000000) (disch:=omega) only[go_sem,h142c,q,uC,aK.v]
 try rfl
theorem aJ0(l:List bF)(k:Nat)(hk:k < l.length):cD (l.take (k+1))=cD (l.take k)+l[k].n:=sY l k hk
set_option maxHeartbeats 1000000 in
theorem Uf{B:aO}(l:List bF)(hl:∀ q∈l,0<=q.n/\q.n<=100000)(hs:cD l<=100000)(hn:l.length<=100000):EV G (Tb B) 143 [gF l] []=some ((pB l).v,[]):=by
 refine aA rfl ?_;simp (maxSteps:=2000000) (disch:=omega) only[go_sem,h143c,aWf];rw[aU (fun k=>⟨(gF l::jk 1 (.one (.ptr 0 0)::vi (cD (l.take k) * 256)::jk 2 (gF l::vi l.length::vi k::jk 14 []))),[.box [.dc (.raw (Zi 0)),.dc (.raw (.string ⟨#[]⟩)),.dc (.raw (Zi 0)),.dc (.raw (Zi 0)),.dc (.raw (.bool false)),.dc (.raw (.string ⟨#[]⟩)),.dc (.raw (Zi 0)),.dc (.raw (.slice none 0 0)),.dc (.raw (Zi 0)),.dc (.raw (Zi 0)),.dc (.raw (Zi 0))]]⟩) l.length ?_ ?_]
 ·rw[aWY];simp (maxSteps:=2000000) (disch:=omega) only[go_sem,h143l0,aWf,pB,aK.v,bD]
  try rfl
 ·rfl
 ·intro k hk;have h1:=hl _ (aWq hk);have h2:=aJ0 l k hk;have h3:=hY l k (fun r hr=>(hl r hr).1)
  have h4:=fW (l.take k) (fun r hr=>(hl r (aWF hr)).1)
  have e:cD (l.take k) * 256+l[k].n * 256=cD (l.take (k+1)) * 256:=by omega
  have h5:=hY l (k+1) (fun r hr=>(hl r hr).1)
  simp (maxSteps:=2000000) (disch:=omega) only[go_sem,h143l0,aWf,bF.e,e]
theorem De(hG:G9 G)(r:cR)(hW:r.W):EV G (Tb (eI G bb)) 141 [r.v] []=some (bkv (C8 r 1),[]):=by
 have q:EV G (Tb (eI G bb)) 181 [.agg (rc9 r 1)] []=some (bkv (C8 r 1),[]):=upS (aFk (bb:=bb) hG r hW 1);generalize C8 r 1=E at *;obtain⟨b,e⟩:=E;refine aA rfl ?_;simp (maxSteps:=2000000) (disch:=omega) only[go_sem,h141c,q,aWR,aWL]
theorem aOy(hG:G9 G):EV G (Tb (eI G bb)) 97 [] []=some (sv (mP frR 1),[]):=by
 have q:EV G (Tb (eI G bb)) 141 [.agg [.dc (ci 1),.dc (ci 0),.dc (ci 0),.dc (ci 0),.dc (ci 0),.dc (ci 0),.dc (ci 0),.dc (.slc [])]] []=some (bkv (C8 frR 1),[]):=De (bb:=bb) hG frR Cj.2;rw[aFA Cj.1] at q;generalize mP frR 1=b at *;refine aA rfl ?_;simp (maxSteps:=2000000) (disch:=omega) only[go_sem,h97c,q]
abbrev rL(f:Int):List aR:=[.dc (ci 1),.dc (ci 1),.dc (ci f),.dc (ci 0),.dc (ci 0),.dc (ci 0),.dc (ci 0),.dc (.slc [])]
set_option maxHeartbeats 8000000 in
theorem aSv(hG:G9 G)(n:Int)(al mi lg:bF)(h1:VR al)(h2:VR mi)(h3:VR lg):EV G (Tb (eI G bb)) 98 [vi n,al.v,mi.v,lg.v] []=some (sv (mP (Mi n al mi lg) 1),[]):=by
 have qs:=Ue (G:=G) (bb:=bb);have d1:EV G (Tb (eI G bb)) 143 [vl [[ci al.s,ci al.n]]] []=some ((pB [al]).v,[]):=Uf (G:=G) (B:=eI G bb) [al] (by simp;unfold VR at h1;omega) (by simp[cD];unfold VR at h1;omega) (by simp);have d2:EV G (Tb (eI G bb)) 143 [vl [[ci mi.s,ci mi.n]]] []=some ((pB [mi]).v,[]):=Uf (G:=G) (B:=eI G bb) [mi] (by simp;unfold VR at h2;omega) (by simp[cD];unfold VR at h2;omega) (by simp);have d3:EV G (Tb (eI G bb)) 143 [vl [[ci lg.s,ci lg.n]]] []=some ((pB [lg]).v,[]):=Uf (G:=G) (B:=eI G bb) [lg] (by simp;unfold VR at h3;omega) (by simp[cD];unfold VR at h3;omega) (by simp);have qn:EV G (Tb (eI G bb)) 144 [vi 1,vi (Dd n),rfv 0 0] []=some (.tup [.agg [.dc (ci 1),.dc (ci 0),.dc (ci (Dd n)),.dc (ci 0),.dc (ci 0),.dc (ci 0),.dc (ci 0),.dc (.slc [])],tE 0],[]):=by
  have q:=upS (aR8 (G:=G) (bb:=bb) 1 (Dd n) 0 0);rcases kU n with e | e
  ·rw[e] at q ⊢;exact q
  ·rw[e] at q ⊢;exact q
 obtain⟨k1,_,k3,_⟩:=Mh (kU n);have p1:EV G (Tb (eI G bb)) 145 [.agg (rL (Dd n)),uC.v] []=some (rcv (Tq (r00 (Dd n)) uC),[]):=upS (Er (G:=G) (bb:=bb) (r00 (Dd n)) (aFy _) uC aFu);rw[k1] at p1;obtain⟨ho,hW⟩:=Ud n h1 h2 h3;have pr:=De (bb:=bb) hG (Mi n al mi lg) hW;rw[aFA ho] at pr;refine aA rfl ?_;by_cases c0:n=0
 ·subst c0;have p2:=upS (Er (G:=G) (bb:=bb) (Db (Dd 0)) k3 (pB [al]) (Q8 (by simp)));rw[(Ci (kU 0) h1).1] at p2;have eo:Mi 0 al mi lg=Ra (Dd 0) al:=by unfold Mi;simp
  rw[eo] at pr ⊢;have ef:Dd 0=1:=rfl;rw[ef] at qn p1 p2 pr ⊢;clear k1 k3;generalize Ra 1 al=X2 at *;generalize Db 1=X1 at *;generalize pB [al]=D at *;generalize uC=A at *;simp (maxSteps:=2000000) (disch:=omega) only[go_sem,h98c,qs,d1,qn,bF.e,Int.reduceEq,decide_false,decide_true,Int.reduceNeg];rw[aU (fun k=>⟨(jk 11 (.one (.ptr 4 0)::jk 43 (.one (.bld 3 2)::vi 2::vi k::jk 16 []))),[.box [.dc (ci al.s),.dc (ci al.n)],.box [.dc (ci mi.s),.dc (ci mi.n)],.box [.dc (ci lg.s),.dc (ci lg.n)],.arr 0 11 [A.e,D.e],.box (match k with | 0=>rL 1 | 1=>X1.c | _=>X2.c)]⟩) 2 ?_ ?_]
  ·simp (maxSteps:=2000000) (disch:=omega) only[go_sem,h98l0,pr]
  ·rfl
  ·intro k hk;rcases (show k=0\/k=1 by omega) with rfl | rfl
   ·simp (maxSteps:=2000000) (disch:=omega) only[go_sem,h98l0,p1,aK.e];rfl
   ·simp (maxSteps:=2000000) (disch:=omega) only[go_sem,h98l0,p2,aK.e];rfl
 by_cases c1:n=1
 ·subst c1;have p2:=upS (Er (G:=G) (bb:=bb) (Db (Dd 1)) k3 (pB [mi]) (Q8 (by simp)));rw[(Ci (kU 1) h2).1] at p2;have eo:Mi 1 al mi lg=Ra (Dd 1) mi:=by unfold Mi;simp
  rw[eo] at pr ⊢;have ef:Dd 1=1:=rfl;rw[ef] at qn p1 p2 pr ⊢;clear k1 k3;generalize Ra 1 mi=X2 at *;generalize Db 1=X1 at *;generalize pB [mi]=D at *;generalize uC=A at *;simp (maxSteps:=2000000) (disch:=omega) only[go_sem,h98c,qs,d2,qn,bF.e,Int.reduceEq,decide_false,decide_true,Int.reduceNeg];rw[aU (fun k=>⟨(jk 11 (.one (.ptr 4 0)::jk 43 (.one (.bld 3 2)::vi 2::vi k::jk 16 []))),[.box [.dc (ci al.s),.dc (ci al.n)],.box [.dc (ci mi.s),.dc (ci mi.n)],.box [.dc (ci lg.s),.dc (ci lg.n)],.arr 0 11 [A.e,D.e],.box (match k with | 0=>rL 1 | 1=>X1.c | _=>X2.c)]⟩) 2 ?_ ?_]
  ·simp (maxSteps:=2000000) (disch:=omega) only[go_sem,h98l0,pr]
  ·rfl
  ·intro k hk;rcases (show k=0\/k=1 by omega) with rfl | rfl
   ·simp (maxSteps:=2000000) (disch:=omega) only[go_sem,h98l0,p1,aK.e];rfl
   ·simp (maxSteps:=2000000) (disch:=omega) only[go_sem,h98l0,p2,aK.e];rfl
 by_cases c2:n=2
 ·subst c2;have p2:=upS (Er (G:=G) (bb:=bb) (Db (Dd 2)) k3 (pB [lg]) (Q8 (by simp)));rw[(Ci (kU 2) h3).1] at p2;have eo:Mi 2 al mi lg=Ra (Dd 2) lg:=by unfold Mi;simp
  rw[eo] at pr ⊢;have ef:Dd 2=1:=rfl;rw[ef] at qn p1 p2 pr ⊢;clear k1 k3;generalize Ra 1 lg=X2 at *;generalize Db 1=X1 at *;generalize pB [lg]=D at *;generalize uC=A at *;simp (maxSteps:=2000000) (disch:=omega) only[go_sem,h98c,qs,d3,qn,bF.e,Int.reduceEq,decide_false,decide_true,Int.reduceNeg];rw[aU (fun k=>⟨(jk 11 (.one (.ptr 4 0)::jk 43 (.one (.bld 3 2)::vi 2::vi k::jk 16 []))),[.box [.dc (ci al.s),.dc (ci al.n)],.box [.dc (ci mi.s),.dc (ci mi.n)],.box [.dc (ci lg.s),.dc (ci lg.n)],.arr 0 11 [A.e,D.e],.box (match k with | 0=>rL 1 | 1=>X1.c | _=>X2.c)]⟩) 2 ?_ ?_]
  ·simp (maxSteps:=2000000) (disch:=omega) only[go_sem,h98l0,pr]
  ·rfl
  ·intro k hk;rcases (show k=0\/k=1 by omega) with rfl | rfl
   ·simp (maxSteps:=2000000) (disch:=omega) only[go_sem,h98l0,p1,aK.e];rfl
   ·simp (maxSteps:=2000000) (disch:=omega) only[go_sem,h98l0,p2,aK.e];rfl
 have eo:Mi n al mi lg=Db (Dd n):=by unfold Mi;rw[if_neg c0,if_neg c1,if_neg c2]
 rw[eo] at pr ⊢;by_cases c5:n=5
 ·subst c5;have ef:Dd 5=3:=rfl;have e2:Sv .i64 1 2=3:=by decide
  rw[ef] at qn p1 pr ⊢;clear k1 k3;generalize Db 3=X1 at *;generalize uC=A at *;simp (maxSteps:=2000000) (disch:=omega) only[go_sem,h98c,qs,qn,bF.e,Int.reduceEq,decide_false,decide_true,Int.reduceNeg,e2];rw[aU (fun k=>⟨(jk 11 (.one (.ptr 4 0)::jk 43 (.one (.bld 3 1)::vi 1::vi k::jk 16 []))),[.box [.dc (ci al.s),.dc (ci al.n)],.box [.dc (ci mi.s),.dc (ci mi.n)],.box [.dc (ci lg.s),.dc (ci lg.n)],.arr 0 11 [A.e],.box (match k with | 0=>rL 3 | _=>X1.c)]⟩) 1 ?_ ?_]
  ·simp (maxSteps:=2000000) (disch:=omega) only[go_sem,h98l0,pr]
  ·rfl
  ·intro k hk;rw[show k=0 by omega];simp (maxSteps:=2000000) (disch:=omega) only[go_sem,h98l0,p1,aK.e];rfl
 ·have ef:Dd n=1:=by unfold Dd;rw[if_neg c5]
  rw[ef] at qn p1 pr ⊢;clear k1 k3;generalize Db 1=X1 at *;generalize uC=A at *;simp (maxSteps:=2000000) (disch:=omega) only[go_sem,h98c,qs,qn,bF.e,Int.reduceEq,c0,c1,c2,c5,decide_false,decide_true,Int.reduceNeg];rw[aU (fun k=>⟨(jk 11 (.one (.ptr 4 0)::jk 43 (.one (.bld 3 1)::vi 1::vi k::jk 16 []))),[.box [.dc (ci al.s),.dc (ci al.n)],.box [.dc (ci mi.s),.dc (ci mi.n)],.box [.dc (ci lg.s),.dc (ci lg.n)],.arr 0 11 [A.e],.box (match k with | 0=>rL 1 | _=>X1.c)]⟩) 1 ?_ ?_]
  ·simp (maxSteps:=2000000) (disch:=omega) only[go_sem,h98l0,pr]
  ·rfl
  ·intro k hk;rw[show k=0 by omega];simp (maxSteps:=2000000) (disch:=omega) only[go_sem,h98l0,p1,aK.e];rfl
end
section
variable {G:aF} {bb:Bool}
abbrev Rb(x:Bt)(n:Int):bF:=⟨x.tb,2 * n⟩
abbrev miR(x:Bt):bF:=⟨x.mi,8⟩
abbrev lgR(x:Bt):bF:=⟨x.lg,x.lc⟩
noncomputable def mB(x:Bt)(m:Int)(n:Nat):List Int:=if n < 16 then mP (Mi n (Rb x m) (miR x) (lgR x)) 1 else mP frR 1
noncomputable def kF(x:Bt)(m:Int):Nat->List Int
 | 0=>pX (zl (x.cl.toNat * 256)) x
 | n+1=>if n < 4 then oO (oO (kF x m n) (mB x m n) (x.tb.toNat+2 * n) (x.tb.toNat+2 * n+1)) (mB x m n) (x.mi.toNat+2 * n) (x.mi.toNat+2 * n+1) else oO (kF x m n) (mB x m n) (x.tb.toNat+2 * n) (x.tb.toNat+2 * n+1)
theorem aFB(x:Bt)(m:Int)(n:Nat):kF x m (n+1)=if n < 4 then oO (oO (kF x m n) (mB x m n) (x.tb.toNat+2 * n) (x.tb.toNat+2 * n+1)) (mB x m n) (x.mi.toNat+2 * n) (x.mi.toNat+2 * n+1) else oO (kF x m n) (mB x m n) (x.tb.toNat+2 * n) (x.tb.toNat+2 * n+1):=rfl
noncomputable def gX(x:Bt)(m:Int):List Int:=kF x m m.toNat
structure H5 (x:Bt) (m:Int):Prop where
 ck:fH x=0
 cl:64<=x.cl/\x.cl<=512
 tb:1<=x.tb/\x.tb+2 * m < x.cl
 mi:1<=x.mi/\x.mi+8 < x.cl
 lg:1<=x.lg/\x.lg+x.lc < x.cl/\8<=x.lc
 nn:16<=m/\m<=96
 c1:C9 x.tb (2 * m) x.mi 8=false
 c2:C9 x.tb (2 * m) x.lg x.lc=false
theorem Xs{x:Bt}{m:Int}(h:aJK x m=0):H5 x m:=by
 unfold aJK at h;by_cases h1:fH x=0
 ·rw[if_pos h1] at h;by_cases h2:16<=m/\m<=96
  ·rw[if_pos h2] at h;by_cases h3:x.tb+2 * m < x.cl
   ·rw[if_pos h3] at h;by_cases h4:C9 x.tb (2 * m) x.mi 8=true\/C9 x.tb (2 * m) x.lg x.lc=true
    ·rw[if_pos h4] at h;cases h
    ·obtain⟨a,b,c,d⟩:=aJz h1;obtain⟨n1,n2,n3,n4⟩:=kT.1 a;obtain⟨i1,i2,i3⟩:=oU.1 b;have f:=A1.1 c;exact⟨h1,n1,⟨i1.1,h3⟩,⟨i2.1,f.1⟩,⟨i3.1,f.2,n3.1⟩,h2,by simpa using fun q=>h4 (.inl q),by simpa using fun q=>h4 (.inr q)⟩
   ·rw[if_neg h3] at h;cases h
  ·rw[if_neg h2] at h;cases h
 ·rw[if_neg h1] at h;exact absurd h h1
theorem H5.rs{x:Bt}{m:Int}(h:H5 x m):VR (Rb x m)/\VR (miR x)/\VR (lgR x):=by
 have:=h.cl;have:=h.tb;have:=h.mi;have:=h.lg;have:=h.nn;refine⟨⟨?_, ?_, ?_⟩,⟨?_, ?_, ?_⟩,⟨?_, ?_, ?_⟩⟩<;>simp only<;>omega
theorem Mj{x:Bt}{m:Int}(h:H5 x m)(n:Nat):(mB x m n).length=512/\aL (mB x m n):=by
 obtain⟨h1,h2,h3⟩:=h.rs;unfold mB;split
 ·obtain⟨a,b⟩:=Ud n h1 h2 h3;exact (Ay b a (by decide)).2
 ·exact (Ay Cj.2 Cj.1 (by decide)).2
theorem oD{l b:List Int}{n0 n1:Nat}(hb:b.length=512)(h0:n0 * 256+256<=l.length)(h1:n1 * 256+256<=l.length):(oO l b n0 n1).length=l.length:=by
 unfold oO;have e:(gT l (n0 * 256) (b.take 256)).length=l.length:=cN (by rw[aWm];omega);rw[cN (by rw[e,aWt];omega),e]
theorem Ck{l b:List Int}{n0 n1:Nat}(hl:aL l)(hb:aL b):aL (oO l b n0 n1):=aAP (aAP hl (fun x hx=>hb x (aWF hx))) (fun x hx=>hb x (aWT hx))
theorem qP{x:Bt}{m:Int}(h:H5 x m):∀ n:Nat,(n:Int)<=m->(kF x m n).length=x.cl.toNat * 256/\aL (kF x m n)
 | 0,_=>by
  have:=h.cl;refine⟨?_,aAP (aAP (tG _) (mQ x)) (mQ x)⟩;show (pX (zl (x.cl.toNat * 256)) x).length=_;rw[Ev _ _ (by rw[bG];omega),bG]
 | n+1,hn=>by
  obtain⟨i1,i2⟩:=qP h n (by omega);obtain⟨b1,b2⟩:=Mj h n;have:=h.cl;have:=h.tb;have:=h.mi;unfold kF;split
  ·rw[oD b1 (by rw[oD b1 (by omega) (by omega)];omega) (by rw[oD b1 (by omega) (by omega)];omega),oD b1 (by omega) (by omega)];exact⟨i1,Ck (Ck i2 b2) b2⟩
  ·rw[oD b1 (by omega) (by omega)];exact⟨i1,Ck i2 b2⟩
theorem aSw(n:Nat):List.replicate n (cZ (.int .u8 0))=(zl n).map yC:=by rw[zl,List.map_replicate];rfl
set_option maxHeartbeats 8000000 in
theorem aFC(hG:G9 G){x:Bt}{m:Int}(h:H5 x m)(N:Nat)(hN:x.cl.toNat * 256=N)(k:Nat)(hk:(k:Int) < m):
  K1 [2,4,1,48,0] 4 (EC (EV G (Tb (eI G bb))) G h42l0 ⟨(jk 2 (.one (.ptr 0 0)::jk 4 (.one (.ptr 1 0)::jk 1 (.one (.bls 3 0 N 1)::jk 48 (vi m::vi k::jk 35 []))))),[x.o,.box [.dc (ci x.tb),.dc (ci (2 * m))],.arr 0 1 [[ci 0],[ci 0]],yb (kF x m k)]⟩)=
   some ⟨(jk 2 (.one (.ptr 0 0)::jk 4 (.one (.ptr 1 0)::jk 1 (.one (.bls 3 0 N 1)::jk 48 (vi m::vi (k+1:Nat)::jk 35 []))))),[x.o,.box [.dc (ci x.tb),.dc (ci (2 * m))],.arr 0 1 [[ci 0],[ci 0]],yb (kF x m (k+1))]⟩:=by
 obtain⟨v1,v2,v3⟩:=h.rs;have fr:=aOy (bb:=bb) hG;have ow:=aSv (bb:=bb) hG k (Rb x m) (miR x) (lgR x) v1 v2 v3;have cm:=tH (G:=G) (B:=eI G bb) x;have cl:=Tv (G:=G) (B:=eI G bb) x;obtain⟨b1,b2⟩:=Mj h k;obtain⟨e1,e2⟩:=qP h k (by omega);have g1:=h.cl;have g2:=h.tb;have g3:=h.mi;have g4:=h.nn;have nT:=Hu (G:=G) (B:=eI G bb) (x.tb+2 * k) (by omega);have nM:=Hu (G:=G) (B:=eI G bb) (x.mi+2 * k) (by omega);have p1:=Qw (G:=G) (B:=eI G bb) (kF x m k) (mB x m k) N (x.tb.toNat+2 * k) (x.tb.toNat+2 * k+1) (by omega) b1 b2 (by omega) (by omega) (by omega);have q1:(oO (kF x m k) (mB x m k) (x.tb.toNat+2 * k) (x.tb.toNat+2 * k+1)).length=N:=by rw[oD b1 (by omega) (by omega)];omega
 have tT:((x.tb.toNat+2 * k:Nat):Int)=x.tb+2 * k:=by omega
 have tT':((x.tb.toNat+2 * k+1:Nat):Int)=x.tb+2 * k+1:=by omega
 rw[tT,tT'] at p1;have hk':(k:Int) < m:=hk;rw[aFB];by_cases h4:k < 4
 ·rw[if_pos h4];have h4':(k:Int) < 4:=by omega
  have h16':(k:Int) < 16:=by omega
  have p2:=Qw (G:=G) (B:=eI G bb) (oO (kF x m k) (mB x m k) (x.tb.toNat+2 * k) (x.tb.toNat+2 * k+1)) (mB x m k) N (x.mi.toNat+2 * k) (x.mi.toNat+2 * k+1) q1 b1 b2 (by omega) (by omega) (by omega);have tM:((x.mi.toNat+2 * k:Nat):Int)=x.mi+2 * k:=by omega
  have tM':((x.mi.toNat+2 * k+1:Nat):Int)=x.mi+2 * k+1:=by omega
  rw[tM,tM'] at p2;generalize oO (kF x m k) (mB x m k) (x.tb.toNat+2 * k) (x.tb.toNat+2 * k+1)=D1 at *;generalize oO D1 (mB x m k) (x.mi.toNat+2 * k) (x.mi.toNat+2 * k+1)=D2 at *;unfold mB at p1 p2;rw[if_pos (by omega)] at p1 p2;generalize mP (Mi k (Rb x m) (miR x) (lgR x)) 1=Q at *;generalize mP frR 1=F at *;generalize kF x m k=D at *;simp (maxSteps:=2000000) (disch:=omega) only[go_sem,h42l0,hk',fr,ow,cm,cl,nT,nM,p1,p2,h4',h16',jP]
 ·rw[if_neg h4];have h4':¬ (k:Int) < 4:=by omega
  generalize oO (kF x m k) (mB x m k) (x.tb.toNat+2 * k) (x.tb.toNat+2 * k+1)=D1 at *;unfold mB at p1;generalize kF x m k=D at *;by_cases h16:k < 16
  ·rw[if_pos h16] at p1;have h16':(k:Int) < 16:=by omega
   generalize mP (Mi k (Rb x m) (miR x) (lgR x)) 1=Q at *;generalize mP frR 1=F at *;simp (maxSteps:=2000000) (disch:=omega) only[go_sem,h42l0,hk',fr,ow,cm,cl,nT,nM,p1,h4',h16',jP]
  ·rw[if_neg h16] at p1;have h16':¬ (k:Int) < 16:=by omega
   generalize mP frR 1=F at *;simp (maxSteps:=2000000) (disch:=omega) only[go_sem,h42l0,hk',fr,ow,cm,cl,nT,nM,p1,h4',h16',jP]
set_option maxHeartbeats 8000000 in
theorem aAT(hG:G9 G)(x:Bt)(n:Int)(h:aJK x n=0):EV G (Tb (eI G bb)) 42 [x.v,vi n] []=some (.tup [tS (gX x n),tE 0],[]):=by
 have hE:=Xs h;have ck:=lW (G:=G) (B:=eI G bb) x;have w:=jD (G:=G) (B:=eI G bb) n 16 96;have u:=gS (G:=G) (B:=eI G bb);have f:=lV (G:=G) (B:=eI G bb);have cm:=tH (G:=G) (B:=eI G bb) x;have cl:=Tv (G:=G) (B:=eI G bb) x;have g0:=hE.cl;have g1:=hE.tb;have g2:=hE.mi;have g3:=hE.lg;have g4:=hE.nn;obtain⟨_,_,hf,_⟩:=aJz hE.ck;have lc:x.lc<=1000:=by omega
 have b1:=nV (G:=G) (B:=eI G bb) x.tb (2 * n) (by omega) (by omega);have m1:=A0 (G:=G) (B:=eI G bb) x.tb (2 * n) x.mi 8 (by omega) (by omega) (by omega) (by omega);have m2:=A0 (G:=G) (B:=eI G bb) x.tb (2 * n) x.lg x.lc (by omega) (by omega) (by omega) (by omega);rw[hE.ck] at ck;rw[decide_eq_true g4] at w;rw[hE.c1] at m1;rw[hE.c2] at m2;have h3:=g1.2;obtain⟨N,hN⟩:∃ N:Nat,x.cl.toNat * 256=N:=⟨_,rfl⟩;have zN:x.cl * 256=(N:Int):=by omega
 have pb:=aE9 (G:=G) (B:=eI G bb) (zl N) x N (bG N) (aFh (by decide)) (fun y hy=>by have:=tN hE.ck y hy;omega) (by omega)
 have e0:kF x n 0=pX (zl N) x:=by rw[<- hN];rfl
 have zy:=aSw N;obtain⟨el,eb⟩:=qP hE n.toNat (by omega);have eD:hP (List.take N (List.map yC (kF x n n.toNat)))=some ((kF x n n.toNat).map u8):=by
  rw[aWP (by rw[aWf,el];omega),iZ]
 have nn:((n.toNat:Nat):Int)=n:=by omega
 refine aA rfl ?_;simp (maxSteps:=2000000) (disch:=omega) only[go_sem,h42c,ck,w,u,f,cm,cl,b1,m1,m2,h3,bO,dZ,eQ,aWS,aWO,zN,zy,pb,aW6];rw[aU (fun k=>⟨(jk 2 (.one (.ptr 0 0)::jk 4 (.one (.ptr 1 0)::jk 1 (.one (.bls 3 0 N 1)::jk 48 (vi n::vi k::jk 35 []))))),[x.o,.box [.dc (ci x.tb),.dc (ci (2 * n))],.arr 0 1 [[ci 0],[ci 0]],yb (kF x n k)]⟩) n.toNat ?_ ?_]
 ·unfold gX;have dz:List.drop 0 (List.map yC (kF x n n.toNat))=List.map yC (kF x n n.toNat):=aW7;generalize kF x n n.toNat=D at *;simp (maxSteps:=2000000) (disch:=omega) only[go_sem,h42l0,nn,aWf,el,hN,eD,Le]
 ·rw[e0];rfl
 ·exact fun k hk=>aFC hG hE N hN k (by omega)
end
section
variable {G:aF} {bb:Bool}
theorem Xt{l t:List Int}(ht:t.length=256)(n c:Nat)(hn:n * 256+256<=l.length):Mb (gT l (n * 256) t) c=if c=n then t else Mb l c:=by
 have hl:(l.take (n * 256)).length=n * 256:=by rw[aWm];omega
 unfold Mb gT;rw[aWv];by_cases h:c=n
 ·rw[if_pos h,h,List.drop_append_of_le_length (by omega),List.drop_eq_nil_of_le (by omega),aWL,aXK (by omega),aWP (by omega)]
 ·rw[if_neg h];rcases Nat.lt_or_gt_of_ne h with q | q
  ·rw[List.drop_append_of_le_length (by omega),aXK (by rw[aWt];omega),List.drop_take,List.take_take,aXD (by omega)]
  ·have e:(l.take (n * 256)++(t++l.drop (n * 256+t.length))).drop (c * 256)=(l.drop (n * 256+t.length)).drop (c * 256 - (n * 256+t.length)):=by
    rw[<- aWv,List.drop_append,List.drop_eq_nil_of_le (by rw[aWg];omega),aWL,aWg,hl]
   rw[e,List.drop_drop];congr 2;omega
theorem oF{l b:List Int}(hb:b.length=512)(n0 n1 c:Nat)(h0:n0 * 256+256<=l.length)(h1:n1 * 256+256<=l.length):Mb (oO l b n0 n1) c=if c=n1 then b.drop 256 else if c=n0 then b.take 256 else Mb l c:=by
 unfold oO;rw[Xt (by rw[aWt];omega) n1 c (by rw[cN (by rw[aWm];omega)];omega),Xt (by rw[aWm];omega) n0 c h0]
theorem Mk{l b:List Int}(hb:b.length=512)(n:Nat)(h0:n * 256+512<=l.length):Dw (oO l b n (n+1)) n (n+1)=b:=by
 unfold Dw;rw[oF hb n (n+1) n (by omega) (by omega),oF hb n (n+1) (n+1) (by omega) (by omega),if_neg (by omega),if_pos rfl,if_pos rfl,aXs]
theorem mY{l b:List Int}(hb:b.length=512)(n a c:Nat)(h0:n * 256+512<=l.length)(h1:a≠n/\a≠n+1)(h2:c≠n/\c≠n+1):Dw (oO l b n (n+1)) a c=Dw l a c:=by
 unfold Dw;rw[oF hb n (n+1) a (by omega) (by omega),oF hb n (n+1) c (by omega) (by omega),if_neg h1.2,if_neg h1.1,if_neg h2.2,if_neg h2.1]
theorem aFD{a m b n:Int}(h:C9 a m b n=false):¬ (a < b+n/\b < a+m):=of_decide_eq_false h
theorem Ez{x:Bt}{m:Int}(h:H5 x m):∀ n:Nat,(n:Int)<=m->(Mb (kF x m n) 0=Mb (kF x m 0) 0)/\(∀ k,k < n->Dw (kF x m n) (x.tb.toNat+2 * k) (x.tb.toNat+2 * k+1)=mB x m k)/\(∀ k,k < n->k < 4->Dw (kF x m n) (x.mi.toNat+2 * k) (x.mi.toNat+2 * k+1)=mB x m k)
 | 0,_=>⟨rfl,fun k hk=>absurd hk (Nat.not_lt_zero k),fun k hk=>absurd hk (Nat.not_lt_zero k)⟩
 | n+1,hn=>by
  obtain⟨i1,i2,i3⟩:=Ez h n (by omega);obtain⟨l1,_⟩:=qP h n (by omega);obtain⟨b1,_⟩:=Mj h n;have g0:=h.cl;have g1:=h.tb;have g2:=h.mi;have g4:=h.nn;have no:=aFD h.c1;have l2:(oO (kF x m n) (mB x m n) (x.tb.toNat+2 * n) (x.tb.toNat+2 * n+1)).length=x.cl.toNat * 256:=by rw[oD b1 (by omega) (by omega),l1]
  rw[aFB];by_cases h4:n < 4
  ·rw[if_pos h4];refine⟨?_,fun k hk=>?_,fun k hk hk4=>?_⟩
   ·rw[oF b1 _ _ _ (by omega) (by omega),if_neg (by omega),if_neg (by omega),oF b1 _ _ _ (by omega) (by omega),if_neg (by omega),if_neg (by omega),i1]
   ·rw[mY b1 _ _ _ (by omega) ⟨by omega,by omega⟩ ⟨by omega,by omega⟩];by_cases e:k=n
    ·rw[e,Mk b1 _ (by omega)]
    ·rw[mY b1 _ _ _ (by omega) ⟨by omega,by omega⟩ ⟨by omega,by omega⟩,i2 k (by omega)]
   ·by_cases e:k=n
    ·rw[e,Mk b1 _ (by omega)]
    ·rw[mY b1 _ _ _ (by omega) ⟨by omega,by omega⟩ ⟨by omega,by omega⟩,mY b1 _ _ _ (by omega) ⟨by omega,by omega⟩ ⟨by omega,by omega⟩,i3 k (by omega) hk4]
  ·rw[if_neg h4];refine⟨?_,fun k hk=>?_,fun k hk hk4=>?_⟩
   ·rw[oF b1 _ _ _ (by omega) (by omega),if_neg (by omega),if_neg (by omega),i1]
   ·by_cases e:k=n
    ·rw[e,Mk b1 _ (by omega)]
    ·rw[mY b1 _ _ _ (by omega) ⟨by omega,by omega⟩ ⟨by omega,by omega⟩,i2 k (by omega)]
   ·rw[mY b1 _ _ _ (by omega) ⟨by omega,by omega⟩ ⟨by omega,by omega⟩,i3 k (by omega) hk4]
noncomputable def Ug(x:Bt)(m:Int)(n:Nat):cR:=if n < 16 then Mi n (Rb x m) (miR x) (lgR x) else frR
theorem Xu{x:Bt}{m:Int}(h:H5 x m)(n:Nat):jQ (mB x m n)=(Ug x m n,1,0):=by
 obtain⟨h1,h2,h3⟩:=h.rs;unfold mB Ug;split
 ·obtain⟨a,b⟩:=Ud n h1 h2 h3;exact (Ay b a (by decide)).1
 ·exact (Ay Cj.2 Cj.1 (by decide)).1
theorem aFE(l:List Int)(h:256<=l.length):l.take 64=(Mb l 0).take 64:=by
 unfold Mb;rw[Nat.zero_mul,aW7,List.take_take,aXD (by decide)]
theorem A7{x:Bt}{m:Int}(h:H5 x m):cH (gX x m)=(x,0,0):=by
 have g0:=h.cl;have g4:=h.nn;obtain⟨l1,_⟩:=qP h m.toNat (by omega);obtain⟨l0,_⟩:=qP h 0 (by omega);obtain⟨i1,_⟩:=Ez h m.toNat (by omega);have e:(gX x m).take 64=x.bs:=by
  unfold gX;rw[aFE _ (by omega),i1,<- aFE _ (by omega)];exact Qv _ x (by rw[bG];omega)
 have ln:(gX x m).length=x.cl.toNat * 256:=l1;have dk:uY (gX x m).length=0:=by
  rw[ln];unfold uY Eu;rw[if_neg (show ¬ (x.cl.toNat * 256=0\/x.cl.toNat * 256 % 64≠0) by omega),if_neg (show ¬ 131072 < x.cl.toNat * 256 by omega),if_neg (by decide),if_pos (by omega)]
 unfold cH;rw[if_pos dk];unfold qT;rw[e,T1 x h.ck,if_pos ⟨rfl,by rw[ln];show x.cl=_;omega⟩];rfl
theorem Xv{x:Bt}{m:Int}(h:H5 x m):mA (gX x m)=(Ra 1 (Rb x m),1,0):=by
 have g4:=h.nn;obtain⟨_,i2,_⟩:=Ez h m.toNat (by omega);unfold mA;rw[A7 h];have e:blT (gX x m) x=mB x m 0:=i2 0 (by omega);unfold T5;dsimp only;rw[e,Xu h 0,if_pos rfl];rfl
theorem Xw{x:Bt}{m:Int}:¬ lI nY (Ra 1 (Rb x m)).ats < 0:=by
 rw[sI];intro q;have:=q (bP (pB [Rb x m]) 1) (Xr.2 (.inr rfl));simp[nY,bP,pB] at this
theorem Xx{x:Bt}{m:Int}(h:H5 x m):J5 (gX x m)=bP (pB [Rb x m]) 1:=by
 have e:=Xv h;have hi:¬ lI nY (mA (gX x m)).1.ats < 0:=by rw[e];exact Xw
 obtain⟨K,hK,_,h3,h4,_⟩:=Xj hi;rw[h3];have hm:=aWq hK;generalize (mA (gX x m)).1.ats[K]=A at *;rw[e] at hm;rcases Xr.1 hm with q | q
 ·rw[q] at h4;simp[nY,uC] at h4
 ·exact q
theorem aJ1(q:bF):Gi [q]=Gg q q.n.toNat:=by simp[Gi]
theorem aOz{q:bF}(hs:q.s≠-1){n k:Nat}(hk:k < n):(Gg q n).getD k 0=q.s+k:=by
 unfold Gg;rw[aWn,aWl,aXw hk];simp[hs]
theorem aOA(q:bF)(n:Nat):(Gg q n).length=n:=by simp[Gg]
noncomputable def qX(x:Bt)(m:Int):List Int:=Gg (Rb x m) (2 * m).toNat
theorem A8{x:Bt}{m:Int}(h:H5 x m):nZ (gX x m)=qX x m:=by
 unfold nZ;rw[Xx h];exact aJ1 _
theorem qQ{x:Bt}{m:Int}(h:H5 x m){k:Nat}(hk:(k:Int) < 2 * m):(qX x m).getD k 0=x.tb+k:=aOz (by have:=h.tb;show x.tb≠-1;omega) (by omega)
theorem Hz{x:Bt}{m:Int}:(qX x m).length=(2 * m).toNat:=aOA _ _
theorem aJ2{x:Bt}{m:Int}(h:H5 x m):clE x (qX x m)=0:=by
 have g1:=h.tb;have g2:=h.mi;have g4:=h.nn;have no:=aFD h.c1;have ln:=Hz (x:=x) (m:=m);have c0:A4 x (qX x m)=false:=by
  refine decide_eq_false ?_;rintro⟨k,hk,q⟩;rw[qQ h (by omega)] at q;rcases q with q | q
  ·simp only[aXn] at q;rcases q with q | q | q
   ·omega
   ·omega
   ·obtain⟨j,hj,e⟩:=List.mem_take_iff_getElem.1 q;have:(qX x m).getD j 0=(qX x m)[j]'(by omega):=by simp[show j < (qX x m).length by omega]
    rw[qQ h (by omega)] at this;omega
  ·omega
 unfold clE;rw[c0,qQ h (by omega),qQ h (by omega),ln,decide_eq_true (show (2 * m).toNat % 2=0 by omega),decide_eq_true (show 16<=(2 * m).toNat / 2/\(2 * m).toNat / 2<=96 by omega),decide_eq_true (show 2<=(2 * m).toNat by omega),decide_eq_true (by omega)];rfl
theorem Xy{x:Bt}{m:Int}(h:H5 x m):qW (gX x m)=0/\Dx (gX x m)=0:=by
 have g1:=h.tb;have g4:=h.nn;have e1:qW (gX x m)=0:=by
  unfold qW;rw[A7 h,Xv h,Xx h];dsimp only;rw[if_neg (by decide),if_neg (by decide),if_neg Xw];unfold Md;have k:(bP (pB [Rb x m]) 1).rs=[Rb x m]:=rfl;have k2:(!(bP (pB [Rb x m]) 1).res&&decide ((bP (pB [Rb x m]) 1).fi=0))=true:=rfl;rw[k,k2];have k3:([Rb x m].any fun r=>decide (r.s=-1))=false:=by simp;omega
  have k4:([Rb x m].any fun r=>decide (r.s+r.n > x.cl))=false:=by simp;omega
  rw[k3,k4];rfl
 refine⟨e1, ?_⟩;unfold Dx Q5;rw[e1,if_neg (by decide),A7 h,A8 h];exact aJ2 h
theorem Uh{x:Bt}{m:Int}(h:H5 x m){k:Nat}(hk:(k:Int) < m):Ua (gX x m) x (qX x m) k=(Ug x m k,1,0):=by
 have g1:=h.tb;have g4:=h.nn;obtain⟨_,i2,_⟩:=Ez h m.toNat (by omega);unfold Ua;rw[qQ h (by omega),qQ h (by omega)];have e1:(x.tb+((2 * k:Nat):Int)).toNat=x.tb.toNat+2 * k:=by omega
 have e2:(x.tb+((2 * k+1:Nat):Int)).toNat=x.tb.toNat+2 * k+1:=by omega
 rw[e1,e2];have e:Dw (gX x m) (x.tb.toNat+2 * k) (x.tb.toNat+2 * k+1)=mB x m k:=i2 k (by omega);unfold T5;rw[e,Xu h k,if_pos rfl]
end
section
variable {G:aF} {bb:Bool}
theorem aK2{x:Bt}{m:Int}(h:H5 x m):Rg (gX x m)=m.toNat:=by
 have:=h.nn;unfold Rg;rw[A8 h,Hz];omega
theorem aJ3(p:Nat->Prop)(n:Nat)(h:∀ k,k < n->¬ p k):ix p n=n:=by
 obtain⟨h1,h2,_⟩:=bZ p n;rcases h2 with q | ⟨q,r⟩
 ·exact q
 ·exact absurd r (h _ q)
theorem aOB{x:Bt}{m:Int}(h:H5 x m):Xm (gX x m)=(Uc (gX x m) x (qX x m) m.toNat,0):=by
 have g:=h.nn;have e:usI (gX x m) x (qX x m)=m.toNat:=by
  unfold usI;rw[Hz];rw[show (2 * m).toNat / 2=m.toNat by omega];exact aJ3 _ _ (fun k hk q=>q (by rw[Uh h (by omega)]))
 unfold Xm;rw[(Xy h).2,if_neg (by decide),A7 h,A8 h,aK2 h];dsimp only;rw[e,if_pos rfl]
theorem aFF(n:Int)(al mi lg:bF):fJ (Mi n al mi lg).fl=true:=by
 have h1:∀ f,f=1\/f=3->fJ (Db f).fl=true:=fun f h=>by rcases h with rfl | rfl<;>rfl
 have h2:∀ f q,f=1\/f=3->fJ (Ra f q).fl=true:=fun f q h=>by rcases h with rfl | rfl<;>rfl
 unfold Mi;split
 ·exact h2 _ _ (kU n)
 ·split
  ·exact h2 _ _ (kU n)
  ·split
   ·exact h2 _ _ (kU n)
   ·exact h1 _ (kU n)
theorem aJ4{x:Bt}{m:Int}(h:H5 x m){k:Nat}(hk:(k:Int) < m):usB (gX x m) x (qX x m) k=decide (k < 16):=by
 unfold usB;rw[Uh h hk];unfold Ug;by_cases q:k < 16
 ·rw[if_pos q,decide_eq_true q];exact aFF _ _ _ _
 ·rw[if_neg q,decide_eq_false q];rfl
theorem aOC{x:Bt}{m:Int}(h:H5 x m):frV (gX x m)=if 16 < m then (16,0) else (0,16):=by
 have g:=h.nn;have ln:=Ey (gX x m) x (qX x m) m.toNat;have at':∀ k,16+k < m.toNat->((Uc (gX x m) x (qX x m) m.toNat).drop 16).getD k true=false:=fun k hk=>by
  rw[aWn,aWK,Uc,aWl,aXw hk];show usB (gX x m) x (qX x m) (16+k)=false;rw[aJ4 h (by omega)];exact decide_eq_false (by omega)
 unfold frV;rw[aOB h];dsimp only;rw[if_neg (by decide)];have lnd:((Uc (gX x m) x (qX x m) m.toNat).drop 16).length=m.toNat - 16:=by rw[aWt,ln]
 generalize (Uc (gX x m) x (qX x m) m.toNat).drop 16=U at *;unfold ixB;obtain⟨h1,h2,h3⟩:=bZ (fun k=>U.getD k true=false) U.length
 generalize ix (fun k=>U.getD k true=false) U.length=K at *
 by_cases c:16 < m
 ·have hK:K=0:=by
   rcases Nat.eq_zero_or_pos K with q | q
   ·exact q
   ·exact absurd (at' 0 (by omega)) (h3 0 q)
  rw[if_pos c,hK];rw[if_neg (show ¬ 0=U.length by omega),if_neg (by decide)];rfl
 ·rw[if_neg c,if_pos (show K=U.length by omega),if_pos (by decide)]
theorem aFG{x:Bt}{m:Int}(h:H5 x m){n:Int}(hn:0<=n/\n < m):Xl (gX x m) n=0:=by
 unfold Xl;rw[(Xy h).2,if_neg (by decide),aK2 h,decide_eq_true (by omega)];rfl
theorem aOD{x:Bt}{m:Int}(h:H5 x m)(hm:16 < m):aJV (gX x m) 16 1=(.nil,32):=by
 have e:rrV (gX x m) 16=(Ug x m 16,1,0):=by
  unfold rrV;rw[aFG h ⟨by decide,hm⟩,if_pos rfl,A7 h,A8 h];exact Uh h (by omega)
 unfold aJV;rw[e];dsimp only;rw[if_neg (by decide)];have r:Ug x m 16=frR:=by unfold Ug;rw[if_neg (by decide)]
 rw[r,if_neg (by rintro⟨q,_⟩;cases q)]
def Mm:Bt:=⟨64,4,44,52,8,7⟩
theorem aSx:fH Mm=0:=by decide
theorem aFH:aJK Mm 18=0:=by decide
def tbV:FuncId->Option HF:=fun f=>if f=11 then some h11 else none
noncomputable def T3(G:aF):HT:=⟨tbV,EV G (Tb (eI G false))⟩
theorem aSy{G:aF}:Zn Tryz.prog (T3 G):=by
 intro f h hf
 change tbV f=some h at hf
 unfold tbV at hf;split at hf
 ·rename_i e;subst e;injection hf with hf;subst hf;exact⟨by kernel_rfl,_,Tryz.func11,Tryz.ntmps11,h11_ok,aL0⟩
 ·cases hf
theorem t3{f:FuncId}{args:List AV}{hp:List aD}{r:AV × List aD}(h:EV G (Tb (eI G false)) f args hp=some r)(h1:f≠11:=by decide):EV G (T3 G) f args hp=some r:=
 iI (by show tbV f=none;exact if_neg h1) h
theorem aJ5{B:aO}:EV G (Tb B) 58 [] []=some (.agg [.dc (ci 64),.dc (ci 4),.dc (ci 44),.dc (ci 52),.dc (ci 8),.dc (ci 7)],[]):=by
 exact aA rfl rfl
set_option maxHeartbeats 4000000 in
theorem aAU(hG:G9 G):EV G (T3 G) 11 [] []=some (vb true,[]):=by
 have hE:=Xs aFH;obtain⟨ln,hB⟩:=qP hE 18 (by decide);have ln:(gX Mm 18).length=16384:=ln;have hB:aL (gX Mm 18):=hB;have a0:=t3 (aJ5 (G:=G) (B:=eI G false));have a1:EV G (T3 G) 13 [.agg [.dc (ci 64),.dc (ci 4),.dc (ci 44),.dc (ci 52),.dc (ci 8),.dc (ci 7)]] []=some (.tup [tS Mm.bs,tE 0],[]):=by
  have q:=t3 (J3 (G:=G) (B:=eI G false) Mm (nX Mm) (aFh (by decide)));rw[aSx,if_pos rfl] at q;exact q
 have a2:EV G (T3 G) 42 [.agg [.dc (ci 64),.dc (ci 4),.dc (ci 44),.dc (ci 52),.dc (ci 8),.dc (ci 7)],vi 18] []=some (.tup [tS (gX Mm 18),tE 0],[]):=t3 (aAT (bb:=false) hG Mm 18 aFH);have a3:=t3 (Q7 (bb:=false) hG (gX Mm 18) hB (by omega));rw[aOC hE,if_pos (by decide)] at a3;have a4:=t3 (aAQ (bb:=false) hG (gX Mm 18) hB (by omega) 3);rw[aFG hE (by decide),if_pos rfl,A8 hE] at a4;have e4:(qX Mm 18).getD (2 * (3:Int).toNat) 0=10:=by rw[qQ hE (by decide)];rfl
 rw[e4] at a4;have a5:EV G (T3 G) 31 [sv (gX Mm 18),rfv 16 1] []=some (.tup [.agg [.dc (ci 0),.dc (ci 0),.dc (ci 0),.dc (ci 0),.dc (ci 0),.dc (ci 0),.dc (ci 0),.dc (.slc [])],tE 32],[]):=by
  have q:=t3 (aAS (bb:=false) hG (gX Mm 18) hB (by omega) 16 1);rw[aOD hE (by decide)] at q;exact q
 have ls:=qN Mm;have e12:Mm.bs.take (12:Int).toNat=[68,69,80,79,83,73,84,49,64,0,0,0]:=by decide
 have y1:(dO [68,69,80,79,83,73,84,49,64,0,0,0]=(⟨#[68,69,80,79,83,73,84,49,64,0,0,0]⟩:ByteArray))=True:=eq_true (by kernel_rfl);generalize gX Mm 18=D at *;generalize Mm.bs=S at *;have ls':(S.length:Int)=64:=by omega
 have ln':(D.length:Int)=16384:=by omega
 refine aA (h:=h11) rfl ?_;simp (maxSteps:=2000000) (disch:=omega) only[go_sem,h11c,a0,a1,a2,a3,a4,a5,aC,ls',ln',e12,y1]
theorem aAV(hG:G9 G):QC Tryz.prog G 11 [] (vb true):=Oj aSy (fun f args hp av o' h hp0 hh=>by
 obtain⟨n,hn⟩:=jM h;exact zY (Ol (eI G false)) (aFg (fun h=>by cases h)) n f args hp av o' hn hp0 hh) (aAU hG)
end
section
open Go.ChangeShapes Go.WideShapes Go.ChangeAt Go.RowKit
def qY(P:Program):Nat->TypeId->List DC->Prop
 | 0,_,_=>False
 | n+1,t,ds=>
  match P.underlying t with
  | some .bool=>∃ b,ds=[.raw (.bool b)]
  | some (.int k)=>∃ i,ds=[.raw (.int k i)]/\k.min<=i/\i<=k.max
  | some .string=>∃ s:ByteArray,ds=[.raw (.string s)]/\s.size<=maxLen
  | some (.slice e)=>∃ es:List (List DC),ds=[.slc es]/\es.length<=maxLen/\∀ d∈es,qY P n e d
  | some (.struct fs)=>ds.length=P.cellsOf t/\∀ (i:Nat) f,fs[i]?=some f->qY P n f.type ((ds.drop f.offset).take (P.cellsOf f.type))
  | some (.array m e)=>ds.length=P.cellsOf t/\∀ i,i < m->qY P n e ((ds.drop (i * P.cellsOf e)).take (P.cellsOf e))
  | _=>False
def H0:List (Nat × Nat)->Nat->Nat->Bool
 | [],off,tot=>decide (off=tot)
 | p::l,off,tot=>decide (p.1=off)&&H0 l (off+p.2) tot
def Dy(P:Program):Nat->TypeId->Bool
 | 0,_=>false
 | n+1,t=>
  match P.underlying t with
  | some .bool=>true
  | some (.int _)=>true
  | some .string=>true
  | some (.slice e)=>Dy P n e&&decide (0 < P.cellsOf e)
  | some (.struct fs)=>fs.toList.all (fun f=>Dy P n f.type)&&H0 (fs.toList.map fun f=>(f.offset,P.cellsOf f.type)) 0 (P.cellsOf t)
  | some (.array m e)=>Dy P n e&&decide (P.cellsOf t=m * P.cellsOf e)
  | _=>false
def RDs(F:Fz)(ds:List DC)(cs:List Value):Prop:=ds.length=cs.length/\∀ (i:Nat) d v,ds[i]?=some d->cs[i]?=some v->RD F d v
theorem Xz:∀ (l:List (Nat × Nat)) (off tot:Nat),H0 l off tot=true->off<=tot
 | [],off,tot,h=>by simp[H0] at h;omega
 | p::l,off,tot,h=>by
  simp only[H0,aWs,decide_eq_true_eq] at h;have:=Xz l _ _ h.2;omega
theorem aOE{F:Fz}{cs:List Value}:∀ (l:List (Nat × Nat × (List DC->Prop))) (off:Nat),H0 (l.map fun p=>(p.1,p.2.1)) off cs.length=true->(∀ p∈l,∃ ds,RDs F ds ((cs.drop p.1).take p.2.1)/\p.2.2 ds)->
  ∃ ds,RDs F ds (cs.drop off)/\∀ p∈l,off<=p.1/\p.2.2 ((ds.drop (p.1 - off)).take p.2.1)
 | [],off,h,_=>by
  simp only[aWw,H0,decide_eq_true_eq] at h;exact⟨[],⟨by simp[h],fun i d v h1=>by simp at h1⟩,fun p hp=>by cases hp⟩
 | p::l,off,h,hp=>by
  simp only[aWp,H0,aWs,decide_eq_true_eq] at h;obtain⟨h0,h1⟩:=h;have hle:=Xz _ _ _ h1;obtain⟨ds1,a1,a2⟩:=hp p aWy;obtain⟨ds2,b1,b2⟩:=aOE l (off+p.2.1) h1 (fun q hq=>hp q (aWG _ hq))
  have hl1:ds1.length=p.2.1:=by rw[a1.1,aWm,aWt];omega
  have hcat:cs.drop off=(cs.drop p.1).take p.2.1++cs.drop (off+p.2.1):=by
   rw[h0,<- List.drop_drop,aXs]
  refine⟨ds1++ds2,⟨by rw[hcat,aWg,aWg,a1.1,b1.1],fun i d v h3 h4=>?_⟩,fun q hq=>?_⟩
  ·rw[hcat] at h4;by_cases hi:i < ds1.length
   ·rw[aWx hi] at h3;rw[aWx (by rw[<- a1.1];exact hi)] at h4;exact a1.2 i d v h3 h4
   ·rw[aWB (by omega)] at h3;rw[aWB (by rw[<- a1.1];omega),<- a1.1] at h4;exact b1.2 _ d v h3 h4
  ·rcases aXn.1 hq with rfl | hq
   ·refine⟨by omega, ?_⟩;rw[h0,aW3,aW7,aXK (by omega),aWP (by omega)];exact a2
   ·obtain⟨c1,c2⟩:=b2 q hq;refine⟨by omega, ?_⟩;have:(ds1++ds2).drop (q.1 - off)=ds2.drop (q.1 - (off+p.2.1)):=by
     rw[List.drop_append,List.drop_of_length_le (by omega),aWL,hl1];congr 1;omega
    rw[this];exact c2
theorem Df{α:Type}{Pr:Nat->α->Prop}:∀ n,(∀ i,i < n->∃ x,Pr i x)->∃ l:List α,l.length=n/\∀ (i:Nat) x,l[i]?=some x->Pr i x
 | 0,_=>⟨[],rfl,fun i x h=>by simp at h⟩
 | n+1,h=>by
  obtain⟨l,hl,hp⟩:=Df n (fun i hi=>h i (by omega))
  obtain⟨x,hx⟩:=h n (by omega);refine⟨l++[x],by simp[hl],fun i y hy=>?_⟩
  rcases gC hy with h1 | ⟨h1,rfl⟩
  ·exact hp i y h1
  ·rw[h1,hl];exact hx
section
variable {H:Type} {enc:TypeId × Value->H} {P:Program} {w:World} {base:Nat} {spare:Nat->Bool} {held:Bool}
theorem aAW{a:Addr}{v:Value}(h:w.cell? a=some v):a.spot=none:=by
 unfold World.cell? at h;split at h
 ·split at h
  ·cases h
  ·rename_i h1;cases hs:a.spot with
   | none=>rfl
   | some x=>simp[hs] at h1
 ·cases h
theorem aFI{a:Addr}(h:a.spot=none)(i:Nat):a.add i=⟨a.block,a.off+i,none⟩:=by
 unfold Addr.add;split
 ·rename_i h0;subst h0;cases a;simp_all
 ·rfl
theorem aFJ{a:Addr}{v:Value}(h:w.cell? a=some v):(gG w).cell? a=some v:=by
 unfold World.cell? at h;unfold Fz.cell? gG;exact h
theorem tP:∀ (n:Nat) (t:TypeId) (cs:List Value) (x:DataW H × List MemPlace) (m:Nat),Dy P m t=true->DataW.trod enc P w base spare held n t cs=some x->∃ ds,RDs (gG w) ds cs/\qY P m t ds
 | 0,t,cs,x,m,hd,h=>by simp[DataW.trod] at h
 | n+1,t,cs,x,0,hd,h=>by simp[Dy] at hd
 | n+1,t,cs,x,m+1,hd,h=>by
  rw[Dy] at hd;cases hu:P.underlying t with
  | none=>simp[hu] at hd
  | some u=>
   simp only[hu] at hd;cases u<;>try (simp at hd;done)
   case bool=>
    obtain⟨b,rfl,rfl⟩:=DataW.trod_bool hu h;exact⟨[.raw (.bool b)],⟨rfl,fun i d v h1 h2=>by
     cases i with
     | zero=>simp at h1 h2;subst h1;subst h2;exact .raw _ rfl
     | succ i=>simp at h1⟩,by rw[qY,hu];exact⟨b,rfl⟩⟩
   case int k=>
    obtain⟨i,rfl,rfl,hw⟩:=DataW.trod_int hu h;refine⟨[.raw (.int k i)],⟨rfl,fun j d v h1 h2=>?_⟩,by rw[qY,hu];exact⟨i,rfl,by simpa[Lit.wf] using hw⟩⟩
    cases j with
    | zero=>simp at h1 h2;subst h1;subst h2;exact .raw _ rfl
    | succ j=>simp at h1
   case string=>
    obtain⟨s,rfl,rfl,hw⟩:=DataW.trod_string hu h;refine⟨[.raw (.string s)],⟨rfl,fun j d v h1 h2=>?_⟩,by rw[qY,hu];exact⟨s,rfl,hw⟩⟩
    cases j with
    | zero=>simp at h1 h2;subst h1;subst h2;exact .raw _ rfl
    | succ j=>simp at h1
   case slice e=>
    simp only[aWs,decide_eq_true_eq] at hd;rcases DataW.trod_slice hu h with⟨rfl,_⟩ | ⟨a,len,cap,elems,rest,n',hn,rfl,_,hb,hl,hcm,hel,hat,_,_⟩
    ·refine⟨[.slc []],⟨rfl,fun j d v h1 h2=>?_⟩,by rw[qY,hu];exact⟨[],rfl,aWA _,by simp⟩⟩
     cases j with
     | zero=>simp at h1 h2;subst h1;subst h2;exact .nil _ _
     | succ j=>simp at h1
    ·have hn':n'=n:=by omega
     subst hn';have key:∀ i,i < len->∃ e':List DC × List Value,w.cells? base (a.add (i * P.cellsOf e)) (P.cellsOf e)=some e'.2/\RDs (gG w) e'.1 e'.2/\qY P m e e'.1:=by
      intro i hi;have h1:=hat i hi;have hi2:i < elems.length:=by omega
      rw[aWo hi2] at h1;obtain⟨cs',h2,h3⟩:=aW5.1 h1;obtain⟨ds,h4,h5⟩:=tP n' e cs' _ m hd.1 h3;exact⟨(ds,cs'),h2,h4,h5⟩
     obtain⟨L,hL,hLp⟩:=Df len key;refine⟨[.slc (L.map (·.1))],⟨rfl,fun j d v h1 h2=>?_⟩, ?_⟩
     ·cases j with
      | succ j=>simp at h1
      | zero=>
       simp at h1 h2;subst h1;subst h2;by_cases h0:len=0
       ·have:L=[]:=aXl (by omega);subst this;rw[h0];exact .nil _ _
       ·have hcells:∀ (i j:Nat) e' d,L[i]?=some e'->e'.1[j]?=some d->∃ u,e'.2[j]?=some u/\w.cell? ((a.add (i * P.cellsOf e)).add j)=some u/\j < P.cellsOf e:=by
         intro i j e' d g1 g2;obtain⟨g3,g4,_⟩:=hLp i e' g1;obtain⟨_,g5,g6⟩:=World.cells?_some g3;have hj:j < e'.2.length:=by rw[<- g4.1];exact aG g2
         exact⟨_,aWo hj,by rw[g6 j (by omega),aWo hj],by omega⟩
        have hsp:a.spot=none:=by
         have hL0:0 < L.length:=by omega
         obtain⟨g3,g4,_⟩:=hLp 0 _ (aWo hL0);obtain⟨_,g5,g6⟩:=World.cells?_some g3;have hj:0 < (L[0]).2.length:=by rw[g5];exact hd.2
         have g7:=g6 0 hd.2;rw[aWo hj] at g7;have:=aAW g7;simp only[Nat.zero_mul] at this;simpa[Addr.add] using this
        have haddr:∀ i j,(a.add (i * P.cellsOf e)).add j=⟨a.block,a.off+(i * P.cellsOf e+j),none⟩:=by
         intro i j;rw[aFI hsp,aFI rfl,Nat.add_assoc]
        have ha:(some a:Option Addr)=some ⟨a.block,a.off,none⟩:=by cases a;simp_all
        rw[ha];have hmap:(L.map (·.1)).length=len:=by simp[hL]
        have hgoal:=RD.slc (F:=gG w) a.block a.off cap (P.cellsOf e) (L.map (·.1)) (fun i j=>((L.getD i ([],[])).2).getD j undef) (fun e' he'=>by
          obtain⟨p,hp,rfl⟩:=List.mem_map.1 he';obtain⟨i,hi⟩:=List.mem_iff_getElem?.1 hp;obtain⟨g3,g4,_⟩:=hLp i p hi;rw[g4.1,(World.cells?_some g3).2.1]) (fun i j e' d g1 g2=>by
          rw[aWl] at g1;obtain⟨p,hp,rfl⟩:=Option.map_eq_some_iff.1 g1;obtain⟨u,hu1,hu2,hu3⟩:=hcells i j p d hp g2;simp only[aWn,hp,aWX,hu1];exact (hLp i p hp).2.1.2 j d u g2 hu1) (fun i j e' d g1 g2=>by
          rw[aWl] at g1;obtain⟨p,hp,rfl⟩:=Option.map_eq_some_iff.1 g1;obtain⟨u,hu1,hu2,hu3⟩:=hcells i j p d hp g2;simp only[aWn,hp,aWX,hu1];rw[haddr] at hu2;exact aFJ hu2) (by rw[hmap];exact hl)
        rw[hmap] at hgoal;exact hgoal
     ·rw[qY,hu];refine⟨_,rfl,by simp[hL];omega,fun d hdm=>?_⟩
      obtain⟨p,hp,rfl⟩:=List.mem_map.1 hdm;obtain⟨i,hi⟩:=List.mem_iff_getElem?.1 hp;exact (hLp i p hi).2.2
   case struct fs=>
    simp only[aWs,List.all_eq_true] at hd;obtain⟨xs,n',hn,_,hlen,hxl,hf⟩:=DataW.trod_struct hu h;have hn':n'=n:=by omega
    subst hn';obtain⟨ds,h1,h2⟩:=aOE (F:=gG w) (cs:=cs) (fs.toList.map fun f=>(f.offset,P.cellsOf f.type,qY P m f.type)) 0 (by
     rw[hlen,aWE];exact hd.2) (fun p hp=>by
     obtain⟨f,hfm,rfl⟩:=List.mem_map.1 hp;obtain⟨i,hi⟩:=List.mem_iff_getElem?.1 hfm;have hi':fs[i]?=some f:=by simpa using hi
     have h3:=hf i f hi';have hix:i < xs.length:=by rw[hxl];exact (Array.getElem?_eq_some_iff.1 hi').1
     rw[aWo hix] at h3;exact tP n' f.type _ _ m (hd.1 f hfm) h3)
    simp only[aW7] at h1;refine⟨ds,h1, ?_⟩;rw[qY,hu];refine⟨by rw[h1.1,hlen],fun i f hi=>?_⟩
    have:=(h2 _ (List.mem_map.2 ⟨f,by exact List.mem_iff_getElem?.2 ⟨i,by simpa using hi⟩,rfl⟩)).2;simpa using this
   case array m' e=>
    simp only[aWs,decide_eq_true_eq] at hd;obtain⟨xs,n',hn,_,hlen,hxl,hf⟩:=DataW.trod_array hu h;have hn':n'=n:=by omega
    subst hn';have hcon:∀ (k s:Nat),H0 ((List.range' s k).map fun i=>(i * P.cellsOf e,P.cellsOf e)) (s * P.cellsOf e) ((s+k) * P.cellsOf e)=true:=by
     intro k
     induction k with
     | zero=>intro s;simp[H0]
     | succ k ih=>
      intro s;have:=ih (s+1);rw[List.range'_succ,aWp,H0];simp only[decide_true,aWN];rw[<- Nat.succ_mul,show s+(k+1)=s+1+k by omega];exact this
    obtain⟨ds,h1,h2⟩:=aOE (F:=gG w) (cs:=cs) ((List.range m').map fun i=>(i * P.cellsOf e,P.cellsOf e,qY P m e)) 0 (by
     rw[hlen,aWE,hd.2,List.range_eq_range'];have:=hcon m' 0;simpa[Function.comp_def] using this) (fun p hp=>by
     obtain⟨i,him,rfl⟩:=List.mem_map.1 hp;have hi:=List.mem_range.1 him;have h3:=hf i hi;rw[aWo (by omega)] at h3;exact tP n' e _ _ m hd.1 h3)
    simp only[aW7] at h1;refine⟨ds,h1, ?_⟩;rw[qY,hu];refine⟨by rw[h1.1,hlen],fun i hi=>?_⟩
    have:=(h2 _ (List.mem_map.2 ⟨i,List.mem_range.2 hi,rfl⟩)).2;simpa using this
def Cl(P:Program)(t:TypeId):Bool:=
 match P.underlying t with
 | some (.struct _)=>true
 | some (.array _ _)=>true
 | _=>false
def okA(P:Program)(m:Nat)(t:TypeId):AV->Prop
 | .one (.dc d)=>Cl P t=false/\qY P m t [d]
 | .agg cs=>Cl P t=true/\∃ ds,cs=lQ ds/\qY P m t ds
 | _=>False
theorem aFK{r:Reach}{b0 m:Nat}{t:TypeId}{v:Value}{d:DataW H}{ps:List MemPlace}(hval:Value.okWide P w r b0 t v)(hd:DataW.Trod enc P w base spare held t v d ps)(hdat:Dy P m t=true):
  ∃ av,RV (gG w) [] av v/\okA P m t av:=by
 obtain⟨n,h⟩:=hd;obtain⟨ds,h1,h2⟩:=tP n t _ _ m hdat h;have one:∀ x:Value,v=x->Cl P t=false->(∀ cs,x≠.agg cs)->∃ av,RV (gG w) [] av v/\okA P m t av:=by
  intro x hx h3 h4;subst hx;have hc:v.cells.toList=[v]:=by cases v<;>first | rfl | (exact absurd rfl (h4 _))
  rw[hc] at h1
  match ds,h1,h2 with
  | [d0],h1,h2=>exact⟨.one (.dc d0),.one _ _ (.dc _ _ (h1.2 0 d0 v rfl rfl)),h3,h2⟩
  | [],h1,_=>simp[RDs] at h1
  | _::_::_,h1,_=>simp[RDs] at h1
 have many:∀ cs,v=.agg cs->Cl P t=true->∃ av,RV (gG w) [] av v/\okA P m t av:=by
  intro cs hv h0;subst hv;have hc:(Value.agg cs).cells.toList=cs.toList:=rfl;rw[hc] at h1;refine⟨.agg (lQ ds),.agg _ _ (by rw[lQ,aWf,h1.1,aXG]) (fun i c u h3 h4=>?_),h0,ds,rfl,h2⟩
  rw[lQ,aWl] at h3;obtain⟨d0,h5,rfl⟩:=Option.map_eq_some_iff.1 h3;exact .dc _ _ (h1.2 i d0 u h5 (by simpa using h4))
 cases m with
 | zero=>simp[Dy] at hdat
 | succ m=>
  rw[Dy] at hdat;cases hu:P.underlying t with
  | none=>simp[hu] at hdat
  | some u=>
   simp only[hu] at hdat;cases u<;>try (simp at hdat;done)
   case bool=>obtain⟨b,hv⟩:=okWide_bool hu hval;exact one _ hv (by rw[Cl,hu]) (fun cs h=>by cases h)
   case int k=>obtain⟨b,hv⟩:=okWide_int hu hval;exact one _ hv (by rw[Cl,hu]) (fun cs h=>by cases h)
   case string=>obtain⟨b,hv⟩:=okWide_string hu hval;exact one _ hv (by rw[Cl,hu]) (fun cs h=>by cases h)
   case slice e=>obtain⟨a,l,c,hv⟩:=okWide_slice hu hval;exact one _ hv (by rw[Cl,hu]) (fun cs h=>by cases h)
   case struct fs=>obtain⟨cs,hv,_⟩:=okWide_struct hu hval;exact many cs hv (by rw[Cl,hu])
   case array k e=>
    unfold Value.okWide at hval;rw[hu] at hval;obtain⟨cs,hv,_⟩:=hval;exact many cs hv (by rw[Cl,hu])
def aSz(P:Program)(m:Nat):List TypeId->List AV->Prop
 | [],[]=>True
 | t::ts,a::avs=>okA P m t a/\aSz P m ts avs
 | _,_=>False
theorem Cn{r:Reach}{b0 m:Nat}:∀ {ts:List TypeId} {vs:List Value} {ds:List (DataW H)} {ps:List MemPlace},DataW.TrodAll enc P w base spare held ts vs ds ps->
  (∀ (j:Nat) t v,ts[j]?=some t->vs[j]?=some v->Value.okWide P w r b0 t v)->(∀ t∈ts,Dy P m t=true)->∃ avs:List AV,vs.length=avs.length/\(∀ (i:Nat) av v,avs[i]?=some av->vs[i]?=some v->RV (gG w) [] av v)/\aSz P m ts avs/\ds.length=ts.length
 | [],vs,ds,ps,h,_,_=>by
  obtain⟨rfl,rfl,rfl⟩:=trodAll_nil h;exact⟨[],rfl,fun i av v h=>by simp at h,trivial,rfl⟩
 | t::ts,vs,ds,ps,h,hval,hdat=>by
  obtain⟨v,vs',d,ds',p,q,rfl,rfl,rfl,h1,h2⟩:=trodAll_cons h;obtain⟨av,a1,a2⟩:=aFK (hval 0 t v rfl rfl) h1 (hdat t aWy);obtain⟨avs,b1,b2,b3,b4⟩:=Cn h2 (fun j t v h3 h4=>hval (j+1) t v (by simpa using h3) (by simpa using h4)) (fun t ht=>hdat t (aWG _ ht))
  refine⟨av::avs,by simp[b1],fun i x y h3 h4=>?_,⟨a2,b3⟩,by simp[b4]⟩
  cases i with
  | zero=>simp at h3 h4;subst h3;subst h4;exact a1
  | succ i=>exact b2 i x y (by simpa using h3) (by simpa using h4)
end
end
section
section
variable {P:Program} {m:Nat} {t:TypeId} {av:AV}
theorem aJ7(ha:Cl P t=false)(h:okA P m t av):∃ d,av=.one (.dc d)/\qY P m t [d]:=by
 cases av with
 | one c=>cases c with
  | dc d=>exact⟨d,rfl,h.2⟩
  | _=>exact h.elim
 | agg cs=>rw[h.1] at ha;cases ha
 | tup l=>exact h.elim
 | junk=>exact h.elim
theorem aFL(ha:Cl P t=true)(h:okA P m t av):∃ ds,av=.agg (lQ ds)/\qY P m t ds:=by
 cases av with
 | one c=>cases c with
  | dc d=>rw[h.1] at ha;cases ha
  | _=>exact h.elim
 | agg cs=>obtain⟨_,ds,rfl,h2⟩:=h;exact⟨ds,rfl,h2⟩
 | tup l=>exact h.elim
 | junk=>exact h.elim
theorem Ui(hu:P.underlying t=some .string)(h:okA P (m+1) t av):∃ s:ByteArray,av=.one (.dc (.raw (.string s)))/\s.size<=maxLen:=by
 obtain⟨d,rfl,h2⟩:=aJ7 (by rw[Cl,hu]) h;rw[qY,hu] at h2;obtain⟨i,h3,h4⟩:=h2;simp only[List.cons.injEq,and_true] at h3;exact⟨i,by rw[h3],h4⟩
theorem Uj{i:Int}(h:IntKind.i64.min<=i/\i<=IntKind.i64.max):-9223372036854775808<=i/\i<=9223372036854775807:=by
 have e1:IntKind.i64.min=-9223372036854775808:=by decide
 have e2:IntKind.i64.max=9223372036854775807:=by decide
 omega
theorem aFM{k:IntKind}{ds:List DC}(hu:P.underlying t=some (.int k))(h:qY P (m+1) t ds):∃ i,ds=[.raw (.int k i)]/\k.min<=i/\i<=k.max:=by
 rw[qY,hu] at h;exact h
end
end
end Go.Proofs.YthepfneloomngaaGreatDoor
