/- What is asked of a table, by the program: references, what is used, what is free, where the mirror differs. Conditions: as each theorem says. -/
import Derived.Test.YthepfneloomngaaGreatDoorPa
import Derived.Test.YthepfneloomngaaGreatDoorSu
import Derived.Test.YthepfneloomngaaGreatDoorWp
import Derived.Test.YthepfneloomngaaGreatDoorPt
import Derived.Test.YthepfneloomngaaGreatDoorPs
import Derived.Test.YthepfneloomngaaGreatDoorSg
namespace Go.Proofs.YthepfneloomngaaGreatDoor
set_option linter.unusedSimpArgs false
set_option linter.unusedVariables false
set_option maxRecDepth 4000
section
variable {G:aE}{bb:Bool}
end
section
variable {G:aE}{bb:Bool}
theorem aWc(l:List aJ)(k:Nat)(hk:k<l.length):((l.take (k+1)).map dX).flatten=((l.take k).map dX).flatten++dX l[k]:=by
 rw[aYx hk,aYg,List.flatten_append];simp
abbrev bkv(p:List Int×Int):AV:=.tup [.one (.dc (.raw (.string (dL p.1)))),.one (.dc (ci p.2))]
abbrev cI.u(r:cI)(u:Int):AV:=.agg (r.c++[.dc (ci u)])
set_option maxHeartbeats 8000000 in
theorem aGr(hG:G9 G)(r:cI)(hW:r.W)(u:Int):EV G (Tb (kD bb)) 181 [r.u u] []=some (bkv (Ek r u),[]):=by
 refine aA rfl ?_;have q1:=tU (G:=G) (bb:=bb) r hW;have w:=qM (G:=G) (bb:=bb) u 1 65535;have un9:=qN (G:=G) (bb:=bb);have q3:=Sg (G:=G) (bb:=bb);unfold Ek aKn;by_cases c:aS [gG r,un (decide (1<=u/\u<=65535)) 2]=0
 rw[if_neg (not_not_intro c)];obtain⟨z1,z2⟩:=aKo c;have hu:1<=u/\u<=65535:=of_decide_eq_true (aFR (by decide) z2);have hO:=rH z1;have hln:=hO.ln;have hat:=I9 hO;have hBa:aM (fY r):=Lq fun p hp=>by
  obtain⟨a,ha,rfl⟩:=List.mem_map.1 hp;exact (N3 (hW.at' a ha) (hO.errs.1 a ha)).1
 generalize gG r=re at *;have e0:(dL []:ByteArray)=⟨#[]⟩:=rfl;have qb:=up (Yw (G:=G) (bb:=bb) hG r (fY r) hO.n9 (by omega) hBa);have hbl:=Ga r (68+((fY r).length:Int)) (fY r) (by omega);have hby:=Ja r (68+((fY r).length:Int)) (fY r) hBa;have hz:((iR r (68+((fY r).length:Int)) (fY r)).drop 40).take 18=zl 18:=by
  refine Nr (by rw[aXK,aXS,hbl,bF];decide) (fun j hj=>?_)
  rw[aXK,aXS,hbl] at hj;rw[Ip _ _ _ _ (by omega),aFh,aMj _ _ _ _ (by omega) (by omega)]
 have qp:=up (aBy (G:=G) (bb:=bb) _ u hbl hby hz hu);unfold cN;generalize iR r (68+((fY r).length:Int)) (fY r)=b at *;generalize oP b u 8=p at *;have hE:fY r=(r.ats.map dX).flatten:=rfl;rw[hE] at qb;clear hE hat hBa;simp (disch:=omega) only[go_sem,h181c,q1,w,un9,q3,eq_true c,aXC];rw[aR (fun k=>⟨(jk 1 (.one (.ptr 0 0)::jk 3 (sv ((r.ats.take k).map dX).flatten::jk 18 (vl (r.ats.map aJ.e)::vi r.ats.length::vi k::jk 21 [])))),[.box (r.c++[.dc (ci u)]),.arr 0 1 [[ci re],[ci (un (decide (1<=u/\u<=65535)) 2)]]]⟩) r.ats.length ?_ ?_]
 simp (disch:=omega) only[go_sem,h181l0,aYh,qb,qp,aYd,aX4];rfl;intro k hk;have q:=up (Lg (G:=G) (bb:=bb) r.ats[k] (hW.at' _ (aXM hk)));rw[aWc r.ats k hk];have b1:=Jc (r.ats.take k) (aFX hW.at' k);have b2:=Lp (r.ats.take k);have b3:=qH (hW.at' _ (aXM hk));rw[aXK] at b1;have b4:(((r.ats.take k).map dX).flatten.length:Int)+(dX r.ats[k]).length<=9223372036854775807:=by omega
 clear b1 b2 b3;generalize ((r.ats.take k).map dX).flatten=s at *;have eb:eP .add (sv s) (sv (dX r.ats[k]))=some (sv (s++dX r.ats[k])):=by
  rw[Bl (by rw[aF,aF];omega),Fw]
 simp (disch:=omega) only[go_sem,h181l0,aXC,ixA,aJ.e,q,eb,aYd,aX4];rw[if_pos c];generalize gG r=re at *;simp (disch:=omega) only[go_sem,h181c,q1,w,un9,q3,c];rfl
end
section
variable {G:aE}{bb:Bool}
abbrev dcv(p:cI×Int×Int):AV:=.tup [.agg (p.1.c++[.dc (ci p.2.1)]),.one (.dc (ci p.2.2))]
end
section
variable {G:aE}{bb:Bool}
theorem Sx:∀ps:List (List Int),(∀p∈ps,(cK p).2=0)->iX ps=(ps.map fun p=>(cK p).1,0)
 |[],_=>rfl
 | p::t,h=>by
  have h1:=h p aXV;have ih:=Sx t (fun q hq=>h q (aX3 _ hq))
  rw[iX,if_neg (not_not_intro h1),ih];simp
theorem Sy:∀(ps:List (List Int)) (k:Nat),k<ps.length->(∀j,j<k->(cK (ps.getD j [])).2=0)->(cK (ps.getD k [])).2≠0->iX ps=([],(cK (ps.getD k [])).2)
 |[],k,hk,_,_=>by simp at hk
 | p::t,0,_,_,h=>by
  have h':(cK p).2≠0:=h;rw[iX,if_pos h'];rfl
 | p::t,k+1,hk,hj,h=>by
  have h0:(cK p).2=0:=hj 0 (by omega);have ih:=Sy t k (by simpa using hk) (fun j hj'=>hj (j+1) (by omega)) h
  have h':(cK (t.getD k [])).2≠0:=h;rw[iX,if_neg (not_not_intro h0),ih,if_pos h'];rfl
theorem Vp{l:List Int}(hB:aM l)(a k:Nat)(h:a+k<=l.length)(hk:k<=4):0<=gL l a k/\gL l a k<=4294967295:=by
 have h1:=tL hB a k hk;have:(256:Int) ^ k<=256 ^ 4:=by
  rcases k with _|_|_|_|_|k<;>first|decide|omega
 omega
theorem aPO{o:List Int}(ho:o.length=512)(hB:aM o)(l:List aJ):aPh (jL o l):=by
 have h1:=Vp hB 16 2 (by omega) (by omega);have h2:=Vp hB 18 2 (by omega) (by omega);have h3:=Vp hB 22 2 (by omega) (by omega);have h4:=Vp hB 32 4 (by omega) (by omega);have h5:=Vp hB 36 2 (by omega) (by omega);have h6:=Vp hB 38 2 (by omega) (by omega);have h7:=Vp hB 8 4 (by omega) (by omega);refine⟨?_,?_,?_,?_,?_,?_,?_⟩<;>simp only[jL]<;>omega
abbrev r9(o:List Int):List aT:=[.dc (ci (gL o 16 2)),.dc (ci (gL o 18 2)),.dc (ci (gL o 22 2)),.dc (ci (gL o 32 4)),.dc (ci (gL o 36 2)),.dc (ci (gL o 38 2)),.dc (ci (gL o 8 4))]
abbrev z9:List aT:=[.dc (ci 0),.dc (ci 0),.dc (ci 0),.dc (ci 0),.dc (ci 0),.dc (ci 0),.dc (ci 0),.dc (.raw (.slice none 0 0)),.dc (ci 0)]
noncomputable def aK2(o:List Int)(u:Int)(d:List aJ×Int):cI×Int×Int:=if d.2≠0 then (.nil,0,d.2) else if gG (jL o d.1)≠0 then (.nil,0,gG (jL o d.1)) else (jL o d.1,u,0)
def Ob:HC:=sB (sB (sB (sB (sB (sB (sB (sB h159c)))))))
abbrev aWd(e:Int):AV:=.tup [.agg [.dc (ci 0),.dc (ci 0),.dc (ci 0),.dc (ci 0),.dc (ci 0),.dc (ci 0),.dc (ci 0),.dc (.slc []),.dc (ci 0)],.one (.dc (ci e))]
theorem aGs(e:Int):dcv (.nil,0,e)=aWd e:=rfl
set_option maxHeartbeats 4000000 in
theorem aPP(o:List Int)(u:Int)(ps:List (List Int))(hps:ps.length<=1000)(hDec:∀k (hk:k<ps.length),EV G (Tb (Cw G bb)) 213 [sv ps[k]] []=some (rtv (cK ps[k]),[]))
  (q5:EV G (Tb (Cw G bb)) 186 [(jL o (iX ps).1).v] []=some (vi (gG (jL o (iX ps).1)),[])) {st:AS}
  (h0:st=⟨(jk 2 (.one (.ptr 0 0)::jk 2 (vi u::jk 1 (.one (.ptr 1 0)::jk 63 (vl (ps.map Ci)::vi ps.length::vi (0:Nat)::jk 28 []))))),[.box z9,.box (r9 o++[.bld 2 0]),.arr 0 11 []]⟩):
  C8 false [.cell 2 true 9,.tmp 3] 0 (sqK (EV G (Tb (Cw G bb))) G Ob (Hl 0 (EL (EV G (Tb (Cw G bb))) G h159l0 [2,2,1,63,0,0] 3 st)))=some (dcv (aK2 o u (iX ps)),[]):=by
 have row:∀k (hk:k<ps.length),(ps.map Ci)[k]?=some (Ci ps[k]):=fun k hk=>by rw[aXI,aXJ hk];rfl
 have gd:∀k (hk:k<ps.length),ps.getD k []=ps[k]:=fun k hk=>by simp[List.getD,hk]
 rw[gF (fun k=>⟨(jk 2 (.one (.ptr 0 0)::jk 2 (vi u::jk 1 (.one (.ptr 1 0)::jk 63 (vl (ps.map Ci)::vi ps.length::vi k::jk 28 []))))),[.box z9,.box (r9 o++[.bld 2 ((ps.take k).map fun p=>(cK p).1.e).length]),.arr 0 11 ((ps.take k).map fun p=>(cK p).1.e)]⟩) (fun k=>(cK (ps.getD k [])).2≠0) ps.length ?_ ?_]
 rotate_left
 rw[h0];rfl;intro k hk hn;have hz:=Classical.not_not.1 (hn k (aXF _));rw[gd k hk] at hz;have qd:=hDec k hk;have e:=row k hk;have hb:((ps.take k).map fun p=>(cK p).1.e).length<=1000:=by rw[aXC,aXK];omega
 have hall:gE 11 ((ps.take k).map fun p=>(cK p).1.e)=true:=kJ (f:=fun p=>(cK p).1.e) (fun _=>rfl) _
 have et:(ps.take (k+1)).map (fun p=>(cK p).1.e)=(ps.take k).map (fun p=>(cK p).1.e)++[(cK ps[k]).1.e]:=by
  rw[aYx hk,aYg,aXL,aXT]
 rw[et];clear q5 hDec row gd h0 hn et;have htk:((ps.take k).map fun p=>(cK p).1.e).take ((ps.take k).map fun p=>(cK p).1.e).length=(ps.take k).map fun p=>(cK p).1.e:=aYh
 generalize (ps.take k).map (fun p=>(cK p).1.e)=C at *
 generalize cK ps[k]=d at *;obtain⟨x,z⟩:=d;dsimp only at hz qd ⊢;subst hz;generalize ps[k]=p at *;rw[aXD];simp (disch:=omega) only[go_sem,h159l0,aXC,e,qd,aJ.e,hall,htk,aXE,aXH,aXF,aYd,aX4,aYi];obtain⟨hk,hp,hn⟩:=bT (fun k=>(cK (ps.getD k [])).2≠0) ps.length
 generalize ix (fun k=>(cK (ps.getD k [])).2≠0) ps.length=k at *
 rcases hp with rfl|⟨hk',hp⟩
 have hd:=Sx ps (fun p hp=>by
  obtain⟨j,hj,rfl⟩:=List.mem_iff_getElem.1 hp;have:=Classical.not_not.1 (hn j hj);rwa[gd j hj] at this)
 have em:(ps.take ps.length).map (fun p=>(cK p).1.e)=(ps.map fun p=>(cK p).1).map aJ.e:=by rw[aYh,aX1];rfl
 have hle:((ps.map fun p=>(cK p).1).map aJ.e).length=ps.length:=by simp
 have ht:((ps.map fun p=>(cK p).1).map aJ.e).take ps.length=(ps.map fun p=>(cK p).1).map aJ.e:=aYe (by omega)
 rw[em,hle];rw[hd] at q5 ⊢;unfold aK2;rw[if_neg (not_not_intro rfl)];dsimp only at q5 ⊢;clear hDec row gd h0 hd em hn;generalize (ps.map fun p=>(cK p).1)=L at *
 by_cases c4:gG (jL o L)=0;rw[if_neg (not_not_intro c4)];rw[c4] at q5;simp only[jL,cI.v,cI.c] at q5;generalize eM:L.map aJ.e=M at *;simp (disch:=omega) only[go_sem,Ob,sB,h159c,h159l0,aXC,q5,hle,ht,aXF,aYd,aX4];simp only[dcv,jL,cI.c,eM,aYd,aX4];rw[if_pos c4,aGs];generalize gG (jL o L)=re at *;simp only[jL,cI.v,cI.c] at q5;generalize L.map aJ.e=M at *;simp (disch:=omega) only[go_sem,Ob,sB,h159c,h159l0,aXC,q5,c4,hle,ht,aXF,aYd,aX4];have hd:=Sy ps k hk' (fun j hj=>Classical.not_not.1 (hn j hj)) hp
 rw[gd k hk'] at hp hd;rw[hd];unfold aK2;dsimp only;rw[if_pos hp,aGs];have qd:=hDec k hk';have e:=row k hk';clear hDec row gd h0 hd hn q5;generalize (ps.take k).map (fun p=>(cK p).1.e)=C at *
 generalize cK ps[k]=d at *;obtain⟨x,z⟩:=d;dsimp only at hp qd ⊢;generalize ps[k]=p at *;simp (disch:=omega) only[go_sem,Ob,sB,h159c,h159l0,aXC,e,qd,aJ.e,hp,aYd,aX4]
end
section
variable {G:aE}{bb:Bool}
set_option maxHeartbeats 8000000 in
theorem Sz(hG:G9 G)(s:List Int)(hB:aM s)(hl:s.length<=9223372036854775807):EV G (Tb (Cw G bb)) 159 [sv s] []=some (dcv (kA s),[]):=by
 refine aA rfl ?_;unfold kA;by_cases c1:s.length=512;rw[if_neg (not_not_intro c1)];have q1:=up2 (up (aOZ (G:=G) (bb:=bb) s c1 hB));by_cases c2:mR s;rw[if_neg (not_not_intro c2)];rw[if_pos c2] at q1;have u0:¬ qG s=0:=c2.1;have ho:=B8 c1;have hoB:=Sa c1 hB;have f1:EV G (Tb (Cw G bb)) 209 [J9 16 2,sv (jJ s)] []=some (vi (gL (jJ s) 16 2),[]):=up2 (up (tQ (G:=G) (bb:=bb) (jJ s) hoB 16 2 (by omega) (by omega) (by omega)));have f2:EV G (Tb (Cw G bb)) 209 [J9 18 2,sv (jJ s)] []=some (vi (gL (jJ s) 18 2),[]):=up2 (up (tQ (G:=G) (bb:=bb) (jJ s) hoB 18 2 (by omega) (by omega) (by omega)));have f3:EV G (Tb (Cw G bb)) 209 [J9 22 2,sv (jJ s)] []=some (vi (gL (jJ s) 22 2),[]):=up2 (up (tQ (G:=G) (bb:=bb) (jJ s) hoB 22 2 (by omega) (by omega) (by omega)));have f4:EV G (Tb (Cw G bb)) 209 [J9 32 4,sv (jJ s)] []=some (vi (gL (jJ s) 32 4),[]):=up2 (up (tQ (G:=G) (bb:=bb) (jJ s) hoB 32 4 (by omega) (by omega) (by omega)));have f5:EV G (Tb (Cw G bb)) 209 [J9 36 2,sv (jJ s)] []=some (vi (gL (jJ s) 36 2),[]):=up2 (up (tQ (G:=G) (bb:=bb) (jJ s) hoB 36 2 (by omega) (by omega) (by omega)));have f6:EV G (Tb (Cw G bb)) 209 [J9 38 2,sv (jJ s)] []=some (vi (gL (jJ s) 38 2),[]):=up2 (up (tQ (G:=G) (bb:=bb) (jJ s) hoB 38 2 (by omega) (by omega) (by omega)));have f7:EV G (Tb (Cw G bb)) 209 [J9 8 4,sv (jJ s)] []=some (vi (gL (jJ s) 8 4),[]):=up2 (up (tQ (G:=G) (bb:=bb) (jJ s) hoB 8 4 (by omega) (by omega) (by omega)));have q2:=up2 (up (Vi (G:=G) (bb:=bb) (jJ s) ho hoB));have g1:=hG.sq;have g2:=hG.li;have g3:=hG.fl;have g4:=hG.ba;have g5:=hG.bo;have g6:=hG.nx;have g7:=hG.ls;cases hq:Cf ((jJ s).drop 64) with
 |none=>
  rw[hq] at q2;generalize qG s=u at *;simp (maxSteps:=2000000) (disch:=omega) only[go_sem,h159c,aF,c1,q1,u0,g1,g2,g3,g4,g5,g6,g7,f1,f2,f3,f4,f5,f6,f7,q2,cI.nil];all_goals rfl
 |some ps=>
  rw[hq] at q2;obtain⟨h1,h2,h3,h4⟩:=aFT c1 hB hq;have q3:=aKB (G:=G) (bb:=bb) ps (by omega) (by omega);have q4:=up2 (up (Yw (G:=G) (bb:=bb) hG (jL (jJ s) []) ps.flatten (aPO ho hoB []) h2 h4));have eS:=dR (Ja (jL (jJ s) []) (68+(ps.flatten.length:Int)) ps.flatten h4) hoB;have hdW:=aTL c1 hB hq;have eD:aFP s ps=if iR (jL (jJ s) []) (68+(ps.flatten.length:Int)) ps.flatten≠jJ s then (.nil,0,3) else aK2 (jJ s) (qG s) (iX ps):=rfl
  dsimp only;rw[eD];clear eD;by_cases c3:iR (jL (jJ s) []) (68+(ps.flatten.length:Int)) ps.flatten=jJ s;rw[if_neg (not_not_intro c3)];rw[eq_true c3] at eS;have c3':=c3;have hps:ps.length<=1000:=by omega
  have hDec:∀ k (hk:k < ps.length),EV G (Tb (Cw G bb)) 213 [sv ps[k]] []=some (rtv (cK ps[k]),[]):=fun k hk=>by
   obtain⟨b1,b2,_⟩:=h1 _ (aXM hk);exact up2 (up (aBG (G:=G) (bb:=bb) ps[k] b1 b2))
  have q5:=up2 (tU (G:=G) (bb:=bb) (jL (jJ s) (iX ps).1) hdW);clear h1 h2 h3 h4 hdW c3 hq;generalize ps.flatten=fl at *;generalize iR (jL (jJ s) []) (68+(fl.length:Int)) fl=Y at *;simp only[jL,cI.v,cI.c,aXT] at q4;generalize qG s=u at *;simp (maxSteps:=2000000) (disch:=omega) only[go_sem,h159c,aF,c1,q1,u0,g1,g2,g3,g4,g5,g6,g7,f1,f2,f3,f4,f5,f6,f7,q2,q3,q4,eS,Uj,aXC];exact aPP (jJ s) u ps hps hDec q5 rfl
  ·rw[if_pos c3];rw[eq_false c3] at eS;generalize ps.flatten=fl at *;generalize iR (jL (jJ s) []) (68+(fl.length:Int)) fl=Y at *;simp only[jL,cI.v,cI.c,aXT] at q4;generalize qG s=u at *;simp (maxSteps:=2000000) (disch:=omega) only[go_sem,h159c,aF,c1,q1,u0,g1,g2,g3,g4,g5,g6,g7,f1,f2,f3,f4,f5,f6,f7,q2,q3,q4,eS,Uj,cI.nil];all_goals rfl
 ·rw[if_pos c2];rw[if_neg c2] at q1;simp (maxSteps:=2000000) (disch:=omega) only[go_sem,h159c,aF,c1,q1,cI.nil];all_goals rfl
 ·rw[if_pos c1];have c1':¬ (s.length:Int)=512:=by omega
  simp (maxSteps:=2000000) (disch:=omega) only[go_sem,h159c,aF,c1',cI.nil];all_goals rfl
end
section
variable {G:aE}{bb:Bool}
noncomputable def Vq(p q:List Int):cI×Int×Int:=if (kA p).2.2=0 then kA p else if (kA q).2.2=0 then kA q else kA p
set_option maxHeartbeats 2000000 in
theorem Jj(hG:G9 G)(x:Bt)(d6 d7 d9:DC)(s:List Int)(hB:aM s)(N a b c d:Nat)(hN:s.length=N)(h0:a*256+256<=N)(h1:b*256+256<=N)(h2:c*256+256<=N)(h3:d*256+256<=N)(hl:N<=200000):
  EV G (Tb (dN G bb)) 138 [.one (.ptr 0 0),pr2 a b,pr2 c d] [rM x d6 d7 N d9,yb s]=some (dcv (Vq (Dx s a b) (Dx s c d)),[rM x d6 d7 N d9,yb s]):=by
 have q1:=Cr (G:=G) (B:=dN G bb) x d6 d7 d9 s hB N a b hN h0 h1 hl;have q2:=Cr (G:=G) (B:=dN G bb) x d6 d7 d9 s hB N c d hN h2 h3 hl;have r1:=upT (Sz (bb:=bb) hG (Dx s a b) (qQ hB a b) (by rw[Y4 (by omega) (by omega)];omega));have r2:=upT (Sz (bb:=bb) hG (Dx s c d) (qQ hB c d) (by rw[Y4 (by omega) (by omega)];omega));unfold Vq;generalize Dx s a b=P at *;generalize Dx s c d=Q at *;generalize kA P=X at *;generalize kA Q=Y at *;obtain⟨r,u,e⟩:=X;obtain⟨r',u',e'⟩:=Y;refine aA rfl ?_;by_cases c1:e=0;rw[if_pos c1];simp (maxSteps:=2000000) (disch:=omega) only[go_sem,h138c,q1,r1,c1];rfl;rw[if_neg c1];by_cases c2:e'=0;rw[if_pos c2];simp (maxSteps:=2000000) (disch:=omega) only[go_sem,h138c,q1,r1,q2,r2,c1,c2];rfl;rw[if_neg c2];simp (maxSteps:=2000000) (disch:=omega) only[go_sem,h138c,q1,r1,q2,r2,c1,c2];rfl
end
section
variable {G:aE}{B:aO}
theorem aPQ(fn:Nat)(p:aJ->Bool)(l:List aJ)(hl:l.length<=1000000)(hq:∀a∈l,EV G (Tb B) fn [a.v] []=some (vb (p a),[])):
  EV G (Tb B) 150 [vl (l.map aJ.e),.one (.fn fn [])] []=some (vi (iH p l),[]):=by
 refine aA rfl ?_;simp (disch:=omega) only[go_sem,h150c,aXC];unfold iH;rw[gF (fun k=>⟨(vl (l.map aJ.e)::.one (.fn fn [])::jk 5 (vi l.length::vi k::jk 10 [])),[]⟩) (fun k=>p (l.getD k aJ.nil)=true) l.length ?_ ?_]
 rotate_left
 rfl;intro k hk hn;have h3:=hn k (aXF _);rw[gT l k hk] at h3;have h4:p l[k]=false:=by simpa using h3
 have q:=hq l[k] (aXM hk);rw[h4] at q;simp (disch:=omega) only[go_sem,h150l0,aXC,ixA,aJ.e,q];obtain⟨hk,hp,hn⟩:=bT (fun k=>p (l.getD k aJ.nil)=true) l.length
 generalize ix (fun k=>p (l.getD k aJ.nil)=true) l.length=k at *
 rcases hp with rfl|⟨hk',hp⟩;rw[if_pos rfl];simp (disch:=omega) only[go_sem,h150l0,aXC];rw[if_neg (by omega)];rw[gT l k hk'] at hp;have q:=hq l[k] (aXM hk');rw[hp] at q;simp (disch:=omega) only[go_sem,h150l0,aXC,ixA,aJ.e,q]
noncomputable def Vr(p:aY->Bool)(l:List aY):Int:=if ix (fun k=>p (l.getD k ⟨0,0⟩)=true) l.length=l.length then -1 else (ix (fun k=>p (l.getD k ⟨0,0⟩)=true) l.length:Nat)
theorem S0(p:aY->Bool)(l:List aY):decide (0<=Vr p l)=l.any p:=by
 unfold Vr;obtain⟨hk,hp,hn⟩:=bT (fun k=>p (l.getD k ⟨0,0⟩)=true) l.length
 generalize ix (fun k=>p (l.getD k ⟨0,0⟩)=true) l.length=k at *
 rcases hp with rfl|⟨hk',hp⟩;rw[if_pos rfl]
 symm
 rw[show decide ((0:Int)<=-1)=false from rfl,aYW]
 intro x hx;obtain⟨j,hj,rfl⟩:=List.getElem_of_mem hx;have:=hn j hj;rw[pG l j hj] at this;exact this;rw[if_neg (by omega),decide_eq_true (by omega)];rw[pG l k hk'] at hp;exact (List.any_eq_true.2 ⟨_,aXM hk',hp⟩).symm
theorem aK3(fn:Nat)(p:aY->Bool)(l:List aY)(hl:l.length<=1000000)(hq:∀r:aY,EV G (Tb B) fn [r.v] []=some (vb (p r),[])):
  EV G (Tb B) 121 [eB l,.one (.fn fn [])] []=some (vb (l.any p),[]):=by
 have q:EV G (Tb B) 163 [eB l,.one (.fn fn [])] []=some (vi (Vr p l),[]):=Rq (G:=G) (B:=B) p fn hq l hl;rw[<- S0];generalize Vr p l=I at *;refine aA rfl ?_;simp (disch:=omega) only[go_sem,h121c,q,ge_iff_le]
theorem aPR(fn:Nat)(ds:List DC)(p:aY->Bool)(l:List aY)(hl:l.length<=1000000)(hq:∀r∈l,EV G (Tb B) fn [r.v,.one (.ptr 0 0)] [.box (ds.map aT.dc)]=some (vb (p r),[.box (ds.map aT.dc)])):
  EV G (Tb B) 163 [eB l,.one (.fn fn [.ptr 0 0])] [.box (ds.map aT.dc)]=some (vi (Vr p l),[.box (ds.map aT.dc)]):=by
 refine aA rfl ?_;simp (disch:=omega) only[go_sem,h163c,aXC,oU,oV,oW,oX,lC];unfold Vr;rw[gF (fun k=>⟨(eB l::.one (.fn fn [.ptr 0 0])::jk 5 (vi l.length::vi k::jk 10 [])),[.box (ds.map aT.dc)]⟩) (fun k=>p (l.getD k ⟨0,0⟩)=true) l.length ?_ ?_]
 rotate_left
 rfl;intro k hk hn;have h3:=hn k (aXF _);rw[pG l k hk] at h3;have h4:p l[k]=false:=by simpa using h3
 have q:=hq l[k] (aXM hk);rw[h4] at q;simp (disch:=omega) only[go_sem,h163l0,aXC,aY.e,q,oU,oV,oW,oX,lC];obtain⟨hk,hp,hn⟩:=bT (fun k=>p (l.getD k ⟨0,0⟩)=true) l.length
 generalize ix (fun k=>p (l.getD k ⟨0,0⟩)=true) l.length=k at *
 rcases hp with rfl|⟨hk',hp⟩;rw[if_pos rfl];simp (disch:=omega) only[go_sem,h163l0,aXC,oU,oV,oW,oX,lC];rw[if_neg (by omega)];rw[pG l k hk'] at hp;have q:=hq l[k] (aXM hk');rw[hp] at q;simp (disch:=omega) only[go_sem,h163l0,aXC,aY.e,q,oU,oV,oW,oX,lC]
theorem aK4(fn:Nat)(ds:List DC)(p:aY->Bool)(l:List aY)(hl:l.length<=1000000)(hq:∀r∈l,EV G (Tb B) fn [r.v,.one (.ptr 0 0)] [.box (ds.map aT.dc)]=some (vb (p r),[.box (ds.map aT.dc)])):
  EV G (Tb B) 121 [eB l,.one (.fn fn [.ptr 0 0])] [.box (ds.map aT.dc)]=some (vb (l.any p),[.box (ds.map aT.dc)]):=by
 have q:=aPR (G:=G) (B:=B) fn ds p l hl hq;rw[<- S0];generalize Vr p l=I at *;refine aA rfl ?_;simp (disch:=omega) only[go_sem,h121c,q,ge_iff_le,oU,oV,oW,oX,lC]
def pA(a:aJ):Bool:=decide (a.ty=128)&&decide (a.nm=[])
theorem aGt(a:aJ):EV G (Tb B) 151 [a.v] []=some (vb (pA a),[]):=by
 have e:=aGm a.nm;unfold pA;refine aA rfl ?_;by_cases c:a.ty=128;simp (disch:=omega) only[go_sem,h151c,eq_true c,e,decide_true,aYb];simp (disch:=omega) only[go_sem,h151c,c,decide_false,aYj]
theorem aPS(r:aY):EV G (Tb B) 152 [r.v] []=some (vb (decide (r.s=-1)),[]):=by
 refine aA rfl ?_;simp (disch:=omega) only[go_sem,h152c]
theorem aGu(r:aY)(x:Bt)(h:-1000000<=r.s/\r.s<=1000000)(h':-1000000<=r.n/\r.n<=1000000):EV G (Tb B) 153 [r.v,.one (.ptr 0 0)] [x.o]=some (vb (decide (r.s+r.n > x.cl)),[x.o]):=by
 have q:=mN (G:=G) (B:=B) r.s r.n h h';refine aA rfl ?_;simp (disch:=omega) only[go_sem,h153c,q]
theorem Vs(l:List aJ)(hl:l.length<=1000000):EV G (Tb B) 150 [vl (l.map aJ.e),.one (.fn 151 [])] []=some (vi (iH pA l),[]):=aPQ _ _ l hl (fun a _=>aGt a)
theorem Y7(l:List aY)(hl:l.length<=1000000):EV G (Tb B) 121 [eB l,.one (.fn 152 [])] []=some (vb (l.any fun r=>decide (r.s=-1)),[]):=aK3 _ _ l hl aPS
abbrev Bt.d(x:Bt):List DC:=[ci x.cl,ci x.tb,ci x.mi,ci x.lg,ci x.lc,ci x.se]
theorem Y8(l:List aY)(x:Bt)(hl:l.length<=1000000)(h:∀r∈l,(-1000000<=r.s/\r.s<=1000000)/\(-1000000<=r.n/\r.n<=1000000)):EV G (Tb B) 121 [eB l,.one (.fn 153 [.ptr 0 0])] [x.o]=some (vb (l.any fun r=>decide (r.s+r.n > x.cl)),[x.o]):=
 aK4 _ x.d _ l hl (fun r hr=>aGu r x (h r hr).1 (h r hr).2)
end
section
variable {G:aE}{bb:Bool}
abbrev tE(e:Int):TV:=.one (.dc (ci e))
abbrev ptN:TV:=.one (.dc (.raw (.pointer none)))
theorem Y9{a b:Nat}{x y:Int}(h:(a:Int)=x)(h':(b:Int)=y):pr2 a b=Y6 x y:=by subst h;subst h';rfl
set_option maxHeartbeats 4000000 in
theorem aK5(s:List Int)(hB:aM s)(hl:s.length<=200000)(h:(bW s).2.2≠0):EV G (Tb (dN G bb)) 104 [sv s] []=some (.tup [ptN,tE (bW s).2.2],[]):=by
 have q:=Su (G:=G) (B:=dN G bb) Cp s hB hl;generalize bW s=V at *;obtain⟨x,a,e⟩:=V;refine aA rfl ?_;simp (maxSteps:=2000000) (disch:=omega) only[go_sem,h104c,q,h,Bt.cs]
structure Pre (G:aE) (bb:Bool) (s:List Int) (x:Bt) (r:cI) (u e:Int):Prop where
 hB:aM s
 pos:0<s.length
 len:s.length<=200000
 q:∃a,EV G (Tb (dN G bb)) 29 [sv s] []=some (.tup [.agg x.cs,tI a,tI 0],[])
 nT:EV G (Tb (dN G bb)) 100 [vi x.tb] []=some (Y6 x.tb (x.tb+1),[])
 nM:EV G (Tb (dN G bb)) 100 [vi x.mi] []=some (Y6 x.mi (x.mi+1),[])
 ei:EV G (Tb (dN G bb)) 138 [.one (.ptr 0 0),Y6 x.tb (x.tb+1),Y6 x.mi (x.mi+1)] [rM x (.raw (.slice none 0 0)) (.raw (.int .i64 0)) s.length (.raw (.slice none 0 0)),yb s]=some (dcv (r,u,e),[rM x (.raw (.slice none 0 0)) (.raw (.int .i64 0)) s.length (.raw (.slice none 0 0)),yb s])
def blT(s:List Int)(x:Bt):List Int:=Dx s x.tb.toNat (x.tb.toNat+1)
def blM(s:List Int)(x:Bt):List Int:=Dx s x.mi.toNat (x.mi.toNat+1)
theorem aGv(hG:G9 G)(s:List Int)(hB:aM s)(hl:s.length<=200000)(h:(bW s).2.2=0)(hx:(0<=(bW s).1.tb/\(bW s).1.tb*256+512<=s.length)/\(0<=(bW s).1.mi/\(bW s).1.mi*256+512<=s.length)):
  Pre G bb s (bW s).1 (Vq (blT s (bW s).1) (blM s (bW s).1)).1 (Vq (blT s (bW s).1) (blM s (bW s).1)).2.1 (Vq (blT s (bW s).1) (blM s (bW s).1)).2.2:=by
 have q:=Su (G:=G) (B:=dN G bb) Cp s hB hl;generalize bW s=V at *;obtain⟨x,a,e⟩:=V;simp only at h hx q ⊢;subst h;obtain⟨T,hT⟩:∃T:Nat,x.tb=T:=⟨x.tb.toNat,by omega⟩;obtain⟨M,hM⟩:∃M:Nat,x.mi=M:=⟨x.mi.toNat,by omega⟩;have eT:x.tb.toNat=T:=by omega
 have eM:x.mi.toNat=M:=by omega
 have ei:=Jj (G:=G) (bb:=bb) hG x (.raw (.slice none 0 0)) (.raw (.int .i64 0)) (.raw (.slice none 0 0)) s hB s.length T (T+1) M (M+1) rfl (by omega) (by omega) (by omega) (by omega) hl;rw[Y9 (x:=x.tb) (y:=x.tb+1) (by omega) (by omega),Y9 (x:=x.mi) (y:=x.mi+1) (by omega) (by omega),<- eT,<- eM] at ei;exact⟨hB,by omega,hl,⟨a,q⟩,Ji _ (by omega),Ji _ (by omega),ei⟩
set_option maxHeartbeats 8000000 in
theorem aK6{s:List Int}{x:Bt}{r:cI}{u e:Int}(hp:Pre G bb s x r u e)(hE:e≠0):EV G (Tb (dN G bb)) 104 [sv s] []=some (.tup [ptN,tE e],[]):=by
 obtain⟨hB,hpos,hl,⟨a,q⟩,nT,nM,ei⟩:=hp;have hD:=mK s hB;have hEn:=Lf (b:=s) rfl hpos;have hF:=An s;refine aA rfl ?_;simp (maxSteps:=2000000) (disch:=omega) only[go_sem,h104c,q,Bt.cs,hD,hEn,hF,aF,aXC,nT,nM,ei,hE]
set_option maxHeartbeats 8000000 in
theorem aK7{s:List Int}{x:Bt}{r:cI}{u:Int}(hp:Pre G bb s x r u 0)(hrl:r.ats.length<=1000000)(hI:iH pA r.ats<0):EV G (Tb (dN G bb)) 104 [sv s] []=some (.tup [ptN,tE 6],[]):=by
 obtain⟨hB,hpos,hl,⟨a,q⟩,nT,nM,ei⟩:=hp;have hD:=mK s hB;have hEn:=Lf (b:=s) rfl hpos;have hF:=An s;have qi:=Vs (G:=G) (B:=dN G bb) r.ats hrl;generalize iH pA r.ats=I at *;refine aA rfl ?_;simp (maxSteps:=2000000) (disch:=omega) only[go_sem,h104c,q,Bt.cs,hD,hEn,hF,aF,aXC,nT,nM,ei,qi,hI]
def Oc(x:Bt)(a:aJ):Int:=aS [pD (!a.res&&decide (a.fi=0)) 15,pD (!a.rs.any fun r=>decide (r.s=-1)) 14,pD (!a.rs.any fun r=>decide (r.s+r.n > x.cl)) 37]
theorem Jk{B:aO}(a b c:Int):EV G (Tb B) 61 [vl [[ci a],[ci b],[ci c]]] []=some (vi (aS [a,b,c]),[]):=Sm [a,b,c] (by simp)
set_option maxHeartbeats 16000000 in
theorem aK8{s:List Int}{x:Bt}{r:cI}{u:Int}(hp:Pre G bb s x r u 0)(hrl:r.ats.length<=1000000)(K:Nat)(hK:K<r.ats.length)(hI:iH pA r.ats=K)(hl2:r.ats[K].rs.length<=1000000)(hr:∀q∈r.ats[K].rs,(-1000000<=q.s/\q.s<=1000000)/\(-1000000<=q.n/\q.n<=1000000))
  (hE:Oc x r.ats[K]≠0):EV G (Tb (dN G bb)) 104 [sv s] []=some (.tup [ptN,tE (Oc x r.ats[K])],[]):=by
 obtain⟨hB,hpos,hl,⟨a,q⟩,nT,nM,ei⟩:=hp;have hD:=mK s hB;have hEn:=Lf (b:=s) rfl hpos;have hF:=An s;have qi:=Vs (G:=G) (B:=dN G bb) r.ats hrl;rw[hI] at qi;have w:=gI (G:=G) (B:=dN G bb);have f3:=Jk (G:=G) (B:=dN G bb);have hx:=ixA r.ats K hK;unfold Oc at hE ⊢;generalize r.ats[K]=A at *;have c1:=Y7 (G:=G) (B:=dN G bb) A.rs hl2;have c2:=Y8 (G:=G) (B:=dN G bb) A.rs x hl2 hr;generalize (A.rs.any fun r=>decide (r.s=-1))=H1 at *
 generalize (A.rs.any fun r=>decide (r.s+r.n > x.cl))=H2 at *
 have hp0:(0:Int)<=(K:Int):=by omega
 refine aA rfl ?_;cases hres:A.res;rw[hres] at hE;by_cases hfi:A.fi=0;rw[decide_eq_true hfi] at hE ⊢;have hE2:¬ aS [pD true 15,pD (!H1) 14,pD (!H2) 37]=0:=hE;simp (maxSteps:=2000000) (disch:=omega) only[go_sem,h104c,q,Bt.cs,hD,hEn,hF,aF,aXC,nT,nM,ei,qi,hx,aJ.e,hres,hfi,c1,c2,w,f3,hE2,aX5,aYc,aYb,aYj];rw[decide_eq_false hfi] at hE ⊢;have hE2:¬ aS [pD false 15,pD (!H1) 14,pD (!H2) 37]=0:=hE;simp (maxSteps:=2000000) (disch:=omega) only[go_sem,h104c,q,Bt.cs,hD,hEn,hF,aF,aXC,nT,nM,ei,qi,hx,aJ.e,hres,hfi,c1,c2,w,f3,hE2,aX5,aYc,aYb,aYj,Bool.and_false];rw[hres] at hE;have hE2:¬ aS [pD false 15,pD (!H1) 14,pD (!H2) 37]=0:=hE;simp (maxSteps:=2000000) (disch:=omega) only[go_sem,h104c,q,Bt.cs,hD,hEn,hF,aF,aXC,nT,nM,ei,qi,hx,aJ.e,hres,c1,c2,w,f3,hE2,aX5,aYc,aYb,aYj]
end
section
variable {G:aE}{bb:Bool}
theorem aPU(x:Bt)(d6 d7:DC)(N:Nat)(cl:List Int)(s:List Int)(hx:(-1000000<=x.mi/\x.mi<=1000000)/\2<=x.cl/\x.cl<=1000000)(hl:cl.length<=1000000):
 EV G (Tb (dN G bb)) 154 [.one (.ptr 0 0)] [rM x d6 d7 N (.slc (el cl)),yb s]=some (vb (Ck x cl),[rM x d6 d7 N (.slc (el cl)),yb s]):=aTS x d6 d7 N cl s hx hl
theorem tX{B:aO}(x:Bt)(d6 d7:DC)(N:Nat)(cl:List Int)(s:List Int)(n:Nat)(h:2*n+2<=cl.length)(hl:cl.length<=1000000):
 EV G (Tb B) 85 [.one (.ptr 0 0),vi n] [rM x d6 d7 N (.slc (el cl)),yb s]=some (Y6 (cl.getD (2*n) 0) (cl.getD (2*n+1) 0),[rM x d6 d7 N (.slc (el cl)),yb s]):=aGq x d6 d7 N cl s n h hl
def clE(x:Bt)(cl:List Int):Int:=aS [pD (!Ck x cl) 13,pD (decide (cl.length % 2=0)&&decide (16<=cl.length / 2/\cl.length / 2<=96)) 2,pD (decide (2<=cl.length)&&decide (cl.getD 0 0=x.tb/\cl.getD 1 0=x.tb+1)) 9]
abbrev rc9(r:cI)(u:Int):List aT:=[.dc (ci r.sq),.dc (ci r.li),.dc (ci r.fl),.dc (ci r.br),.dc (ci r.bq),.dc (ci r.nx),.dc (ci r.ls),.dc (.slc (r.ats.map aJ.e)),.dc (ci u)]
abbrev opH(x:Bt)(r:cI)(u:Int)(s:List Int)(rs:List aY)(cl:List Int):List aC:=[x.o,yb s,rM x (.slc (rs.map aY.e)) (ci (cl.length / 2:Nat)) s.length (.slc (el cl)),.box (rc9 r u),.dead]
abbrev opB(x:Bt)(N:Nat)(rs:List aY)(n:Nat):aC:=.box [.dc (ci x.cl),.dc (ci x.tb),.dc (ci x.mi),.dc (ci x.lg),.dc (ci x.lc),.dc (ci x.se),.dc (.slc (rs.map aY.e)),.dc (ci 0),.bls 1 0 N 1,.bld 4 n]
theorem aT6(q:aY)(h:q.s≠-1)(n:Nat):H0 q (n+1)=H0 q n++[q.s+n]:=by rw[aEK,if_neg h]
set_option maxHeartbeats 4000000 in
theorem aWe(x:Bt)(r:cI)(u:Int)(s:List Int)(rs:List aY)(k:Nat)(q:aY)(hq:-1<=q.s/\q.s<=1000)(D:List Int)(hD:D.length<=1000000)(j:Nat)(hj:j<q.n.toNat)(hn:q.n<=100000000):
  K6 [4,2,6,93,0,0,4,0] 6 (EC (EV G (Tb (dN G bb))) G h104l0 ⟨(jk 4 (.one (.ptr 0 0)::jk 2 (.one (.ptr 2 0)::jk 6 (.one (.ptr 5 0)::jk 93 (eB rs::vi rs.length::vi k::jk 4 (vi q.n::vi j::jk 59 [])))))),[x.o,yb s,opB x s.length rs D.length,.box (rc9 r u),.arr 0 1 (el D),.box [.dc (ci q.s),.dc (ci q.n)]]⟩)=
   some ⟨(jk 4 (.one (.ptr 0 0)::jk 2 (.one (.ptr 2 0)::jk 6 (.one (.ptr 5 0)::jk 93 (eB rs::vi rs.length::vi k::jk 4 (vi q.n::vi (j+1:Nat)::jk 59 [])))))),[x.o,yb s,opB x s.length rs (D++[q.s+j]).length,.box (rc9 r u),.arr 0 1 (el (D++[q.s+j])),.box [.dc (ci q.s),.dc (ci q.n)]]⟩:=by
 have hlt:(j:Int)<q.n:=by omega
 have e:List.take D.length (List.map E4 D)=List.map E4 D:=aYe (by rw[aXC];exact aXF _);simp (maxSteps:=2000000) (disch:=omega) only[go_sem,h104l0,aXC,hlt,aMd,aXD,iQ,lM,e]
set_option maxHeartbeats 4000000 in
theorem aT7(x:Bt)(r:cI)(u:Int)(s:List Int)(rs:List aY)(hf:Bu rs)(hh:∀q∈rs,q.s≠-1)(hls:cA rs<=100000)(k:Nat)(hk:k<rs.length):
  K6 [4,2,100,0,0] 5 (EC (EV G (Tb (dN G bb))) G h104l1 ⟨(jk 4 (.one (.ptr 0 0)::jk 2 (.one (.ptr 2 0)::jk 100 (eB rs::vi rs.length::vi k::jk 65 [])))),[x.o,yb s,opB x s.length rs (H3 (rs.take k)).length,.box (rc9 r u),.arr 0 1 (el (H3 (rs.take k)))]⟩)=
   some ⟨(jk 4 (.one (.ptr 0 0)::jk 2 (.one (.ptr 2 0)::jk 100 (eB rs::vi rs.length::vi (k+1:Nat)::jk 65 [])))),[x.o,yb s,opB x s.length rs (H3 (rs.take (k+1))).length,.box (rc9 r u),.arr 0 1 (el (H3 (rs.take (k+1))))]⟩:=by
 have h1:=hf.el _ (aXM hk);have h2:=hf.n_le (aXM hk);have h3:=Xz (rs.take k) (fun r hr=>(hf.el r (aX6 hr)).2.2)
 have h4:=iI rs k (fun r hr=>(hf.el r hr).2.2)
 have hs:=hh _ (aXM hk);have hln:=hf.len;have h6:=uJ rs k hk;have h7:=iI rs (k+1) (fun r hr=>(hf.el r hr).2.2)
 rw[aEL rs k hk];generalize H3 (rs.take k)=C at *;simp (maxSteps:=2000000) (disch:=omega) only[go_sem,h104l1,aXC,iQ,lM,aY.e];rw[aR (fun j=>⟨(jk 4 (.one (.ptr 0 0)::jk 2 (.one (.ptr 2 0)::jk 6 (.one (.ptr 5 0)::jk 93 (eB rs::vi rs.length::vi k::jk 4 (vi rs[k].n::vi j::jk 59 [])))))),[x.o,yb s,opB x s.length rs (C++H0 rs[k] j).length,.box (rc9 r u),.arr 0 1 (el (C++H0 rs[k] j)),.box [.dc (ci rs[k].s),.dc (ci rs[k].n)]]⟩) rs[k].n.toNat ?_ ?_]
 have hx:((rs[k].n.toNat:Nat):Int)=rs[k].n:=by omega
 simp (maxSteps:=2000000) (disch:=omega) only[go_sem,h104l0,aXC,aY.e,hx,iQ,lM];simp[H0,jk];intro j hj;have hlen:(C++H0 rs[k] j).length=C.length+j:=by simp[H0]
 rw[aT6 rs[k] hs,<- aXR];exact aWe x r u s rs k rs[k] (by omega) (C++H0 rs[k] j) (by omega) j hj (by omega)
set_option maxHeartbeats 32000000 in
theorem aPV{s:List Int}{x:Bt}{r:cI}{u:Int}(hp:Pre G bb s x r u 0)(hrl:r.ats.length<=1000000)(K:Nat)(hK:K<r.ats.length)(hI:iH pA r.ats=K)(hf:Bu r.ats[K].rs)(hx:(0<=x.mi/\x.mi<=1000)/\2<=x.cl/\x.cl<=1000)(hls:cA r.ats[K].rs<=100000)(hr:∀q∈r.ats[K].rs,q.n<=100000)
  (hE:Oc x r.ats[K]=0):EV G (Tb (dN G bb)) 104 [sv s] []=some (.tup [.one (.ptr 2 0),tE (clE x (H3 r.ats[K].rs))],opH x r u s r.ats[K].rs (H3 r.ats[K].rs)):=by
 obtain⟨hB,hpos,hl,⟨a,q⟩,nT,nM,ei⟩:=hp;have hD:=mK s hB;have hEn:=Lf (b:=s) rfl hpos;have hF:=An s;have qi:=Vs (G:=G) (B:=dN G bb) r.ats hrl;rw[hI] at qi;have w:=gI (G:=G) (B:=dN G bb);have f3:=Jk (G:=G) (B:=dN G bb);have hxx:=ixA r.ats K hK;unfold Oc at hE;generalize r.ats[K]=A at *;have hl2:A.rs.length<=1000000:=by have:=hf.len;omega
 have c1:=Y7 (G:=G) (B:=dN G bb) A.rs hl2;have c2:=Y8 (G:=G) (B:=dN G bb) A.rs x hl2 (fun q hq=>by have:=hf.el q hq;have:=hr q hq;omega)
 have hp0:(0:Int)<=(K:Int):=by omega
 have e1:A.res=false/\A.fi=0/\(A.rs.any fun r=>decide (r.s=-1))=false/\(A.rs.any fun r=>decide (r.s+r.n > x.cl))=false:=by
  cases h5:A.res
  ·by_cases h6:A.fi=0
   ·rw[h5,decide_eq_true h6] at hE;refine⟨rfl,h6, ?_⟩;revert hE;cases (A.rs.any fun r=>decide (r.s=-1))<;>cases (A.rs.any fun r=>decide (r.s+r.n > x.cl))<;>simp[pD,aS]
   ·rw[h5,decide_eq_false h6] at hE;revert hE;cases (A.rs.any fun r=>decide (r.s=-1))<;>cases (A.rs.any fun r=>decide (r.s+r.n > x.cl))<;>simp[pD,aS]
  ·rw[h5] at hE;revert hE;cases (A.rs.any fun r=>decide (r.s=-1))<;>cases (A.rs.any fun r=>decide (r.s+r.n > x.cl))<;>simp[pD,aS]
 obtain⟨hres,hfi,h3,h4⟩:=e1;rw[h3] at c1;rw[h4] at c2;have e0:aS [pD true 15,pD true 14,pD true 37]=0:=rfl;refine aA rfl ?_;simp (maxSteps:=2000000) (disch:=omega) only[go_sem,h104c,q,Bt.cs,hD,hEn,hF,aF,aXC,nT,nM,ei,qi,hxx,aJ.e,hres,hfi,c1,c2,w,f3,e0,aX5,aYc,aYb,aYj];rw[aR (fun k=>⟨(jk 4 (.one (.ptr 0 0)::jk 2 (.one (.ptr 2 0)::jk 100 (eB A.rs::vi A.rs.length::vi k::jk 65 [])))),[x.o,yb s,opB x s.length A.rs (H3 (A.rs.take k)).length,.box (rc9 r u),.arr 0 1 (el (H3 (A.rs.take k)))]⟩) A.rs.length ?_ ?_]
 rotate_left
 rfl
 exact fun k hk=>aT7 x r u s A.rs hf (fun q hq e=>by
  have:=aYW.1 h3 q hq;simp[e] at this) hls k hk
 clear q hD hEn hF qi ei c1 c2 hxx e0 f3;have f3:=Jk (G:=G) (B:=dN G bb);have lc:=Xz A.rs (fun r hr=>(hf.el r hr).2.2)
 rw[aYh];generalize H3 A.rs=C at *;have hcl:=aPU (G:=G) (bb:=bb) x (.slc (A.rs.map aY.e)) (ci (C.length / 2:Nat)) s.length C s (by omega) (by omega);unfold clE;generalize Ck x C=CB at *;have hrem:(C.length:Int).tmod 2=((C.length % 2:Nat):Int):=Vn C.length 2;have hdiv:(C.length:Int).tdiv 2=((C.length / 2:Nat):Int):=aGn C.length 2;have wt:=iU (G:=G) (B:=dN G bb) (C.length / 2:Nat) 16 96;have eW:decide ((16:Int)<=(C.length / 2:Nat)/\((C.length / 2:Nat):Int)<=96)=decide (16<=C.length / 2/\C.length / 2<=96):=by rw[decide_eq_decide];omega
 rw[eW] at wt;generalize decide (16<=C.length / 2/\C.length / 2<=96)=W at *;by_cases g1:C.length % 2=0;have g1':((C.length % 2:Nat):Int)=0:=by omega
 rw[decide_eq_true g1,aYb];by_cases g2:2<=C.length;have g2':(C.length:Int)≥2:=by omega
 rw[decide_eq_true g2,aYb];have pl:EV G (Tb (dN G bb)) 85 [.one (.ptr 0 0),vi 0] [rM x (.slc (A.rs.map aY.e)) (ci (C.length / 2:Nat)) s.length (.slc (el C)),yb s]=some (Y6 (C.getD 0 0) (C.getD 1 0),[rM x (.slc (A.rs.map aY.e)) (ci (C.length / 2:Nat)) s.length (.slc (el C)),yb s]):=tX x _ _ _ C s 0 (by omega) (by omega);generalize C.getD 0 0=y0 at *;generalize C.getD 1 0=y1 at *;by_cases g3:y0=x.tb;by_cases g4:y1=x.tb+1;rw[decide_eq_true (And.intro g3 g4)];simp (maxSteps:=2000000) (disch:=omega) only[go_sem,h104l1,aXC,iQ,lM,hrem,hdiv,g1',eq_true g2',hcl,pl,nT,w,wt,f3,eq_true g3,eq_true g4];rw[decide_eq_false (fun h=>g4 h.2)]
 simp (maxSteps:=2000000) (disch:=omega) only[go_sem,h104l1,aXC,iQ,lM,hrem,hdiv,g1',eq_true g2',hcl,pl,nT,w,wt,f3,eq_true g3,g4];rw[decide_eq_false (fun h=>g3 h.1)]
 simp (maxSteps:=2000000) (disch:=omega) only[go_sem,h104l1,aXC,iQ,lM,hrem,hdiv,g1',eq_true g2',hcl,pl,nT,w,wt,f3,g3];have g2':¬ (C.length:Int)≥2:=by omega
 rw[decide_eq_false g2,aYj];simp (maxSteps:=2000000) (disch:=omega) only[go_sem,h104l1,aXC,iQ,lM,hrem,hdiv,g1',g2',hcl,w,wt,f3];have g1':¬ ((C.length % 2:Nat):Int)=0:=by omega
 rw[decide_eq_false g1,aYj];by_cases g2:2<=C.length;have g2':(C.length:Int)≥2:=by omega
 rw[decide_eq_true g2,aYb];have pl:EV G (Tb (dN G bb)) 85 [.one (.ptr 0 0),vi 0] [rM x (.slc (A.rs.map aY.e)) (ci (C.length / 2:Nat)) s.length (.slc (el C)),yb s]=some (Y6 (C.getD 0 0) (C.getD 1 0),[rM x (.slc (A.rs.map aY.e)) (ci (C.length / 2:Nat)) s.length (.slc (el C)),yb s]):=tX x _ _ _ C s 0 (by omega) (by omega);generalize C.getD 0 0=y0 at *;generalize C.getD 1 0=y1 at *;by_cases g3:y0=x.tb;by_cases g4:y1=x.tb+1;rw[decide_eq_true (And.intro g3 g4)];simp (maxSteps:=2000000) (disch:=omega) only[go_sem,h104l1,aXC,iQ,lM,hrem,hdiv,g1',eq_true g2',hcl,pl,nT,w,f3,eq_true g3,eq_true g4];rw[decide_eq_false (fun h=>g4 h.2)]
 simp (maxSteps:=2000000) (disch:=omega) only[go_sem,h104l1,aXC,iQ,lM,hrem,hdiv,g1',eq_true g2',hcl,pl,nT,w,f3,eq_true g3,g4];rw[decide_eq_false (fun h=>g3 h.1)]
 simp (maxSteps:=2000000) (disch:=omega) only[go_sem,h104l1,aXC,iQ,lM,hrem,hdiv,g1',eq_true g2',hcl,pl,nT,w,f3,g3];have g2':¬ (C.length:Int)≥2:=by omega
 rw[decide_eq_false g2,aYj];simp (maxSteps:=2000000) (disch:=omega) only[go_sem,h104l1,aXC,iQ,lM,hrem,hdiv,g1',g2',hcl,w,f3]
end
section
variable {G:aE}{bb:Bool}
theorem Od{a:aJ}(hW:a.W)(h:fK a=0):(nA a.rs).2=0:=by
 have h4:=(lA hW h).e;unfold rZ at h4;split at h4;rename_i hr;unfold J0 at h4;split at h4;rename_i q;rw[q.1];rfl;cases h4;exact (Dh h4).2.2.2.1
theorem Oe{l:List aY}(h:(nA l).2=0):Bu l/\cA l<=4096/\∀q∈l,(-1<=q.s/\q.s<=1000)/\(0<=q.n/\q.n<=4096):=by
 have h1:=Bv h;have h2:=aTa h;refine⟨h1,h2.2,fun q hq=>?_⟩
 have h3:=h1.el q hq;obtain⟨i,hi,rfl⟩:=List.mem_iff_getElem.1 hq;have h4:=uJ l i hi;have h5:=iI l (i+1) (fun r hr=>(h1.el r hr).2.2)
 have h6:=gQ (l.take i) (fun r hr=>(h1.el r (aX6 hr)).2.2)
 omega
noncomputable def lU(s:List Int):cI×Int×Int:=Vq (blT s (bW s).1) (blM s (bW s).1)
noncomputable def zZ(s:List Int):aJ:=(lU s).1.ats.getD (iH pA (lU s).1.ats).toNat aJ.nil
noncomputable def sD(s:List Int):Int:=if (bW s).2.2≠0 then (bW s).2.2 else if (lU s).2.2≠0 then (lU s).2.2 else if iH pA (lU s).1.ats<0 then 6 else Oc (bW s).1 (zZ s)
noncomputable def iD(s:List Int):List Int:=H3 (zZ s).rs
noncomputable def S1(s:List Int):Int:=clE (bW s).1 (iD s)
noncomputable def Ap(s:List Int):Int:=if sD s≠0 then sD s else S1 s
theorem aPW{s:List Int}(h:(bW s).2.2=0):dkE s.length=0/\jA (bW s).1=0/\(bW s).1.cl=(s.length / 256:Nat):=by
 unfold bW at h ⊢;by_cases h1:dkE s.length=0;rw[if_pos h1] at h ⊢;have key:∀l:List Int,(fF l).2=0->jA (fF l).1=0:=by
  intro l hl;unfold fF at hl ⊢;split at hl;split at hl;split at hl;rename_i a b c;rw[if_pos a,if_pos b,if_pos c];exact c;rename_i c;exact absurd hl c;cases hl;cases hl
 unfold zY at h ⊢;by_cases h2:(fF (s.take 64)).2=0/\(fF (s.take 64)).1.cl=(s.length / 256:Nat);rw[if_pos h2];exact⟨h1,key _ h2.1,h2.2⟩;rw[if_neg h2] at h ⊢;by_cases h3:(fF (s.drop (s.length-64))).2=0/\(fF (s.drop (s.length-64))).1.cl=(s.length / 256:Nat);rw[if_pos h3];exact⟨h1,key _ h3.1,h3.2⟩;rw[if_neg h3] at h;cases h;rw[if_neg h1] at h;exact absurd h h1
structure Bok (x:Bt) (N:Nat):Prop where
 cl:x.cl=(N / 256:Nat)
 n:N % 256=0/\64<=N / 256/\N / 256<=512
 tb:1<=x.tb/\x.tb<=x.cl-2
 mi:1<=x.mi/\x.mi+8<x.cl
 lg:1<=x.lg/\x.lg+x.lc<x.cl
 lc:8<=x.lc/\x.lc<=64
theorem Oh{s:List Int}(h:(bW s).2.2=0):Bok (bW s).1 s.length:=by
 obtain⟨h1,h2,h3⟩:=aPW h;obtain⟨a,b,c,d⟩:=aBS h2;obtain⟨n1,n2,n3,n4⟩:=jS.1 a;obtain⟨i1,i2,i3⟩:=mA.1 b;have f:=Cj.1 c;exact⟨h3,dk0 h1,i1,⟨i2.1,f.1⟩,⟨i3.1,f.2⟩,n3⟩
theorem aPX(p q:List Int)(hp:aM p)(hq:aM q):(Vq p q).1.W/\((Vq p q).2.2=0->gG (Vq p q).1=0):=by
 have k:∀ p:List Int,aM p->(kA p).1.W/\((kA p).2.2=0->gG (kA p).1=0):=fun p hp=>⟨aTM hp,fun h=>by
  rcases aPi hp with q | q
  ·exact absurd h q.1
  ·exact q.2.1⟩
 unfold Vq;split;exact k p hp;split;exact k q hq;exact k p hp
theorem Vt(s:List Int)(hB:aM s):(lU s).1.W/\((lU s).2.2=0->gG (lU s).1=0):=aPX _ _ (qQ hB _ _) (qQ hB _ _)
theorem Za{s:List Int}(h:¬ iH pA (lU s).1.ats<0):∃K:Nat,∃hK:K<(lU s).1.ats.length,iH pA (lU s).1.ats=K/\zZ s=(lU s).1.ats[K]/\pA (lU s).1.ats[K]=true/\∀j,j<K->pA ((lU s).1.ats.getD j aJ.nil)=false:=by
 unfold zZ;generalize (lU s).1.ats=l at *;unfold iH at h ⊢;obtain⟨hk,hp,hn⟩:=bT (fun k=>pA (l.getD k aJ.nil)=true) l.length
 generalize ix (fun k=>pA (l.getD k aJ.nil)=true) l.length=k at *
 rcases hp with rfl|⟨hk',hp⟩;rw[if_pos rfl] at h;exact absurd (by decide) h
 rw[if_neg (by omega)];refine⟨k,hk',rfl,?_,by rw[<- gT l k hk'];exact hp,fun j hj=>by simpa using hn j hj⟩
 rw[aYm,gT l k hk']
theorem Vu{s:List Int}(hB:aM s)(h1:(lU s).2.2=0)(h2:¬ iH pA (lU s).1.ats<0):(zZ s).W/\fK (zZ s)=0:=by
 obtain⟨K,hK,_,h3,_⟩:=Za h2;obtain⟨h4,h5⟩:=Vt s hB;rw[h3];exact⟨h4.at' _ (aXM hK),(rH (h5 h1)).errs.1 _ (aXM hK)⟩
theorem Cs(hG:G9 G)(s:List Int)(hB:aM s)(hl:s.length<=200000)(h:sD s≠0):EV G (Tb (dN G bb)) 104 [sv s] []=some (.tup [ptN,tE (sD s)],[]):=by
 unfold sD at h ⊢;by_cases h1:(bW s).2.2=0;rw[if_neg (not_not_intro h1)] at h ⊢;have b:=Oh h1;have b2:=b.cl;have b3:=b.n;have b4:=b.tb;have b5:=b.mi;have hp:=aGv (bb:=bb) hG s hB hl h1 ⟨⟨by omega,by omega⟩,⟨by omega,by omega⟩⟩;change Pre G bb s (bW s).1 (lU s).1 (lU s).2.1 (lU s).2.2 at hp;by_cases h2:(lU s).2.2=0;rw[if_neg (not_not_intro h2)] at h ⊢;rw[h2] at hp;have hW:=(Vt s hB).1.ln;by_cases h3:iH pA (lU s).1.ats<0;rw[if_pos h3];exact aK7 hp (by omega) h3;rw[if_neg h3] at h ⊢;obtain⟨hA,hA2⟩:=Vu hB h2 h3;obtain⟨K,hK,k1,k2,_⟩:=Za h3;obtain⟨c1,c2,c3⟩:=Oe (Od hA hA2);rw[k2] at h hA hA2 c1 c2 c3 ⊢;exact aK8 hp (by omega) K hK k1 (by have:=c1.len;omega) (fun q hq=>by have:=c3 q hq;omega) h
 rw[if_pos h2];exact aK6 hp h2;rw[if_pos h1];exact aK5 s hB hl h1
theorem aGw{s:List Int}(h:sD s=0):(bW s).2.2=0/\(lU s).2.2=0/\¬ iH pA (lU s).1.ats<0/\Oc (bW s).1 (zZ s)=0:=by
 unfold sD at h;by_cases h1:(bW s).2.2=0;rw[if_neg (not_not_intro h1)] at h;by_cases h2:(lU s).2.2=0;rw[if_neg (not_not_intro h2)] at h;by_cases h3:iH pA (lU s).1.ats<0;rw[if_pos h3] at h;cases h;rw[if_neg h3] at h;exact⟨h1,h2,h3,h⟩;rw[if_pos h2] at h;exact absurd h h2;rw[if_pos h1] at h;exact absurd h h1
theorem pI(hG:G9 G)(s:List Int)(hB:aM s)(hl:s.length<=200000)(h:sD s=0):EV G (Tb (dN G bb)) 104 [sv s] []=some (.tup [.one (.ptr 2 0),tE (S1 s)],opH (bW s).1 (lU s).1 (lU s).2.1 s (zZ s).rs (iD s)):=by
 obtain⟨h1,h2,h3,h4⟩:=aGw h;have b:=Oh h1;have b2:=b.cl;have b3:=b.n;have b4:=b.tb;have b5:=b.mi;have hp:=aGv (bb:=bb) hG s hB hl h1 ⟨⟨by omega,by omega⟩,⟨by omega,by omega⟩⟩;change Pre G bb s (bW s).1 (lU s).1 (lU s).2.1 (lU s).2.2 at hp;rw[h2] at hp;have hW:=(Vt s hB).1.ln;obtain⟨hA,hA2⟩:=Vu hB h2 h3;obtain⟨K,hK,k1,k2,_⟩:=Za h3;obtain⟨c1,c2,c3⟩:=Oe (Od hA hA2);unfold S1 iD;rw[k2] at h4 hA hA2 c1 c2 c3 ⊢;exact aPV hp (by omega) K hK k1 c1 ⟨by omega,by omega⟩ (by omega) (fun q hq=>by have:=c3 q hq;omega) h4
end
section
variable {G:aE}{bb:Bool}
structure Tok (x:Bt) (N:Nat) (C:List Int):Prop where
 b:Bok x N
 rg:∀c∈C,1<=c/\c<=x.cl-2
 mi:∀c∈C,¬ (x.mi<=c/\c<=x.mi+7)
 nd:C.Nodup
 ev:C.length % 2=0
 ln:16<=C.length / 2/\C.length / 2<=96
 h0:C.getD 0 0=x.tb/\C.getD 1 0=x.tb+1
theorem aK9{l:List aY}(hh:∀q∈l,q.s≠-1){c:Int}(h:c∈H3 l):∃q∈l,q.s<=c/\c<q.s+q.n:=by
 obtain⟨q,hq,hc⟩:=List.mem_flatMap.1 h;refine⟨q,hq,?_⟩;unfold H0 at hc;obtain⟨k,hk,rfl⟩:=List.mem_map.1 hc;have hk:=List.mem_range.1 hk;rw[if_neg (hh q hq)];omega
theorem Jl{b:Bool}{e:Int}(he:e≠0)(h:pD b e=0):b=true:=by
 unfold pD at h;split at h
 assumption
 exact absurd h he
theorem aPY{x:Bt}{a:aJ}(h:Oc x a=0):a.res=false/\a.fi=0/\(∀q∈a.rs,q.s≠-1)/\∀q∈a.rs,q.s+q.n<=x.cl:=by
 obtain⟨h1,h2,h3⟩:=uR h;have h1:=Jl (by decide) h1;have h2:=Jl (by decide) h2;have h3:=Jl (by decide) h3;simp only[aXQ,aYC,decide_eq_true_eq,aYW] at h1 h2 h3;exact⟨h1.1,h1.2,fun q hq e=>h2 q hq e,fun q hq=>by have:=h3 q hq;omega⟩
theorem aLa{x:Bt}{C:List Int}(h:Ck x C=false):∀k (hk:k<C.length),C[k]≠0/\C[k]≠x.cl-1/\¬ C[k]∈C.take k/\¬ (x.mi<=C[k]/\C[k]<=x.mi+7):=by
 intro k hk;have h:=of_decide_eq_false h;have e:C.getD k 0=C[k]:=by simp[hk]
 refine⟨fun q=>h ⟨k,hk,.inl ?_⟩,fun q=>h ⟨k,hk,.inl ?_⟩,fun q=>h ⟨k,hk,.inl ?_⟩,fun q=>h ⟨k,hk,.inr ?_⟩⟩
 rw[e,q];simp;rw[e,q];simp;rw[e];simp[q];rw[e];omega
theorem mO{s:List Int}(hB:aM s)(h:Ap s=0):sD s=0/\S1 s=0/\Tok (bW s).1 s.length (iD s):=by
 have h1:sD s=0:=by
  unfold Ap at h;by_cases q:sD s=0;exact q;rw[if_pos q] at h;exact absurd h q
 have h2:S1 s=0:=by
  unfold Ap at h;rw[if_neg (not_not_intro h1)] at h;exact h
 obtain⟨g1,g2,g3,g4⟩:=aGw h1;have b:=Oh g1;obtain⟨hA,hA2⟩:=Vu hB g2 g3;obtain⟨c1,c2,c3⟩:=Oe (Od hA hA2);obtain⟨d1,d2,d3,d4⟩:=aPY g4;refine⟨h1,h2, ?_⟩;unfold S1 clE at h2;obtain⟨e1,e2,e3⟩:=uR h2;have e1:=Jl (by decide) e1;have e2:=Jl (by decide) e2;have e3:=Jl (by decide) e3;simp only[aXQ,aYC,decide_eq_true_eq] at e1 e2 e3;have no:=aLa e1;have rg:∀ c∈iD s,0<=c/\c < (bW s).1.cl:=fun c hc=>by
  obtain⟨q,hq,h1,h2⟩:=aK9 d3 hc;have:=d4 q hq;have:=c3 q hq;have:=d3 q hq;omega
 refine⟨b,fun c hc=>?_,fun c hc=>?_,?_,e2.1,e2.2,e3.2⟩
 have r:=rg c hc;obtain⟨k,hk,rfl⟩:=List.mem_iff_getElem.1 hc;have:=no k hk;omega;obtain⟨k,hk,rfl⟩:=List.mem_iff_getElem.1 hc;exact (no k hk).2.2.2;rw[List.nodup_iff_pairwise_ne,aZe];intro i j hi hj hij e;refine (no j hj).2.2.1 ?_;rw[<- e];exact List.mem_take_iff_getElem.2 ⟨i,by omega,rfl⟩
noncomputable def Vv(s:List Int)(x:Bt)(C:List Int)(n:Nat):cI×Int×Int:=
 Vq (Dx s (C.getD (2*n) 0).toNat (C.getD (2*n+1) 0).toNat) (if n<4 then Dx s (x.mi.toNat+2*n) (x.mi.toNat+2*n+1) else Dx s (C.getD (2*n) 0).toNat (C.getD (2*n+1) 0).toNat)
theorem Tok.at{x:Bt}{N:Nat}{C:List Int}(h:Tok x N C){k:Nat}(hk:k<C.length):∃c:Nat,C.getD k 0=c/\c*256+256<=N/\1<=c/\c*256+512<=N:=by
 have e:C.getD k 0=C[k]:=by simp[hk]
 have:=h.rg _ (aXM hk);have:=h.b.cl;have:=h.b.n;exact⟨C[k].toNat,by omega,by omega,by omega,by omega⟩
set_option maxHeartbeats 4000000 in
theorem Zb(hG:G9 G)(x:Bt)(d6 d7:DC)(s:List Int)(hB:aM s)(hl:s.length<=200000)(C:List Int)(hT:Tok x s.length C)(n:Nat)(hn:n<C.length / 2):
  EV G (Tb (dN G bb)) 84 [.one (.ptr 0 0),vi n] [rM x d6 d7 s.length (.slc (el C)),yb s]=some (dcv (Vv s x C n),[rM x d6 d7 s.length (.slc (el C)),yb s]):=by
 have hln:=hT.ln;have pl:=tX (G:=G) (B:=dN G bb) x d6 d7 s.length C s n (by omega) (by omega);obtain⟨a,ha,a1,a2,_⟩:=hT.at (k:=2*n) (by omega);obtain⟨c,hc,c1,c2,_⟩:=hT.at (k:=2*n+1) (by omega);obtain⟨b,_,_,_,_,_⟩:=hT;have b2:=b.cl;have b3:=b.n;have b5:=b.mi;unfold Vv;rw[ha,hc] at pl ⊢;rw[aYm,aYm];by_cases h4:n<4
 ·rw[if_pos h4];have mi:=Em (G:=G) (B:=dN G bb) x d6 d7 (.slc (el C)) s.length s n (by omega) (by omega);have ei:=Jj (G:=G) (bb:=bb) hG x d6 d7 (.slc (el C)) s hB s.length a c (x.mi.toNat+2*n) (x.mi.toNat+2*n+1) rfl (by omega) (by omega) (by omega) (by omega) hl;rw[Y9 (a:=x.mi.toNat+2*n) (x:=x.mi+2*n) (y:=x.mi+2*n+1) (by omega) (by omega)] at ei;have h4':(n:Int)<4:=by omega
  generalize Vq _ _=E at *;obtain⟨r,u,e⟩:=E;refine aA rfl ?_;simp (maxSteps:=2000000) (disch:=omega) only[go_sem,h84c,pl,mi,ei,h4',aXC];try rfl
 ·rw[if_neg h4];have ei:=Jj (G:=G) (bb:=bb) hG x d6 d7 (.slc (el C)) s hB s.length a c a c rfl (by omega) (by omega) (by omega) (by omega) hl;have h4':¬ (n:Int)<4:=by omega
  generalize Vq _ _=E at *;obtain⟨r,u,e⟩:=E;refine aA rfl ?_;simp (maxSteps:=2000000) (disch:=omega) only[go_sem,h84c,pl,ei,h4',aXC];try rfl
end
section
variable {G:aE}{bb:Bool}
noncomputable def Ot(s:List Int):Nat:=(iD s).length / 2
theorem Oi{s:List Int}(h:Ap s≠0):(sD s≠0/\sD s=Ap s)\/(sD s=0/\S1 s=Ap s):=by
 unfold Ap at h ⊢;by_cases q:sD s=0;rw[if_neg (not_not_intro q)];exact .inr ⟨q,rfl⟩;rw[if_pos q];exact .inl ⟨q,rfl⟩
theorem Jm(hG:G9 G)(s:List Int)(hB:aM s)(hl:s.length<=200000)(n:Int)(h:Ap s≠0):EV G (Tb (dN G bb)) 83 [sv s,vi n] []=some (.tup [ptN,tE (Ap s)],[]):=by
 rcases Oi h with⟨q,e⟩|⟨q,e⟩;have o:=Cs (bb:=bb) hG s hB hl q;rw[e] at o;refine aA rfl ?_;simp (maxSteps:=2000000) (disch:=omega) only[go_sem,h83c,o,h];have o:=pI (bb:=bb) hG s hB hl q;rw[e] at o;generalize iD s=C at *;refine aA rfl ?_;simp (maxSteps:=2000000) (disch:=omega) only[go_sem,h83c,o,h,aXL,aXT,dC,oH]
theorem uV(hG:G9 G)(s:List Int)(hB:aM s)(hl:s.length<=200000)(n:Int)(h:Ap s=0):EV G (Tb (dN G bb)) 83 [sv s,vi n] []=some (.tup [.one (.ptr 2 0),tE (pD (decide (0<=n/\n<=(Ot s:Int)-1)) 6)],opH (bW s).1 (lU s).1 (lU s).2.1 s (zZ s).rs (iD s)):=by
 obtain⟨q1,q2,hT⟩:=mO hB h;have o:=pI (bb:=bb) hG s hB hl q1;rw[q2] at o;have hln:=hT.ln;have w:=iU (G:=G) (B:=dN G bb) n 0 ((Ot s:Int)-1);have u:=gI (G:=G) (B:=dN G bb);unfold Ot at w ⊢;change _=some (_,opH (bW s).1 (lU s).1 (lU s).2.1 s (zZ s).rs (iD s));generalize iD s=C at *;generalize (bW s).1=x at *;generalize (lU s).1=r at *;generalize (lU s).2.1=us at *;generalize (zZ s).rs=rs at *;refine aA rfl ?_;simp (maxSteps:=2000000) (disch:=omega) only[go_sem,h83c,o,w,u,aXL,aXT,dC,oH]
noncomputable def Zc(s:List Int)(n:Int):Int:=if Ap s≠0 then Ap s else pD (decide (0<=n/\n<=(Ot s:Int)-1)) 6
theorem aMq{s:List Int}{n:Int}(h:Zc s n=0):Ap s=0/\0<=n/\n.toNat<Ot s:=by
 unfold Zc at h;by_cases q:Ap s=0;rw[if_neg (not_not_intro q)] at h;have:=of_decide_eq_true (Jl (by decide) h);exact⟨q,this.1,by omega⟩;rw[if_pos q] at h;exact absurd h q
theorem aMr{s:List Int}{n:Int}(h:Zc s n≠0):Ap s≠0/\Zc s n=Ap s\/Ap s=0/\Zc s n=6/\pD (decide (0<=n/\n<=(Ot s:Int)-1)) 6=6:=by
 unfold Zc at h ⊢;by_cases q:Ap s=0;rw[if_neg (not_not_intro q)] at h ⊢;unfold pD at h ⊢;split;rename_i r;rw[if_pos r] at h;exact absurd rfl h;exact .inr ⟨q,rfl,rfl⟩;rw[if_pos q];exact .inl ⟨q,rfl⟩
theorem aBX(hG:G9 G)(s:List Int)(hB:aM s)(hl:s.length<=200000)(n:Int):EV G (Tb (dN G bb)) 23 [sv s,vi n] []=some (.tup [tI (if Zc s n=0 then (iD s).getD (2*n.toNat) 0 else 0),tE (Zc s n)],[]):=by
 by_cases h:Zc s n=0;rw[if_pos h,h];obtain⟨h1,h2,h3⟩:=aMq h;have o:=uV (bb:=bb) hG s hB hl n h1;obtain⟨_,_,hT⟩:=mO hB h1;have hln:=hT.ln;have e:pD (decide (0<=n/\n<=(Ot s:Int)-1)) 6=0:=by rw[decide_eq_true (by omega)];rfl
 rw[e] at o;have en:n=(n.toNat:Int):=by omega
 unfold Ot at h3;have pl:=tX (G:=G) (B:=dN G bb) (bW s).1 (.slc ((zZ s).rs.map aY.e)) (ci ((iD s).length / 2:Nat)) s.length (iD s) s n.toNat (by omega) (by omega);rw[<- en] at pl;generalize (iD s).getD (2*n.toNat) 0=y0 at *;generalize (iD s).getD (2*n.toNat+1) 0=y1 at *;generalize iD s=C at *;generalize (bW s).1=x at *;generalize (lU s).1=r at *;generalize (lU s).2.1=us at *;generalize (zZ s).rs=rs at *;refine aA rfl ?_;simp (maxSteps:=2000000) (disch:=omega) only[go_sem,h23c,o,pl,aXL,aXT,dC,oH,pP,mS];rw[if_neg h];rcases aMr h with⟨h1,h2⟩|⟨h1,h2,h3⟩
 have o:=Jm (bb:=bb) hG s hB hl n h1;rw[h2];refine aA rfl ?_;simp (maxSteps:=2000000) (disch:=omega) only[go_sem,h23c,o,h1];have o:=uV (bb:=bb) hG s hB hl n h1;rw[h3] at o;rw[h2];generalize iD s=C at *;generalize (bW s).1=x at *;generalize (lU s).1=r at *;generalize (lU s).2.1=us at *;generalize (zZ s).rs=rs at *;refine aA rfl ?_;simp (maxSteps:=2000000) (disch:=omega) only[go_sem,h23c,o,aXL,aXT,dC,oH]
noncomputable def rrV(s:List Int)(n:Int):cI×Int×Int:=if Zc s n=0 then Vv s (bW s).1 (iD s) n.toNat else (.nil,0,Zc s n)
set_option maxHeartbeats 4000000 in
theorem aBY(hG:G9 G)(s:List Int)(hB:aM s)(hl:s.length<=200000)(n:Int):EV G (Tb (dN G bb)) 22 [sv s,vi n] []=some (dcv (rrV s n),[]):=by
 unfold rrV;by_cases h:Zc s n=0
 ·rw[if_pos h];obtain⟨h1,h2,h3⟩:=aMq h;have o:=uV (bb:=bb) hG s hB hl n h1;obtain⟨_,_,hT⟩:=mO hB h1;have e:pD (decide (0<=n/\n<=(Ot s:Int)-1)) 6=0:=by rw[decide_eq_true (by omega)];rfl
  rw[e] at o;have en:n=(n.toNat:Int):=by omega
  unfold Ot at h3;have rd:=Zb (bb:=bb) hG (bW s).1 (.slc ((zZ s).rs.map aY.e)) (ci ((iD s).length / 2:Nat)) s hB hl (iD s) hT n.toNat h3;rw[<- en] at rd;generalize Vv s (bW s).1 (iD s) n.toNat=E at *;generalize iD s=C at *;generalize (bW s).1=x at *;generalize (lU s).1=r at *;generalize (lU s).2.1=us at *;generalize (zZ s).rs=rs at *;obtain⟨r',u',e'⟩:=E;refine aA rfl ?_;simp (maxSteps:=2000000) (disch:=omega) only[go_sem,h22c,o,rd,aXL,aXT,dC,oH];try rfl
 rw[if_neg h];rcases aMr h with⟨h1,h2⟩|⟨h1,h2,h3⟩
 ·have o:=Jm (bb:=bb) hG s hB hl n h1;rw[h2];refine aA rfl ?_;simp (maxSteps:=2000000) (disch:=omega) only[go_sem,h22c,o,h1];try rfl
 ·have o:=uV (bb:=bb) hG s hB hl n h1;rw[h3] at o;rw[h2];generalize iD s=C at *;generalize (bW s).1=x at *;generalize (lU s).1=r at *;generalize (lU s).2.1=us at *;generalize (zZ s).rs=rs at *;refine aA rfl ?_;simp (maxSteps:=2000000) (disch:=omega) only[go_sem,h22c,o,aXL,aXT,dC,oH];try rfl
end
section
variable {G:aE}{bb:Bool}
theorem Lz{B:aO}(r:cI):EV G (Tb B) 90 [r.v] []=some (vb (dU r.fl),[]):=by
 refine aA rfl ?_;unfold dU;by_cases c:r.fl % 2=1;have d:¬ r.fl % 2=0:=by omega
 simp (disch:=omega) only[go_sem,h90c,aKv,d,decide_eq_true c];have d:r.fl % 2=0:=by omega
 simp (disch:=omega) only[go_sem,h90c,aKv,eq_true d,decide_eq_false c]
noncomputable def aLb(s:List Int)(a b:Int):cI×Int:=if (rrV s a).2.2≠0 then (.nil,(rrV s a).2.2) else if dU (rrV s a).1.fl=true/\(rrV s a).1.sq=b then ((rrV s a).1,0) else (.nil,32)
set_option maxHeartbeats 2000000 in
theorem aBZ(hG:G9 G)(s:List Int)(hB:aM s)(hl:s.length<=200000)(a b:Int):EV G (Tb (dN G bb)) 31 [sv s,rfv a b] []=some (rcv (aLb s a b),[]):=by
 have q:=aBY (bb:=bb) hG s hB hl a;have u:=gI (G:=G) (B:=dN G bb);have f:=mM (G:=G) (B:=dN G bb);unfold aLb;generalize rrV s a=E at *;obtain⟨r,us,e⟩:=E;have iu:=Lz (G:=G) (B:=dN G bb) r;simp only at q ⊢;by_cases h:e=0;rw[if_neg (not_not_intro h)];subst h;cases hu:dU r.fl
 ·rw[hu] at iu;rw[if_neg (fun h=>by cases h.1)]
  refine aA rfl ?_;simp (maxSteps:=2000000) (disch:=omega) only[go_sem,h31c,q,u,f,iu,bL,dV,eK];try rfl
 rw[hu] at iu;by_cases hs:r.sq=b
 ·rw[if_pos ⟨rfl,hs⟩];refine aA rfl ?_;simp (maxSteps:=2000000) (disch:=omega) only[go_sem,h31c,q,u,f,iu,bL,dV,eK,eq_true hs];try rfl
 ·rw[if_neg (fun h=>hs h.2)]
  refine aA rfl ?_;simp (maxSteps:=2000000) (disch:=omega) only[go_sem,h31c,q,u,f,iu,bL,dV,eK,hs];try rfl
 rw[if_pos h];refine aA rfl ?_;cases hu:dU r.fl
 ·rw[hu] at iu;simp (maxSteps:=2000000) (disch:=omega) only[go_sem,h31c,q,u,f,iu,bL,dV,eK,h];try rfl
 ·rw[hu] at iu;simp (maxSteps:=2000000) (disch:=omega) only[go_sem,h31c,q,u,f,iu,bL,h];try rfl
abbrev bo1(b:Bool):List DC:=[.raw (.bool b)]
noncomputable def usB(s:List Int)(x:Bt)(C:List Int)(k:Nat):Bool:=dU (Vv s x C k).1.fl
noncomputable def Vw(s:List Int)(x:Bt)(C:List Int)(k:Nat):List Bool:=(List.range k).map (usB s x C)
theorem aT8(s:List Int)(x:Bt)(C:List Int)(k:Nat):Vw s x C (k+1)=Vw s x C k++[usB s x C k]:=by simp[Vw,List.range_succ]
theorem Gg(s:List Int)(x:Bt)(C:List Int)(k:Nat):(Vw s x C k).length=k:=by simp[Vw]
noncomputable def usI(s:List Int)(x:Bt)(C:List Int):Nat:=ix (fun k=>¬ (Vv s x C k).2.2=0) (C.length / 2)
noncomputable def Zd(s:List Int):List Bool×Int:=if Ap s≠0 then ([],Ap s) else if usI s (bW s).1 (iD s)=Ot s then (Vw s (bW s).1 (iD s) (Ot s),0) else ([],(Vv s (bW s).1 (iD s) (usI s (bW s).1 (iD s))).2.2)
abbrev boV(p:List Bool×Int):AV:=.tup [.one (.dc (.slc (p.1.map bo1))),tE p.2]
theorem aP1(l:List Bool):gE 1 (l.map bo1)=true:=kJ (f:=bo1) (fun _=>rfl) l
theorem aT9(l:List Bool)(b:Bool):l.map bo1++[[.raw (.bool b)]]=(l++[b]).map bo1:=by simp
set_option maxHeartbeats 8000000 in
theorem aP2(hG:G9 G)(s:List Int)(hB:aM s)(hl:s.length<=200000):EV G (Tb (dN G bb)) 91 [sv s] []=some (boV (Zd s),[]):=by
 unfold Zd;by_cases h:Ap s=0
 ·rw[if_neg (not_not_intro h)];obtain⟨q1,q2,hT⟩:=mO hB h;have o:=pI (bb:=bb) hG s hB hl q1;rw[q2] at o;have hln:=hT.ln;unfold Ot;have rd:=fun n hn=>Zb (bb:=bb) hG (bW s).1 (.slc ((zZ s).rs.map aY.e)) (ci ((iD s).length / 2:Nat)) s hB hl (iD s) hT n hn
  have us:=fun n=>Lz (G:=G) (B:=dN G bb) (Vv s (bW s).1 (iD s) n).1
  have hb:∀n,usB s (bW s).1 (iD s) n=dU (Vv s (bW s).1 (iD s) n).1.fl:=fun n=>rfl
  have L:=aT8 s (bW s).1 (iD s);have Ln:=Gg s (bW s).1 (iD s);have L0:Vw s (bW s).1 (iD s) 0=[]:=rfl;unfold usI;generalize Vw s (bW s).1 (iD s)=U at *;generalize usB s (bW s).1 (iD s)=Ub at *;generalize Vv s (bW s).1 (iD s)=R at *;generalize iD s=C at *;generalize (bW s).1=x at *;generalize (lU s).1=r at *;generalize (lU s).2.1=w at *;generalize (zZ s).rs=rs at *;refine aA rfl ?_;simp (maxSteps:=2000000) (disch:=omega) only[go_sem,h91c,o,aXL,aXT,dC,oH,iQ];rw[gF (fun k=>⟨(jk 4 (.one (.ptr 2 0)::jk 1 (.one (.bld 5 (U k).length)::jk 15 (vi (C.length / 2:Nat)::vi k::jk 19 [])))),opH x r w s rs C++[.arr 0 1 ((U k).map bo1)]⟩) (fun k=>¬ (R k).2.2=0) (C.length / 2) ?_ ?_]
  rotate_left
  rw[L0];rfl;intro k hk hn;have h3:=hn k (aXF _);have r1:=rd k hk;have u1:=us k;rw[show U (k+1)=U k++[dU (R k).1.fl] from by rw[L k,hb k]]
  have Lk:=Ln k;generalize U k=V at *;generalize R k=E at *;obtain⟨r',u',e'⟩:=E;have h3:e'=0:=Classical.not_not.1 h3;subst h3;have hk':(k:Int)<(C.length / 2:Nat):=by omega
  simp (maxSteps:=2000000) (disch:=omega) only[go_sem,h91l0,hk',r1,u1,aYd,aX4,iQ,lM,aP1,aT9,aXD,aXC];obtain⟨hk,hp,hn⟩:=bT (fun k=>¬ (R k).2.2=0) (C.length / 2)
  generalize ix (fun k=>¬ (R k).2.2=0) (C.length / 2)=k at *
  by_cases hk2:k=C.length / 2;rw[if_pos hk2];have Lk:=Ln k;rw[<- hk2];generalize U k=V at *;rw[hk2] at Lk;rw[hk2];simp (maxSteps:=2000000) (disch:=omega) only[go_sem,h91l0,aYd,aX4,iQ,lM,aXC,aXL,aXT,dC,oH];rw[if_neg hk2];rcases hp with hp|⟨hk',hp⟩
  exact absurd hp hk2;have r1:=rd k hk';generalize R k=E at *;obtain⟨r',u',e'⟩:=E;have hp:¬ e'=0:=hp;have hk':(k:Int)<(C.length / 2:Nat):=by omega
  simp (maxSteps:=2000000) (disch:=omega) only[go_sem,h91l0,hk',r1,hp,aYd,aX4,iQ,lM,aXC];rfl
 rw[if_pos h];rcases Oi h with⟨q,e⟩|⟨q,e⟩
 ·have o:=Cs (bb:=bb) hG s hB hl q;rw[e] at o;refine aA rfl ?_;simp (maxSteps:=2000000) (disch:=omega) only[go_sem,h91c,o,h];try rfl
 ·have o:=pI (bb:=bb) hG s hB hl q;rw[e] at o;generalize iD s=C at *;refine aA rfl ?_;simp (maxSteps:=2000000) (disch:=omega) only[go_sem,h91c,o,h,aXL,aXT,dC,oH];try rfl
abbrev inV(p:List Int×Int):AV:=.tup [.one (.dc (.slc (el p.1))),tE p.2]
theorem aLc(s:List Int)(hB:aM s):(Zd s).1.length<=96:=by
 unfold Zd;by_cases h:Ap s=0;rw[if_neg (not_not_intro h)];obtain⟨q1,q2,hT⟩:=mO hB h;split;show (Vw _ _ _ _).length<=_;rw[Gg];exact hT.ln.2;exact aXX _;rw[if_pos h];exact aXX _
noncomputable def ixB(l:List Bool):Int:=if ix (fun k=>l.getD k true=false) l.length=l.length then -1 else (ix (fun k=>l.getD k true=false) l.length:Nat)
theorem aGy{B:aO}(l:List Bool)(hl:l.length<=1000000):EV G (Tb B) 92 [vl (l.map bo1),vb false] []=some (vi (ixB l),[]):=by
 refine aA rfl ?_;simp (disch:=omega) only[go_sem,h92c,aXC];unfold ixB;have hx:∀k (hk:k<l.length),(l.map bo1)[k]?=some (bo1 l[k]):=fun k hk=>by rw[aXI,aXJ hk];rfl
 have e1:∀k (hk:k<l.length),l.getD k true=l[k]:=fun k hk=>by simp[hk]
 rw[gF (fun k=>⟨(vl (l.map bo1)::vb false::jk 5 (vi l.length::vi k::jk 10 [])),[]⟩) (fun k=>l.getD k true=false) l.length ?_ ?_]
 rotate_left
 rfl;intro k hk hn;have h3:=hn k (aXF _);rw[e1 k hk] at h3;have h4:l[k]=true:=by simpa using h3
 have q:=hx k hk;rw[h4] at q;simp (disch:=omega) only[go_sem,h92l0,aXC,q];obtain⟨hk,hp,hn⟩:=bT (fun k=>l.getD k true=false) l.length
 generalize ix (fun k=>l.getD k true=false) l.length=k at *
 rcases hp with rfl|⟨hk',hp⟩;rw[if_pos rfl];simp (disch:=omega) only[go_sem,h92l0,aXC];rw[if_neg (by omega)];rw[e1 k hk'] at hp;have q:=hx k hk';rw[hp] at q;simp (disch:=omega) only[go_sem,h92l0,aXC,q]
noncomputable def frV(s:List Int):Int×Int:=if (Zd s).2≠0 then (0,(Zd s).2) else if ixB ((Zd s).1.drop 16)<0 then (0,16) else (16+ixB ((Zd s).1.drop 16),0)
theorem aP3{s:List Int}(hB:aM s)(h:(Zd s).2=0):16<=(Zd s).1.length:=by
 unfold Zd at h ⊢;by_cases h0:Ap s=0;rw[if_neg (not_not_intro h0)] at h ⊢;obtain⟨q1,q2,hT⟩:=mO hB h0;split;show _<=(Vw _ _ _ _).length;rw[Gg];exact hT.ln.1;rename_i h1;rw[if_neg h1] at h;unfold usI Ot at h1;unfold usI at h;obtain⟨hk,hp,hn⟩:=bT (fun k=>¬ (Vv s (bW s).1 (iD s) k).2.2=0) ((iD s).length / 2)
 generalize ix (fun k=>¬ (Vv s (bW s).1 (iD s) k).2.2=0) ((iD s).length / 2)=K at *
 dsimp only at h hp;generalize (Vv s (bW s).1 (iD s) K).2.2=e at *;rcases hp with hp|⟨_,hp⟩
 exact absurd hp h1;exact absurd h hp;rw[if_pos h0] at h;exact absurd h h0
theorem aP4(l:List Bool):-1<=ixB l/\ixB l<=l.length:=by
 unfold ixB;obtain⟨hk,_⟩:=bT (fun k=>l.getD k true=false) l.length
 split<;>omega
theorem En(hG:G9 G)(s:List Int)(hB:aM s)(hl:s.length<=200000):EV G (Tb (dN G bb)) 33 [sv s] []=some (.tup [tI (frV s).1,tE (frV s).2],[]):=by
 have o:=aP2 (bb:=bb) hG s hB hl;have ln:=aLc s hB;have l16:=aP3 (s:=s) hB;unfold frV;generalize Zd s=V at *;obtain⟨l,e⟩:=V;dsimp only at ln o l16 ⊢;by_cases h:e=0;rw[if_neg (not_not_intro h)];have l16:=l16 h;subst h;have q:=aGy (G:=G) (B:=dN G bb) (l.drop 16) (by rw[aXS];omega);have rg:=aP4 (l.drop 16);rw[aXS] at rg;rw[aYS] at q;generalize ixB (l.drop 16)=I at *;have hall:((l.map bo1).all fun e=>decide (e.length=1))=true:=by simp
 have t16:(16:Int).toNat=16:=rfl;refine aA rfl ?_;by_cases hI:I<0;rw[if_pos hI];simp (maxSteps:=2000000) (disch:=omega) only[go_sem,h33c,o,q,hI,aXC,hall,if_true,t16];rw[if_neg hI];simp (maxSteps:=2000000) (disch:=omega) only[go_sem,h33c,o,q,hI,aXC,hall,if_true,t16];rw[if_pos h];refine aA rfl ?_;simp (maxSteps:=2000000) (disch:=omega) only[go_sem,h33c,o,h]
end
end Go.Proofs.YthepfneloomngaaGreatDoor
