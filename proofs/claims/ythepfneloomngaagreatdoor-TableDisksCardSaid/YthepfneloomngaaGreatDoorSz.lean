/- The sign of a block, by the program. Conditions: as each theorem says. -/
import Derived.Test.YthepfneloomngaaGreatDoorWb
import Derived.Test.YthepfneloomngaaGreatDoorUn
namespace Go.Proofs.YthepfneloomngaaGreatDoor
set_option linter.unusedSimpArgs false
set_option linter.unusedVariables false
set_option maxRecDepth 4000
section
variable {G:aF} {bb:Bool}
structure cR where
 sq:Int
 li:Int
 fl:Int
 br:Int
 bq:Int
 nx:Int
 ls:Int
 ats:List aK
abbrev cR.c(r:cR):List aR:=[.dc (ci r.sq),.dc (ci r.li),.dc (ci r.fl),.dc (ci r.br),.dc (ci r.bq),.dc (ci r.nx),.dc (ci r.ls),.dc (.slc (r.ats.map aK.e))]
abbrev cR.v(r:cR):AV:=.agg r.c
abbrev cR.t(r:cR):TV:=.agg r.c
def cR.nil:cR:=⟨0,0,0,0,0,0,0,[]⟩
structure cR.W (r:cR):Prop where
 at':∀ a∈r.ats,a.W
 ln:r.ats.length<=900
theorem cR.nil_W:cR.nil.W:=⟨fun a h=>(by cases h),by decide⟩
abbrev rcv(p:cR × Int):AV:=.tup [p.1.t,.one (.dc (ci p.2))]
def aI7(a b:Int):Int:=if (0<=a/\a<=95)/\(1<=b/\b<=65535) then 0 else 2
def Hh(a b:Int):Int:=if a=0/\b=0 then 0 else aI7 a b
def fJ(f:Int):Bool:=decide (f % 2=1)
def eP(l:List aK):Int:=(l.map fun a=>((fG a).length:Int)).sum
def L1(r:cR):Bool:=decide (1<=r.sq/\r.sq<=65535)&&(decide (0<=r.li/\r.li<=65535)&&(decide (0<=r.fl/\r.fl<=3)&&(decide (0<=r.nx/\r.nx<=65535)&&decide (0<=r.ls/\r.ls<=2147483647))))
def aAC(r:cR):Bool:=decide (r.fl=0)&&(decide (r.ats=[])&&(decide (r.li=0)&&(decide (r.br=0/\r.bq=0)&&decide (r.nx=0))))
def hdE(r:cR):Int:=aQ [un (L1 r) 2,Hh r.br r.bq,un (fJ r.fl||aAC r) 3]
noncomputable def gtI(r:cR):Int:=lI (fun a=>decide (r.nx<=a.id)) r.ats
noncomputable def Tp(r:cR):Int × Int:=if hdE r≠0 then (0,hdE r) else if (sF r.ats).2≠0 then sF r.ats else if 0<=gtI r then (gtI r,9) else (0,un (decide (eP r.ats<=440)) 16)
noncomputable def gW(r:cR):Int:=(Tp r).2
def bP(a:aK)(i:Int):aK:=⟨a.ty,a.nm,i,a.fl,a.res,a.va,a.fi,a.rs,a.al,a.sz,a.vd⟩
def Ca(r:cR)(a:aK):Bool:=!decide (a.ty=48)&&r.ats.any fun b=>mN a b
noncomputable def P0(r:cR):Int:=aQ [gW r,un (fJ r.fl) 20,un (decide (r.nx < 65535)) 16]
def P1(r:cR)(a:aK):Int:=aQ [gU (bP a r.nx),un (!Ca r a) 5,un (decide (r.ats.length < 32)) 8]
def nO(r:cR)(a:aK):cR:=⟨r.sq,r.li,r.fl,r.br,r.bq,r.nx+1,r.ls,dL (r.ats++[bP a r.nx])⟩
noncomputable def Tq(r:cR)(a:aK):cR × Int:=if P0 r≠0 then (.nil,P0 r) else if P1 r a≠0 then (.nil,P1 r a) else if eP (nO r a).ats<=440 then (nO r a,0) else (.nil,16)
def Tr(r:cR)(l:List aK):cR:=⟨r.sq,r.li,r.fl,r.br,r.bq,r.nx,r.ls,l⟩
def aI8(q f a b:Int):Int:=aQ [un (decide (1<=q/\q<=65535)&&(decide (f=1)||decide (f=3))) 2,Hh a b]
def aR2(q f a b:Int):cR × Int:=if aI8 q f a b≠0 then (.nil,aI8 q f a b) else (⟨q,0,f,a,b,0,0,[]⟩,0)
def rhd(r:cR)(u:Int):List Int:=[70,73,76,69]++(zl 4++(cC r.ls 4++(zl 4++(cC r.sq 2++(cC r.li 2++(cC 64 2++(cC r.fl 2++(cC u 4++(cC 512 4++(cC r.br 4++(cC r.bq 2++cC r.nx 2)))))))))))
def tX:List Int:=[255,255,255,255]
def jI(r:cR)(u:Int)(at':List Int):List Int:=rhd r u++(zl 24++(at'++(tX++zl (444 - at'.length))))
def iR(r:cR):List Int:=(r.ats.map fG).flatten
noncomputable def aI9(r:cR)(u:Int):Int:=aQ [gW r,un (decide (1<=u/\u<=65535)) 2]
def mP(r:cR)(u:Int):List Int:=oT (jI r (68+(iR r).length) (iR r)) u 8
noncomputable def C8(r:cR)(u:Int):List Int × Int:=if aI9 r u≠0 then ([],aI9 r u) else (mP r u,0)
def tY(s:List Int):Nat:=(gL s 4 4).toNat
def Hi(s:List Int):Prop:=tY s % 8≠0\/tY s < 24\/s.length < tY s+4
instance (s:List Int):Decidable (Hi s):=by unfold Hi;infer_instance
def uW:Nat->List Int->Option (List (List Int))
 | 0,_=>none
 | k+1,s=>if s.take 4=tX then some [] else if s.length < 24 then none else if Hi s then none else (uW k (s.drop (tY s))).map (s.take (tY s)::·)
def Av(s:List Int):Option (List (List Int)):=uW (s.length+1) s
def iT(o:List Int)(l:List aK):cR:=⟨gL o 16 2,gL o 18 2,gL o 22 2,gL o 32 4,gL o 36 2,gL o 38 2,gL o 8 4,l⟩
noncomputable def iF:List (List Int)->List aK × Int
 | []=>([],0)
 | p::t=>if (cK p).2≠0 then ([],(cK p).2) else if (iF t).2≠0 then ([],(iF t).2) else ((cK p).1::(iF t).1,0)
noncomputable def aEJ(s:List Int)(ps:List (List Int)):cR × Int × Int:=if jI (iT (iO s) []) (68+ps.flatten.length) ps.flatten≠iO s then (.nil,0,3) else if (iF ps).2≠0 then (.nil,0,(iF ps).2) else
 if gW (iT (iO s) (iF ps).1)≠0 then (.nil,0,gW (iT (iO s) (iF ps).1)) else (iT (iO s) (iF ps).1,pP s,0)
open Classical in
noncomputable def jQ(s:List Int):cR × Int × Int:=if s.length≠512 then (.nil,0,10) else if ¬ lY s then (.nil,0,31) else match Av ((iO s).drop 64) with
 | none=>(.nil,0,3)
 | some ps=>aEJ s ps
end
section
variable {G:aF} {bb:Bool}
theorem Hj{l:List aK}(h:(sF l).2=0):l.length<=32/\∀ k,k < l.length->mO l k=0:=by
 unfold sF at h;split at h
 ·exact absurd h (by decide)
 ·rename_i c;refine⟨by omega, ?_⟩;obtain⟨hk,hp,hn⟩:=bZ (fun k=>mO l k≠0) l.length
  generalize ix (fun k=>mO l k≠0) l.length=m at *
  split at h
  ·rename_i hm;rcases hp with hp | ⟨_,hp⟩
   ·omega
   ·exact absurd h hp
  ·rename_i hm;exact fun k hk'=>Classical.not_not.1 (hn k (by omega))
theorem aEK{l:List aK}(h:(sF l).2=0):∀ k,k < l.length->lU l k=0:=by
 intro k hk;have h1:=(Hj h).2 k hk;by_cases h0:k=0
 ·subst h0;unfold mO at h1;rwa[if_pos rfl] at h1
 ·exact (Ls h0 hk h1).1
structure cR.Ok (r:cR):Prop where
 nb:L1 r=true
 be:Hh r.br r.bq=0
 us:(fJ r.fl||aAC r)=true
 od:(sF r.ats).2=0
 gt:gtI r < 0
 nd:eP r.ats<=440
theorem tF{a b c:Int}(h:aQ [a,b,c]=0):a=0/\b=0/\c=0:=by
 by_cases h1:a=0
 ·subst h1;rw[aX] at h;by_cases h2:b=0
  ·subst h2;rw[aX] at h;by_cases h3:c=0
   ·exact⟨rfl,rfl,h3⟩
   ·rw[aZ _ _ h3] at h;exact absurd h h3
  ·rw[aZ _ _ h2] at h;exact absurd h h2
 ·rw[aZ _ _ h1] at h;exact absurd h h1
theorem aJa{a b:Int}(h:aQ [a,b]=0):a=0/\b=0:=by
 by_cases h1:a=0
 ·subst h1;rw[aX] at h;by_cases h2:b=0
  ·exact⟨rfl,h2⟩
  ·rw[aZ _ _ h2] at h;exact absurd h h2
 ·rw[aZ _ _ h1] at h;exact absurd h h1
theorem aEL{b:Bool}{e:Int}(he:e≠0)(h:un b e=0):b=true:=by
 cases b with
 | true=>rfl
 | false=>exact absurd h he
theorem Aw{r:cR}(h:gW r=0):r.Ok:=by
 unfold gW Tp at h;split at h
 ·rename_i c;exact absurd h c
 ·rename_i c;obtain⟨h1,h2,h3⟩:=tF (Classical.not_not.1 c);split at h
  ·rename_i d;exact absurd h d
  ·rename_i d;split at h
   ·exact absurd h (show ¬ (9:Int)=0 by decide)
   ·rename_i g;exact⟨aEL (by decide) h1,h2,aEL (by decide) h3,Classical.not_not.1 d,by omega,of_decide_eq_true (aEL (by decide) h)⟩
theorem cR.Ok.num{r:cR}(h:r.Ok):(1<=r.sq/\r.sq<=65535)/\(0<=r.li/\r.li<=65535)/\(0<=r.fl/\r.fl<=3)/\(0<=r.nx/\r.nx<=65535)/\(0<=r.ls/\r.ls<=2147483647):=by
 have:=h.nb;simpa only[L1,aWs,decide_eq_true_eq] using this
theorem cR.Ok.base{r:cR}(h:r.Ok):(0<=r.br/\r.br<=95)/\(0<=r.bq/\r.bq<=65535):=by
 have:=h.be;unfold Hh aI7 at this;split at this
 ·omega
 ·split at this
  ·omega
  ·exact absurd this (by decide)
theorem cR.Ok.errs{r:cR}(h:r.Ok):(∀ a∈r.ats,gU a=0)/\(r.ats.map aK.id).Nodup:=(At r.ats).1 (aEK h.od)
theorem cR.Ok.ln{r:cR}(h:r.Ok):r.ats.length<=32:=(Hj h.od).1
theorem L2{a:aK}(hW:a.W)(h:gU a=0):aL (fG a)/\(fG a).length=iC a/\24<=iC a/\iC a<=440/\iC a % 8=0/\(fG a).take 4=cC a.ty 4/\gL (fG a) 4 4=iC a:=by
 obtain⟨e1,e2,e3,e4⟩:=Lz hW h;have hd:=(mM hW h).dc;have h24:24<=iC a:=by
  have o:=C5 a;have:24<=Bc a:=by unfold Bc;split<;>omega
  omega
 have e5:∃ t,jA a=cC a.ty 4++(cC (iC a) 4++t):=by
  unfold jA;exact⟨_,aWv ..⟩
 obtain⟨t,e5⟩:=e5;refine⟨by rw[e1];exact Pz hd,by rw[e1,e2],h24,e3,e4, ?_, ?_⟩
 ·rw[e1,e5,aXz (aB _ _)]
 ·rw[e1,e5,fZ _ _ _ _ (by rw[aB];omega),aB,aW3,Lo _ _ _ (aB _ _),gv4 _ (by omega)]
theorem Ju(l:List aK):(((l.map fG).flatten.length:Nat):Int)=eP l:=by
 induction l with
 | nil=>rfl
 | cons a l ih=>
  unfold eP at ih ⊢;simp only[aWp,aXc,aWg,List.sum_cons];omega
theorem P2{r:cR}(h:r.Ok):(iR r).length<=440:=by
 have h1:=Ju r.ats;have h2:=h.nd;unfold iR;omega
theorem Jv{l:List (List Int)}(h:∀ p∈l,aL p):aL l.flatten:=fun x hx=>by
 obtain⟨p,hp,hx⟩:=List.mem_flatten.1 hx;exact h p hp x hx
def pbl(r:cR)(at':List Int):List Int:=gT (aT (aT (aT (aT (aT (aT (aT (aT (aT (aT (gT (zl 512) 0 [70,73,76,69]) 8 r.ls 4) 16 r.sq 2) 18 r.li 2) 20 64 2) 22 r.fl 2) 24 (68+(at'.length:Int)) 4) 28 512 4) 32 r.br 4) 36 r.bq 2) 38 r.nx 2) 64 (at'++tX)
set_option maxHeartbeats 1000000 in
theorem aNF(r:cR)(at':List Int)(h:at'.length<=444):pbl r at'=jI r (68+(at'.length:Int)) at':=by
 have eN:512=4+(4+(4+(4+(2+(2+(2+(2+(4+(4+(4+(2+(2+(24+((at'.length+4)+(444 - at'.length))))))))))))))):=by omega
 have eZ:zl 512=zl 4++(zl 4++(zl 4++(zl 4++(zl 2++(zl 2++(zl 2++(zl 2++(zl 4++(zl 4++(zl 4++(zl 2++(zl 2++(zl 24++(zl (at'.length+4)++zl (444 - at'.length))))))))))))))):=by
  conv=>lhs;rw[eN]
  simp only[S7]
 unfold pbl jI rhd;rw[eZ,Lm _ _ _ _ rfl (by rw[bG];rfl)];simp (disch:=first | omega | (simp only[bG,aB,aWh,aWk]<;>omega) | fail) only[tC,B4,bG,aB,Nat.reduceSub,aW3,aWh,aWk,Nat.reduceAdd]
 simp (disch:=first | omega | (simp only[bG,aB,aWh,aWk,aWg,tX]<;>omega) | fail) only[Gy,Lm,bG,aB,Nat.reduceSub,aW3,aWh,aWk,Nat.reduceAdd]
 simp only[aWv]
theorem L3(r:cR)(u:Int):(rhd r u).length=40:=by
 simp only[rhd,aWg,bG,aB,aWh,aWk,Nat.reduceAdd]
theorem W0(r:cR)(u:Int)(at':List Int)(h:at'.length<=444):(jI r u at').length=512:=by
 simp only[jI,aWg,L3,bG,tX,aWh,aWk];omega
theorem aKT(r:cR)(u:Int)(at':List Int)(j:Nat)(h1:40<=j)(h2:j < 58):(jI r u at').getD j 0=0:=by
 unfold jI;rw[aEa,L3,if_neg (by omega),aEa,bG,if_pos (by omega),aD9]
theorem aEM(r:cR)(u:Int)(at':List Int):(jI r u at').drop 64=at'++(tX++zl (444 - at'.length)):=by
 unfold jI;rw[<- aWv,List.drop_left' (by rw[aWg,L3,bG])]
theorem tG(n:Nat):aL (zl n):=fun x hx=>by
 have:=List.eq_of_mem_replicate hx;omega
theorem kR(n:Int):∀ k,aL (cC n k)
 | 0=>fun x hx=>by cases hx
 | k+1=>by
  rw[cC];refine bK (kR n k) (fun x hx=>?_)
  have:=List.mem_singleton.1 hx;omega
theorem L4:aL tX:=fun x hx=>by
 simp[tX] at hx;omega
theorem Hk(r:cR)(u:Int)(at':List Int)(h:aL at'):aL (jI r u at'):=by
 unfold jI rhd;refine bK ?_ (bK (tG _) (bK h (bK L4 (tG _))));refine bK (fun x hx=>?_) ?_
 ·simp at hx;omega
 ·exact bK (tG _) (bK (kR _ _) (bK (tG _) (bK (kR _ _) (bK (kR _ _) (bK (kR _ _) (bK (kR _ _) (bK (kR _ _) (bK (kR _ _) (bK (kR _ _) (bK (kR _ _) (kR _ _)))))))))))
set_option maxHeartbeats 1000000 in
theorem aNG(r:cR)(u:Int)(at':List Int):gL (jI r u at') 8 4=gv (cC r.ls 4)/\gL (jI r u at') 16 2=gv (cC r.sq 2)/\gL (jI r u at') 18 2=gv (cC r.li 2)/\gL (jI r u at') 22 2=gv (cC r.fl 2)/\gL (jI r u at') 24 4=gv (cC u 4)/\
  gL (jI r u at') 32 4=gv (cC r.br 4)/\gL (jI r u at') 36 2=gv (cC r.bq 2)/\gL (jI r u at') 38 2=gv (cC r.nx 2):=by
 unfold jI rhd;simp only[aWv];refine⟨?_, ?_, ?_, ?_, ?_, ?_, ?_, ?_⟩
 all_goals simp (disch:=first | omega | (simp only[bG,aB,aWh,aWk]<;>omega) | fail) only[fZ,Lo,bG,aB,Nat.reduceSub,aW3,aWh,aWk,Nat.reduceAdd]
theorem P3{r:cR}(h:r.Ok)(u:Int)(at':List Int)(l:List aK):iT (jI r u at') l=Tr r l:=by
 obtain⟨n1,n2,n3,n4,n5⟩:=h.num;obtain⟨n6,n7⟩:=h.base;obtain⟨b1,b2,b3,b4,b5,b6,b7,b8⟩:=aNG r u at';unfold iT Tr;rw[b1,b2,b3,b4,b6,b7,b8,gv4 _ (by omega),gv2 _ (by omega),gv2 _ (by omega),gv2 _ (by omega),gv4 _ (by omega),gv2 _ (by omega),gv2 _ (by omega)]
theorem W4:∀ (k:Nat) (s:List Int) (ps:List (List Int)),uW k s=some ps->ps.flatten.length+4<=s.length/\s.take ps.flatten.length=ps.flatten/\(s.drop ps.flatten.length).take 4=tX/\∀ p∈ps,24<=p.length/\p.length<=s.length
 | 0,s,ps,h=>by cases h
 | k+1,s,ps,h=>by
  unfold uW at h;split at h
  ·rename_i c;injection h with h
   subst h;have hl:(s.take 4).length=4:=by rw[c];rfl
   rw[aWm] at hl;refine⟨by simp only[List.flatten_nil,aWk];omega,rfl,c,fun p hp=>by cases hp⟩
  ·split at h
   ·cases h
   ·split at h
    ·cases h
    ·rename_i c1 c2 c3;obtain⟨qs,hq,rfl⟩:=Option.map_eq_some_iff.1 h;obtain⟨g1,g2,g3,g4⟩:=W4 k _ qs hq;unfold Hi at c3;have hl:(s.take (tY s)).length=tY s:=by rw[aWm];omega
     rw[aWt] at g1;rw[aXc,aWg,hl];refine⟨by omega, ?_, ?_,fun p hp=>?_⟩
     ·rw[List.take_add,g2]
     ·rw[<- List.drop_drop,g3]
     ·rcases aXn.1 hp with rfl | hp
      ·rw[hl];omega
      ·have:=g4 p hp;rw[aWt] at this;omega
theorem W5:∀ (k m:Nat) (s:List Int),s.length < k->k<=m->uW m s=uW k s
 | 0,m,s,h,_=>by omega
 | k+1,0,s,_,h=>by omega
 | k+1,m+1,s,h,hm=>by
  unfold uW;split
  ·rfl
  ·split
   ·rfl
   ·split
    ·rfl
    ·rename_i c1 c2 c3;unfold Hi at c3;rw[W5 k m _ (by rw[aWt];omega) (by omega)]
theorem W6(s:List Int):Av s=if s.take 4=tX then some [] else if s.length < 24 then none else if Hi s then none else (Av (s.drop (tY s))).map (s.take (tY s)::·):=by
 show uW (s.length+1) s=_;rw[uW];split
 ·rfl
 ·split
  ·rfl
  ·split
   ·rfl
   ·rename_i c1 c2 c3;unfold Hi at c3;rw[Av,W5 ((s.drop (tY s)).length+1) s.length _ (by omega) (by rw[aWt];omega)]
theorem aNH{n:Int}(h:n∈S0):cC n 4≠tX:=by
 intro e;have h1:gv (cC n 4)=gv tX:=by rw[e]
 have h2:0<=n/\n<=192:=by
  simp only[S0,aXn,aXF,or_false] at h;omega
 rw[gv4 _ (by omega)] at h1;simp only[gv,tX] at h1;omega
theorem P4(z:List Int):∀ l:List aK,(∀ a∈l,a.W/\gU a=0)->Av ((l.map fG).flatten++(tX++z))=some (l.map fG)
 | [],_=>by
  rw[W6,if_pos (by rfl)];rfl
 | a::l,h=>by
  obtain⟨hW,he⟩:=h a aWy;obtain⟨e1,e2,e3,e4,e5,e6,e7⟩:=L2 hW he;have ih:=P4 z l (fun b hb=>h b (aWG _ hb))
  rw[aWp,aXc,aWv];have ht:4<=((l.map fG).flatten++(tX++z)).length:=by
   simp only[aWg,tX,aWh,aWk];omega
  generalize (l.map fG).flatten++(tX++z)=t at *;have hty:=(mM hW he).ty;have n1:tY (fG a++t)=iC a:=by
   have g:gL (fG a++t) 4 4=gL (fG a) 4 4:=by
    unfold gL;rw[List.drop_append_of_le_length (by omega),aXK (by rw[aWt];omega)]
   unfold tY;rw[g,e7];omega
  have hlen:(fG a++t).length=iC a+t.length:=by rw[aWg,e2]
  rw[W6,if_neg,if_neg,if_neg,n1,List.drop_left' e2,ih,aXz e2]
  ·rfl
  ·unfold Hi;rw[n1];omega
  ·omega
  ·rw[aXK (by omega),e6];exact aNH hty
theorem P5:∀ l:List aK,(∀ a∈l,a.W/\gU a=0)->iF (l.map fG)=(l,0)
 | [],_=>rfl
 | a::l,h=>by
  obtain⟨hW,he⟩:=h a aWy;have ih:=P5 l (fun b hb=>h b (aWG _ hb))
  have e:cK (fG a)=(a,0):=by rw[(Lz hW he).1,aAB hW he]
  rw[aWp,iF,e,ih];rfl
theorem W7:∀ ps:List (List Int),(∀ p∈ps,aL p/\p.length<=1000)->((iF ps).2=0->(iF ps).1.map fG=ps/\∀ a∈(iF ps).1,gU a=0)/\(∀ a∈(iF ps).1,a.W)/\(iF ps).1.length<=ps.length/\((iF ps).2≠0->(iF ps).1=[])
 | [],_=>⟨fun _=>⟨rfl,fun a h=>by cases h⟩,fun a h=>(by cases h),aWj _,fun _=>rfl⟩
 | p::t,h=>by
  obtain⟨hB,hl⟩:=h p aWy;obtain⟨i1,i2,i3,i4⟩:=W7 t (fun q hq=>h q (aWG _ hq))
  have d0:=aI6 hB hl;have dW:=(aI5 hB hl).1;rw[iF];split
  ·rename_i c;exact⟨fun e=>absurd e c,fun a h=>(by cases h),aWA _,fun _=>rfl⟩
  ·rename_i c;split
   ·rename_i c2;exact⟨fun e=>absurd e c2,fun a h=>(by cases h),aWA _,fun _=>rfl⟩
   ·rename_i c2;obtain⟨z1,z2⟩:=d0 (Classical.not_not.1 c);obtain⟨j1,j2⟩:=i1 (Classical.not_not.1 c2);refine⟨fun _=>⟨by rw[aWp,z2,j1],fun a ha=>?_⟩,fun a ha=>?_,by simpa using i3,fun e=>absurd rfl e⟩
    ·rcases aXn.1 ha with rfl | ha
     ·exact z1
     ·exact j2 a ha
    ·rcases aXn.1 ha with rfl | ha
     ·exact dW
     ·exact i2 a ha
theorem aNI{s:List Int}(hs:s.length=512)(hB:aL s)(hw:lY s):1<=pP s/\pP s<=65535:=by
 have h1:=S8 hB 40;have h2:=hw.1;unfold pP at h2 ⊢;omega
theorem P6{s:List Int}(hs:s.length=512)(hB:aL s):aL (iO s):=by
 intro x hx;obtain⟨j,hj,rfl⟩:=List.mem_iff_getElem.1 hx;have e:(iO s)[j]=(iO s).getD j 0:=by simp[aWn,hj]
 rw[e,aKK hs];split
 ·omega
 ·unfold opG;split
  ·exact G1 hB _
  ·exact G1 hB _
end
section
variable {G:aF} {bb:Bool}
structure G9 (G:aF):Prop where
 sq:G 0=some [ci 16,ci 2]
 li:G 1=some [ci 18,ci 2]
 fl:G 2=some [ci 22,ci 2]
 ba:G 3=some [ci 32,ci 4]
 bo:G 4=some [ci 36,ci 2]
 nx:G 5=some [ci 38,ci 2]
 ls:G 6=some [ci 8,ci 4]
 fi:G 7=some [ci 20,ci 2]
 en:G 8=some [ci 24,ci 4]
 si:G 9=some [ci 28,ci 4]
abbrev Ik(a k:Int):AV:=.agg [.dc (ci a),.dc (ci k)]
theorem aNJ(l:List Int)(a k:Nat)(n:Int)(N:Nat)(hN:l.length=N)(h:a+k<=N)(hl:N<=1000000)(hn:-9223372036854775808<=n/\n<=9223372036854775807):
  EV G (Tb (bs bb)) 263 [Ik a k,.one (.bls 0 0 N 1),vi n] [yb l]=some (.tup [],[yb (aT l a n k)]):=by
 refine aA rfl ?_;simp (disch:=omega) only[go_sem,h263c];rw[aU (fun j=>⟨(jk 1 (.one (.bls 0 0 N 1)::vi (H4 n j)::.one (.ptr 1 0)::jk 4 (vi k::vi j::jk 13 []))),[yb (aT l a n j),.box [.dc (ci a),.dc (ci k)]]⟩) k ?_ ?_]
 ·simp (disch:=omega) only[go_sem,h263l0]
 ·rfl
 ·intro j hj;have h1:=cV l a n j;have h2:=Sy n hn j;have h3:=aDP (aT l a n j) (a+j) (H4 n j % 256) (by omega);simp (disch:=omega) only[go_sem,h263l0,aWf,h1,wu8,Int.reduceToNat,Int.reducePow,Ek,H4,aT,h3]
theorem lN(l:List Int)(a k:Nat)(n:Int)(hN:l.length=512)(h:a+k<=512)(hn:-9223372036854775808<=n/\n<=9223372036854775807):
  EV G (Tb (bs bb)) 263 [Ik a k,.one (.bls 0 0 512 1),vi n] [yb l]=some (.tup [],[yb (aT l a n k)]):=aNJ l a k n 512 hN h (by decide) hn
structure aNK (r:cR):Prop where
 sq:-9223372036854775808<=r.sq/\r.sq<=9223372036854775807
 li:-9223372036854775808<=r.li/\r.li<=9223372036854775807
 fl:-9223372036854775808<=r.fl/\r.fl<=9223372036854775807
 br:-9223372036854775808<=r.br/\r.br<=9223372036854775807
 bq:-9223372036854775808<=r.bq/\r.bq<=9223372036854775807
 nx:-9223372036854775808<=r.nx/\r.nx<=9223372036854775807
 ls:-9223372036854775808<=r.ls/\r.ls<=9223372036854775807
theorem cR.Ok.n9{r:cR}(hO:r.Ok):aNK r:=by
 obtain⟨n1,n2,n3,n4,n5⟩:=hO.num;obtain⟨n6,n7⟩:=hO.base;exact⟨by omega,by omega,by omega,by omega,by omega,by omega,by omega⟩
set_option maxHeartbeats 8000000 in
theorem W8(hG:G9 G)(r:cR)(at':List Int)(hN:aNK r)(ha:at'.length<=444)(hB:aL at'):EV G (Tb (bs bb)) 211 [r.v,sv at'] []=some (sv (jI r (68+(at'.length:Int)) at'),[]):=by
 refine aA rfl ?_;obtain⟨n1,n2,n3,n4,n5,n6,n7⟩:=hN;have hp:=aNF r at' ha;rw[<- hp];unfold pbl;have l0:(gT (zl 512) 0 [70,73,76,69]).length=512:=by rw[cN (by rw[bG];decide),bG]
 have e0:dR (70::73::76::69::List.take 508 [])++List.drop (dR (70::73::76::69::List.take 508 [])).length (List.map yC (zl 512))=(gT (zl 512) 0 [70,73,76,69]).map yC:=by
  have h:=nK (zl 512) [70,73,76,69] 0 4 (fun x hx=>by simp at hx;omega) (by decide)
  rw[V5] at h;exact h
 have r0:List.replicate 512 (aR.dc (DC.raw (Value.int .u8 0)))=(zl 512).map yC:=Lh 512;generalize gT (zl 512) 0 [70,73,76,69]=b0 at *;have p1:EV G (Tb (bs bb)) 263 [Ik 8 4,.one (.bls 0 0 512 1),vi r.ls] [yb b0]=some (.tup [],[yb (aT b0 8 r.ls 4)]):=lN (G:=G) (bb:=bb) b0 8 4 r.ls l0 (by decide) (by omega);have l1:(aT b0 8 r.ls 4).length=512:=by rw[cV,l0]
 generalize aT b0 8 r.ls 4=b1 at *;have p2:EV G (Tb (bs bb)) 263 [Ik 16 2,.one (.bls 0 0 512 1),vi r.sq] [yb b1]=some (.tup [],[yb (aT b1 16 r.sq 2)]):=lN (G:=G) (bb:=bb) b1 16 2 r.sq l1 (by decide) (by omega);have l2:(aT b1 16 r.sq 2).length=512:=by rw[cV,l1]
 generalize aT b1 16 r.sq 2=b2 at *;have p3:EV G (Tb (bs bb)) 263 [Ik 18 2,.one (.bls 0 0 512 1),vi r.li] [yb b2]=some (.tup [],[yb (aT b2 18 r.li 2)]):=lN (G:=G) (bb:=bb) b2 18 2 r.li l2 (by decide) (by omega);have l3:(aT b2 18 r.li 2).length=512:=by rw[cV,l2]
 generalize aT b2 18 r.li 2=b3 at *;have p4:EV G (Tb (bs bb)) 263 [Ik 20 2,.one (.bls 0 0 512 1),vi 64] [yb b3]=some (.tup [],[yb (aT b3 20 64 2)]):=lN (G:=G) (bb:=bb) b3 20 2 64 l3 (by decide) (by omega);have l4:(aT b3 20 64 2).length=512:=by rw[cV,l3]
 generalize aT b3 20 64 2=b4 at *;have p5:EV G (Tb (bs bb)) 263 [Ik 22 2,.one (.bls 0 0 512 1),vi r.fl] [yb b4]=some (.tup [],[yb (aT b4 22 r.fl 2)]):=lN (G:=G) (bb:=bb) b4 22 2 r.fl l4 (by decide) (by omega);have l5:(aT b4 22 r.fl 2).length=512:=by rw[cV,l4]
 generalize aT b4 22 r.fl 2=b5 at *;have p6:EV G (Tb (bs bb)) 263 [Ik 24 4,.one (.bls 0 0 512 1),vi (68+(at'.length:Int))] [yb b5]=some (.tup [],[yb (aT b5 24 (68+(at'.length:Int)) 4)]):=lN (G:=G) (bb:=bb) b5 24 4 (68+(at'.length:Int)) l5 (by decide) (by omega);have l6:(aT b5 24 (68+(at'.length:Int)) 4).length=512:=by rw[cV,l5]
 generalize aT b5 24 (68+(at'.length:Int)) 4=b6 at *;have p7:EV G (Tb (bs bb)) 263 [Ik 28 4,.one (.bls 0 0 512 1),vi 512] [yb b6]=some (.tup [],[yb (aT b6 28 512 4)]):=lN (G:=G) (bb:=bb) b6 28 4 512 l6 (by decide) (by omega);have l7:(aT b6 28 512 4).length=512:=by rw[cV,l6]
 generalize aT b6 28 512 4=b7 at *;have p8:EV G (Tb (bs bb)) 263 [Ik 32 4,.one (.bls 0 0 512 1),vi r.br] [yb b7]=some (.tup [],[yb (aT b7 32 r.br 4)]):=lN (G:=G) (bb:=bb) b7 32 4 r.br l7 (by decide) (by omega);have l8:(aT b7 32 r.br 4).length=512:=by rw[cV,l7]
 generalize aT b7 32 r.br 4=b8 at *;have p9:EV G (Tb (bs bb)) 263 [Ik 36 2,.one (.bls 0 0 512 1),vi r.bq] [yb b8]=some (.tup [],[yb (aT b8 36 r.bq 2)]):=lN (G:=G) (bb:=bb) b8 36 2 r.bq l8 (by decide) (by omega);have l9:(aT b8 36 r.bq 2).length=512:=by rw[cV,l8]
 generalize aT b8 36 r.bq 2=b9 at *;have p10:EV G (Tb (bs bb)) 263 [Ik 38 2,.one (.bls 0 0 512 1),vi r.nx] [yb b9]=some (.tup [],[yb (aT b9 38 r.nx 2)]):=lN (G:=G) (bb:=bb) b9 38 2 r.nx l9 (by decide) (by omega);have l10:(aT b9 38 r.nx 2).length=512:=by rw[cV,l9]
 generalize aT b9 38 r.nx 2=b10 at *;have ef:(dO at':ByteArray)++⟨#[255,255,255,255]⟩=dO (at'++tX):=by
  have:=Ej at' tX;exact this
 have eb:eC .add (sv at') (.one (.dc (.raw (.string ⟨#[255,255,255,255]⟩))))=some (sv (at'++tX)):=by
  rw[zZ (by rw[aC];show at'.length+4<=_;omega),ef]
 have hBf:aL (at'++tX):=fun x hx=>by
  rcases aXy.1 hx with hx | hx
  ·exact hB x hx
  ·exact L4 x hx
 have lf:(at'++tX).length=at'.length+4:=by rw[aWg];rfl
 have ec:=nK b10 (at'++tX) 64 448 hBf (by omega);have lc:(gT b10 64 (at'++tX)).length=512:=by rw[cN (by rw[lf,l10];omega),l10]
 have ez:hP (List.take 512 (List.map yC (gT b10 64 (at'++tX))))=some ((gT b10 64 (at'++tX)).map u8):=by rw[Al _ _ (by omega),iZ]
 have e68:(64:Int)+(at'.length:Int)+4=68+(at'.length:Int):=by omega
 generalize gT b10 64 (at'++tX)=z at *;have g1:=hG.sq;have g2:=hG.li;have g3:=hG.fl;have g4:=hG.ba;have g5:=hG.bo;have g6:=hG.nx;have g7:=hG.ls;have g8:=hG.fi;have g9:=hG.en;have g10:=hG.si;simp (disch:=omega) only[go_sem,h211c,aWf,bG,r0,e0,p1,p2,p3,p4,p5,p6,p7,p8,p9,p10,g1,g2,g3,g4,g5,g6,g7,g8,g9,g10,l0,l1,l2,l3,l4,l5,l6,l7,l8,l9,l10,eb,aC,lf,ec,lc,ez,Le,e68,Int.reduceToNat,cZ]
end
section
variable {G:aF} {bb:Bool}
theorem sH(l:List Int)(hB:aL l)(a k:Nat)(ha:a+k<=l.length)(hk:k<=4)(hl:l.length<=1000000):EV G (Tb (bs bb)) 209 [Ik a k,sv l] []=some (vi (gL l a k),[]):=by
 refine aA rfl ?_;simp (disch:=first | omega | (simp only[aWg,aWh,aWk,aWf,aB];omega)) only[go_sem,h209c]
 rw[aU (fun j=>⟨(jk 1 (sv l::.one (.ptr 0 0)::jk 2 (vi (gL l (a+k - j) j)::vi ((k:Int) - 1 - j)::jk 18 []))),[.box [.dc (ci a),.dc (ci k)]]⟩) k ?_ ?_]
 ·have e:a+k - k=a:=by omega
  have e2:¬ 0<=(k:Int) - 1 - (k:Int):=by omega
  simp (disch:=first | omega | (simp only[aWg,aWh,aWk,aWf,aB];omega)) only[go_sem,h209l0,e,e2]
 ·simp[gL,gv,jk]
 ·intro j hj;have hx:=hB _ (aWq (show a+k - 1 - j < l.length by omega));have g1:=pO hB (a+k - j) j (by omega);have e1:gL l (a+k - (j+1)) (j+1)=gL l (a+k - j) j * 256+l[a+k - 1 - j]'(by omega):=by
   have:a+k - (j+1) < l.length:=by omega
   rw[aII l _ j this,show a+k - (j+1)+1=a+k - j by omega,Int.mul_comm];rw[Int.add_comm];congr 1;congr 1;omega
  have e2:0<=(k:Int) - 1 - (j:Int):=by omega
  rw[e1];generalize gL l (a+k - j) j=z at g1 ⊢;have eN:((a:Int)+((k:Int) - 1 - (j:Int))).toNat=a+k - 1 - j:=by omega
  have hu:=iD _ hx;have o:=orL z _ (by omega) hx;simp (disch:=first | omega | (simp only[aWg,aWh,aWk,aWf,aB];omega)) only[go_sem,h209l0,eq_true e2,aW0,eN,hu,Int.reduceToNat,Int.reducePow,o]
  rw[show (k:Int) - 1 - (j:Int) - 1=(k:Int) - 1 - ((j:Int)+1) by omega]
end
section
variable {G:aF} {bb:Bool}
theorem aNL(s:List Int)(hB:aL s)(hl:s.length<=1000000):EV G (Tb (bs bb)) 73 [sv s,.one (.dc (.raw (.string ⟨#[255,255,255,255]⟩)))] []=some (vb (decide (s.take 4=tX)),[]):=by
 have e:EV G (Tb (bs bb)) 136 [sv s,.one (.dc (.raw (.string ⟨#[255,255,255,255]⟩)))] []=some (vb (decide (s.take 4=tX)),[]):=by
  refine aA rfl ?_;have e4:(((#[255,255,255,255]:Array UInt8).size:Nat):Int)=4:=rfl;by_cases c:4<=s.length
  ·have c':(4:Int)<=(s.length:Int):=by omega
   have eT:(dO (s.take 4)=⟨#[255,255,255,255]⟩)=(s.take 4=tX):=gJ (fun x hx=>hB x (aWF hx)) L4
   simp (disch:=omega) only[go_sem,h136c,aC,e4,eq_true c',eT,Int.reduceToNat]
  ·have c':¬ (4:Int)<=(s.length:Int):=by omega
   have eF:¬ s.take 4=tX:=fun h=>by
    have:=congrArg List.length h;rw[aWm] at this;have e:tX.length=4:=rfl;omega
   simp (disch:=omega) only[go_sem,h136c,aC,e4,c',eF,Int.reduceToNat,decide_false]
 refine aA rfl ?_;simp (disch:=omega) only[go_sem,h73c,e]
theorem aNM{call:aO}{a:HC}{L:List Nat}{m:Nat}{r:Option (Exit × AS)}{s:AS}(h:K1 L m r=some s):fnK call G a L m r=EL call G a L m s:=by
 unfold K1 at h;split at h
 ·injection h with h;rw[<- h];rfl
 ·cases h
abbrev Ax(p:List Int):List DC:=[.raw (.string (dO p))]
abbrev sgv(p:Option (List (List Int))):AV:=match p with
 | some ps=>.tup [.one (.dc (.slc (ps.map Ax))),.one (.dc (.raw (.bool true)))]
 | none=>.tup [.one (.dc (.slc [])),.one (.dc (.raw (.bool false)))]
theorem P7:∀ (k:Nat) (s:List Int) (acc:List (List Int)),s.length < k->acc.length+s.length<=1000->aL s->
  Br false [.tmp 2,.tmp 3] 0 (sqK (EV G (Tb (bs bb))) G (.seq (.region [Oo 42 (.mov (.t 4)),Oo 2 (.mov (.t 42)),Oo 3 (.mov (.k (.bool true)))]) .ret)
   (Fy 0 (EL (EV G (Tb (bs bb))) G h210l0 [0,3,0] 2 ⟨(sv s::jk 3 (.one (.bld 0 acc.length)::.one (.ptr 1 0)::jk 37 [])),[.arr 0 1 (acc.map Ax),.box [.dc (ci 4),.dc (ci 4)]]⟩)))=
  some (sgv ((uW k s).map (acc++·)),[])
 | 0,s,acc,h,_,_=>by omega
 | k+1,s,acc,h,hA,hB=>by
  have q1:=aNL (G:=G) (bb:=bb) s hB (by omega);have hall:fM 1 (acc.map Ax)=true:=jZ (f:=Ax) (fun _=>rfl) _
  have htk:(acc.map Ax).take acc.length=acc.map Ax:=aWP (by rw[aWf];exact aWj _);rw[Sr,uW];by_cases c1:s.take 4=tX
  ·rw[if_pos c1];rw[decide_eq_true c1] at q1;simp (disch:=omega) only[go_sem,h210l0,q1,aWf,htk,aWj]
  rw[if_neg c1];rw[decide_eq_false c1] at q1;by_cases c2:s.length < 24
  ·rw[if_pos c2];have d2:(s.length:Int) < 24:=by omega
   simp (disch:=omega) only[go_sem,h210l0,q1,aC,eq_true d2]
  rw[if_neg c2];have d2:¬ (s.length:Int) < 24:=by omega
  have q2:EV G (Tb (bs bb)) 209 [Ik 4 4,sv s] []=some (vi (gL s 4 4),[]):=sH (G:=G) (bb:=bb) s hB 4 4 (by omega) (by omega) (by omega);have hg:=pO hB 4 4 (by omega);have hn:gL s 4 4=(tY s:Int):=by unfold tY;omega
  rw[hn] at q2;by_cases c3:Hi s
  ·rw[if_pos c3];unfold Hi at c3;generalize tY s=n at *;have e8:((n:Int).tmod 8)=((n % 8:Nat):Int):=rfl;by_cases x1:n % 8=0
   ·have x1':(n:Int).tmod 8=0:=by rw[e8,x1];rfl
    clear e8;by_cases x2:n < 24
    ·have x2':(n:Int) < 24:=by omega
     simp (disch:=omega) only[go_sem,h210l0,q1,q2,aC,d2,eq_true x1',eq_true x2']
    ·have x2':¬ (n:Int) < 24:=by omega
     have x3':(s.length:Int) - 4 < (n:Int):=by omega
     simp (disch:=omega) only[go_sem,h210l0,q1,q2,aC,d2,eq_true x1',x2',eq_true x3']
   ·have x1':¬ (n:Int).tmod 8=0:=by rw[e8];omega
    clear e8;simp (disch:=omega) only[go_sem,h210l0,q1,q2,aC,d2,x1']
  ·rw[if_neg c3];unfold Hi at c3;generalize tY s=n at *;have e8:((n:Int).tmod 8)=((n % 8:Nat):Int):=rfl;have x1':(n:Int).tmod 8=0:=by rw[e8];omega
   clear e8;have x2':¬ (n:Int) < 24:=by omega
   have x3':¬ (s.length:Int) - 4 < (n:Int):=by omega
   have hd:(s.drop n).length < k:=by rw[aWt];omega
   have ih:=P7 k (s.drop n) (acc++[s.take n]) hd (by rw[aWg,aWt];simp;omega) (fun x hx=>hB x (aWT hx))
   have es:(uW k (s.drop n)).map (acc++[s.take n]++·)=((uW k (s.drop n)).map (s.take n::·)).map (acc++·):=by
    rw[Option.map_map];congr 1;funext x;simp
   rw[es] at ih;rw[<- ih];refine congrArg (fun x=>Br false [.tmp 2,.tmp 3] 0 (sqK (EV G (Tb (bs bb))) G (.seq (.region [Oo 42 (.mov (.t 4)),Oo 2 (.mov (.t 42)),Oo 3 (.mov (.k (.bool true)))]) .ret) (Fy 0 x))) (aNM ?_)
   rw[aWg,aWW];simp (disch:=omega) only[go_sem,h210l0,q1,q2,aC,d2,eq_true x1',x2',x3',aWf,hall,htk,aWj,aWp,aWw,aWh,aWk]
theorem Ts(o:List Int)(ho:o.length=512)(hB:aL o):EV G (Tb (bs bb)) 210 [sv o] []=some (sgv (Av (o.drop 64)),[]):=by
 refine aA rfl ?_;have hl:(o.drop 64).length=448:=by rw[aWt,ho]
 have q:=P7 (G:=G) (bb:=bb) ((o.drop 64).length+1) (o.drop 64) [] (by omega) (by rw[hl];decide) (fun x hx=>hB x (aWT hx))
 have e:((uW ((o.drop 64).length+1) (o.drop 64)).map (([]:List (List Int))++·))=Av (o.drop 64):=by
  unfold Av;cases uW ((o.drop 64).length+1) (o.drop 64)<;>simp
 rw[e] at q;rw[<- q];clear q e;have ht:List.take 512 o=o:=aWP (by omega);simp (disch:=omega) only[go_sem,h210c,aC,ho,Int.reduceToNat,ht]
end
section
variable {G:aF} {bb:Bool}
end
end Go.Proofs.YthepfneloomngaaGreatDoor
