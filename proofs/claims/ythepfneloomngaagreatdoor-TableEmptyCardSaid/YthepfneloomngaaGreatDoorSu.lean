/- A field of a block read, by the program. Conditions: as each theorem says. -/
import Derived.Test.YthepfneloomngaaGreatDoorUw
import Derived.Test.YthepfneloomngaaGreatDoorWp
import Derived.Test.YthepfneloomngaaGreatDoorUm
namespace Go.Proofs.YthepfneloomngaaGreatDoor
set_option linter.unusedSimpArgs false
set_option linter.unusedVariables false
set_option maxRecDepth 4000
section
variable {G:aE}{bb:Bool}
theorem aKk(l:List aJ)(hW:∀a∈l,a.W)(hl:l.length<=1000)(ty:Int)(nm:List Int)(fi:Int)(hn:aM nm):EV G (Tb (bs bb)) 194 [vl (l.map aJ.e),.agg (aJ2 ty nm fi)] []=some (vi (iH (oQ ty nm fi) l),[]):=by
 refine aA rfl ?_;unfold iH;simp (disch:=omega) only[go_sem,h194c,aXC];rw[gF (fun k=>⟨(vl (l.map aJ.e)::jk 2 (.one (.ptr 0 0)::jk 1 (vi k::jk 14 []))),[.box (aJ2 ty nm fi)]⟩) (fun k=>oQ ty nm fi (l.getD k aJ.nil)=true) l.length ?_ ?_]
 rotate_left
 rfl;intro k hk hn2;have h3:=hn2 k (aXF _);rw[gT l k hk] at h3;have q:=Rr (G:=G) (bb:=bb) l[k];have e:=dR (hW _ (aXM hk)).nm hn;unfold oQ at h3;by_cases k1:l[k].ty=ty;by_cases k2:l[k].nm=nm;by_cases k3:l[k].fi=fi;exact absurd (by simp[k1,k2,k3]) h3;rw[eq_true k2] at e;simp (disch:=omega) only[go_sem,h194l0,Uj,aXC,ixA,aJ.e,q,eq_true k1,e,k3];rw[eq_false k2] at e;simp (disch:=omega) only[go_sem,h194l0,Uj,aXC,ixA,aJ.e,q,eq_true k1,e];simp (disch:=omega) only[go_sem,h194l0,Uj,aXC,ixA,aJ.e,q,k1];obtain⟨hk,hp,hn2⟩:=bT (fun k=>oQ ty nm fi (l.getD k aJ.nil)=true) l.length
 generalize ix (fun k=>oQ ty nm fi (l.getD k aJ.nil)=true) l.length=k at *
 rcases hp with rfl|⟨hk',hp⟩;rw[if_pos rfl];simp (disch:=omega) only[go_sem,h194l0,aXC];rw[if_neg (by omega)];rw[gT l k hk'] at hp;have q:=Rr (G:=G) (bb:=bb) l[k];have e:=dR (hW _ (aXM hk')).nm hn;simp only[oQ,aXQ,decide_eq_true_eq] at hp;obtain⟨k1,k2,k3⟩:=hp;rw[eq_true k2] at e;simp (disch:=omega) only[go_sem,h194l0,Uj,aXC,ixA,aJ.e,q,eq_true k1,e,eq_true k3]
end
section
variable {G:aE}{bb:Bool}
structure cI where
 sq:Int
 li:Int
 fl:Int
 br:Int
 bq:Int
 nx:Int
 ls:Int
 ats:List aJ
abbrev cI.c(r:cI):List aT:=[.dc (ci r.sq),.dc (ci r.li),.dc (ci r.fl),.dc (ci r.br),.dc (ci r.bq),.dc (ci r.nx),.dc (ci r.ls),.dc (.slc (r.ats.map aJ.e))]
abbrev cI.v(r:cI):AV:=.agg r.c
abbrev cI.t(r:cI):TV:=.agg r.c
def cI.nil:cI:=⟨0,0,0,0,0,0,0,[]⟩
structure cI.W (r:cI):Prop where
 at':∀a∈r.ats,a.W
 ln:r.ats.length<=900
theorem cI.nil_W:cI.nil.W:=⟨fun a h=>(by cases h),by decide⟩
abbrev rcv(p:cI×Int):AV:=.tup [p.1.t,.one (.dc (ci p.2))]
def aKl(a b:Int):Int:=if (0<=a/\a<=95)/\(1<=b/\b<=65535) then 0 else 2
def I4(a b:Int):Int:=if a=0/\b=0 then 0 else aKl a b
def dU(f:Int):Bool:=decide (f % 2=1)
def dS(l:List aJ):Int:=(l.map fun a=>((dX a).length:Int)).sum
def N0(r:cI):Bool:=decide (1<=r.sq/\r.sq<=65535)&&(decide (0<=r.li/\r.li<=65535)&&(decide (0<=r.fl/\r.fl<=3)&&(decide (0<=r.nx/\r.nx<=65535)&&decide (0<=r.ls/\r.ls<=2147483647))))
def aBI(r:cI):Bool:=decide (r.fl=0)&&(decide (r.ats=[])&&(decide (r.li=0)&&(decide (r.br=0/\r.bq=0)&&decide (r.nx=0))))
def hdE(r:cI):Int:=aS [un (N0 r) 2,I4 r.br r.bq,un (dU r.fl||aBI r) 3]
noncomputable def gtI(r:cI):Int:=iH (fun a=>decide (r.nx<=a.id)) r.ats
noncomputable def Vf(r:cI):Int×Int:=if hdE r≠0 then (0,hdE r) else if (tN r.ats).2≠0 then tN r.ats else if 0<=gtI r then (gtI r,9) else (0,un (decide (dS r.ats<=440)) 16)
noncomputable def gG(r:cI):Int:=(Vf r).2
def bG(a:aJ)(i:Int):aJ:=⟨a.ty,a.nm,i,a.fl,a.res,a.va,a.fi,a.rs,a.al,a.sz,a.vd⟩
def rG(r:cI)(a:aJ):Bool:=!decide (a.ty=48)&&r.ats.any fun b=>nF a b
noncomputable def I5(r:cI):Int:=aS [gG r,un (dU r.fl) 20,un (decide (r.nx<65535)) 16]
def I6(r:cI)(a:aJ):Int:=aS [fK (bG a r.nx),un (!rG r a) 5,un (decide (r.ats.length<32)) 8]
def nH(r:cI)(a:aJ):cI:=⟨r.sq,r.li,r.fl,r.br,r.bq,r.nx+1,r.ls,dD (r.ats++[bG a r.nx])⟩
noncomputable def J8(r:cI)(a:aJ):cI×Int:=if I5 r≠0 then (.nil,I5 r) else if I6 r a≠0 then (.nil,I6 r a) else if dS (nH r a).ats<=440 then (nH r a,0) else (.nil,16)
def Vg(r:cI)(l:List aJ):cI:=⟨r.sq,r.li,r.fl,r.br,r.bq,r.nx,r.ls,l⟩
def aKm(q f a b:Int):Int:=aS [un (decide (1<=q/\q<=65535)&&(decide (f=1)||decide (f=3))) 2,I4 a b]
def aTK(q f a b:Int):cI×Int:=if aKm q f a b≠0 then (.nil,aKm q f a b) else (⟨q,0,f,a,b,0,0,[]⟩,0)
def rhd(r:cI)(u:Int):List Int:=[70,73,76,69]++(zl 4++(bK r.ls 4++(zl 4++(bK r.sq 2++(bK r.li 2++(bK 64 2++(bK r.fl 2++(bK u 4++(bK 512 4++(bK r.br 4++(bK r.bq 2++bK r.nx 2)))))))))))
def sC:List Int:=[255,255,255,255]
def iR(r:cI)(u:Int)(at':List Int):List Int:=rhd r u++(zl 24++(at'++(sC++zl (444-at'.length))))
def fY(r:cI):List Int:=(r.ats.map dX).flatten
noncomputable def aKn(r:cI)(u:Int):Int:=aS [gG r,un (decide (1<=u/\u<=65535)) 2]
def cN(r:cI)(u:Int):List Int:=oP (iR r (68+(fY r).length) (fY r)) u 8
noncomputable def Ek(r:cI)(u:Int):List Int×Int:=if aKn r u≠0 then ([],aKn r u) else (cN r u,0)
def zK(s:List Int):Nat:=(gL s 4 4).toNat
def I7(s:List Int):Prop:=zK s % 8≠0\/zK s<24\/s.length<zK s+4
instance (s:List Int):Decidable (I7 s):=by unfold I7;infer_instance
def Ao:Nat->List Int->Option (List (List Int))
 |0,_=>none
 |k+1,s=>if s.take 4=sC then some [] else if s.length<24 then none else if I7 s then none else (Ao k (s.drop (zK s))).map (s.take (zK s)::·)
def Cf(s:List Int):Option (List (List Int)):=Ao (s.length+1) s
def jL(o:List Int)(l:List aJ):cI:=⟨gL o 16 2,gL o 18 2,gL o 22 2,gL o 32 4,gL o 36 2,gL o 38 2,gL o 8 4,l⟩
noncomputable def iX:List (List Int)->List aJ×Int
 |[]=>([],0)
 |p::t=>if (cK p).2≠0 then ([],(cK p).2) else if (iX t).2≠0 then ([],(iX t).2) else ((cK p).1::(iX t).1,0)
noncomputable def aFP(s:List Int)(ps:List (List Int)):cI×Int×Int:=if iR (jL (jJ s) []) (68+ps.flatten.length) ps.flatten≠jJ s then (.nil,0,3) else if (iX ps).2≠0 then (.nil,0,(iX ps).2) else
 if gG (jL (jJ s) (iX ps).1)≠0 then (.nil,0,gG (jL (jJ s) (iX ps).1)) else (jL (jJ s) (iX ps).1,qG s,0)
open Classical in
noncomputable def kA(s:List Int):cI×Int×Int:=if s.length≠512 then (.nil,0,10) else if ¬ mR s then (.nil,0,31) else match Cf ((jJ s).drop 64) with
 |none=>(.nil,0,3)
 |some ps=>aFP s ps
end
section
variable {G:aE}{bb:Bool}
theorem I8{l:List aJ}(h:(tN l).2=0):l.length<=32/\∀k,k<l.length->nG l k=0:=by
 unfold tN at h;split at h;exact absurd h (by decide);rename_i c;refine⟨by omega,?_⟩;obtain⟨hk,hp,hn⟩:=bT (fun k=>nG l k≠0) l.length
 generalize ix (fun k=>nG l k≠0) l.length=m at *
 split at h;rename_i hm;rcases hp with hp|⟨_,hp⟩
 omega;exact absurd h hp;rename_i hm;exact fun k hk'=>Classical.not_not.1 (hn k (by omega))
theorem aFQ{l:List aJ}(h:(tN l).2=0):∀k,k<l.length->mL l k=0:=by
 intro k hk;have h1:=(I8 h).2 k hk;by_cases h0:k=0;subst h0;unfold nG at h1;rwa[if_pos rfl] at h1;exact (Nu h0 hk h1).1
structure cI.Ok (r:cI):Prop where
 nb:N0 r=true
 be:I4 r.br r.bq=0
 us:(dU r.fl||aBI r)=true
 od:(tN r.ats).2=0
 gt:gtI r<0
 nd:dS r.ats<=440
theorem uR{a b c:Int}(h:aS [a,b,c]=0):a=0/\b=0/\c=0:=by
 by_cases h1:a=0;subst h1;rw[aV] at h;by_cases h2:b=0;subst h2;rw[aV] at h;by_cases h3:c=0;exact⟨rfl,rfl,h3⟩;rw[aX _ _ h3] at h;exact absurd h h3;rw[aX _ _ h2] at h;exact absurd h h2;rw[aX _ _ h1] at h;exact absurd h h1
theorem aKo{a b:Int}(h:aS [a,b]=0):a=0/\b=0:=by
 by_cases h1:a=0;subst h1;rw[aV] at h;by_cases h2:b=0;exact⟨rfl,h2⟩;rw[aX _ _ h2] at h;exact absurd h h2;rw[aX _ _ h1] at h;exact absurd h h1
theorem aFR{b:Bool}{e:Int}(he:e≠0)(h:un b e=0):b=true:=by
 cases b with
 |true=>rfl
 |false=>exact absurd h he
theorem rH{r:cI}(h:gG r=0):r.Ok:=by
 unfold gG Vf at h;split at h;rename_i c;exact absurd h c;rename_i c;obtain⟨h1,h2,h3⟩:=uR (Classical.not_not.1 c);split at h;rename_i d;exact absurd h d;rename_i d;split at h;exact absurd h (show ¬ (9:Int)=0 by decide);rename_i g;exact⟨aFR (by decide) h1,h2,aFR (by decide) h3,Classical.not_not.1 d,by omega,of_decide_eq_true (aFR (by decide) h)⟩
theorem cI.Ok.num{r:cI}(h:r.Ok):(1<=r.sq/\r.sq<=65535)/\(0<=r.li/\r.li<=65535)/\(0<=r.fl/\r.fl<=3)/\(0<=r.nx/\r.nx<=65535)/\(0<=r.ls/\r.ls<=2147483647):=by
 have:=h.nb;simpa only[N0,aXQ,decide_eq_true_eq] using this
theorem cI.Ok.base{r:cI}(h:r.Ok):(0<=r.br/\r.br<=95)/\(0<=r.bq/\r.bq<=65535):=by
 have:=h.be;unfold I4 aKl at this;split at this;omega;split at this;omega;exact absurd this (by decide)
theorem cI.Ok.errs{r:cI}(h:r.Ok):(∀a∈r.ats,fK a=0)/\(r.ats.map aJ.id).Nodup:=(Cc r.ats).1 (aFQ h.od)
theorem cI.Ok.ln{r:cI}(h:r.Ok):r.ats.length<=32:=(I8 h.od).1
theorem N3{a:aJ}(hW:a.W)(h:fK a=0):aM (dX a)/\(dX a).length=fQ a/\24<=fQ a/\fQ a<=440/\fQ a % 8=0/\(dX a).take 4=bK a.ty 4/\gL (dX a) 4 4=fQ a:=by
 obtain⟨e1,e2,e3,e4⟩:=Ce hW h;have hd:=(lA hW h).dc;have h24:24<=fQ a:=by
  have o:=Eh a;have:24<=tJ a:=by unfold tJ;split<;>omega
  omega
 have e5:∃t,iT a=bK a.ty 4++(bK (fQ a) 4++t):=by
  unfold iT;exact⟨_,aXR ..⟩
 obtain⟨t,e5⟩:=e5;refine⟨by rw[e1];exact R6 hd,by rw[e1,e2],h24,e3,e4,?_,?_⟩;rw[e1,e5,aYX (aB _ _)];rw[e1,e5,gS _ _ _ _ (by rw[aB];omega),aB,aYs,Nq _ _ _ (aB _ _),gv4 _ (by omega)]
theorem Lp(l:List aJ):(((l.map dX).flatten.length:Nat):Int)=dS l:=by
 induction l with
 |nil=>rfl
 |cons a l ih=>
  unfold dS at ih ⊢;simp only[aXL,aYA,aXD,List.sum_cons];omega
theorem I9{r:cI}(h:r.Ok):(fY r).length<=440:=by
 have h1:=Lp r.ats;have h2:=h.nd;unfold fY;omega
theorem Lq{l:List (List Int)}(h:∀p∈l,aM p):aM l.flatten:=fun x hx=>by
 obtain⟨p,hp,hx⟩:=List.mem_flatten.1 hx;exact h p hp x hx
def pbl(r:cI)(at':List Int):List Int:=fG (aW (aW (aW (aW (aW (aW (aW (aW (aW (aW (fG (zl 512) 0 [70,73,76,69]) 8 r.ls 4) 16 r.sq 2) 18 r.li 2) 20 64 2) 22 r.fl 2) 24 (68+(at'.length:Int)) 4) 28 512 4) 32 r.br 4) 36 r.bq 2) 38 r.nx 2) 64 (at'++sC)
set_option maxHeartbeats 1000000 in
theorem aPc(r:cI)(at':List Int)(h:at'.length<=444):pbl r at'=iR r (68+(at'.length:Int)) at':=by
 have eN:512=4+(4+(4+(4+(2+(2+(2+(2+(4+(4+(4+(2+(2+(24+((at'.length+4)+(444-at'.length))))))))))))))):=by omega
 have eZ:zl 512=zl 4++(zl 4++(zl 4++(zl 4++(zl 2++(zl 2++(zl 2++(zl 2++(zl 4++(zl 4++(zl 4++(zl 2++(zl 2++(zl 24++(zl (at'.length+4)++zl (444-at'.length))))))))))))))):=by
  conv=>lhs;rw[eN]
  simp only[Uw]
 unfold pbl iR rhd;rw[eZ,Np _ _ _ _ rfl (by rw[bF];rfl)];simp (disch:=first|omega|(simp only[bF,aB,aXE,aXH]<;>omega)|fail) only[uQ,Dk,bF,aB,Nat.reduceSub,aYs,aXE,aXH,Nat.reduceAdd]
 simp (disch:=first|omega|(simp only[bF,aB,aXE,aXH,aXD,sC]<;>omega)|fail) only[Il,Np,bF,aB,Nat.reduceSub,aYs,aXE,aXH,Nat.reduceAdd]
 simp only[aXR]
theorem N4(r:cI)(u:Int):(rhd r u).length=40:=by
 simp only[rhd,aXD,bF,aB,aXE,aXH,Nat.reduceAdd]
theorem Ga(r:cI)(u:Int)(at':List Int)(h:at'.length<=444):(iR r u at').length=512:=by
 simp only[iR,aXD,N4,bF,sC,aXE,aXH];omega
theorem aMj(r:cI)(u:Int)(at':List Int)(j:Nat)(h1:40<=j)(h2:j<58):(iR r u at').getD j 0=0:=by
 unfold iR;rw[Uy,N4,if_neg (by omega),Uy,bF,if_pos (by omega),aFh]
theorem aFS(r:cI)(u:Int)(at':List Int):(iR r u at').drop 64=at'++(sC++zl (444-at'.length)):=by
 unfold iR;rw[<- aXR,List.drop_left' (by rw[aXD,N4,bF])]
theorem uS(n:Nat):aM (zl n):=fun x hx=>by
 have:=List.eq_of_mem_replicate hx;omega
theorem lB(n:Int):∀k,aM (bK n k)
 |0=>fun x hx=>by cases hx
 | k+1=>by
  rw[bK];refine bN (lB n k) (fun x hx=>?_)
  have:=List.mem_singleton.1 hx;omega
theorem N5:aM sC:=fun x hx=>by
 simp[sC] at hx;omega
theorem Ja(r:cI)(u:Int)(at':List Int)(h:aM at'):aM (iR r u at'):=by
 unfold iR rhd;refine bN ?_ (bN (uS _) (bN h (bN N5 (uS _))));refine bN (fun x hx=>?_) ?_
 simp at hx;omega;exact bN (uS _) (bN (lB _ _) (bN (uS _) (bN (lB _ _) (bN (lB _ _) (bN (lB _ _) (bN (lB _ _) (bN (lB _ _) (bN (lB _ _) (bN (lB _ _) (bN (lB _ _) (lB _ _)))))))))))
set_option maxHeartbeats 1000000 in
theorem aPd(r:cI)(u:Int)(at':List Int):gL (iR r u at') 8 4=gv (bK r.ls 4)/\gL (iR r u at') 16 2=gv (bK r.sq 2)/\gL (iR r u at') 18 2=gv (bK r.li 2)/\gL (iR r u at') 22 2=gv (bK r.fl 2)/\gL (iR r u at') 24 4=gv (bK u 4)/\
  gL (iR r u at') 32 4=gv (bK r.br 4)/\gL (iR r u at') 36 2=gv (bK r.bq 2)/\gL (iR r u at') 38 2=gv (bK r.nx 2):=by
 unfold iR rhd;simp only[aXR];refine⟨?_,?_,?_,?_,?_,?_,?_,?_⟩;all_goals simp (disch:=first|omega|(simp only[bF,aB,aXE,aXH]<;>omega)|fail) only[gS,Nq,bF,aB,Nat.reduceSub,aYs,aXE,aXH,Nat.reduceAdd]
theorem R7{r:cI}(h:r.Ok)(u:Int)(at':List Int)(l:List aJ):jL (iR r u at') l=Vg r l:=by
 obtain⟨n1,n2,n3,n4,n5⟩:=h.num;obtain⟨n6,n7⟩:=h.base;obtain⟨b1,b2,b3,b4,b5,b6,b7,b8⟩:=aPd r u at';unfold jL Vg;rw[b1,b2,b3,b4,b6,b7,b8,gv4 _ (by omega),gv2 _ (by omega),gv2 _ (by omega),gv2 _ (by omega),gv4 _ (by omega),gv2 _ (by omega),gv2 _ (by omega)]
theorem Ys:∀(k:Nat) (s:List Int) (ps:List (List Int)),Ao k s=some ps->ps.flatten.length+4<=s.length/\s.take ps.flatten.length=ps.flatten/\(s.drop ps.flatten.length).take 4=sC/\∀p∈ps,24<=p.length/\p.length<=s.length
 |0,s,ps,h=>by cases h
 | k+1,s,ps,h=>by
  unfold Ao at h;split at h
  ·rename_i c;injection h with h
   subst h;have hl:(s.take 4).length=4:=by rw[c];rfl
   rw[aXK] at hl;refine⟨by simp only[List.flatten_nil,aXH];omega,rfl,c,fun p hp=>by cases hp⟩
  ·split at h
   ·cases h
   ·split at h
    ·cases h
    ·rename_i c1 c2 c3;obtain⟨qs,hq,rfl⟩:=Option.map_eq_some_iff.1 h;obtain⟨g1,g2,g3,g4⟩:=Ys k _ qs hq;unfold I7 at c3;have hl:(s.take (zK s)).length=zK s:=by rw[aXK];omega
     rw[aXS] at g1;rw[aYA,aXD,hl];refine⟨by omega, ?_, ?_,fun p hp=>?_⟩
     ·rw[List.take_add,g2]
     ·rw[<- List.drop_drop,g3]
     ·rcases aYR.1 hp with rfl | hp
      ·rw[hl];omega
      ·have:=g4 p hp;rw[aXS] at this;omega
theorem Yt:∀(k m:Nat) (s:List Int),s.length<k->k<=m->Ao m s=Ao k s
 |0,m,s,h,_=>by omega
 |k+1,0,s,_,h=>by omega
 | k+1,m+1,s,h,hm=>by
  unfold Ao;split
  ·rfl
  ·split
   ·rfl
   ·split
    ·rfl
    ·rename_i c1 c2 c3;unfold I7 at c3;rw[Yt k m _ (by rw[aXS];omega) (by omega)]
theorem Yu(s:List Int):Cf s=if s.take 4=sC then some [] else if s.length<24 then none else if I7 s then none else (Cf (s.drop (zK s))).map (s.take (zK s)::·):=by
 show Ao (s.length+1) s=_;rw[Ao];split;rfl;split;rfl;split;rfl;rename_i c1 c2 c3;unfold I7 at c3;rw[Cf,Yt ((s.drop (zK s)).length+1) s.length _ (by omega) (by rw[aXS];omega)]
theorem aPe{n:Int}(h:n∈Lb):bK n 4≠sC:=by
 intro e;have h1:gv (bK n 4)=gv sC:=by rw[e]
 have h2:0<=n/\n<=192:=by
  simp only[Lb,aYR,List.not_mem_nil,or_false] at h;omega
 rw[gv4 _ (by omega)] at h1;simp only[gv,sC] at h1;omega
theorem R8(z:List Int):∀l:List aJ,(∀a∈l,a.W/\fK a=0)->Cf ((l.map dX).flatten++(sC++z))=some (l.map dX)
 | [],_=>by
  rw[Yu,if_pos (by rfl)];rfl
 | a::l,h=>by
  obtain⟨hW,he⟩:=h a aXV;obtain⟨e1,e2,e3,e4,e5,e6,e7⟩:=N3 hW he;have ih:=R8 z l (fun b hb=>h b (aX3 _ hb))
  rw[aXL,aYA,aXR];have ht:4<=((l.map dX).flatten++(sC++z)).length:=by
   simp only[aXD,sC,aXE,aXH];omega
  generalize (l.map dX).flatten++(sC++z)=t at *;have hty:=(lA hW he).ty;have n1:zK (dX a++t)=fQ a:=by
   have g:gL (dX a++t) 4 4=gL (dX a) 4 4:=by
    unfold gL;rw[List.drop_append_of_le_length (by omega),aY3 (by rw[aXS];omega)]
   unfold zK;rw[g,e7];omega
  have hlen:(dX a++t).length=fQ a+t.length:=by rw[aXD,e2]
  rw[Yu,if_neg,if_neg,if_neg,n1,List.drop_left' e2,ih,aYX e2]
  ·rfl
  ·unfold I7;rw[n1];omega
  ·omega
  ·rw[aY3 (by omega),e6];exact aPe hty
theorem R9:∀l:List aJ,(∀a∈l,a.W/\fK a=0)->iX (l.map dX)=(l,0)
 |[],_=>rfl
 | a::l,h=>by
  obtain⟨hW,he⟩:=h a aXV;have ih:=R9 l (fun b hb=>h b (aX3 _ hb))
  have e:cK (dX a)=(a,0):=by rw[(Ce hW he).1,aBH hW he]
  rw[aXL,iX,e,ih];rfl
theorem Yv:∀ps:List (List Int),(∀p∈ps,aM p/\p.length<=1000)->((iX ps).2=0->(iX ps).1.map dX=ps/\∀a∈(iX ps).1,fK a=0)/\(∀a∈(iX ps).1,a.W)/\(iX ps).1.length<=ps.length/\((iX ps).2≠0->(iX ps).1=[])
 |[],_=>⟨fun _=>⟨rfl,fun a h=>by cases h⟩,fun a h=>(by cases h),aXF _,fun _=>rfl⟩
 | p::t,h=>by
  obtain⟨hB,hl⟩:=h p aXV;obtain⟨i1,i2,i3,i4⟩:=Yv t (fun q hq=>h q (aX3 _ hq))
  have d0:=aKj hB hl;have dW:=(aKi hB hl).1;rw[iX];split
  ·rename_i c;exact⟨fun e=>absurd e c,fun a h=>(by cases h),aXX _,fun _=>rfl⟩
  ·rename_i c;split
   ·rename_i c2;exact⟨fun e=>absurd e c2,fun a h=>(by cases h),aXX _,fun _=>rfl⟩
   ·rename_i c2;obtain⟨z1,z2⟩:=d0 (Classical.not_not.1 c);obtain⟨j1,j2⟩:=i1 (Classical.not_not.1 c2);refine⟨fun _=>⟨by rw[aXL,z2,j1],fun a ha=>?_⟩,fun a ha=>?_,by simpa using i3,fun e=>absurd rfl e⟩
    ·rcases aYR.1 ha with rfl | ha
     ·exact z1
     ·exact j2 a ha
    ·rcases aYR.1 ha with rfl | ha
     ·exact dW
     ·exact i2 a ha
theorem aPf{s:List Int}(hs:s.length=512)(hB:aM s)(hw:mR s):1<=qG s/\qG s<=65535:=by
 have h1:=Ux hB 40;have h2:=hw.1;unfold qG at h2 ⊢;omega
theorem Sa{s:List Int}(hs:s.length=512)(hB:aM s):aM (jJ s):=by
 intro x hx;obtain⟨j,hj,rfl⟩:=List.mem_iff_getElem.1 hx;have e:(jJ s)[j]=(jJ s).getD j 0:=by simp[aXN,hj]
 rw[e,aMa hs];split;omega;unfold opG;split;exact Ir hB _;exact Ir hB _
end
section
variable {G:aE}{bb:Bool}
structure G9 (G:aE):Prop where
 sq:G 0=some [ci 16,ci 2]
 li:G 1=some [ci 18,ci 2]
 fl:G 2=some [ci 22,ci 2]
 ba:G 3=some [ci 32,ci 4]
 bo:G 4=some [ci 36,ci 2]
 nx:G 5=some [ci 38,ci 2]
 ls:G 6=some [ci 8,ci 4]
 fi:G 7=some [ci 20,ci 2]
 en:G 8=some [ci 24,ci 4]
 si:G 9=some [ci 28,ci 4]
abbrev J9(a k:Int):AV:=.agg [.dc (ci a),.dc (ci k)]
theorem aPg(l:List Int)(a k:Nat)(n:Int)(N:Nat)(hN:l.length=N)(h:a+k<=N)(hl:N<=1000000)(hn:-9223372036854775808<=n/\n<=9223372036854775807):
  EV G (Tb (bs bb)) 263 [J9 a k,.one (.bls 0 0 N 1),vi n] [yb l]=some (.tup [],[yb (aW l a n k)]):=by
 refine aA rfl ?_;simp (disch:=omega) only[go_sem,h263c];rw[aR (fun j=>⟨(jk 1 (.one (.bls 0 0 N 1)::vi (Ee n j)::.one (.ptr 1 0)::jk 4 (vi k::vi j::jk 13 []))),[yb (aW l a n j),.box [.dc (ci a),.dc (ci k)]]⟩) k ?_ ?_]
 simp (disch:=omega) only[go_sem,h263l0];rfl;intro j hj;have h1:=cW l a n j;have h2:=Uo n hn j;have h3:=aEZ (aW l a n j) (a+j) (Ee n j % 256) (by omega);simp (disch:=omega) only[go_sem,h263l0,aXC,h1,wu8,Int.reduceToNat,Int.reducePow,Fx,Ee,aW,h3]
theorem lZ(l:List Int)(a k:Nat)(n:Int)(hN:l.length=512)(h:a+k<=512)(hn:-9223372036854775808<=n/\n<=9223372036854775807):
 EV G (Tb (bs bb)) 263 [J9 a k,.one (.bls 0 0 512 1),vi n] [yb l]=some (.tup [],[yb (aW l a n k)]):=aPg l a k n 512 hN h (by decide) hn
structure aPh (r:cI):Prop where
 sq:-9223372036854775808<=r.sq/\r.sq<=9223372036854775807
 li:-9223372036854775808<=r.li/\r.li<=9223372036854775807
 fl:-9223372036854775808<=r.fl/\r.fl<=9223372036854775807
 br:-9223372036854775808<=r.br/\r.br<=9223372036854775807
 bq:-9223372036854775808<=r.bq/\r.bq<=9223372036854775807
 nx:-9223372036854775808<=r.nx/\r.nx<=9223372036854775807
 ls:-9223372036854775808<=r.ls/\r.ls<=9223372036854775807
theorem cI.Ok.n9{r:cI}(hO:r.Ok):aPh r:=by
 obtain⟨n1,n2,n3,n4,n5⟩:=hO.num;obtain⟨n6,n7⟩:=hO.base;exact⟨by omega,by omega,by omega,by omega,by omega,by omega,by omega⟩
set_option maxHeartbeats 8000000 in
theorem Yw(hG:G9 G)(r:cI)(at':List Int)(hN:aPh r)(ha:at'.length<=444)(hB:aM at'):EV G (Tb (bs bb)) 211 [r.v,sv at'] []=some (sv (iR r (68+(at'.length:Int)) at'),[]):=by
 refine aA rfl ?_;obtain⟨n1,n2,n3,n4,n5,n6,n7⟩:=hN;have hp:=aPc r at' ha;rw[<- hp];unfold pbl;have l0:(fG (zl 512) 0 [70,73,76,69]).length=512:=by rw[cP (by rw[bF];decide),bF]
 have e0:dZ (70::73::76::69::List.take 508 [])++List.drop (dZ (70::73::76::69::List.take 508 [])).length (List.map yC (zl 512))=(fG (zl 512) 0 [70,73,76,69]).map yC:=by
  have h:=oO (zl 512) [70,73,76,69] 0 4 (fun x hx=>by simp at hx;omega) (by decide)
  rw[Xs] at h;exact h
 have r0:List.replicate 512 (aT.dc (DC.raw (Value.int .u8 0)))=(zl 512).map yC:=Ng 512;generalize fG (zl 512) 0 [70,73,76,69]=b0 at *;have p1:EV G (Tb (bs bb)) 263 [J9 8 4,.one (.bls 0 0 512 1),vi r.ls] [yb b0]=some (.tup [],[yb (aW b0 8 r.ls 4)]):=lZ (G:=G) (bb:=bb) b0 8 4 r.ls l0 (by decide) (by omega);have l1:(aW b0 8 r.ls 4).length=512:=by rw[cW,l0]
 generalize aW b0 8 r.ls 4=b1 at *;have p2:EV G (Tb (bs bb)) 263 [J9 16 2,.one (.bls 0 0 512 1),vi r.sq] [yb b1]=some (.tup [],[yb (aW b1 16 r.sq 2)]):=lZ (G:=G) (bb:=bb) b1 16 2 r.sq l1 (by decide) (by omega);have l2:(aW b1 16 r.sq 2).length=512:=by rw[cW,l1]
 generalize aW b1 16 r.sq 2=b2 at *;have p3:EV G (Tb (bs bb)) 263 [J9 18 2,.one (.bls 0 0 512 1),vi r.li] [yb b2]=some (.tup [],[yb (aW b2 18 r.li 2)]):=lZ (G:=G) (bb:=bb) b2 18 2 r.li l2 (by decide) (by omega);have l3:(aW b2 18 r.li 2).length=512:=by rw[cW,l2]
 generalize aW b2 18 r.li 2=b3 at *;have p4:EV G (Tb (bs bb)) 263 [J9 20 2,.one (.bls 0 0 512 1),vi 64] [yb b3]=some (.tup [],[yb (aW b3 20 64 2)]):=lZ (G:=G) (bb:=bb) b3 20 2 64 l3 (by decide) (by omega);have l4:(aW b3 20 64 2).length=512:=by rw[cW,l3]
 generalize aW b3 20 64 2=b4 at *;have p5:EV G (Tb (bs bb)) 263 [J9 22 2,.one (.bls 0 0 512 1),vi r.fl] [yb b4]=some (.tup [],[yb (aW b4 22 r.fl 2)]):=lZ (G:=G) (bb:=bb) b4 22 2 r.fl l4 (by decide) (by omega);have l5:(aW b4 22 r.fl 2).length=512:=by rw[cW,l4]
 generalize aW b4 22 r.fl 2=b5 at *;have p6:EV G (Tb (bs bb)) 263 [J9 24 4,.one (.bls 0 0 512 1),vi (68+(at'.length:Int))] [yb b5]=some (.tup [],[yb (aW b5 24 (68+(at'.length:Int)) 4)]):=lZ (G:=G) (bb:=bb) b5 24 4 (68+(at'.length:Int)) l5 (by decide) (by omega);have l6:(aW b5 24 (68+(at'.length:Int)) 4).length=512:=by rw[cW,l5]
 generalize aW b5 24 (68+(at'.length:Int)) 4=b6 at *;have p7:EV G (Tb (bs bb)) 263 [J9 28 4,.one (.bls 0 0 512 1),vi 512] [yb b6]=some (.tup [],[yb (aW b6 28 512 4)]):=lZ (G:=G) (bb:=bb) b6 28 4 512 l6 (by decide) (by omega);have l7:(aW b6 28 512 4).length=512:=by rw[cW,l6]
 generalize aW b6 28 512 4=b7 at *;have p8:EV G (Tb (bs bb)) 263 [J9 32 4,.one (.bls 0 0 512 1),vi r.br] [yb b7]=some (.tup [],[yb (aW b7 32 r.br 4)]):=lZ (G:=G) (bb:=bb) b7 32 4 r.br l7 (by decide) (by omega);have l8:(aW b7 32 r.br 4).length=512:=by rw[cW,l7]
 generalize aW b7 32 r.br 4=b8 at *;have p9:EV G (Tb (bs bb)) 263 [J9 36 2,.one (.bls 0 0 512 1),vi r.bq] [yb b8]=some (.tup [],[yb (aW b8 36 r.bq 2)]):=lZ (G:=G) (bb:=bb) b8 36 2 r.bq l8 (by decide) (by omega);have l9:(aW b8 36 r.bq 2).length=512:=by rw[cW,l8]
 generalize aW b8 36 r.bq 2=b9 at *;have p10:EV G (Tb (bs bb)) 263 [J9 38 2,.one (.bls 0 0 512 1),vi r.nx] [yb b9]=some (.tup [],[yb (aW b9 38 r.nx 2)]):=lZ (G:=G) (bb:=bb) b9 38 2 r.nx l9 (by decide) (by omega);have l10:(aW b9 38 r.nx 2).length=512:=by rw[cW,l9]
 generalize aW b9 38 r.nx 2=b10 at *;have ef:(dL at':ByteArray)++⟨#[255,255,255,255]⟩=dL (at'++sC):=by
  have:=Fw at' sC;exact this
 have eb:eP .add (sv at') (.one (.dc (.raw (.string ⟨#[255,255,255,255]⟩))))=some (sv (at'++sC)):=by
  rw[Bl (by rw[aF];show at'.length+4<=_;omega),ef]
 have hBf:aM (at'++sC):=fun x hx=>by
  rcases aYV.1 hx with hx | hx
  ·exact hB x hx
  ·exact N5 x hx
 have lf:(at'++sC).length=at'.length+4:=by rw[aXD];rfl
 have ec:=oO b10 (at'++sC) 64 448 hBf (by omega);have lc:(fG b10 64 (at'++sC)).length=512:=by rw[cP (by rw[lf,l10];omega),l10]
 have ez:iV (List.take 512 (List.map yC (fG b10 64 (at'++sC))))=some ((fG b10 64 (at'++sC)).map u8):=by rw[B3 _ _ (by omega),kN]
 have e68:(64:Int)+(at'.length:Int)+4=68+(at'.length:Int):=by omega
 generalize fG b10 64 (at'++sC)=z at *;have g1:=hG.sq;have g2:=hG.li;have g3:=hG.fl;have g4:=hG.ba;have g5:=hG.bo;have g6:=hG.nx;have g7:=hG.ls;have g8:=hG.fi;have g9:=hG.en;have g10:=hG.si;simp (disch:=omega) only[go_sem,h211c,aXC,bF,r0,e0,p1,p2,p3,p4,p5,p6,p7,p8,p9,p10,g1,g2,g3,g4,g5,g6,g7,g8,g9,g10,l0,l1,l2,l3,l4,l5,l6,l7,l8,l9,l10,eb,aF,lf,ec,lc,ez,Q2,e68,Int.reduceToNat,dA]
end
section
variable {G:aE}{bb:Bool}
theorem tQ(l:List Int)(hB:aM l)(a k:Nat)(ha:a+k<=l.length)(hk:k<=4)(hl:l.length<=1000000):EV G (Tb (bs bb)) 209 [J9 a k,sv l] []=some (vi (gL l a k),[]):=by
 refine aA rfl ?_;simp (disch:=first|omega|(simp only[aXD,aXE,aXH,aXC,aB];omega)) only[go_sem,h209c]
 rw[aR (fun j=>⟨(jk 1 (sv l::.one (.ptr 0 0)::jk 2 (vi (gL l (a+k-j) j)::vi ((k:Int)-1-j)::jk 18 []))),[.box [.dc (ci a),.dc (ci k)]]⟩) k ?_ ?_]
 have e:a+k-k=a:=by omega
 have e2:¬ 0<=(k:Int)-1-(k:Int):=by omega
 simp (disch:=first|omega|(simp only[aXD,aXE,aXH,aXC,aB];omega)) only[go_sem,h209l0,e,e2]
 simp[gL,gv,jk];intro j hj;have hx:=hB _ (aXM (show a+k-1-j<l.length by omega));have g1:=tL hB (a+k-j) j (by omega);have e1:gL l (a+k-(j+1)) (j+1)=gL l (a+k-j) j*256+l[a+k-1-j]'(by omega):=by
  have:a+k-(j+1)<l.length:=by omega
  rw[aOU l _ j this,show a+k-(j+1)+1=a+k-j by omega,Int.mul_comm];rw[Int.add_comm];congr 1;congr 1;omega
 have e2:0<=(k:Int)-1-(j:Int):=by omega
 rw[e1];generalize gL l (a+k-j) j=z at g1 ⊢;have eN:((a:Int)+((k:Int)-1-(j:Int))).toNat=a+k-1-j:=by omega
 have hu:=iW _ hx;have o:=orL z _ (by omega) hx;simp (disch:=first|omega|(simp only[aXD,aXE,aXH,aXC,aB];omega)) only[go_sem,h209l0,eq_true e2,aYo,eN,hu,Int.reduceToNat,Int.reducePow,o]
 rw[show (k:Int)-1-(j:Int)-1=(k:Int)-1-((j:Int)+1) by omega]
end
end Go.Proofs.YthepfneloomngaaGreatDoor
