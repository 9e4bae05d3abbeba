/- Part. Conditions: none. -/
import Derived.Test.YtalhnjjchkmfeaaGreatDoorVo
import Derived.Test.YtalhnjjchkmfeaaGreatDoorTy
import Derived.Test.YtalhnjjchkmfeaaGreatDoorUw
import Derived.Test.YtalhnjjchkmfeaaGreatDoorSo
namespace Go.Proofs.YtalhnjjchkmfeaaGreatDoor
set_option maxHeartbeats 8000000
set_option linter.unusedSimpArgs false
set_option linter.unusedVariables false
set_option maxRecDepth 4000
section
variable {G:aF}{bb:Bool}
end
section
variable {G:aF}{bb:Bool}
theorem aMq{s:L Int}(a:aJ s)(b:s.length<=1000):(bN s).1.W/\((bN s).2=0\/(bN s).1=aI.nil):=by
 unfold bN;split;exact⟨aI.nil_W,.inr rfl⟩;split;exact⟨aI.nil_W,.inr rfl⟩;rename_i c;split;exact⟨aI.nil_W,.inr rfl⟩;have h:(qW s).2=true:=by
  cases h:(qW s).2 with
  |true=>rfl
  |false=>exact absurd (.inl h) c
 exact⟨(Qm a b h).w,.inl rfl⟩
theorem H8{a:aI}(c:a.W)(h:gI a=0):gY a=gQ a/\(gQ a).length=eY a/\eY a<=440/\eY a % 8=0:=by
 have d:=nC c h;have b:=d.dc;refine⟨by unfold gY;rw[if_pos h,Ag b],by rw[<- Ag b,nN a b.bd],?_,(Gq a).2.2.2.1⟩;have:=rR c;unfold gY at this;rw[if_pos h,nN a b.bd] at this;exact this
theorem aDB{a:aI}(b:a.W)(h:gI a=0):bN (gQ a)=(a,0):=by
 obtain⟨d,f,i,j⟩:=H8 b h;have c:=(nC b h).dc;have e:=Uu c;unfold bN;rw[if_neg (by omega),e];simp only;rw[if_neg (fun g=>g.elim (fun g=>by cases g) (fun g=>g (Ag c))),if_neg (fun g=>g h)]
theorem aMr{s:L Int}(e:aJ s)(f:s.length<=1000)(h:(bN s).2=0):gI (bN s).1=0/\gY (bN s).1=s:=by
 unfold bN at h ⊢;split at h;exact absurd h (by decide);rename_i d;rw[if_neg d];split at h;exact absurd h (by decide);rename_i b;rw[if_neg b];split at h;rename_i a;exact absurd h a;rename_i a;rw[if_neg a];have c:=Classical.not_not.1 a;refine⟨c,?_⟩;unfold gY;rw[if_pos c];exact Classical.byContradiction (fun g=>b (.inr g))
end
section
variable {G:aF}{bb:Bool}
end
section
variable {G:aF}{bb:Bool}
structure cL where
 sq:Int
 li:Int
 fl:Int
 br:Int
 bq:Int
 nx:Int
 ls:Int
 ats:List aI
abbrev cL.c(r:cL):L aV:=[.dc (ci r.sq),.dc (ci r.li),.dc (ci r.fl),.dc (ci r.br),.dc (ci r.bq),.dc (ci r.nx),.dc (ci r.ls),.dc (.slc (r.ats.map aI.e))]
abbrev cL.v(r:cL):AV:=.agg r.c
abbrev cL.t(r:cL):TV:=.agg r.c
def cL.nil:cL:=⟨0,0,0,0,0,0,0,[]⟩
structure cL.W (r:cL):Prop where
 at':∀a∈r.ats,a.W
 ln:r.ats.length<=900
theorem cL.nil_W:cL.nil.W:=⟨fun a h=>(by cases h),by decide⟩
abbrev rcv(p:cL×Int):AV:=.tup [p.1.t,.one (.dc (ci p.2))]
def aDC(a b:Int):Int:=if (0<=a/\a<=95)/\(1<=b/\b<=65535) then 0 else 2
def Br(a b:Int):Int:=if a=0/\b=0 then 0 else aDC a b
def fU(f:Int):Bool:=decide (f % 2=1)
def dD(l:L aI):Int:=(l.map fun a=>((gY a).length:Int)).sum
def tY(r:cL):Bool:=decide (1<=r.sq/\r.sq<=65535)&&(decide (0<=r.li/\r.li<=65535)&&(decide (0<=r.fl/\r.fl<=3)&&(decide (0<=r.nx/\r.nx<=65535)&&decide (0<=r.ls/\r.ls<=2147483647))))
def Mb(r:cL):Bool:=decide (r.fl=0)&&(decide (r.ats=[])&&(decide (r.li=0)&&(decide (r.br=0/\r.bq=0)&&decide (r.nx=0))))
def Wh(r:cL):Int:=aU [un (tY r) 2,Br r.br r.bq,un (fU r.fl||Mb r) 3]
noncomputable def Wi(r:cL):Int:=jA (fun a=>decide (r.nx<=a.id)) r.ats
noncomputable def Aj(r:cL):Int×Int:=if Wh r≠0 then (0,Wh r) else if (nP r.ats).2≠0 then nP r.ats else if 0<=Wi r then (Wi r,9) else (0,un (decide (dD r.ats<=440)) 16)
noncomputable def hZ(r:cL):Int:=(Aj r).2
def bV(a:aI)(i:Int):aI:=⟨a.ty,a.nm,i,a.fl,a.res,a.va,a.fi,a.rs,a.al,a.sz,a.vd⟩
def Fs(r:cL)(a:aI):Bool:=!decide (a.ty=48)&&r.ats.any fun b=>nV a b
noncomputable def U1(r:cL):Int:=aU [hZ r,un (fU r.fl) 20,un (decide (r.nx<65535)) 16]
def U2(r:cL)(a:aI):Int:=aU [gI (bV a r.nx),un (!Fs r a) 5,un (decide (r.ats.length<32)) 8]
def pN(r:cL)(a:aI):cL:=⟨r.sq,r.li,r.fl,r.br,r.bq,r.nx+1,r.ls,fJ (r.ats++[bV a r.nx])⟩
noncomputable def Yw(r:cL)(a:aI):cL×Int:=if U1 r≠0 then (.nil,U1 r) else if U2 r a≠0 then (.nil,U2 r a) else if dD (pN r a).ats<=440 then (pN r a,0) else (.nil,16)
def Yx(r:cL)(l:L aI):cL:=⟨r.sq,r.li,r.fl,r.br,r.bq,r.nx,r.ls,l⟩
def aMs(q f a b:Int):Int:=aU [un (decide (1<=q/\q<=65535)&&(decide (f=1)||decide (f=3))) 2,Br a b]
def aVI(q f a b:Int):cL×Int:=if aMs q f a b≠0 then (.nil,aMs q f a b) else (⟨q,0,f,a,b,0,0,[]⟩,0)
def rhd(r:cL)(u:Int):L Int:=[70,73,76,69]++(zl 4++(bJ r.ls 4++(zl 4++(bJ r.sq 2++(bJ r.li 2++(bJ 64 2++(bJ r.fl 2++(bJ u 4++(bJ 512 4++(bJ r.br 4++(bJ r.bq 2++bJ r.nx 2)))))))))))
def rV:L Int:=[255,255,255,255]
def iO(r:cL)(u:Int)(a:L Int):L Int:=rhd r u++(zl 24++(a++(rV++zl (444-a.length))))
def jZ(r:cL):L Int:=(r.ats.map gY).flatten
noncomputable def aMt(r:cL)(u:Int):Int:=aU [hZ r,un (decide (1<=u/\u<=65535)) 2]
def oQ(r:cL)(u:Int):L Int:=nD (iO r (68+(jZ r).length) (jZ r)) u 8
noncomputable def Gs(r:cL)(u:Int):L Int×Int:=if aMt r u≠0 then ([],aMt r u) else (oQ r u,0)
def pO(s:L Int):Nat:=(gL s 4 4).toNat
def Ft(s:L Int):Prop:=pO s % 8≠0\/pO s<24\/s.length<pO s+4
instance (s:List Int):Decidable (Ft s):=by unfold Ft;infer_instance
def rW:Nat->L Int->Option (L (L Int))
 |0,_=>none
 |k+1,s=>if s.take 4=rV then some [] else if s.length<24 then none else if Ft s then none else (rW k (s.drop (pO s))).map (s.take (pO s)::·)
def Ak(s:L Int):Option (L (L Int)):=rW (s.length+1) s
def dZ(o:L Int)(l:L aI):cL:=⟨gL o 16 2,gL o 18 2,gL o 22 2,gL o 32 4,gL o 36 2,gL o 38 2,gL o 8 4,l⟩
noncomputable def iK:L (L Int)->L aI×Int
 |[]=>([],0)
 |p::t=>if (bN p).2≠0 then ([],(bN p).2) else if (iK t).2≠0 then ([],(iK t).2) else ((bN p).1::(iK t).1,0)
noncomputable def U3(s:L Int)(a:L (L Int)):cL×Int×Int:=if iO (dZ (eQ s) []) (68+a.flatten.length) a.flatten≠eQ s then (.nil,0,3) else if (iK a).2≠0 then (.nil,0,(iK a).2) else
 if hZ (dZ (eQ s) (iK a).1)≠0 then (.nil,0,hZ (dZ (eQ s) (iK a).1)) else (dZ (eQ s) (iK a).1,gR s,0)
open Classical in
noncomputable def dG(s:L Int):cL×Int×Int:=if s.length≠512 then (.nil,0,10) else if ¬ gU s then (.nil,0,31) else match Ak ((eQ s).drop 64) with
 |none=>(.nil,0,3)
 |some a=>U3 s a
end
section
variable {G:aF}{bb:Bool}
theorem Kx{l:L aI}(h:(nP l).2=0):l.length<=32/\∀k,k<l.length->lN l k=0:=by
 unfold nP at h;split at h;exact absurd h (by decide);rename_i c;refine⟨by omega,?_⟩;obtain⟨e,hp,d⟩:=bF (fun k=>lN l k≠0) l.length
 generalize ix (fun k=>lN l k≠0) l.length=m at *
 split at h;rename_i b;rcases hp with hp|⟨_,hp⟩
 omega;exact absurd h hp;rename_i b;exact fun k a=>Classical.not_not.1 (d k (by omega))
theorem U4{l:L aI}(h:(nP l).2=0):∀k,k<l.length->kT l k=0:=by
 intro k c;have a:=(Kx h).2 k c;by_cases b:k=0;subst b;unfold lN at a;rwa[if_pos rfl] at a;exact (Kf b c a).1
structure cL.Ok (r:cL):Prop where
 nb:tY r=true
 be:Br r.br r.bq=0
 us:(fU r.fl||Mb r)=true
 od:(nP r.ats).2=0
 gt:Wi r<0
 nd:dD r.ats<=440
theorem Bb{a b c:Int}(h:aU [a,b,c]=0):a=0/\b=0/\c=0:=by
 by_cases d:a=0;subst d;rw[aW] at h;by_cases e:b=0;subst e;rw[aW] at h;by_cases h3:c=0;exact⟨rfl,rfl,h3⟩;rw[aZ _ _ h3] at h;exact absurd h h3;rw[aZ _ _ e] at h;exact absurd h e;rw[aZ _ _ d] at h;exact absurd h d
theorem aMu{a b:Int}(h:aU [a,b]=0):a=0/\b=0:=by
 by_cases c:a=0;subst c;rw[aW] at h;by_cases d:b=0;exact⟨rfl,d⟩;rw[aZ _ _ d] at h;exact absurd h d;rw[aZ _ _ c] at h;exact absurd h c
theorem aHS{b:Bool}{e:Int}(a:e≠0)(h:un b e=0):b=true:=by
 cases b with
 |true=>rfl
 |false=>exact absurd h a
theorem Ee{r:cL}(h:hZ r=0):r.Ok:=by
 unfold hZ Aj at h;split at h;rename_i c;exact absurd h c;rename_i c;obtain⟨a,b,h3⟩:=Bb (Classical.not_not.1 c);split at h;rename_i d;exact absurd h d;rename_i d;split at h;exact absurd h (show ¬ (9:Int)=0 by decide);rename_i g;exact⟨aHS (by decide) a,b,aHS (by decide) h3,Classical.not_not.1 d,by omega,of_decide_eq_true (aHS (by decide) h)⟩
theorem cL.Ok.num{r:cL}(h:r.Ok):(1<=r.sq/\r.sq<=65535)/\(0<=r.li/\r.li<=65535)/\(0<=r.fl/\r.fl<=3)/\(0<=r.nx/\r.nx<=65535)/\(0<=r.ls/\r.ls<=2147483647):=by
 have:=h.nb;simpa only[tY,aZO,decide_eq_true_eq] using this
theorem cL.Ok.base{r:cL}(h:r.Ok):(0<=r.br/\r.br<=95)/\(0<=r.bq/\r.bq<=65535):=by
 have:=h.be;unfold Br aDC at this;split at this;omega;split at this;omega;exact absurd this (by decide)
theorem cL.Ok.errs{r:cL}(h:r.Ok):(∀a∈r.ats,gI a=0)/\(r.ats.map aI.id).Nodup:=(A7 r.ats).1 (U4 h.od)
theorem cL.Ok.ln{r:cL}(h:r.Ok):r.ats.length<=32:=(Kx h.od).1
theorem Qr{a:aI}(d:a.W)(h:gI a=0):aJ (gY a)/\(gY a).length=eY a/\24<=eY a/\eY a<=440/\eY a % 8=0/\(gY a).take 4=bJ a.ty 4/\gL (gY a) 4 4=eY a:=by
 obtain⟨b,e,f,g⟩:=H8 d h;have i:=(nC d h).dc;have h24:24<=eY a:=by
  have o:=Gq a;have:24<=sU a:=by unfold sU;split<;>omega
  omega
 have c:∃t,gQ a=bJ a.ty 4++(bJ (eY a) 4++t):=by
  unfold gQ;exact⟨_,aZP ..⟩
 obtain⟨t,c⟩:=c;refine⟨by rw[b];exact Ec i,by rw[b,e],h24,f,g,?_,?_⟩;rw[b,c,bAW (aA _ _)];rw[b,c,iJ _ _ _ _ (by rw[aA];omega),aA,bAr,Qk _ _ _ (aA _ _),gv4 _ (by omega)]
theorem N7(l:L aI):(((l.map gY).flatten.length:Nat):Int)=dD l:=by
 induction l with
 |nil=>rfl
 |cons a l b=>
  unfold dD at b ⊢;simp only[aZL,bAx,aZA,List.sum_cons];omega
theorem U5{r:cL}(h:r.Ok):(jZ r).length<=440:=by
 have a:=N7 r.ats;have b:=h.nd;unfold jZ;omega
theorem N8{l:L (L Int)}(h:∀p∈l,aJ p):aJ l.flatten:=fun x a=>by
 obtain⟨p,hp,a⟩:=List.mem_flatten.1 a;exact h p hp x a
def pbl(r:cL)(a:L Int):L Int:=fE (bB (bB (bB (bB (bB (bB (bB (bB (bB (bB (fE (zl 512) 0 [70,73,76,69]) 8 r.ls 4) 16 r.sq 2) 18 r.li 2) 20 64 2) 22 r.fl 2) 24 (68+(a.length:Int)) 4) 28 512 4) 32 r.br 4) 36 r.bq 2) 38 r.nx 2) 64 (a++rV)
theorem aQ2(r:cL)(at':L Int)(h:at'.length<=444):pbl r at'=iO r (68+(at'.length:Int)) at':=by
 have a:512=4+(4+(4+(4+(2+(2+(2+(2+(4+(4+(4+(2+(2+(24+((at'.length+4)+(444-at'.length))))))))))))))):=by omega
 have b:zl 512=zl 4++(zl 4++(zl 4++(zl 4++(zl 2++(zl 2++(zl 2++(zl 2++(zl 4++(zl 4++(zl 4++(zl 2++(zl 2++(zl 24++(zl (at'.length+4)++zl (444-at'.length))))))))))))))):=by
  conv=>lhs;rw[a]
  simp only[Ym]
 unfold pbl iO rhd;rw[b,Qi _ _ _ _ rfl (by rw[aS];rfl)];simp (disch:=first|omega|(simp only[aS,aA,aZB,aZC]<;>omega)|fail) only[Ba,Fp,aS,aA,Nat.reduceSub,bAr,aZB,aZC,Nat.reduceAdd]
 simp (disch:=first|omega|(simp only[aS,aA,aZB,aZC,aZA,rV]<;>omega)|fail) only[Kr,Qi,aS,aA,Nat.reduceSub,bAr,aZB,aZC,Nat.reduceAdd]
 simp only[aZP]
theorem Qs(r:cL)(u:Int):(rhd r u).length=40:=by
 simp only[rhd,aZA,aS,aA,aZB,aZC,Nat.reduceAdd]
theorem Bc(r:cL)(u:Int)(a:L Int)(h:a.length<=444):(iO r u a).length=512:=by
 simp only[iO,aZA,Qs,aS,rV,aZB,aZC];omega
theorem aHT(r:cL)(u:Int)(a:L Int)(j:Nat)(b:40<=j)(c:j<58):(iO r u a).getD j 0=0:=by
 unfold iO;rw[Yq,Qs,if_neg (by omega),Yq,aS,if_pos (by omega),aBb]
theorem aHU(r:cL)(u:Int)(a:L Int):(iO r u a).drop 64=a++(rV++zl (444-a.length)):=by
 unfold iO;rw[<- aZP,List.drop_left' (by rw[aZA,Qs,aS])]
theorem Be(n:Nat):aJ (zl n):=fun x a=>by
 have:=List.eq_of_mem_replicate a;omega
theorem mE(n:Int):∀k,aJ (bJ n k)
 |0=>fun x a=>by cases a
 | k+1=>by
  rw[bJ];refine bQ (mE n k) (fun x a=>?_)
  have:=List.mem_singleton.1 a;omega
theorem H9:aJ rV:=fun x a=>by
 simp[rV] at a;omega
theorem Ef(r:cL)(u:Int)(a:L Int)(h:aJ a):aJ (iO r u a):=by
 unfold iO rhd;refine bQ ?_ (bQ (Be _) (bQ h (bQ H9 (Be _))));refine bQ (fun x b=>?_) ?_
 simp at b;omega;exact bQ (Be _) (bQ (mE _ _) (bQ (Be _) (bQ (mE _ _) (bQ (mE _ _) (bQ (mE _ _) (bQ (mE _ _) (bQ (mE _ _) (bQ (mE _ _) (bQ (mE _ _) (bQ (mE _ _) (mE _ _)))))))))))
theorem aHV(r:cL)(u:Int)(a:L Int):gL (iO r u a) 8 4=gv (bJ r.ls 4)/\gL (iO r u a) 16 2=gv (bJ r.sq 2)/\gL (iO r u a) 18 2=gv (bJ r.li 2)/\gL (iO r u a) 22 2=gv (bJ r.fl 2)/\gL (iO r u a) 24 4=gv (bJ u 4)/\ gL (iO r u a) 32 4=gv (bJ r.br 4)/\gL (iO r u a) 36 2=gv (bJ r.bq 2)/\gL (iO r u a) 38 2=gv (bJ r.nx 2):=by
 unfold iO rhd;simp only[aZP];refine⟨?_,?_,?_,?_,?_,?_,?_,?_⟩;all_goals simp (disch:=first|omega|(simp only[aS,aA,aZB,aZC]<;>omega)|fail) only[iJ,Qk,aS,aA,Nat.reduceSub,bAr,aZB,aZC,Nat.reduceAdd]
theorem U6{r:cL}(h:r.Ok)(u:Int)(a:L Int)(l:L aI):dZ (iO r u a) l=Yx r l:=by
 obtain⟨k,m,n,o,p⟩:=h.num;obtain⟨q,s⟩:=h.base;obtain⟨b,c,d,e,j,f,g,i⟩:=aHV r u a;unfold dZ Yx;rw[b,c,d,e,f,g,i,gv4 _ (by omega),gv2 _ (by omega),gv2 _ (by omega),gv2 _ (by omega),gv4 _ (by omega),gv2 _ (by omega),gv2 _ (by omega)]
theorem Qt:∀(k:Nat)(s:L Int)(a:L (L Int)),rW k s=some a->a.flatten.length+4<=s.length/\s.take a.flatten.length=a.flatten/\(s.drop a.flatten.length).take 4=rV/\∀p∈a,24<=p.length/\p.length<=s.length
 |0,s,a,h=>by cases h
 | k+1,s,a,h=>by
  unfold rW at h;split at h
  ·rename_i c;injection h with h
   subst h;have b:(s.take 4).length=4:=by rw[c];rfl
   rw[aZD] at b;refine⟨by simp only[List.flatten_nil,aZC];omega,rfl,c,fun p hp=>by cases hp⟩
  ·split at h
   ·cases h
   ·split at h
    ·cases h
    ·rename_i m n d;obtain⟨l,j,rfl⟩:=Option.map_eq_some_iff.1 h;obtain⟨e,f,g,i⟩:=Qt k _ l j;unfold Ft at d;have b:(s.take (pO s)).length=pO s:=by rw[aZD];omega
     rw[aZK] at e;rw[bAx,aZA,b];refine⟨by omega, ?_, ?_,fun p hp=>?_⟩
     ·rw[List.take_add,f]
     ·rw[<- bAw,g]
     ·rcases bAQ.1 hp with rfl | hp
      ·rw[b];omega
      ·have:=i p hp;rw[aZK] at this;omega
theorem aBe:∀(k m:Nat)(s:L Int),s.length<k->k<=m->rW m s=rW k s
 |0,m,s,h,_=>by omega
 |k+1,0,s,_,h=>by omega
 | k+1,m+1,s,h,d=>by
  unfold rW;split
  ·rfl
  ·split
   ·rfl
   ·split
    ·rfl
    ·rename_i b c a;unfold Ft at a;rw[aBe k m _ (by rw[aZK];omega) (by omega)]
theorem aBf(s:L Int):Ak s=if s.take 4=rV then some [] else if s.length<24 then none else if Ft s then none else (Ak (s.drop (pO s))).map (s.take (pO s)::·):=by
 show rW (s.length+1) s=_;rw[rW];split;rfl;split;rfl;split;rfl;rename_i b c a;unfold Ft at a;rw[Ak,aBe ((s.drop (pO s)).length+1) s.length _ (by omega) (by rw[aZK];omega)]
theorem aQ3{n:Int}(h:n∈Nj):bJ n 4≠rV:=by
 intro e;have a:gv (bJ n 4)=gv rV:=by rw[e]
 have b:0<=n/\n<=192:=by
  simp only[Nj,bAQ,bA8,or_false] at h;omega
 rw[gv4 _ (by omega)] at a;simp only[gv,rV] at a;omega
theorem U7(z:L Int):∀l:L aI,(∀a∈l,a.W/\gI a=0)->Ak ((l.map gY).flatten++(rV++z))=some (l.map gY)
 | [],_=>by
  rw[aBf,if_pos (by rfl)];rfl
 | a::l,h=>by
  obtain⟨e,f⟩:=h a aZT;obtain⟨p,c,q,r,s,k,m⟩:=Qr e f;have o:=U7 z l (fun b n=>h b (aZ3 _ n))
  rw[aZL,bAx,aZP];have u:4<=((l.map gY).flatten++(rV++z)).length:=by
   simp only[aZA,rV,aZB,aZC];omega
  generalize (l.map gY).flatten++(rV++z)=t at *;have d:=(nC e f).ty;have j:pO (gY a++t)=eY a:=by
   have g:gL (gY a++t) 4 4=gL (gY a) 4 4:=by
    unfold gL;rw[List.drop_append_of_le_length (by omega),bAS (by rw[aZK];omega)]
   unfold pO;rw[g,m];omega
  have i:(gY a++t).length=eY a+t.length:=by rw[aZA,c]
  rw[aBf,if_neg,if_neg,if_neg,j,List.drop_left' c,o,bAW c]
  ·rfl
  ·unfold Ft;rw[j];omega
  ·omega
  ·rw[bAS (by omega),k];exact aQ3 d
theorem U8:∀l:L aI,(∀a∈l,a.W/\gI a=0)->iK (l.map gY)=(l,0)
 |[],_=>rfl
 | a::l,h=>by
  obtain⟨c,d⟩:=h a aZT;have g:=U8 l (fun b f=>h b (aZ3 _ f))
  have e:bN (gY a)=(a,0):=by rw[(H8 c d).1,aDB c d]
  rw[aZL,iK,e,g];rfl
theorem aBg:∀b:L (L Int),(∀p∈b,aJ p/\p.length<=1000)->((iK b).2=0->(iK b).1.map gY=b/\∀a∈(iK b).1,gI a=0)/\(∀a∈(iK b).1,a.W)/\(iK b).1.length<=b.length/\((iK b).2≠0->(iK b).1=[])
 |[],_=>⟨fun _=>⟨rfl,fun a h=>by cases h⟩,fun a h=>(by cases h),aZE _,fun _=>rfl⟩
 | p::t,h=>by
  obtain⟨g,i⟩:=h p aZT;obtain⟨m,n,o,w⟩:=aBg t (fun q l=>h q (aZ3 _ l))
  have j:=aMr g i;have k:=(aMq g i).1;rw[iK];split
  ·rename_i c;exact⟨fun e=>absurd e c,fun a h=>(by cases h),aZV _,fun _=>rfl⟩
  ·rename_i c;split
   ·rename_i f;exact⟨fun e=>absurd e f,fun a h=>(by cases h),aZV _,fun _=>rfl⟩
   ·rename_i f;obtain⟨u,v⟩:=j (Classical.not_not.1 c);obtain⟨r,s⟩:=m (Classical.not_not.1 f);refine⟨fun _=>⟨by rw[aZL,v,r],fun a d=>?_⟩,fun a d=>?_,by simpa using o,fun e=>absurd rfl e⟩
    ·rcases bAQ.1 d with rfl | d
     ·exact u
     ·exact s a d
    ·rcases bAQ.1 d with rfl | d
     ·exact k
     ·exact n a d
theorem Yy{s:L Int}(e:s.length=512)(b:aJ s)(c:gU s):1<=gR s/\gR s<=65535:=by
 have d:=Ai b 40;have a:=c.1;unfold gR at a ⊢;omega
theorem Ky{s:L Int}(c:s.length=512)(a:aJ s):aJ (eQ s):=by
 intro x d;obtain⟨j,b,rfl⟩:=List.mem_iff_getElem.1 d;have e:(eQ s)[j]=(eQ s).getD j 0:=by simp[aZN,b]
 rw[e,Uv c];split;omega;unfold opG;split;exact qL a _;exact qL a _
theorem aHW{s:L Int}(f:s.length=512)(e:aJ s)(i:gU s)(b:L Int)(l:b.length<=444):(iO (dZ (eQ s) []) (68+(b.length:Int)) b=eQ s)↔(gL (eQ s) 24 4=68+b.length/\nD (iO (dZ (eQ s) []) (gL (eQ s) 24 4) b) (gR s) 8=s):=by
 constructor;intro h;have g:=(aHV (dZ (eQ s) []) (68+(b.length:Int)) b).2.2.2.2.1;rw[h,gv4 _ (by omega)] at g;refine⟨g,?_⟩;rw[g,h,aHO f e i];rintro⟨k,d⟩;rw[k] at d;have m:=Bc (dZ (eQ s) []) (68+(b.length:Int)) b l;have q:=(Ux (n:=gR s) m (fun j a c=>aHT _ _ _ j a c) (Yy f e i)).1
 rw[d] at q;exact q.symm
end
section
variable {G:aF}{bb:Bool}
structure G9 (G:aF):Prop where
 sq:G 0=some [ci 16,ci 2]
 li:G 1=some [ci 18,ci 2]
 fl:G 2=some [ci 22,ci 2]
 ba:G 3=some [ci 32,ci 4]
 bo:G 4=some [ci 36,ci 2]
 nx:G 5=some [ci 38,ci 2]
 ls:G 6=some [ci 8,ci 4]
 fi:G 7=some [ci 20,ci 2]
 en:G 8=some [ci 24,ci 4]
 si:G 9=some [ci 28,ci 4]
abbrev Mc(a k:Int):AV:=.agg [.dc (ci a),.dc (ci k)]
theorem aQ4(l:L Int)(a k:Nat)(n:Int)(N:Nat)(e:l.length=N)(h:a+k<=N)(g:N<=1000000)(c:-9223372036854775808<=n/\n<=9223372036854775807):EV G (Tb (bs bb)) 197 [Mc a k,.one (.bls 0 0 N 1),vi n] [yb l]=some (.tup [],[yb (bB l a n k)]):=by
 refine aB rfl ?_;simp (disch:=omega) only[go_sem,h197c];rw[aT (fun j=>⟨(jk 1 (.one (.bls 0 0 N 1)::vi (Fe n j)::.one (.ptr 1 0)::jk 4 (vi k::vi j::jk 13 []))),[yb (bB l a n j),.box [.dc (ci a),.dc (ci k)]]⟩) k ?_ ?_]
 simp (disch:=omega) only[go_sem,h197l0];rfl;intro j f;have b:=dJ l a n j;have d:=Xy n c j;have h3:=aG2 (bB l a n j) (a+j) (Fe n j % 256) (by omega);simp (disch:=omega) only[go_sem,h197l0,aZz,b,wu8,Int.reduceToNat,Int.reducePow,Hy,Fe,bB,h3]
theorem nF(l:L Int)(a k:Nat)(n:Int)(b:l.length=512)(h:a+k<=512)(c:-9223372036854775808<=n/\n<=9223372036854775807):EV G (Tb (bs bb)) 197 [Mc a k,.one (.bls 0 0 512 1),vi n] [yb l]=some (.tup [],[yb (bB l a n k)]):=aQ4 l a k n 512 b h (by decide) c
structure aQ5 (r:cL):Prop where
 sq:-9223372036854775808<=r.sq/\r.sq<=9223372036854775807
 li:-9223372036854775808<=r.li/\r.li<=9223372036854775807
 fl:-9223372036854775808<=r.fl/\r.fl<=9223372036854775807
 br:-9223372036854775808<=r.br/\r.br<=9223372036854775807
 bq:-9223372036854775808<=r.bq/\r.bq<=9223372036854775807
 nx:-9223372036854775808<=r.nx/\r.nx<=9223372036854775807
 ls:-9223372036854775808<=r.ls/\r.ls<=9223372036854775807
theorem cL.Ok.n9{r:cL}(a:r.Ok):aQ5 r:=by
 obtain⟨b,c,d,e,f⟩:=a.num;obtain⟨g,h⟩:=a.base;exact⟨by omega,by omega,by omega,by omega,by omega,by omega,by omega⟩
theorem aBh(c:G9 G)(r:cL)(a:L Int)(hN:aQ5 r)(ha:a.length<=444)(Z:aJ a):EV G (Tb (bs bb)) 134 [r.v,sv a] []=some (sv (iO r (68+(a.length:Int)) a),[]):=by
 refine aB rfl ?_;obtain⟨n1,n2,n3,n4,n5,n6,n7⟩:=hN;have hp:=aQ2 r a ha;rw[<- hp];unfold pbl;have u:(fE (zl 512) 0 [70,73,76,69]).length=512:=by rw[cJ (by rw[aS];decide),aS]
 have K:fG (70::73::76::69::List.take 508 [])++List.drop (fG (70::73::76::69::List.take 508 [])).length (List.map yC (zl 512))=(fE (zl 512) 0 [70,73,76,69]).map yC:=by
  have h:=pK (zl 512) [70,73,76,69] 0 4 (fun x d=>by simp at d;omega) (by decide)
  rw[aAE] at h;exact h
 have r0:List.replicate 512 (aV.dc (DC.raw (Value.int .u8 0)))=(zl 512).map yC:=P5 512;generalize fE (zl 512) 0 [70,73,76,69]=f at *;have p1:EV G (Tb (bs bb)) 197 [Mc 8 4,.one (.bls 0 0 512 1),vi r.ls] [yb f]=some (.tup [],[yb (bB f 8 r.ls 4)]):=nF (G:=G) (bb:=bb) f 8 4 r.ls u (by decide) (by omega);have w:(bB f 8 r.ls 4).length=512:=by rw[dJ,u]
 generalize bB f 8 r.ls 4=g at *;have p2:EV G (Tb (bs bb)) 197 [Mc 16 2,.one (.bls 0 0 512 1),vi r.sq] [yb g]=some (.tup [],[yb (bB g 16 r.sq 2)]):=nF (G:=G) (bb:=bb) g 16 2 r.sq w (by decide) (by omega);have y:(bB g 16 r.sq 2).length=512:=by rw[dJ,w]
 generalize bB g 16 r.sq 2=i at *;have p3:EV G (Tb (bs bb)) 197 [Mc 18 2,.one (.bls 0 0 512 1),vi r.li] [yb i]=some (.tup [],[yb (bB i 18 r.li 2)]):=nF (G:=G) (bb:=bb) i 18 2 r.li y (by decide) (by omega);have A:(bB i 18 r.li 2).length=512:=by rw[dJ,y]
 generalize bB i 18 r.li 2=j at *;have p4:EV G (Tb (bs bb)) 197 [Mc 20 2,.one (.bls 0 0 512 1),vi 64] [yb j]=some (.tup [],[yb (bB j 20 64 2)]):=nF (G:=G) (bb:=bb) j 20 2 64 A (by decide) (by omega);have B:(bB j 20 64 2).length=512:=by rw[dJ,A]
 generalize bB j 20 64 2=k at *;have p5:EV G (Tb (bs bb)) 197 [Mc 22 2,.one (.bls 0 0 512 1),vi r.fl] [yb k]=some (.tup [],[yb (bB k 22 r.fl 2)]):=nF (G:=G) (bb:=bb) k 22 2 r.fl B (by decide) (by omega);have C:(bB k 22 r.fl 2).length=512:=by rw[dJ,B]
 generalize bB k 22 r.fl 2=l at *;have p6:EV G (Tb (bs bb)) 197 [Mc 24 4,.one (.bls 0 0 512 1),vi (68+(a.length:Int))] [yb l]=some (.tup [],[yb (bB l 24 (68+(a.length:Int)) 4)]):=nF (G:=G) (bb:=bb) l 24 4 (68+(a.length:Int)) C (by decide) (by omega);have D:(bB l 24 (68+(a.length:Int)) 4).length=512:=by rw[dJ,C]
 generalize bB l 24 (68+(a.length:Int)) 4=m at *;have p7:EV G (Tb (bs bb)) 197 [Mc 28 4,.one (.bls 0 0 512 1),vi 512] [yb m]=some (.tup [],[yb (bB m 28 512 4)]):=nF (G:=G) (bb:=bb) m 28 4 512 D (by decide) (by omega);have E:(bB m 28 512 4).length=512:=by rw[dJ,D]
 generalize bB m 28 512 4=n at *;have p8:EV G (Tb (bs bb)) 197 [Mc 32 4,.one (.bls 0 0 512 1),vi r.br] [yb n]=some (.tup [],[yb (bB n 32 r.br 4)]):=nF (G:=G) (bb:=bb) n 32 4 r.br E (by decide) (by omega);have F:(bB n 32 r.br 4).length=512:=by rw[dJ,E]
 generalize bB n 32 r.br 4=o at *;have p9:EV G (Tb (bs bb)) 197 [Mc 36 2,.one (.bls 0 0 512 1),vi r.bq] [yb o]=some (.tup [],[yb (bB o 36 r.bq 2)]):=nF (G:=G) (bb:=bb) o 36 2 r.bq F (by decide) (by omega);have H:(bB o 36 r.bq 2).length=512:=by rw[dJ,F]
 generalize bB o 36 r.bq 2=p at *;have I:EV G (Tb (bs bb)) 197 [Mc 38 2,.one (.bls 0 0 512 1),vi r.nx] [yb p]=some (.tup [],[yb (bB p 38 r.nx 2)]):=nF (G:=G) (bb:=bb) p 38 2 r.nx H (by decide) (by omega);have e:(bB p 38 r.nx 2).length=512:=by rw[dJ,H]
 generalize bB p 38 r.nx 2=b at *;have O:(dI a:ByteArray)++⟨#[255,255,255,255]⟩=dI (a++rV):=by
  have:=Hx a rV;exact this
 have M:fX .add (sv a) (.one (.dc (.raw (.string ⟨#[255,255,255,255]⟩))))=some (sv (a++rV)):=by
  rw[Dn (by rw[aC];show a.length+4<=_;omega),O]
 have t:aJ (a++rV):=fun x d=>by
  rcases bAY.1 d with d | d
  ·exact Z x d
  ·exact H9 x d
 have J:(a++rV).length=a.length+4:=by rw[aZA];rfl
 have N:=pK b (a++rV) 64 448 t (by omega);have lc:(fE b 64 (a++rV)).length=512:=by rw[cJ (by rw[J,e];omega),e]
 have P:jO (List.take 512 (List.map yC (fE b 64 (a++rV))))=some ((fE b 64 (a++rV)).map u8):=by rw[D0 _ _ (by omega),lL]
 have q:(64:Int)+(a.length:Int)+4=68+(a.length:Int):=by omega
 generalize fE b 64 (a++rV)=z at *;have Q:=c.sq;have R:=c.li;have S:=c.fl;have T:=c.ba;have U:=c.bo;have V:=c.nx;have W:=c.ls;have X:=c.fi;have Y:=c.en;have s:=c.si;simp (disch:=omega) only[go_sem,h134c,aZz,aS,r0,K,p1,p2,p3,p4,p5,p6,p7,p8,p9,I,Q,R,S,T,U,V,W,X,Y,s,u,w,y,A,B,C,D,E,F,H,e,M,aC,J,N,lc,P,To,q,Int.reduceToNat,cK]
end
section
variable {G:aF}{bb:Bool}
theorem Al(l:L Int)(c:aJ l)(a k:Nat)(m:a+k<=l.length)(p:k<=4)(q:l.length<=1000000):EV G (Tb (bs bb)) 132 [Mc a k,sv l] []=some (vi (gL l a k),[]):=by
 refine aB rfl ?_;simp (disch:=first|omega|(simp only[aZA,aZB,aZC,aZz,aA];omega)) only[go_sem,h132c]
 rw[aT (fun j=>⟨(jk 1 (sv l::.one (.ptr 0 0)::jk 2 (vi (gL l (a+k-j) j)::vi ((k:Int)-1-j)::jk 18 []))),[.box [.dc (ci a),.dc (ci k)]]⟩) k ?_ ?_]
 have e:a+k-k=a:=by omega
 have b:¬ 0<=(k:Int)-1-(k:Int):=by omega
 simp (disch:=first|omega|(simp only[aZA,aZB,aZC,aZz,aA];omega)) only[go_sem,h132l0,e,b]
 simp[gL,gv,jk];intro j n;have d:=c _ (aZG (show a+k-1-j<l.length by omega));have h:=kU c (a+k-j) j (by omega);have f:gL l (a+k-(j+1)) (j+1)=gL l (a+k-j) j*256+l[a+k-1-j]'(by omega):=by
  have:a+k-(j+1)<l.length:=by omega
  rw[Yn l _ j this,show a+k-(j+1)+1=a+k-j by omega,Int.mul_comm];rw[Int.add_comm];congr 1;congr 1;omega
 have b:0<=(k:Int)-1-(j:Int):=by omega
 rw[f];generalize gL l (a+k-j) j=z at h ⊢;have g:((a:Int)+((k:Int)-1-(j:Int))).toNat=a+k-1-j:=by omega
 have i:=iB _ d;have o:=orL z _ (by omega) d;simp (disch:=first|omega|(simp only[aZA,aZB,aZC,aZz,aA];omega)) only[go_sem,h132l0,eq_true b,aZS,g,i,Int.reduceToNat,Int.reducePow,o]
 rw[show (k:Int)-1-(j:Int)-1=(k:Int)-1-((j:Int)+1) by omega]
