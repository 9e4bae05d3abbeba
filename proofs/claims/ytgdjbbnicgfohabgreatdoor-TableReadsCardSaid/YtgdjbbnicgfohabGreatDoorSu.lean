/- Part. Conditions: none. -/
import Derived.Test.YtgdjbbnicgfohabGreatDoorVo
import Derived.Test.YtgdjbbnicgfohabGreatDoorTy
import Derived.Test.YtgdjbbnicgfohabGreatDoorUw
import Derived.Test.YtgdjbbnicgfohabGreatDoorSo
namespace Go.Proofs.YtgdjbbnicgfohabGreatDoor
set_option maxHeartbeats 8000000
set_option linter.unusedSimpArgs false
set_option linter.unusedVariables false
set_option maxRecDepth 4000
section
variable {G:aF}{bb:Bool}
end
section
variable {G:aF}{bb:Bool}
theorem aMn{s:L Int}(a:aI s)(b:s.length<=1000):(bL s).1.W/\((bL s).2=0\/(bL s).1=aJ.nil):=by
 unfold bL;split;exact⟨aJ.nil_W,.inr rfl⟩;split;exact⟨aJ.nil_W,.inr rfl⟩;rename_i c;split;exact⟨aJ.nil_W,.inr rfl⟩;have h:(qW s).2=true:=by
  cases h:(qW s).2 with
  |true=>rfl
  |false=>exact absurd (.inl h) c
 exact⟨(Qj a b h).w,.inl rfl⟩
theorem H6{a:aJ}(c:a.W)(h:gI a=0):gY a=gR a/\(gR a).length=fA a/\fA a<=440/\fA a % 8=0:=by
 have d:=nA c h;have b:=d.dc;refine⟨by unfold gY;rw[if_pos h,Aa b],by rw[<- Aa b,nL a b.bd],?_,(Gk a).2.2.2.1⟩;have:=rR c;unfold gY at this;rw[if_pos h,nL a b.bd] at this;exact this
theorem aDA{a:aJ}(b:a.W)(h:gI a=0):bL (gR a)=(a,0):=by
 obtain⟨d,f,i,j⟩:=H6 b h;have c:=(nA b h).dc;have e:=Uw c;unfold bL;rw[if_neg (by omega),e];simp only;rw[if_neg (fun g=>g.elim (fun g=>by cases g) (fun g=>g (Aa c))),if_neg (fun g=>g h)]
theorem aMo{s:L Int}(e:aI s)(f:s.length<=1000)(h:(bL s).2=0):gI (bL s).1=0/\gY (bL s).1=s:=by
 unfold bL at h ⊢;split at h;exact absurd h (by decide);rename_i d;rw[if_neg d];split at h;exact absurd h (by decide);rename_i b;rw[if_neg b];split at h;rename_i a;exact absurd h a;rename_i a;rw[if_neg a];have c:=Classical.not_not.1 a;refine⟨c,?_⟩;unfold gY;rw[if_pos c];exact Classical.byContradiction (fun g=>b (.inr g))
end
section
variable {G:aF}{bb:Bool}
end
section
variable {G:aF}{bb:Bool}
structure cK where
 sq:Int
 li:Int
 fl:Int
 br:Int
 bq:Int
 nx:Int
 ls:Int
 ats:List aJ
abbrev cK.c(r:cK):L aU:=[.dc (ci r.sq),.dc (ci r.li),.dc (ci r.fl),.dc (ci r.br),.dc (ci r.bq),.dc (ci r.nx),.dc (ci r.ls),.dc (.slc (r.ats.map aJ.e))]
abbrev cK.v(r:cK):AV:=.agg r.c
abbrev cK.t(r:cK):TV:=.agg r.c
def cK.nil:cK:=⟨0,0,0,0,0,0,0,[]⟩
structure cK.W (r:cK):Prop where
 at':∀a∈r.ats,a.W
 ln:r.ats.length<=900
theorem cK.nil_W:cK.nil.W:=⟨fun a h=>(by cases h),by decide⟩
abbrev rcv(p:cK×Int):AV:=.tup [p.1.t,.one (.dc (ci p.2))]
def aDB(a b:Int):Int:=if (0<=a/\a<=95)/\(1<=b/\b<=65535) then 0 else 2
def Bo(a b:Int):Int:=if a=0/\b=0 then 0 else aDB a b
def fE(f:Int):Bool:=decide (f % 2=1)
def dC(l:L aJ):Int:=(l.map fun a=>((gY a).length:Int)).sum
def tU(r:cK):Bool:=decide (1<=r.sq/\r.sq<=65535)&&(decide (0<=r.li/\r.li<=65535)&&(decide (0<=r.fl/\r.fl<=3)&&(decide (0<=r.nx/\r.nx<=65535)&&decide (0<=r.ls/\r.ls<=2147483647))))
def Ma(r:cK):Bool:=decide (r.fl=0)&&(decide (r.ats=[])&&(decide (r.li=0)&&(decide (r.br=0/\r.bq=0)&&decide (r.nx=0))))
def Wi(r:cK):Int:=aT [un (tU r) 2,Bo r.br r.bq,un (fE r.fl||Ma r) 3]
noncomputable def Wj(r:cK):Int:=jA (fun a=>decide (r.nx<=a.id)) r.ats
noncomputable def Ac(r:cK):Int×Int:=if Wi r≠0 then (0,Wi r) else if (nO r.ats).2≠0 then nO r.ats else if 0<=Wj r then (Wj r,9) else (0,un (decide (dC r.ats<=440)) 16)
noncomputable def gJ(r:cK):Int:=(Ac r).2
def bT(a:aJ)(i:Int):aJ:=⟨a.ty,a.nm,i,a.fl,a.res,a.va,a.fi,a.rs,a.al,a.sz,a.vd⟩
def Fl(r:cK)(a:aJ):Bool:=!decide (a.ty=48)&&r.ats.any fun b=>nU a b
noncomputable def U3(r:cK):Int:=aT [gJ r,un (fE r.fl) 20,un (decide (r.nx<65535)) 16]
def U4(r:cK)(a:aJ):Int:=aT [gI (bT a r.nx),un (!Fl r a) 5,un (decide (r.ats.length<32)) 8]
def pO(r:cK)(a:aJ):cK:=⟨r.sq,r.li,r.fl,r.br,r.bq,r.nx+1,r.ls,fK (r.ats++[bT a r.nx])⟩
noncomputable def Yw(r:cK)(a:aJ):cK×Int:=if U3 r≠0 then (.nil,U3 r) else if U4 r a≠0 then (.nil,U4 r a) else if dC (pO r a).ats<=440 then (pO r a,0) else (.nil,16)
def Yx(r:cK)(l:L aJ):cK:=⟨r.sq,r.li,r.fl,r.br,r.bq,r.nx,r.ls,l⟩
def aMp(q f a b:Int):Int:=aT [un (decide (1<=q/\q<=65535)&&(decide (f=1)||decide (f=3))) 2,Bo a b]
def aVL(q f a b:Int):cK×Int:=if aMp q f a b≠0 then (.nil,aMp q f a b) else (⟨q,0,f,a,b,0,0,[]⟩,0)
def rhd(r:cK)(u:Int):L Int:=[70,73,76,69]++(zl 4++(bI r.ls 4++(zl 4++(bI r.sq 2++(bI r.li 2++(bI 64 2++(bI r.fl 2++(bI u 4++(bI 512 4++(bI r.br 4++(bI r.bq 2++bI r.nx 2)))))))))))
def rU:L Int:=[255,255,255,255]
def iN(r:cK)(u:Int)(a:L Int):L Int:=rhd r u++(zl 24++(a++(rU++zl (444-a.length))))
def kC(r:cK):L Int:=(r.ats.map gY).flatten
noncomputable def aMq(r:cK)(u:Int):Int:=aT [gJ r,un (decide (1<=u/\u<=65535)) 2]
def oQ(r:cK)(u:Int):L Int:=nC (iN r (68+(kC r).length) (kC r)) u 8
noncomputable def Gm(r:cK)(u:Int):L Int×Int:=if aMq r u≠0 then ([],aMq r u) else (oQ r u,0)
def pP(s:L Int):Nat:=(gL s 4 4).toNat
def Fm(s:L Int):Prop:=pP s % 8≠0\/pP s<24\/s.length<pP s+4
instance (s:List Int):Decidable (Fm s):=by unfold Fm;infer_instance
def rV:Nat->L Int->Option (L (L Int))
 |0,_=>none
 |k+1,s=>if s.take 4=rU then some [] else if s.length<24 then none else if Fm s then none else (rV k (s.drop (pP s))).map (s.take (pP s)::·)
def Ad(s:L Int):Option (L (L Int)):=rV (s.length+1) s
def dX(o:L Int)(l:L aJ):cK:=⟨gL o 16 2,gL o 18 2,gL o 22 2,gL o 32 4,gL o 36 2,gL o 38 2,gL o 8 4,l⟩
noncomputable def iJ:L (L Int)->L aJ×Int
 |[]=>([],0)
 |p::t=>if (bL p).2≠0 then ([],(bL p).2) else if (iJ t).2≠0 then ([],(iJ t).2) else ((bL p).1::(iJ t).1,0)
noncomputable def U5(s:L Int)(a:L (L Int)):cK×Int×Int:=if iN (dX (eU s) []) (68+a.flatten.length) a.flatten≠eU s then (.nil,0,3) else if (iJ a).2≠0 then (.nil,0,(iJ a).2) else
 if gJ (dX (eU s) (iJ a).1)≠0 then (.nil,0,gJ (dX (eU s) (iJ a).1)) else (dX (eU s) (iJ a).1,gS s,0)
open Classical in
noncomputable def dQ(s:L Int):cK×Int×Int:=if s.length≠512 then (.nil,0,10) else if ¬ jP s then (.nil,0,31) else match Ad ((eU s).drop 64) with
 |none=>(.nil,0,3)
 |some a=>U5 s a
end
section
variable {G:aF}{bb:Bool}
theorem Ky{l:L aJ}(h:(nO l).2=0):l.length<=32/\∀k,k<l.length->lO l k=0:=by
 unfold nO at h;split at h;exact absurd h (by decide);rename_i c;refine⟨by omega,?_⟩;obtain⟨e,hp,d⟩:=bD (fun k=>lO l k≠0) l.length
 generalize ix (fun k=>lO l k≠0) l.length=m at *
 split at h;rename_i b;rcases hp with hp|⟨_,hp⟩
 omega;exact absurd h hp;rename_i b;exact fun k a=>Classical.not_not.1 (d k (by omega))
theorem U6{l:L aJ}(h:(nO l).2=0):∀k,k<l.length->kU l k=0:=by
 intro k c;have a:=(Ky h).2 k c;by_cases b:k=0;subst b;unfold lO at a;rwa[if_pos rfl] at a;exact (Kg b c a).1
structure cK.Ok (r:cK):Prop where
 nb:tU r=true
 be:Bo r.br r.bq=0
 us:(fE r.fl||Ma r)=true
 od:(nO r.ats).2=0
 gt:Wj r<0
 nd:dC r.ats<=440
theorem A3{a b c:Int}(h:aT [a,b,c]=0):a=0/\b=0/\c=0:=by
 by_cases d:a=0;subst d;rw[aV] at h;by_cases e:b=0;subst e;rw[aV] at h;by_cases h3:c=0;exact⟨rfl,rfl,h3⟩;rw[aY _ _ h3] at h;exact absurd h h3;rw[aY _ _ e] at h;exact absurd h e;rw[aY _ _ d] at h;exact absurd h d
theorem aMr{a b:Int}(h:aT [a,b]=0):a=0/\b=0:=by
 by_cases c:a=0;subst c;rw[aV] at h;by_cases d:b=0;exact⟨rfl,d⟩;rw[aY _ _ d] at h;exact absurd h d;rw[aY _ _ c] at h;exact absurd h c
theorem aHN{b:Bool}{e:Int}(a:e≠0)(h:un b e=0):b=true:=by
 cases b with
 |true=>rfl
 |false=>exact absurd h a
theorem A4{r:cK}(h:gJ r=0):r.Ok:=by
 unfold gJ Ac at h;split at h;rename_i c;exact absurd h c;rename_i c;obtain⟨a,b,h3⟩:=A3 (Classical.not_not.1 c);split at h;rename_i d;exact absurd h d;rename_i d;split at h;exact absurd h (show ¬ (9:Int)=0 by decide);rename_i g;exact⟨aHN (by decide) a,b,aHN (by decide) h3,Classical.not_not.1 d,by omega,of_decide_eq_true (aHN (by decide) h)⟩
theorem cK.Ok.num{r:cK}(h:r.Ok):(1<=r.sq/\r.sq<=65535)/\(0<=r.li/\r.li<=65535)/\(0<=r.fl/\r.fl<=3)/\(0<=r.nx/\r.nx<=65535)/\(0<=r.ls/\r.ls<=2147483647):=by
 have:=h.nb;simpa only[tU,aZQ,decide_eq_true_eq] using this
theorem cK.Ok.base{r:cK}(h:r.Ok):(0<=r.br/\r.br<=95)/\(0<=r.bq/\r.bq<=65535):=by
 have:=h.be;unfold Bo aDB at this;split at this;omega;split at this;omega;exact absurd this (by decide)
theorem cK.Ok.errs{r:cK}(h:r.Ok):(∀a∈r.ats,gI a=0)/\(r.ats.map aJ.id).Nodup:=(Az r.ats).1 (U6 h.od)
theorem cK.Ok.ln{r:cK}(h:r.Ok):r.ats.length<=32:=(Ky h.od).1
theorem Qn{a:aJ}(d:a.W)(h:gI a=0):aI (gY a)/\(gY a).length=fA a/\24<=fA a/\fA a<=440/\fA a % 8=0/\(gY a).take 4=bI a.ty 4/\gL (gY a) 4 4=fA a:=by
 obtain⟨b,e,f,g⟩:=H6 d h;have i:=(nA d h).dc;have h24:24<=fA a:=by
  have o:=Gk a;have:24<=sS a:=by unfold sS;split<;>omega
  omega
 have c:∃t,gR a=bI a.ty 4++(bI (fA a) 4++t):=by
  unfold gR;exact⟨_,aZS ..⟩
 obtain⟨t,c⟩:=c;refine⟨by rw[b];exact D8 i,by rw[b,e],h24,f,g,?_,?_⟩;rw[b,c,bAT (aA _ _)];rw[b,c,iI _ _ _ _ (by rw[aA];omega),aA,bAs,Qh _ _ _ (aA _ _),gv4 _ (by omega)]
theorem N6(l:L aJ):(((l.map gY).flatten.length:Nat):Int)=dC l:=by
 induction l with
 |nil=>rfl
 |cons a l b=>
  unfold dC at b ⊢;simp only[aZM,bAw,aZB,List.sum_cons];omega
theorem U7{r:cK}(h:r.Ok):(kC r).length<=440:=by
 have a:=N6 r.ats;have b:=h.nd;unfold kC;omega
theorem N7{l:L (L Int)}(h:∀p∈l,aI p):aI l.flatten:=fun x a=>by
 obtain⟨p,hp,a⟩:=List.mem_flatten.1 a;exact h p hp x a
def pbl(r:cK)(a:L Int):L Int:=iZ (aZ (aZ (aZ (aZ (aZ (aZ (aZ (aZ (aZ (aZ (iZ (zl 512) 0 [70,73,76,69]) 8 r.ls 4) 16 r.sq 2) 18 r.li 2) 20 64 2) 22 r.fl 2) 24 (68+(a.length:Int)) 4) 28 512 4) 32 r.br 4) 36 r.bq 2) 38 r.nx 2) 64 (a++rU)
theorem aQ3(r:cK)(at':L Int)(h:at'.length<=444):pbl r at'=iN r (68+(at'.length:Int)) at':=by
 have a:512=4+(4+(4+(4+(2+(2+(2+(2+(4+(4+(4+(2+(2+(24+((at'.length+4)+(444-at'.length))))))))))))))):=by omega
 have b:zl 512=zl 4++(zl 4++(zl 4++(zl 4++(zl 2++(zl 2++(zl 2++(zl 2++(zl 4++(zl 4++(zl 4++(zl 2++(zl 2++(zl 24++(zl (at'.length+4)++zl (444-at'.length))))))))))))))):=by
  conv=>lhs;rw[a]
  simp only[Yn]
 unfold pbl iN rhd;rw[b,Qf _ _ _ _ rfl (by rw[aS];rfl)];simp (disch:=first|omega|(simp only[aS,aA,aZC,aZD]<;>omega)|fail) only[A2,Fi,aS,aA,Nat.reduceSub,bAs,aZC,aZD,Nat.reduceAdd]
 simp (disch:=first|omega|(simp only[aS,aA,aZC,aZD,aZB,rU]<;>omega)|fail) only[Ks,Qf,aS,aA,Nat.reduceSub,bAs,aZC,aZD,Nat.reduceAdd]
 simp only[aZS]
theorem Qp(r:cK)(u:Int):(rhd r u).length=40:=by
 simp only[rhd,aZB,aS,aA,aZC,aZD,Nat.reduceAdd]
theorem A5(r:cK)(u:Int)(a:L Int)(h:a.length<=444):(iN r u a).length=512:=by
 simp only[iN,aZB,Qp,aS,rU,aZC,aZD];omega
theorem aHO(r:cK)(u:Int)(a:L Int)(j:Nat)(b:40<=j)(c:j<58):(iN r u a).getD j 0=0:=by
 unfold iN;rw[Yq,Qp,if_neg (by omega),Yq,aS,if_pos (by omega),aBd]
theorem aHP(r:cK)(u:Int)(a:L Int):(iN r u a).drop 64=a++(rU++zl (444-a.length)):=by
 unfold iN;rw[<- aZS,List.drop_left' (by rw[aZB,Qp,aS])]
theorem A6(n:Nat):aI (zl n):=fun x a=>by
 have:=List.eq_of_mem_replicate a;omega
theorem mE(n:Int):∀k,aI (bI n k)
 |0=>fun x a=>by cases a
 | k+1=>by
  rw[bI];refine bP (mE n k) (fun x a=>?_)
  have:=List.mem_singleton.1 a;omega
theorem H7:aI rU:=fun x a=>by
 simp[rU] at a;omega
theorem Eb(r:cK)(u:Int)(a:L Int)(h:aI a):aI (iN r u a):=by
 unfold iN rhd;refine bP ?_ (bP (A6 _) (bP h (bP H7 (A6 _))));refine bP (fun x b=>?_) ?_
 simp at b;omega;exact bP (A6 _) (bP (mE _ _) (bP (A6 _) (bP (mE _ _) (bP (mE _ _) (bP (mE _ _) (bP (mE _ _) (bP (mE _ _) (bP (mE _ _) (bP (mE _ _) (bP (mE _ _) (mE _ _)))))))))))
theorem aHQ(r:cK)(u:Int)(a:L Int):gL (iN r u a) 8 4=gv (bI r.ls 4)/\gL (iN r u a) 16 2=gv (bI r.sq 2)/\gL (iN r u a) 18 2=gv (bI r.li 2)/\gL (iN r u a) 22 2=gv (bI r.fl 2)/\gL (iN r u a) 24 4=gv (bI u 4)/\ gL (iN r u a) 32 4=gv (bI r.br 4)/\gL (iN r u a) 36 2=gv (bI r.bq 2)/\gL (iN r u a) 38 2=gv (bI r.nx 2):=by
 unfold iN rhd;simp only[aZS];refine⟨?_,?_,?_,?_,?_,?_,?_,?_⟩;all_goals simp (disch:=first|omega|(simp only[aS,aA,aZC,aZD]<;>omega)|fail) only[iI,Qh,aS,aA,Nat.reduceSub,bAs,aZC,aZD,Nat.reduceAdd]
theorem U8{r:cK}(h:r.Ok)(u:Int)(a:L Int)(l:L aJ):dX (iN r u a) l=Yx r l:=by
 obtain⟨k,m,n,o,p⟩:=h.num;obtain⟨q,s⟩:=h.base;obtain⟨b,c,d,e,j,f,g,i⟩:=aHQ r u a;unfold dX Yx;rw[b,c,d,e,f,g,i,gv4 _ (by omega),gv2 _ (by omega),gv2 _ (by omega),gv2 _ (by omega),gv4 _ (by omega),gv2 _ (by omega),gv2 _ (by omega)]
theorem Qq:∀(k:Nat)(s:L Int)(a:L (L Int)),rV k s=some a->a.flatten.length+4<=s.length/\s.take a.flatten.length=a.flatten/\(s.drop a.flatten.length).take 4=rU/\∀p∈a,24<=p.length/\p.length<=s.length
 |0,s,a,h=>by cases h
 | k+1,s,a,h=>by
  unfold rV at h;split at h
  ·rename_i c;injection h with h
   subst h;have b:(s.take 4).length=4:=by rw[c];rfl
   rw[aZF] at b;refine⟨by simp only[List.flatten_nil,aZD];omega,rfl,c,fun p hp=>by cases hp⟩
  ·split at h
   ·cases h
   ·split at h
    ·cases h
    ·rename_i m n d;obtain⟨l,j,rfl⟩:=Option.map_eq_some_iff.1 h;obtain⟨e,f,g,i⟩:=Qq k _ l j;unfold Fm at d;have b:(s.take (pP s)).length=pP s:=by rw[aZF];omega
     rw[aZL] at e;rw[bAw,aZB,b];refine⟨by omega, ?_, ?_,fun p hp=>?_⟩
     ·rw[List.take_add,f]
     ·rw[<- bAE,g]
     ·rcases bAL.1 hp with rfl | hp
      ·rw[b];omega
      ·have:=i p hp;rw[aZL] at this;omega
theorem aBg:∀(k m:Nat)(s:L Int),s.length<k->k<=m->rV m s=rV k s
 |0,m,s,h,_=>by omega
 |k+1,0,s,_,h=>by omega
 | k+1,m+1,s,h,d=>by
  unfold rV;split
  ·rfl
  ·split
   ·rfl
   ·split
    ·rfl
    ·rename_i b c a;unfold Fm at a;rw[aBg k m _ (by rw[aZL];omega) (by omega)]
theorem aBh(s:L Int):Ad s=if s.take 4=rU then some [] else if s.length<24 then none else if Fm s then none else (Ad (s.drop (pP s))).map (s.take (pP s)::·):=by
 show rV (s.length+1) s=_;rw[rV];split;rfl;split;rfl;split;rfl;rename_i b c a;unfold Fm at a;rw[Ad,aBg ((s.drop (pP s)).length+1) s.length _ (by omega) (by rw[aZL];omega)]
theorem aQ4{n:Int}(h:n∈Ni):bI n 4≠rU:=by
 intro e;have a:gv (bI n 4)=gv rU:=by rw[e]
 have b:0<=n/\n<=192:=by
  simp only[Ni,bAL,bA6,or_false] at h;omega
 rw[gv4 _ (by omega)] at a;simp only[gv,rU] at a;omega
theorem U9(z:L Int):∀l:L aJ,(∀a∈l,a.W/\gI a=0)->Ad ((l.map gY).flatten++(rU++z))=some (l.map gY)
 | [],_=>by
  rw[aBh,if_pos (by rfl)];rfl
 | a::l,h=>by
  obtain⟨e,f⟩:=h a aZV;obtain⟨p,c,q,r,s,k,m⟩:=Qn e f;have o:=U9 z l (fun b n=>h b (aZ2 _ n))
  rw[aZM,bAw,aZS];have u:4<=((l.map gY).flatten++(rU++z)).length:=by
   simp only[aZB,rU,aZC,aZD];omega
  generalize (l.map gY).flatten++(rU++z)=t at *;have d:=(nA e f).ty;have j:pP (gY a++t)=fA a:=by
   have g:gL (gY a++t) 4 4=gL (gY a) 4 4:=by
    unfold gL;rw[List.drop_append_of_le_length (by omega),bAZ (by rw[aZL];omega)]
   unfold pP;rw[g,m];omega
  have i:(gY a++t).length=fA a+t.length:=by rw[aZB,c]
  rw[aBh,if_neg,if_neg,if_neg,j,List.drop_left' c,o,bAT c]
  ·rfl
  ·unfold Fm;rw[j];omega
  ·omega
  ·rw[bAZ (by omega),k];exact aQ4 d
theorem Va:∀l:L aJ,(∀a∈l,a.W/\gI a=0)->iJ (l.map gY)=(l,0)
 |[],_=>rfl
 | a::l,h=>by
  obtain⟨c,d⟩:=h a aZV;have g:=Va l (fun b f=>h b (aZ2 _ f))
  have e:bL (gY a)=(a,0):=by rw[(H6 c d).1,aDA c d]
  rw[aZM,iJ,e,g];rfl
theorem aBi:∀b:L (L Int),(∀p∈b,aI p/\p.length<=1000)->((iJ b).2=0->(iJ b).1.map gY=b/\∀a∈(iJ b).1,gI a=0)/\(∀a∈(iJ b).1,a.W)/\(iJ b).1.length<=b.length/\((iJ b).2≠0->(iJ b).1=[])
 |[],_=>⟨fun _=>⟨rfl,fun a h=>by cases h⟩,fun a h=>(by cases h),aZE _,fun _=>rfl⟩
 | p::t,h=>by
  obtain⟨g,i⟩:=h p aZV;obtain⟨m,n,o,w⟩:=aBi t (fun q l=>h q (aZ2 _ l))
  have j:=aMo g i;have k:=(aMn g i).1;rw[iJ];split
  ·rename_i c;exact⟨fun e=>absurd e c,fun a h=>(by cases h),aZX _,fun _=>rfl⟩
  ·rename_i c;split
   ·rename_i f;exact⟨fun e=>absurd e f,fun a h=>(by cases h),aZX _,fun _=>rfl⟩
   ·rename_i f;obtain⟨u,v⟩:=j (Classical.not_not.1 c);obtain⟨r,s⟩:=m (Classical.not_not.1 f);refine⟨fun _=>⟨by rw[aZM,v,r],fun a d=>?_⟩,fun a d=>?_,by simpa using o,fun e=>absurd rfl e⟩
    ·rcases bAL.1 d with rfl | d
     ·exact u
     ·exact s a d
    ·rcases bAL.1 d with rfl | d
     ·exact k
     ·exact n a d
theorem Yy{s:L Int}(e:s.length=512)(b:aI s)(c:jP s):1<=gS s/\gS s<=65535:=by
 have d:=Ck b 40;have a:=c.1;unfold gS at a ⊢;omega
theorem Kz{s:L Int}(c:s.length=512)(a:aI s):aI (eU s):=by
 intro x d;obtain⟨j,b,rfl⟩:=List.mem_iff_getElem.1 d;have e:(eU s)[j]=(eU s).getD j 0:=by simp[aZO,b]
 rw[e,Ux c];split;omega;unfold opG;split;exact qM a _;exact qM a _
theorem aHR{s:L Int}(f:s.length=512)(e:aI s)(i:jP s)(b:L Int)(l:b.length<=444):(iN (dX (eU s) []) (68+(b.length:Int)) b=eU s)↔(gL (eU s) 24 4=68+b.length/\nC (iN (dX (eU s) []) (gL (eU s) 24 4) b) (gS s) 8=s):=by
 constructor;intro h;have g:=(aHQ (dX (eU s) []) (68+(b.length:Int)) b).2.2.2.2.1;rw[h,gv4 _ (by omega)] at g;refine⟨g,?_⟩;rw[g,h,aHJ f e i];rintro⟨k,d⟩;rw[k] at d;have m:=A5 (dX (eU s) []) (68+(b.length:Int)) b l;have q:=(Uz (n:=gS s) m (fun j a c=>aHO _ _ _ j a c) (Yy f e i)).1
 rw[d] at q;exact q.symm
end
section
variable {G:aF}{bb:Bool}
structure G9 (G:aF):Prop where
 sq:G 0=some [ci 16,ci 2]
 li:G 1=some [ci 18,ci 2]
 fl:G 2=some [ci 22,ci 2]
 ba:G 3=some [ci 32,ci 4]
 bo:G 4=some [ci 36,ci 2]
 nx:G 5=some [ci 38,ci 2]
 ls:G 6=some [ci 8,ci 4]
 fi:G 7=some [ci 20,ci 2]
 en:G 8=some [ci 24,ci 4]
 si:G 9=some [ci 28,ci 4]
abbrev Mb(a k:Int):AV:=.agg [.dc (ci a),.dc (ci k)]
theorem aQ5(l:L Int)(a k:Nat)(n:Int)(N:Nat)(e:l.length=N)(h:a+k<=N)(g:N<=1000000)(c:-9223372036854775808<=n/\n<=9223372036854775807):EV G (Tb (bs bb)) 173 [Mb a k,.one (.bls 0 0 N 1),vi n] [yb l]=some (.tup [],[yb (aZ l a n k)]):=by
 refine aB rfl ?_;simp (disch:=omega) only[go_sem,h173c];rw[aR (fun j=>⟨(jk 1 (.one (.bls 0 0 N 1)::vi (Gg n j)::.one (.ptr 1 0)::jk 4 (vi k::vi j::jk 13 []))),[yb (aZ l a n j),.box [.dc (ci a),.dc (ci k)]]⟩) k ?_ ?_]
 simp (disch:=omega) only[go_sem,h173l0];rfl;intro j f;have b:=dI l a n j;have d:=Xz n c j;have h3:=aGX (aZ l a n j) (a+j) (Gg n j % 256) (by omega);simp (disch:=omega) only[go_sem,h173l0,aZA,b,wu8,Int.reduceToNat,Int.reducePow,Hw,Gg,aZ,h3]
theorem nD(l:L Int)(a k:Nat)(n:Int)(b:l.length=512)(h:a+k<=512)(c:-9223372036854775808<=n/\n<=9223372036854775807):EV G (Tb (bs bb)) 173 [Mb a k,.one (.bls 0 0 512 1),vi n] [yb l]=some (.tup [],[yb (aZ l a n k)]):=aQ5 l a k n 512 b h (by decide) c
structure aQ6 (r:cK):Prop where
 sq:-9223372036854775808<=r.sq/\r.sq<=9223372036854775807
 li:-9223372036854775808<=r.li/\r.li<=9223372036854775807
 fl:-9223372036854775808<=r.fl/\r.fl<=9223372036854775807
 br:-9223372036854775808<=r.br/\r.br<=9223372036854775807
 bq:-9223372036854775808<=r.bq/\r.bq<=9223372036854775807
 nx:-9223372036854775808<=r.nx/\r.nx<=9223372036854775807
 ls:-9223372036854775808<=r.ls/\r.ls<=9223372036854775807
theorem cK.Ok.n9{r:cK}(a:r.Ok):aQ6 r:=by
 obtain⟨b,c,d,e,f⟩:=a.num;obtain⟨g,h⟩:=a.base;exact⟨by omega,by omega,by omega,by omega,by omega,by omega,by omega⟩
theorem aBj(c:G9 G)(r:cK)(a:L Int)(hN:aQ6 r)(ha:a.length<=444)(Z:aI a):EV G (Tb (bs bb)) 118 [r.v,sv a] []=some (sv (iN r (68+(a.length:Int)) a),[]):=by
 refine aB rfl ?_;obtain⟨n1,n2,n3,n4,n5,n6,n7⟩:=hN;have hp:=aQ3 r a ha;rw[<- hp];unfold pbl;have u:(iZ (zl 512) 0 [70,73,76,69]).length=512:=by rw[cY (by rw[aS];decide),aS]
 have K:fH (70::73::76::69::List.take 508 [])++List.drop (fH (70::73::76::69::List.take 508 [])).length (List.map yC (zl 512))=(iZ (zl 512) 0 [70,73,76,69]).map yC:=by
  have h:=pL (zl 512) [70,73,76,69] 0 4 (fun x d=>by simp at d;omega) (by decide)
  rw[aAG] at h;exact h
 have r0:List.replicate 512 (aU.dc (DC.raw (Value.int .u8 0)))=(zl 512).map yC:=P2 512;generalize iZ (zl 512) 0 [70,73,76,69]=f at *;have p1:EV G (Tb (bs bb)) 173 [Mb 8 4,.one (.bls 0 0 512 1),vi r.ls] [yb f]=some (.tup [],[yb (aZ f 8 r.ls 4)]):=nD (G:=G) (bb:=bb) f 8 4 r.ls u (by decide) (by omega);have w:(aZ f 8 r.ls 4).length=512:=by rw[dI,u]
 generalize aZ f 8 r.ls 4=g at *;have p2:EV G (Tb (bs bb)) 173 [Mb 16 2,.one (.bls 0 0 512 1),vi r.sq] [yb g]=some (.tup [],[yb (aZ g 16 r.sq 2)]):=nD (G:=G) (bb:=bb) g 16 2 r.sq w (by decide) (by omega);have y:(aZ g 16 r.sq 2).length=512:=by rw[dI,w]
 generalize aZ g 16 r.sq 2=i at *;have p3:EV G (Tb (bs bb)) 173 [Mb 18 2,.one (.bls 0 0 512 1),vi r.li] [yb i]=some (.tup [],[yb (aZ i 18 r.li 2)]):=nD (G:=G) (bb:=bb) i 18 2 r.li y (by decide) (by omega);have A:(aZ i 18 r.li 2).length=512:=by rw[dI,y]
 generalize aZ i 18 r.li 2=j at *;have p4:EV G (Tb (bs bb)) 173 [Mb 20 2,.one (.bls 0 0 512 1),vi 64] [yb j]=some (.tup [],[yb (aZ j 20 64 2)]):=nD (G:=G) (bb:=bb) j 20 2 64 A (by decide) (by omega);have B:(aZ j 20 64 2).length=512:=by rw[dI,A]
 generalize aZ j 20 64 2=k at *;have p5:EV G (Tb (bs bb)) 173 [Mb 22 2,.one (.bls 0 0 512 1),vi r.fl] [yb k]=some (.tup [],[yb (aZ k 22 r.fl 2)]):=nD (G:=G) (bb:=bb) k 22 2 r.fl B (by decide) (by omega);have C:(aZ k 22 r.fl 2).length=512:=by rw[dI,B]
 generalize aZ k 22 r.fl 2=l at *;have p6:EV G (Tb (bs bb)) 173 [Mb 24 4,.one (.bls 0 0 512 1),vi (68+(a.length:Int))] [yb l]=some (.tup [],[yb (aZ l 24 (68+(a.length:Int)) 4)]):=nD (G:=G) (bb:=bb) l 24 4 (68+(a.length:Int)) C (by decide) (by omega);have D:(aZ l 24 (68+(a.length:Int)) 4).length=512:=by rw[dI,C]
 generalize aZ l 24 (68+(a.length:Int)) 4=m at *;have p7:EV G (Tb (bs bb)) 173 [Mb 28 4,.one (.bls 0 0 512 1),vi 512] [yb m]=some (.tup [],[yb (aZ m 28 512 4)]):=nD (G:=G) (bb:=bb) m 28 4 512 D (by decide) (by omega);have E:(aZ m 28 512 4).length=512:=by rw[dI,D]
 generalize aZ m 28 512 4=n at *;have p8:EV G (Tb (bs bb)) 173 [Mb 32 4,.one (.bls 0 0 512 1),vi r.br] [yb n]=some (.tup [],[yb (aZ n 32 r.br 4)]):=nD (G:=G) (bb:=bb) n 32 4 r.br E (by decide) (by omega);have F:(aZ n 32 r.br 4).length=512:=by rw[dI,E]
 generalize aZ n 32 r.br 4=o at *;have p9:EV G (Tb (bs bb)) 173 [Mb 36 2,.one (.bls 0 0 512 1),vi r.bq] [yb o]=some (.tup [],[yb (aZ o 36 r.bq 2)]):=nD (G:=G) (bb:=bb) o 36 2 r.bq F (by decide) (by omega);have H:(aZ o 36 r.bq 2).length=512:=by rw[dI,F]
 generalize aZ o 36 r.bq 2=p at *;have I:EV G (Tb (bs bb)) 173 [Mb 38 2,.one (.bls 0 0 512 1),vi r.nx] [yb p]=some (.tup [],[yb (aZ p 38 r.nx 2)]):=nD (G:=G) (bb:=bb) p 38 2 r.nx H (by decide) (by omega);have e:(aZ p 38 r.nx 2).length=512:=by rw[dI,H]
 generalize aZ p 38 r.nx 2=b at *;have O:(dO a:ByteArray)++⟨#[255,255,255,255]⟩=dO (a++rU):=by
  have:=Hv a rU;exact this
 have M:fX .add (sv a) (.one (.dc (.raw (.string ⟨#[255,255,255,255]⟩))))=some (sv (a++rU)):=by
  rw[Dj (by rw[aC];show a.length+4<=_;omega),O]
 have t:aI (a++rU):=fun x d=>by
  rcases bAV.1 d with d | d
  ·exact Z x d
  ·exact H7 x d
 have J:(a++rU).length=a.length+4:=by rw[aZB];rfl
 have N:=pL b (a++rU) 64 448 t (by omega);have lc:(iZ b 64 (a++rU)).length=512:=by rw[cY (by rw[J,e];omega),e]
 have P:jO (List.take 512 (List.map yC (iZ b 64 (a++rU))))=some ((iZ b 64 (a++rU)).map u8):=by rw[Dw _ _ (by omega),lM]
 have q:(64:Int)+(a.length:Int)+4=68+(a.length:Int):=by omega
 generalize iZ b 64 (a++rU)=z at *;have Q:=c.sq;have R:=c.li;have S:=c.fl;have T:=c.ba;have U:=c.bo;have V:=c.nx;have W:=c.ls;have X:=c.fi;have Y:=c.en;have s:=c.si;simp (disch:=omega) only[go_sem,h118c,aZA,aS,r0,K,p1,p2,p3,p4,p5,p6,p7,p8,p9,I,Q,R,S,T,U,V,W,X,Y,s,u,w,y,A,B,C,D,E,F,H,e,M,aC,J,N,lc,P,Tp,q,Int.reduceToNat,cI]
end
section
variable {G:aF}{bb:Bool}
theorem Ae(l:L Int)(c:aI l)(a k:Nat)(m:a+k<=l.length)(p:k<=4)(q:l.length<=1000000):EV G (Tb (bs bb)) 116 [Mb a k,sv l] []=some (vi (gL l a k),[]):=by
 refine aB rfl ?_;simp (disch:=first|omega|(simp only[aZB,aZC,aZD,aZA,aA];omega)) only[go_sem,h116c]
 rw[aR (fun j=>⟨(jk 1 (sv l::.one (.ptr 0 0)::jk 2 (vi (gL l (a+k-j) j)::vi ((k:Int)-1-j)::jk 18 []))),[.box [.dc (ci a),.dc (ci k)]]⟩) k ?_ ?_]
 have e:a+k-k=a:=by omega
 have b:¬ 0<=(k:Int)-1-(k:Int):=by omega
 simp (disch:=first|omega|(simp only[aZB,aZC,aZD,aZA,aA];omega)) only[go_sem,h116l0,e,b]
 simp[gL,gv,jk];intro j n;have d:=c _ (aZK (show a+k-1-j<l.length by omega));have h:=kV c (a+k-j) j (by omega);have f:gL l (a+k-(j+1)) (j+1)=gL l (a+k-j) j*256+l[a+k-1-j]'(by omega):=by
  have:a+k-(j+1)<l.length:=by omega
  rw[aHw l _ j this,show a+k-(j+1)+1=a+k-j by omega,Int.mul_comm];rw[Int.add_comm];congr 1;congr 1;omega
 have b:0<=(k:Int)-1-(j:Int):=by omega
 rw[f];generalize gL l (a+k-j) j=z at h ⊢;have g:((a:Int)+((k:Int)-1-(j:Int))).toNat=a+k-1-j:=by omega
 have i:=iA _ d;have o:=orL z _ (by omega) d;simp (disch:=first|omega|(simp only[aZB,aZC,aZD,aZA,aA];omega)) only[go_sem,h116l0,eq_true b,aZU,g,i,Int.reduceToNat,Int.reducePow,o]
 rw[show (k:Int)-1-(j:Int)-1=(k:Int)-1-((j:Int)+1) by omega]
