/- Part. Conditions: none. -/
import Derived.Test.YtalhnjjchkmfeabGreatDoorVo
import Derived.Test.YtalhnjjchkmfeabGreatDoorTy
import Derived.Test.YtalhnjjchkmfeabGreatDoorUw
import Derived.Test.YtalhnjjchkmfeabGreatDoorSo
namespace Go.Proofs.YtalhnjjchkmfeabGreatDoor
set_option maxHeartbeats 8000000
set_option linter.unusedSimpArgs false
set_option linter.unusedVariables false
set_option maxRecDepth 4000
section
variable {G:aE}{bb:Bool}
end
section
variable {G:aE}{bb:Bool}
theorem aLW{s:L Int}(a:aH s)(b:s.length<=1000):(bO s).1.W/\((bO s).2=0\/(bO s).1=aK.nil):=by
 unfold bO;split;exact⟨aK.nil_W,.inr rfl⟩;split;exact⟨aK.nil_W,.inr rfl⟩;rename_i c;split;exact⟨aK.nil_W,.inr rfl⟩;have h:(rJ s).2=true:=by
  cases h:(rJ s).2 with
  |true=>rfl
  |false=>exact absurd (.inl h) c
 exact⟨(Pw a b h).w,.inl rfl⟩
theorem D7{a:aK}(c:a.W)(h:iL a=0):fJ a=gR a/\(gR a).length=fA a/\fA a<=440/\fA a % 8=0:=by
 have d:=mJ c h;have b:=d.dc;refine⟨by unfold fJ;rw[if_pos h,Ae b],by rw[<- Ae b,nU a b.bd],?_,(Ga a).2.2.2.1⟩;have:=sJ c;unfold fJ at this;rw[if_pos h,nU a b.bd] at this;exact this
theorem aCU{a:aK}(b:a.W)(h:iL a=0):bO (gR a)=(a,0):=by
 obtain⟨d,f,i,j⟩:=D7 b h;have c:=(mJ b h).dc;have e:=T0 c;unfold bO;rw[if_neg (by omega),e];simp only;rw[if_neg (fun g=>g.elim (fun g=>by cases g) (fun g=>g (Ae c))),if_neg (fun g=>g h)]
theorem aLX{s:L Int}(e:aH s)(f:s.length<=1000)(h:(bO s).2=0):iL (bO s).1=0/\fJ (bO s).1=s:=by
 unfold bO at h ⊢;split at h;exact absurd h (by decide);rename_i d;rw[if_neg d];split at h;exact absurd h (by decide);rename_i b;rw[if_neg b];split at h;rename_i a;exact absurd h a;rename_i a;rw[if_neg a];have c:=Classical.not_not.1 a;refine⟨c,?_⟩;unfold fJ;rw[if_pos c];exact Classical.byContradiction (fun g=>b (.inr g))
end
section
variable {G:aE}{bb:Bool}
end
section
variable {G:aE}{bb:Bool}
structure cI where
 sq:Int
 li:Int
 fl:Int
 br:Int
 bq:Int
 nx:Int
 ls:Int
 ats:List aK
abbrev cI.c(r:cI):L aU:=[.dc (ci r.sq),.dc (ci r.li),.dc (ci r.fl),.dc (ci r.br),.dc (ci r.bq),.dc (ci r.nx),.dc (ci r.ls),.dc (.slc (r.ats.map aK.e))]
abbrev cI.v(r:cI):AV:=.agg r.c
abbrev cI.t(r:cI):TV:=.agg r.c
def cI.nil:cI:=⟨0,0,0,0,0,0,0,[]⟩
structure cI.W (r:cI):Prop where
 at':∀a∈r.ats,a.W
 ln:r.ats.length<=900
theorem cI.nil_W:cI.nil.W:=⟨fun a h=>(by cases h),by decide⟩
abbrev rcv(p:cI×Int):AV:=.tup [p.1.t,.one (.dc (ci p.2))]
def aCV(a b:Int):Int:=if (0<=a/\a<=95)/\(1<=b/\b<=65535) then 0 else 2
def Bj(a b:Int):Int:=if a=0/\b=0 then 0 else aCV a b
def hZ(f:Int):Bool:=decide (f % 2=1)
def dE(l:L aK):Int:=(l.map fun a=>((fJ a).length:Int)).sum
def tN(r:cI):Bool:=decide (1<=r.sq/\r.sq<=65535)&&(decide (0<=r.li/\r.li<=65535)&&(decide (0<=r.fl/\r.fl<=3)&&(decide (0<=r.nx/\r.nx<=65535)&&decide (0<=r.ls/\r.ls<=2147483647))))
def J6(r:cI):Bool:=decide (r.fl=0)&&(decide (r.ats=[])&&(decide (r.li=0)&&(decide (r.br=0/\r.bq=0)&&decide (r.nx=0))))
def T9(r:cI):Int:=aT [un (tN r) 2,Bj r.br r.bq,un (hZ r.fl||J6 r) 3]
noncomputable def Nb(r:cI):Int:=jG (fun a=>decide (r.nx<=a.id)) r.ats
noncomputable def qN(r:cI):Int×Int:=if T9 r≠0 then (0,T9 r) else if (oD r.ats).2≠0 then oD r.ats else if 0<=Nb r then (Nb r,9) else (0,un (decide (dE r.ats<=440)) 16)
noncomputable def dR(r:cI):Int:=(qN r).2
def cL(a:aK)(i:Int):aK:=⟨a.ty,a.nm,i,a.fl,a.res,a.va,a.fi,a.rs,a.al,a.sz,a.vd⟩
def aCW(r:cI)(a:aK):Bool:=!decide (a.ty=48)&&r.ats.any fun b=>Ce a b
def Xn(r:cI)(l:L aK):cI:=⟨r.sq,r.li,r.fl,r.br,r.bq,r.nx,r.ls,l⟩
def oF(n:Int):Int:=n % 65535+1
def aLY(q f a b:Int):Int:=aT [un (decide (1<=q/\q<=65535)&&(decide (f=1)||decide (f=3))) 2,Bj a b]
def aVf(q f a b:Int):cI×Int:=if aLY q f a b≠0 then (.nil,aLY q f a b) else (⟨q,0,f,a,b,0,0,[]⟩,0)
def rhd(r:cI)(u:Int):L Int:=[70,73,76,69]++(zl 4++(bJ r.ls 4++(zl 4++(bJ r.sq 2++(bJ r.li 2++(bJ 64 2++(bJ r.fl 2++(bJ u 4++(bJ 512 4++(bJ r.br 4++(bJ r.bq 2++bJ r.nx 2)))))))))))
def sL:L Int:=[255,255,255,255]
def iT(r:cI)(u:Int)(a:L Int):L Int:=rhd r u++(zl 24++(a++(sL++zl (444-a.length))))
def gV(r:cI):L Int:=(r.ats.map fJ).flatten
noncomputable def aHk(r:cI)(u:Int):Int:=aT [dR r,un (decide (1<=u/\u<=65535)) 2]
def kW(r:cI)(u:Int):L Int:=nI (iT r (68+(gV r).length) (gV r)) u 8
noncomputable def Ag(r:cI)(u:Int):L Int×Int:=if aHk r u≠0 then ([],aHk r u) else (kW r u,0)
def pZ(s:L Int):Nat:=(gL s 4 4).toNat
def Ff(s:L Int):Prop:=pZ s % 8≠0\/pZ s<24\/s.length<pZ s+4
instance (s:List Int):Decidable (Ff s):=by unfold Ff;infer_instance
def sM:Nat->L Int->Option (L (L Int))
 |0,_=>none
 |k+1,s=>if s.take 4=sL then some [] else if s.length<24 then none else if Ff s then none else (sM k (s.drop (pZ s))).map (s.take (pZ s)::·)
def Ah(s:L Int):Option (L (L Int)):=sM (s.length+1) s
def dV(o:L Int)(l:L aK):cI:=⟨gL o 16 2,gL o 18 2,gL o 22 2,gL o 32 4,gL o 36 2,gL o 38 2,gL o 8 4,l⟩
noncomputable def iN:L (L Int)->L aK×Int
 |[]=>([],0)
 |p::t=>if (bO p).2≠0 then ([],(bO p).2) else if (iN t).2≠0 then ([],(iN t).2) else ((bO p).1::(iN t).1,0)
noncomputable def Ua(s:L Int)(a:L (L Int)):cI×Int×Int:=if iT (dV (eU s) []) (68+a.flatten.length) a.flatten≠eU s then (.nil,0,3) else if (iN a).2≠0 then (.nil,0,(iN a).2) else
 if dR (dV (eU s) (iN a).1)≠0 then (.nil,0,dR (dV (eU s) (iN a).1)) else (dV (eU s) (iN a).1,gS s,0)
open Classical in
noncomputable def cE(s:L Int):cI×Int×Int:=if s.length≠512 then (.nil,0,10) else if ¬ jY s then (.nil,0,31) else match Ah ((eU s).drop 64) with
 |none=>(.nil,0,3)
 |some a=>Ua s a
noncomputable def rwE(s:L Int)(r:cI)(n:Int):Int:=if aT [(cE s).2.2,dR r]≠0 then aT [(cE s).2.2,dR r] else
 aT [un (decide (0<=n/\n<=2147483647)) 2,un (decide ((cE s).1.ls<=n)) 9,un (decide (r.sq=(cE s).1.sq)||decide (r.sq=oF (cE s).1.sq)) 13]
def lT(r:cI)(n:Int):cI:=⟨r.sq,r.li,r.fl,r.br,r.bq,r.nx,n,r.ats⟩
noncomputable def Xo(s:L Int)(r:cI)(n:Int):L Int×Int:=if rwE s r n≠0 then ([],rwE s r n) else Ag (lT r n) (oF (cE s).2.1)
end
section
variable {G:aE}{bb:Bool}
theorem aHl{l:L aK}(h:(oD l).2=0):l.length<=32/\∀k,k<l.length->mQ l k=0:=by
 unfold oD at h;split at h;exact absurd h (by decide);rename_i c;refine⟨by omega,?_⟩;obtain⟨e,hp,d⟩:=bI (fun k=>mQ l k≠0) l.length
 generalize ix (fun k=>mQ l k≠0) l.length=m at *
 split at h;rename_i b;rcases hp with hp|⟨_,hp⟩
 omega;exact absurd h hp;rename_i b;exact fun k a=>Classical.not_not.1 (d k (by omega))
theorem Uc{l:L aK}(h:(oD l).2=0):∀k,k<l.length->rH l k=0:=by
 intro k c;have a:=(aHl h).2 k c;by_cases b:k=0;subst b;unfold mQ at a;rwa[if_pos rfl] at a;exact (aGx b c a).1
structure cI.Ok (r:cI):Prop where
 nb:tN r=true
 be:Bj r.br r.bq=0
 us:(hZ r.fl||J6 r)=true
 od:(oD r.ats).2=0
 gt:Nb r<0
 nd:dE r.ats<=440
theorem P0{a b c:Int}(h:aT [a,b,c]=0):a=0/\b=0/\c=0:=by
 by_cases d:a=0;subst d;rw[bD] at h;by_cases e:b=0;subst e;rw[bD] at h;by_cases h3:c=0;exact⟨rfl,rfl,h3⟩;rw[bA _ _ h3] at h;exact absurd h h3;rw[bA _ _ e] at h;exact absurd h e;rw[bA _ _ d] at h;exact absurd h d
theorem aAw{a b:Int}(h:aT [a,b]=0):a=0/\b=0:=by
 by_cases c:a=0;subst c;rw[bD] at h;by_cases d:b=0;exact⟨rfl,d⟩;rw[bA _ _ d] at h;exact absurd h d;rw[bA _ _ c] at h;exact absurd h c
theorem aLZ{b:Bool}{e:Int}(a:e≠0)(h:un b e=0):b=true:=by
 cases b with
 |true=>rfl
 |false=>exact absurd h a
theorem oZ{r:cI}(h:dR r=0):r.Ok:=by
 unfold dR qN at h;split at h;rename_i c;exact absurd h c;rename_i c;obtain⟨a,b,h3⟩:=P0 (Classical.not_not.1 c);split at h;rename_i d;exact absurd h d;rename_i d;split at h;exact absurd h (show ¬ (9:Int)=0 by decide);rename_i g;exact⟨aLZ (by decide) a,b,aLZ (by decide) h3,Classical.not_not.1 d,by omega,of_decide_eq_true (aLZ (by decide) h)⟩
theorem cI.Ok.num{r:cI}(h:r.Ok):(1<=r.sq/\r.sq<=65535)/\(0<=r.li/\r.li<=65535)/\(0<=r.fl/\r.fl<=3)/\(0<=r.nx/\r.nx<=65535)/\(0<=r.ls/\r.ls<=2147483647):=by
 have:=h.nb;simpa only[tN,aZq,decide_eq_true_eq] using this
theorem cI.Ok.base{r:cI}(h:r.Ok):(0<=r.br/\r.br<=95)/\(0<=r.bq/\r.bq<=65535):=by
 have:=h.be;unfold Bj aCV at this;split at this;omega;split at this;omega;exact absurd this (by decide)
theorem cI.Ok.errs{r:cI}(h:r.Ok):(∀a∈r.ats,iL a=0)/\(r.ats.map aK.id).Nodup:=(aAi r.ats).1 (Uc h.od)
theorem cI.Ok.ln{r:cI}(h:r.Ok):r.ats.length<=32:=(aHl h.od).1
theorem P1{a:aK}(d:a.W)(h:iL a=0):aH (fJ a)/\(fJ a).length=fA a/\24<=fA a/\fA a<=440/\fA a % 8=0/\(fJ a).take 4=bJ a.ty 4/\gL (fJ a) 4 4=fA a:=by
 obtain⟨b,e,f,g⟩:=D7 d h;have i:=(mJ d h).dc;have h24:24<=fA a:=by
  have o:=Ga a;have:24<=tH a:=by unfold tH;split<;>omega
  omega
 have c:∃t,gR a=bJ a.ty 4++(bJ (fA a) 4++t):=by
  unfold gR;exact⟨_,aZr ..⟩
 obtain⟨t,c⟩:=c;refine⟨by rw[b];exact D4 i,by rw[b,e],h24,f,g,?_,?_⟩;rw[b,c,bAo (aB _ _)];rw[b,c,iM _ _ _ _ (by rw[aB];omega),aB,aZ1,Pu _ _ _ (aB _ _),gv4 _ (by omega)]
theorem Nc(l:L aK):(((l.map fJ).flatten.length:Nat):Int)=dE l:=by
 induction l with
 |nil=>rfl
 |cons a l b=>
  unfold dE at b ⊢;simp only[aZl,aZ7,aZa,List.sum_cons];omega
theorem J7{r:cI}(h:r.Ok):(gV r).length<=440:=by
 have a:=Nc r.ats;have b:=h.nd;unfold gV;omega
theorem Nd{l:L (L Int)}(h:∀p∈l,aH p):aH l.flatten:=fun x a=>by
 obtain⟨p,hp,a⟩:=List.mem_flatten.1 a;exact h p hp x a
def pbl(r:cI)(a:L Int):L Int:=gI (aY (aY (aY (aY (aY (aY (aY (aY (aY (aY (gI (zl 512) 0 [70,73,76,69]) 8 r.ls 4) 16 r.sq 2) 18 r.li 2) 20 64 2) 22 r.fl 2) 24 (68+(a.length:Int)) 4) 28 512 4) 32 r.br 4) 36 r.bq 2) 38 r.nx 2) 64 (a++sL)
theorem aQw(r:cI)(at':L Int)(h:at'.length<=444):pbl r at'=iT r (68+(at'.length:Int)) at':=by
 have a:512=4+(4+(4+(4+(2+(2+(2+(2+(4+(4+(4+(2+(2+(24+((at'.length+4)+(444-at'.length))))))))))))))):=by omega
 have b:zl 512=zl 4++(zl 4++(zl 4++(zl 4++(zl 2++(zl 2++(zl 2++(zl 2++(zl 4++(zl 4++(zl 4++(zl 2++(zl 2++(zl 24++(zl (at'.length+4)++zl (444-at'.length))))))))))))))):=by
  conv=>lhs;rw[a]
  simp only[Xe]
 unfold pbl iT rhd;rw[b,Ps _ _ _ _ rfl (by rw[aP];rfl)];simp (disch:=first|omega|(simp only[aP,aB,aZb,aZc]<;>omega)|fail) only[A4,Fc,aP,aB,Nat.reduceSub,aZ1,aZb,aZc,Nat.reduceAdd]
 simp (disch:=first|omega|(simp only[aP,aB,aZb,aZc,aZa,sL]<;>omega)|fail) only[J0,Ps,aP,aB,Nat.reduceSub,aZ1,aZb,aZc,Nat.reduceAdd]
 simp only[aZr]
theorem P2(r:cI)(u:Int):(rhd r u).length=40:=by
 simp only[rhd,aZa,aP,aB,aZb,aZc,Nat.reduceAdd]
theorem A5(r:cI)(u:Int)(a:L Int)(h:a.length<=444):(iT r u a).length=512:=by
 simp only[iT,aZa,P2,aP,sL,aZb,aZc];omega
theorem aHm(r:cI)(u:Int)(a:L Int)(j:Nat)(b:40<=j)(c:j<58):(iT r u a).getD j 0=0:=by
 unfold iT;rw[Xh,P2,if_neg (by omega),Xh,aP,if_pos (by omega),aAt]
theorem aHn(r:cI)(u:Int)(a:L Int):(iT r u a).drop 64=a++(sL++zl (444-a.length)):=by
 unfold iT;rw[<- aZr,List.drop_left' (by rw[aZa,P2,aP])]
theorem A6(n:Nat):aH (zl n):=fun x a=>by
 have:=List.eq_of_mem_replicate a;omega
theorem mK(n:Int):∀k,aH (bJ n k)
 |0=>fun x a=>by cases a
 | k+1=>by
  rw[bJ];refine bT (mK n k) (fun x a=>?_)
  have:=List.mem_singleton.1 a;omega
theorem Hk:aH sL:=fun x a=>by
 simp[sL] at a;omega
theorem D8(r:cI)(u:Int)(a:L Int)(h:aH a):aH (iT r u a):=by
 unfold iT rhd;refine bT ?_ (bT (A6 _) (bT h (bT Hk (A6 _))));refine bT (fun x b=>?_) ?_
 simp at b;omega;exact bT (A6 _) (bT (mK _ _) (bT (A6 _) (bT (mK _ _) (bT (mK _ _) (bT (mK _ _) (bT (mK _ _) (bT (mK _ _) (bT (mK _ _) (bT (mK _ _) (bT (mK _ _) (mK _ _)))))))))))
theorem aHo(r:cI)(u:Int)(a:L Int):gL (iT r u a) 8 4=gv (bJ r.ls 4)/\gL (iT r u a) 16 2=gv (bJ r.sq 2)/\gL (iT r u a) 18 2=gv (bJ r.li 2)/\gL (iT r u a) 22 2=gv (bJ r.fl 2)/\gL (iT r u a) 24 4=gv (bJ u 4)/\ gL (iT r u a) 32 4=gv (bJ r.br 4)/\gL (iT r u a) 36 2=gv (bJ r.bq 2)/\gL (iT r u a) 38 2=gv (bJ r.nx 2):=by
 unfold iT rhd;simp only[aZr];refine⟨?_,?_,?_,?_,?_,?_,?_,?_⟩;all_goals simp (disch:=first|omega|(simp only[aP,aB,aZb,aZc]<;>omega)|fail) only[iM,Pu,aP,aB,Nat.reduceSub,aZ1,aZb,aZc,Nat.reduceAdd]
theorem Ud{r:cI}(h:r.Ok)(u:Int)(a:L Int)(l:L aK):dV (iT r u a) l=Xn r l:=by
 obtain⟨n1,k,m,n,o⟩:=h.num;obtain⟨p,q⟩:=h.base;obtain⟨b,c,d,e,j,f,g,i⟩:=aHo r u a;unfold dV Xn;rw[b,c,d,e,f,g,i,gv4 _ (by omega),gv2 _ (by omega),gv2 _ (by omega),gv2 _ (by omega),gv4 _ (by omega),gv2 _ (by omega),gv2 _ (by omega)]
theorem P3:∀(k:Nat)(s:L Int)(a:L (L Int)),sM k s=some a->a.flatten.length+4<=s.length/\s.take a.flatten.length=a.flatten/\(s.drop a.flatten.length).take 4=sL/\∀p∈a,24<=p.length/\p.length<=s.length
 |0,s,a,h=>by cases h
 | k+1,s,a,h=>by
  unfold sM at h;split at h
  ·rename_i c;injection h with h
   subst h;have b:(s.take 4).length=4:=by rw[c];rfl
   rw[aZd] at b;refine⟨by simp only[List.flatten_nil,aZc];omega,rfl,c,fun p hp=>by cases hp⟩
  ·split at h
   ·cases h
   ·split at h
    ·cases h
    ·rename_i m n d;obtain⟨l,j,rfl⟩:=Option.map_eq_some_iff.1 h;obtain⟨e,f,g,i⟩:=P3 k _ l j;unfold Ff at d;have b:(s.take (pZ s)).length=pZ s:=by rw[aZd];omega
     rw[aZh] at e;rw[aZ7,aZa,b];refine⟨by omega, ?_, ?_,fun p hp=>?_⟩
     ·rw[List.take_add,f]
     ·rw[<- aZ6,g]
     ·rcases bAl.1 hp with rfl | hp
      ·rw[b];omega
      ·have:=i p hp;rw[aZh] at this;omega
theorem aAx:∀(k m:Nat)(s:L Int),s.length<k->k<=m->sM m s=sM k s
 |0,m,s,h,_=>by omega
 |k+1,0,s,_,h=>by omega
 | k+1,m+1,s,h,d=>by
  unfold sM;split
  ·rfl
  ·split
   ·rfl
   ·split
    ·rfl
    ·rename_i b c a;unfold Ff at a;rw[aAx k m _ (by rw[aZh];omega) (by omega)]
theorem aAy(s:L Int):Ah s=if s.take 4=sL then some [] else if s.length<24 then none else if Ff s then none else (Ah (s.drop (pZ s))).map (s.take (pZ s)::·):=by
 show sM (s.length+1) s=_;rw[sM];split;rfl;split;rfl;split;rfl;rename_i b c a;unfold Ff at a;rw[Ah,aAx ((s.drop (pZ s)).length+1) s.length _ (by omega) (by rw[aZh];omega)]
theorem aQx{n:Int}(h:n∈Mr):bJ n 4≠sL:=by
 intro e;have a:gv (bJ n 4)=gv sL:=by rw[e]
 have b:0<=n/\n<=192:=by
  simp only[Mr,bAl,bAF,or_false] at h;omega
 rw[gv4 _ (by omega)] at a;simp only[gv,sL] at a;omega
theorem Ue(z:L Int):∀l:L aK,(∀a∈l,a.W/\iL a=0)->Ah ((l.map fJ).flatten++(sL++z))=some (l.map fJ)
 | [],_=>by
  rw[aAy,if_pos (by rfl)];rfl
 | a::l,h=>by
  obtain⟨e,f⟩:=h a aZt;obtain⟨o,c,p,q,r,j,k⟩:=P1 e f;have n:=Ue z l (fun b m=>h b (aZB _ m))
  rw[aZl,aZ7,aZr];have s:4<=((l.map fJ).flatten++(sL++z)).length:=by
   simp only[aZa,sL,aZb,aZc];omega
  generalize (l.map fJ).flatten++(sL++z)=t at *;have d:=(mJ e f).ty;have n1:pZ (fJ a++t)=fA a:=by
   have g:gL (fJ a++t) 4 4=gL (fJ a) 4 4:=by
    unfold gL;rw[List.drop_append_of_le_length (by omega),bAs (by rw[aZh];omega)]
   unfold pZ;rw[g,k];omega
  have i:(fJ a++t).length=fA a+t.length:=by rw[aZa,c]
  rw[aAy,if_neg,if_neg,if_neg,n1,List.drop_left' c,n,bAo c]
  ·rfl
  ·unfold Ff;rw[n1];omega
  ·omega
  ·rw[bAs (by omega),j];exact aQx d
theorem Uf:∀l:L aK,(∀a∈l,a.W/\iL a=0)->iN (l.map fJ)=(l,0)
 |[],_=>rfl
 | a::l,h=>by
  obtain⟨c,d⟩:=h a aZt;have g:=Uf l (fun b f=>h b (aZB _ f))
  have e:bO (fJ a)=(a,0):=by rw[(D7 c d).1,aCU c d]
  rw[aZl,iN,e,g];rfl
theorem aAz:∀b:L (L Int),(∀p∈b,aH p/\p.length<=1000)->((iN b).2=0->(iN b).1.map fJ=b/\∀a∈(iN b).1,iL a=0)/\(∀a∈(iN b).1,a.W)/\(iN b).1.length<=b.length/\((iN b).2≠0->(iN b).1=[])
 |[],_=>⟨fun _=>⟨rfl,fun a h=>by cases h⟩,fun a h=>(by cases h),aZe _,fun _=>rfl⟩
 | p::t,h=>by
  obtain⟨g,i⟩:=h p aZt;obtain⟨m,n,o,w⟩:=aAz t (fun q l=>h q (aZB _ l))
  have j:=aLX g i;have k:=(aLW g i).1;rw[iN];split
  ·rename_i c;exact⟨fun e=>absurd e c,fun a h=>(by cases h),aZx _,fun _=>rfl⟩
  ·rename_i c;split
   ·rename_i f;exact⟨fun e=>absurd e f,fun a h=>(by cases h),aZx _,fun _=>rfl⟩
   ·rename_i f;obtain⟨u,v⟩:=j (Classical.not_not.1 c);obtain⟨r,s⟩:=m (Classical.not_not.1 f);refine⟨fun _=>⟨by rw[aZl,v,r],fun a d=>?_⟩,fun a d=>?_,by simpa using o,fun e=>absurd rfl e⟩
    ·rcases bAl.1 d with rfl | d
     ·exact u
     ·exact s a d
    ·rcases bAl.1 d with rfl | d
     ·exact k
     ·exact n a d
theorem Xp{s:L Int}(e:s.length=512)(b:aH s)(c:jY s):1<=gS s/\gS s<=65535:=by
 have d:=Cf b 40;have a:=c.1;unfold gS at a ⊢;omega
theorem J8{s:L Int}(c:s.length=512)(a:aH s):aH (eU s):=by
 intro x d;obtain⟨j,b,rfl⟩:=List.mem_iff_getElem.1 d;have e:(eU s)[j]=(eU s).getD j 0:=by simp[aZo,b]
 rw[e,T2 c];split;omega;unfold opG;split;exact qW a _;exact qW a _
theorem aHp{s:L Int}(f:s.length=512)(e:aH s)(i:jY s)(b:L Int)(l:b.length<=444):(iT (dV (eU s) []) (68+(b.length:Int)) b=eU s)↔(gL (eU s) 24 4=68+b.length/\nI (iT (dV (eU s) []) (gL (eU s) 24 4) b) (gS s) 8=s):=by
 constructor;intro h;have g:=(aHo (dV (eU s) []) (68+(b.length:Int)) b).2.2.2.2.1;rw[h,gv4 _ (by omega)] at g;refine⟨g,?_⟩;rw[g,h,aHg f e i];rintro⟨k,d⟩;rw[k] at d;have m:=A5 (dV (eU s) []) (68+(b.length:Int)) b l;have q:=(T6 (n:=gS s) m (fun j a c=>aHm _ _ _ j a c) (Xp f e i)).1
 rw[d] at q;exact q.symm
end
section
variable {G:aE}{bb:Bool}
structure G9 (G:aE):Prop where
 sq:G 0=some [ci 16,ci 2]
 li:G 1=some [ci 18,ci 2]
 fl:G 2=some [ci 22,ci 2]
 ba:G 3=some [ci 32,ci 4]
 bo:G 4=some [ci 36,ci 2]
 nx:G 5=some [ci 38,ci 2]
 ls:G 6=some [ci 8,ci 4]
 fi:G 7=some [ci 20,ci 2]
 en:G 8=some [ci 24,ci 4]
 si:G 9=some [ci 28,ci 4]
abbrev Lo(a k:Int):AV:=.agg [.dc (ci a),.dc (ci k)]
theorem aQy(l:L Int)(a k:Nat)(n:Int)(N:Nat)(e:l.length=N)(h:a+k<=N)(g:N<=1000000)(c:-9223372036854775808<=n/\n<=9223372036854775807):EV G (Tb (bs bb)) 164 [Lo a k,.one (.bls 0 0 N 1),vi n] [yb l]=some (.tup [],[yb (aY l a n k)]):=by
 refine aA rfl ?_;simp (disch:=omega) only[go_sem,h164c];rw[aQ (fun j=>⟨(jk 1 (.one (.bls 0 0 N 1)::vi (F8 n j)::.one (.ptr 1 0)::jk 4 (vi k::vi j::jk 13 []))),[yb (aY l a n j),.box [.dc (ci a),.dc (ci k)]]⟩) k ?_ ?_]
 simp (disch:=omega) only[go_sem,h164l0];rfl;intro j f;have b:=dI l a n j;have d:=Wv n c j;have h3:=aGo (aY l a n j) (a+j) (F8 n j % 256) (by omega);simp (disch:=omega) only[go_sem,h164l0,aY9,b,wu8,Int.reduceToNat,Int.reducePow,Hc,F8,aY,h3]
theorem nJ(l:L Int)(a k:Nat)(n:Int)(b:l.length=512)(h:a+k<=512)(c:-9223372036854775808<=n/\n<=9223372036854775807):EV G (Tb (bs bb)) 164 [Lo a k,.one (.bls 0 0 512 1),vi n] [yb l]=some (.tup [],[yb (aY l a n k)]):=aQy l a k n 512 b h (by decide) c
structure aQz (r:cI):Prop where
 sq:-9223372036854775808<=r.sq/\r.sq<=9223372036854775807
 li:-9223372036854775808<=r.li/\r.li<=9223372036854775807
 fl:-9223372036854775808<=r.fl/\r.fl<=9223372036854775807
 br:-9223372036854775808<=r.br/\r.br<=9223372036854775807
 bq:-9223372036854775808<=r.bq/\r.bq<=9223372036854775807
 nx:-9223372036854775808<=r.nx/\r.nx<=9223372036854775807
 ls:-9223372036854775808<=r.ls/\r.ls<=9223372036854775807
theorem cI.Ok.n9{r:cI}(a:r.Ok):aQz r:=by
 obtain⟨n1,b,c,d,e⟩:=a.num;obtain⟨f,g⟩:=a.base;exact⟨by omega,by omega,by omega,by omega,by omega,by omega,by omega⟩
theorem aAA(c:G9 G)(r:cI)(a:L Int)(hN:aQz r)(ha:a.length<=444)(Z:aH a):EV G (Tb (bs bb)) 112 [r.v,sv a] []=some (sv (iT r (68+(a.length:Int)) a),[]):=by
 refine aA rfl ?_;obtain⟨n1,n2,n3,n4,n5,n6,n7⟩:=hN;have hp:=aQw r a ha;rw[<- hp];unfold pbl;have u:(gI (zl 512) 0 [70,73,76,69]).length=512:=by rw[cR (by rw[aP];decide),aP]
 have K:fH (70::73::76::69::List.take 508 [])++List.drop (fH (70::73::76::69::List.take 508 [])).length (List.map yC (zl 512))=(gI (zl 512) 0 [70,73,76,69]).map yC:=by
  have h:=pW (zl 512) [70,73,76,69] 0 4 (fun x d=>by simp at d;omega) (by decide)
  rw[Zz] at h;exact h
 have r0:List.replicate 512 (aU.dc (DC.raw (Value.int .u8 0)))=(zl 512).map yC:=Pb 512;generalize gI (zl 512) 0 [70,73,76,69]=f at *;have p1:EV G (Tb (bs bb)) 164 [Lo 8 4,.one (.bls 0 0 512 1),vi r.ls] [yb f]=some (.tup [],[yb (aY f 8 r.ls 4)]):=nJ (G:=G) (bb:=bb) f 8 4 r.ls u (by decide) (by omega);have w:(aY f 8 r.ls 4).length=512:=by rw[dI,u]
 generalize aY f 8 r.ls 4=g at *;have p2:EV G (Tb (bs bb)) 164 [Lo 16 2,.one (.bls 0 0 512 1),vi r.sq] [yb g]=some (.tup [],[yb (aY g 16 r.sq 2)]):=nJ (G:=G) (bb:=bb) g 16 2 r.sq w (by decide) (by omega);have y:(aY g 16 r.sq 2).length=512:=by rw[dI,w]
 generalize aY g 16 r.sq 2=i at *;have p3:EV G (Tb (bs bb)) 164 [Lo 18 2,.one (.bls 0 0 512 1),vi r.li] [yb i]=some (.tup [],[yb (aY i 18 r.li 2)]):=nJ (G:=G) (bb:=bb) i 18 2 r.li y (by decide) (by omega);have A:(aY i 18 r.li 2).length=512:=by rw[dI,y]
 generalize aY i 18 r.li 2=j at *;have p4:EV G (Tb (bs bb)) 164 [Lo 20 2,.one (.bls 0 0 512 1),vi 64] [yb j]=some (.tup [],[yb (aY j 20 64 2)]):=nJ (G:=G) (bb:=bb) j 20 2 64 A (by decide) (by omega);have B:(aY j 20 64 2).length=512:=by rw[dI,A]
 generalize aY j 20 64 2=k at *;have p5:EV G (Tb (bs bb)) 164 [Lo 22 2,.one (.bls 0 0 512 1),vi r.fl] [yb k]=some (.tup [],[yb (aY k 22 r.fl 2)]):=nJ (G:=G) (bb:=bb) k 22 2 r.fl B (by decide) (by omega);have C:(aY k 22 r.fl 2).length=512:=by rw[dI,B]
 generalize aY k 22 r.fl 2=l at *;have p6:EV G (Tb (bs bb)) 164 [Lo 24 4,.one (.bls 0 0 512 1),vi (68+(a.length:Int))] [yb l]=some (.tup [],[yb (aY l 24 (68+(a.length:Int)) 4)]):=nJ (G:=G) (bb:=bb) l 24 4 (68+(a.length:Int)) C (by decide) (by omega);have D:(aY l 24 (68+(a.length:Int)) 4).length=512:=by rw[dI,C]
 generalize aY l 24 (68+(a.length:Int)) 4=m at *;have p7:EV G (Tb (bs bb)) 164 [Lo 28 4,.one (.bls 0 0 512 1),vi 512] [yb m]=some (.tup [],[yb (aY m 28 512 4)]):=nJ (G:=G) (bb:=bb) m 28 4 512 D (by decide) (by omega);have E:(aY m 28 512 4).length=512:=by rw[dI,D]
 generalize aY m 28 512 4=n at *;have p8:EV G (Tb (bs bb)) 164 [Lo 32 4,.one (.bls 0 0 512 1),vi r.br] [yb n]=some (.tup [],[yb (aY n 32 r.br 4)]):=nJ (G:=G) (bb:=bb) n 32 4 r.br E (by decide) (by omega);have F:(aY n 32 r.br 4).length=512:=by rw[dI,E]
 generalize aY n 32 r.br 4=o at *;have p9:EV G (Tb (bs bb)) 164 [Lo 36 2,.one (.bls 0 0 512 1),vi r.bq] [yb o]=some (.tup [],[yb (aY o 36 r.bq 2)]):=nJ (G:=G) (bb:=bb) o 36 2 r.bq F (by decide) (by omega);have H:(aY o 36 r.bq 2).length=512:=by rw[dI,F]
 generalize aY o 36 r.bq 2=p at *;have I:EV G (Tb (bs bb)) 164 [Lo 38 2,.one (.bls 0 0 512 1),vi r.nx] [yb p]=some (.tup [],[yb (aY p 38 r.nx 2)]):=nJ (G:=G) (bb:=bb) p 38 2 r.nx H (by decide) (by omega);have e:(aY p 38 r.nx 2).length=512:=by rw[dI,H]
 generalize aY p 38 r.nx 2=b at *;have O:(fF a:ByteArray)++⟨#[255,255,255,255]⟩=fF (a++sL):=by
  have:=Hb a sL;exact this
 have M:fX .add (sv a) (.one (.dc (.raw (.string ⟨#[255,255,255,255]⟩))))=some (sv (a++sL)):=by
  rw[Dh (by rw[aC];show a.length+4<=_;omega),O]
 have t:aH (a++sL):=fun x d=>by
  rcases bAB.1 d with d | d
  ·exact Z x d
  ·exact Hk x d
 have J:(a++sL).length=a.length+4:=by rw[aZa];rfl
 have N:=pW b (a++sL) 64 448 t (by omega);have lc:(gI b 64 (a++sL)).length=512:=by rw[cR (by rw[J,e];omega),e]
 have P:jN (List.take 512 (List.map yC (gI b 64 (a++sL))))=some ((gI b 64 (a++sL)).map u8):=by rw[Dt _ _ (by omega),kN]
 have q:(64:Int)+(a.length:Int)+4=68+(a.length:Int):=by omega
 generalize gI b 64 (a++sL)=z at *;have Q:=c.sq;have R:=c.li;have S:=c.fl;have T:=c.ba;have U:=c.bo;have V:=c.nx;have W:=c.ls;have X:=c.fi;have Y:=c.en;have s:=c.si;simp (disch:=omega) only[go_sem,h112c,aY9,aP,r0,K,p1,p2,p3,p4,p5,p6,p7,p8,p9,I,Q,R,S,T,U,V,W,X,Y,s,u,w,y,A,B,C,D,E,F,H,e,M,aC,J,N,lc,P,O8,q,Int.reduceToNat,cN]
end
section
variable {G:aE}{bb:Bool}
theorem Ai(l:L Int)(c:aH l)(a k:Nat)(m:a+k<=l.length)(p:k<=4)(q:l.length<=1000000):EV G (Tb (bs bb)) 110 [Lo a k,sv l] []=some (vi (gL l a k),[]):=by
 refine aA rfl ?_;simp (disch:=first|omega|(simp only[aZa,aZb,aZc,aY9,aB];omega)) only[go_sem,h110c]
 rw[aQ (fun j=>⟨(jk 1 (sv l::.one (.ptr 0 0)::jk 2 (vi (gL l (a+k-j) j)::vi ((k:Int)-1-j)::jk 18 []))),[.box [.dc (ci a),.dc (ci k)]]⟩) k ?_ ?_]
 have e:a+k-k=a:=by omega
 have b:¬ 0<=(k:Int)-1-(k:Int):=by omega
 simp (disch:=first|omega|(simp only[aZa,aZb,aZc,aY9,aB];omega)) only[go_sem,h110l0,e,b]
 simp[gL,gv,jk];intro j n;have d:=c _ (aZk (show a+k-1-j<l.length by omega));have h:=lC c (a+k-j) j (by omega);have f:gL l (a+k-(j+1)) (j+1)=gL l (a+k-j) j*256+l[a+k-1-j]'(by omega):=by
  have:a+k-(j+1)<l.length:=by omega
  rw[aG4 l _ j this,show a+k-(j+1)+1=a+k-j by omega,Int.mul_comm];rw[Int.add_comm];congr 1;congr 1;omega
 have b:0<=(k:Int)-1-(j:Int):=by omega
 rw[f];generalize gL l (a+k-j) j=z at h ⊢;have g:((a:Int)+((k:Int)-1-(j:Int))).toNat=a+k-1-j:=by omega
 have i:=iB _ d;have o:=orL z _ (by omega) d;simp (disch:=first|omega|(simp only[aZa,aZb,aZc,aY9,aB];omega)) only[go_sem,h110l0,eq_true b,aZu,g,i,Int.reduceToNat,Int.reducePow,o]
 rw[show (k:Int)-1-(j:Int)-1=(k:Int)-1-((j:Int)+1) by omega]
