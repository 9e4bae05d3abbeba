/- Part. Conditions: none. -/
import Derived.Test.YtgdjbbnicgfohacGreatDoorUw
import Derived.Test.YtgdjbbnicgfohacGreatDoorTy
import Derived.Test.YtgdjbbnicgfohacGreatDoorUj
namespace Go.Proofs.YtgdjbbnicgfohacGreatDoor
set_option maxHeartbeats 8000000
set_option linter.unusedSimpArgs false
set_option linter.unusedVariables false
set_option maxRecDepth 4000
section
variable {G:aF}{bb:Bool}
end
section
variable {G:aF}{bb:Bool}
theorem aLZ{s:L Int}(a:aK s)(b:s.length<=1000):(bL s).1.W/\((bL s).2=0\/(bL s).1=aJ.nil):=by
 unfold bL;split;exact⟨aJ.nil_W,.inr rfl⟩;split;exact⟨aJ.nil_W,.inr rfl⟩;rename_i c;split;exact⟨aJ.nil_W,.inr rfl⟩;have h:(qT s).2=true:=by
  cases h:(qT s).2 with
  |true=>rfl
  |false=>exact absurd (.inl h) c
 exact⟨(P6 a b h).w,.inl rfl⟩
theorem Hx{a:aJ}(c:a.W)(h:gE a=0):gV a=gJ a/\(gJ a).length=eO a/\eO a<=440/\eO a % 8=0:=by
 have d:=mZ c h;have b:=d.dc;refine⟨by unfold gV;rw[if_pos h,uW b],by rw[<- uW b,nJ a b.bd],?_,(Gb a).2.2.2.1⟩;have:=rO c;unfold gV at this;rw[if_pos h,nJ a b.bd] at this;exact this
theorem aDj{a:aJ}(b:a.W)(h:gE a=0):bL (gJ a)=(a,0):=by
 obtain⟨d,f,i,j⟩:=Hx b h;have c:=(mZ b h).dc;have e:=Uh c;unfold bL;rw[if_neg (by omega),e];simp only;rw[if_neg (fun g=>g.elim (fun g=>by cases g) (fun g=>g (uW c))),if_neg (fun g=>g h)]
theorem aL0{s:L Int}(e:aK s)(f:s.length<=1000)(h:(bL s).2=0):gE (bL s).1=0/\gV (bL s).1=s:=by
 unfold bL at h ⊢;split at h;exact absurd h (by decide);rename_i d;rw[if_neg d];split at h;exact absurd h (by decide);rename_i b;rw[if_neg b];split at h;rename_i a;exact absurd h a;rename_i a;rw[if_neg a];have c:=Classical.not_not.1 a;refine⟨c,?_⟩;unfold gV;rw[if_pos c];exact Classical.byContradiction (fun g=>b (.inr g))
end
section
variable {G:aF}{bb:Bool}
end
section
variable {G:aF}{bb:Bool}
structure cL where
 sq:Int
 li:Int
 fl:Int
 br:Int
 bq:Int
 nx:Int
 ls:Int
 ats:List aJ
abbrev cL.c(r:cL):L aU:=[.dc (ci r.sq),.dc (ci r.li),.dc (ci r.fl),.dc (ci r.br),.dc (ci r.bq),.dc (ci r.nx),.dc (ci r.ls),.dc (.slc (r.ats.map aJ.e))]
abbrev cL.v(r:cL):AV:=.agg r.c
abbrev cL.t(r:cL):TV:=.agg r.c
def cL.nil:cL:=⟨0,0,0,0,0,0,0,[]⟩
structure cL.W (r:cL):Prop where
 at':∀a∈r.ats,a.W
 ln:r.ats.length<=900
theorem cL.nil_W:cL.nil.W:=⟨fun a h=>(by cases h),by decide⟩
abbrev rcv(p:cL×Int):AV:=.tup [p.1.t,.one (.dc (ci p.2))]
def aDk(a b:Int):Int:=if (0<=a/\a<=95)/\(1<=b/\b<=65535) then 0 else 2
def Bj(a b:Int):Int:=if a=0/\b=0 then 0 else aDk a b
def fJ(f:Int):Bool:=decide (f % 2=1)
def dC(l:L aJ):Int:=(l.map fun a=>((gV a).length:Int)).sum
def tP(r:cL):Bool:=decide (1<=r.sq/\r.sq<=65535)&&(decide (0<=r.li/\r.li<=65535)&&(decide (0<=r.fl/\r.fl<=3)&&(decide (0<=r.nx/\r.nx<=65535)&&decide (0<=r.ls/\r.ls<=2147483647))))
def Lw(r:cL):Bool:=decide (r.fl=0)&&(decide (r.ats=[])&&(decide (r.li=0)&&(decide (r.br=0/\r.bq=0)&&decide (r.nx=0))))
def Vx(r:cL):Int:=aT [un (tP r) 2,Bj r.br r.bq,un (fJ r.fl||Lw r) 3]
noncomputable def Vy(r:cL):Int:=iX (fun a=>decide (r.nx<=a.id)) r.ats
noncomputable def Aa(r:cL):Int×Int:=if Vx r≠0 then (0,Vx r) else if (nN r.ats).2≠0 then nN r.ats else if 0<=Vy r then (Vy r,9) else (0,un (decide (dC r.ats<=440)) 16)
noncomputable def gW(r:cL):Int:=(Aa r).2
def bT(a:aJ)(i:Int):aJ:=⟨a.ty,a.nm,i,a.fl,a.res,a.va,a.fi,a.rs,a.al,a.sz,a.vd⟩
def Fh(r:cL)(a:aJ):Bool:=!decide (a.ty=48)&&r.ats.any fun b=>nR a b
noncomputable def Ui(r:cL):Int:=aT [gW r,un (fJ r.fl) 20,un (decide (r.nx<65535)) 16]
def Uj(r:cL)(a:aJ):Int:=aT [gE (bT a r.nx),un (!Fh r a) 5,un (decide (r.ats.length<32)) 8]
def pJ(r:cL)(a:aJ):cL:=⟨r.sq,r.li,r.fl,r.br,r.bq,r.nx+1,r.ls,fA (r.ats++[bT a r.nx])⟩
noncomputable def Ya(r:cL)(a:aJ):cL×Int:=if Ui r≠0 then (.nil,Ui r) else if Uj r a≠0 then (.nil,Uj r a) else if dC (pJ r a).ats<=440 then (pJ r a,0) else (.nil,16)
def Yb(r:cL)(l:L aJ):cL:=⟨r.sq,r.li,r.fl,r.br,r.bq,r.nx,r.ls,l⟩
def aL1(q f a b:Int):Int:=aT [un (decide (1<=q/\q<=65535)&&(decide (f=1)||decide (f=3))) 2,Bj a b]
def aVn(q f a b:Int):cL×Int:=if aL1 q f a b≠0 then (.nil,aL1 q f a b) else (⟨q,0,f,a,b,0,0,[]⟩,0)
def rhd(r:cL)(u:Int):L Int:=[70,73,76,69]++(zl 4++(bI r.ls 4++(zl 4++(bI r.sq 2++(bI r.li 2++(bI 64 2++(bI r.fl 2++(bI u 4++(bI 512 4++(bI r.br 4++(bI r.bq 2++bI r.nx 2)))))))))))
def rR:L Int:=[255,255,255,255]
def iK(r:cL)(u:Int)(a:L Int):L Int:=rhd r u++(zl 24++(a++(rR++zl (444-a.length))))
def jY(r:cL):L Int:=(r.ats.map gV).flatten
noncomputable def aL2(r:cL)(u:Int):Int:=aT [gW r,un (decide (1<=u/\u<=65535)) 2]
def oH(r:cL)(u:Int):L Int:=mY (iK r (68+(jY r).length) (jY r)) u 8
noncomputable def Ge(r:cL)(u:Int):L Int×Int:=if aL2 r u≠0 then ([],aL2 r u) else (oH r u,0)
def pK(s:L Int):Nat:=(gL s 4 4).toNat
def Fi(s:L Int):Prop:=pK s % 8≠0\/pK s<24\/s.length<pK s+4
instance (s:List Int):Decidable (Fi s):=by unfold Fi;infer_instance
def rS:Nat->L Int->Option (L (L Int))
 |0,_=>none
 |k+1,s=>if s.take 4=rR then some [] else if s.length<24 then none else if Fi s then none else (rS k (s.drop (pK s))).map (s.take (pK s)::·)
def Ab(s:L Int):Option (L (L Int)):=rS (s.length+1) s
def dS(o:L Int)(l:L aJ):cL:=⟨gL o 16 2,gL o 18 2,gL o 22 2,gL o 32 4,gL o 36 2,gL o 38 2,gL o 8 4,l⟩
noncomputable def iG:L (L Int)->L aJ×Int
 |[]=>([],0)
 |p::t=>if (bL p).2≠0 then ([],(bL p).2) else if (iG t).2≠0 then ([],(iG t).2) else ((bL p).1::(iG t).1,0)
noncomputable def Ul(s:L Int)(a:L (L Int)):cL×Int×Int:=if iK (dS (eK s) []) (68+a.flatten.length) a.flatten≠eK s then (.nil,0,3) else if (iG a).2≠0 then (.nil,0,(iG a).2) else
 if gW (dS (eK s) (iG a).1)≠0 then (.nil,0,gW (dS (eK s) (iG a).1)) else (dS (eK s) (iG a).1,gO s,0)
open Classical in
noncomputable def fZ(s:L Int):cL×Int×Int:=if s.length≠512 then (.nil,0,10) else if ¬ jN s then (.nil,0,31) else match Ab ((eK s).drop 64) with
 |none=>(.nil,0,3)
 |some a=>Ul s a
end
section
variable {G:aF}{bb:Bool}
theorem Kp{l:L aJ}(h:(nN l).2=0):l.length<=32/\∀k,k<l.length->lL l k=0:=by
 unfold nN at h;split at h;exact absurd h (by decide);rename_i c;refine⟨by omega,?_⟩;obtain⟨e,hp,d⟩:=bE (fun k=>lL l k≠0) l.length
 generalize ix (fun k=>lL l k≠0) l.length=m at *
 split at h;rename_i b;rcases hp with hp|⟨_,hp⟩
 omega;exact absurd h hp;rename_i b;exact fun k a=>Classical.not_not.1 (d k (by omega))
theorem Um{l:L aJ}(h:(nN l).2=0):∀k,k<l.length->kR l k=0:=by
 intro k b;have a:=(Kp h).2 k b;by_cases h0:k=0;subst h0;unfold lL at a;rwa[if_pos rfl] at a;exact (Kd h0 b a).1
structure cL.Ok (r:cL):Prop where
 nb:tP r=true
 be:Bj r.br r.bq=0
 us:(fJ r.fl||Lw r)=true
 od:(nN r.ats).2=0
 gt:Vy r<0
 nd:dC r.ats<=440
theorem A2{a b c:Int}(h:aT [a,b,c]=0):a=0/\b=0/\c=0:=by
 by_cases d:a=0;subst d;rw[aX] at h;by_cases e:b=0;subst e;rw[aX] at h;by_cases h3:c=0;exact⟨rfl,rfl,h3⟩;rw[aZ _ _ h3] at h;exact absurd h h3;rw[aZ _ _ e] at h;exact absurd h e;rw[aZ _ _ d] at h;exact absurd h d
theorem aL3{a b:Int}(h:aT [a,b]=0):a=0/\b=0:=by
 by_cases c:a=0;subst c;rw[aX] at h;by_cases d:b=0;exact⟨rfl,d⟩;rw[aZ _ _ d] at h;exact absurd h d;rw[aZ _ _ c] at h;exact absurd h c
theorem aHy{b:Bool}{e:Int}(a:e≠0)(h:un b e=0):b=true:=by
 cases b with
 |true=>rfl
 |false=>exact absurd h a
theorem D6{r:cL}(h:gW r=0):r.Ok:=by
 unfold gW Aa at h;split at h;rename_i c;exact absurd h c;rename_i c;obtain⟨a,b,h3⟩:=A2 (Classical.not_not.1 c);split at h;rename_i d;exact absurd h d;rename_i d;split at h;exact absurd h (show ¬ (9:Int)=0 by decide);rename_i g;exact⟨aHy (by decide) a,b,aHy (by decide) h3,Classical.not_not.1 d,by omega,of_decide_eq_true (aHy (by decide) h)⟩
theorem cL.Ok.num{r:cL}(h:r.Ok):(1<=r.sq/\r.sq<=65535)/\(0<=r.li/\r.li<=65535)/\(0<=r.fl/\r.fl<=3)/\(0<=r.nx/\r.nx<=65535)/\(0<=r.ls/\r.ls<=2147483647):=by
 have:=h.nb;simpa only[tP,aZp,decide_eq_true_eq] using this
theorem cL.Ok.base{r:cL}(h:r.Ok):(0<=r.br/\r.br<=95)/\(0<=r.bq/\r.bq<=65535):=by
 have:=h.be;unfold Bj aDk at this;split at this;omega;split at this;omega;exact absurd this (by decide)
theorem cL.Ok.errs{r:cL}(h:r.Ok):(∀a∈r.ats,gE a=0)/\(r.ats.map aJ.id).Nodup:=(A1 r.ats).1 (Um h.od)
theorem cL.Ok.ln{r:cL}(h:r.Ok):r.ats.length<=32:=(Kp h.od).1
theorem P9{a:aJ}(d:a.W)(h:gE a=0):aK (gV a)/\(gV a).length=eO a/\24<=eO a/\eO a<=440/\eO a % 8=0/\(gV a).take 4=bI a.ty 4/\gL (gV a) 4 4=eO a:=by
 obtain⟨b,e,f,g⟩:=Hx d h;have i:=(mZ d h).dc;have h24:24<=eO a:=by
  have o:=Gb a;have:24<=sN a:=by unfold sN;split<;>omega
  omega
 have c:∃t,gJ a=bI a.ty 4++(bI (eO a) 4++t):=by
  unfold gJ;exact⟨_,aZr ..⟩
 obtain⟨t,c⟩:=c;refine⟨by rw[b];exact D4 i,by rw[b,e],h24,f,g,?_,?_⟩;rw[b,c,bAs (aA _ _)];rw[b,c,iF _ _ _ _ (by rw[aA];omega),aA,aZ2,P0 _ _ _ (aA _ _),gv4 _ (by omega)]
theorem Nt(l:L aJ):(((l.map gV).flatten.length:Nat):Int)=dC l:=by
 induction l with
 |nil=>rfl
 |cons a l b=>
  unfold dC at b ⊢;simp only[aZl,aZ6,aZb,List.sum_cons];omega
theorem Un{r:cL}(h:r.Ok):(jY r).length<=440:=by
 have a:=Nt r.ats;have b:=h.nd;unfold jY;omega
theorem Nu{l:L (L Int)}(h:∀p∈l,aK p):aK l.flatten:=fun x a=>by
 obtain⟨p,hp,a⟩:=List.mem_flatten.1 a;exact h p hp x a
def pbl(r:cL)(a:L Int):L Int:=iW (bA (bA (bA (bA (bA (bA (bA (bA (bA (bA (iW (zl 512) 0 [70,73,76,69]) 8 r.ls 4) 16 r.sq 2) 18 r.li 2) 20 64 2) 22 r.fl 2) 24 (68+(a.length:Int)) 4) 28 512 4) 32 r.br 4) 36 r.bq 2) 38 r.nx 2) 64 (a++rR)
theorem aQA(r:cL)(at':L Int)(h:at'.length<=444):pbl r at'=iK r (68+(at'.length:Int)) at':=by
 have a:512=4+(4+(4+(4+(2+(2+(2+(2+(4+(4+(4+(2+(2+(24+((at'.length+4)+(444-at'.length))))))))))))))):=by omega
 have b:zl 512=zl 4++(zl 4++(zl 4++(zl 4++(zl 2++(zl 2++(zl 2++(zl 2++(zl 4++(zl 4++(zl 4++(zl 2++(zl 2++(zl 24++(zl (at'.length+4)++zl (444-at'.length))))))))))))))):=by
  conv=>lhs;rw[a]
  simp only[Xo]
 unfold pbl iK rhd;rw[b,Py _ _ _ _ rfl (by rw[aS];rfl)];simp (disch:=first|omega|(simp only[aS,aA,aZc,aZd]<;>omega)|fail) only[A0,E9,aS,aA,Nat.reduceSub,aZ2,aZc,aZd,Nat.reduceAdd]
 simp (disch:=first|omega|(simp only[aS,aA,aZc,aZd,aZb,rR]<;>omega)|fail) only[J9,Py,aS,aA,Nat.reduceSub,aZ2,aZc,aZd,Nat.reduceAdd]
 simp only[aZr]
theorem Qa(r:cL)(u:Int):(rhd r u).length=40:=by
 simp only[rhd,aZb,aS,aA,aZc,aZd,Nat.reduceAdd]
theorem A3(r:cL)(u:Int)(a:L Int)(h:a.length<=444):(iK r u a).length=512:=by
 simp only[iK,aZb,Qa,aS,rR,aZc,aZd];omega
theorem aHz(r:cL)(u:Int)(a:L Int)(j:Nat)(b:40<=j)(c:j<58):(iK r u a).getD j 0=0:=by
 unfold iK;rw[Xp,Qa,if_neg (by omega),Xp,aS,if_pos (by omega),aAI]
theorem aHA(r:cL)(u:Int)(a:L Int):(iK r u a).drop 64=a++(rR++zl (444-a.length)):=by
 unfold iK;rw[<- aZr,List.drop_left' (by rw[aZb,Qa,aS])]
theorem A4(n:Nat):aK (zl n):=fun x a=>by
 have:=List.eq_of_mem_replicate a;omega
theorem mC(n:Int):∀k,aK (bI n k)
 |0=>fun x a=>by cases a
 | k+1=>by
  rw[bI];refine bP (mC n k) (fun x a=>?_)
  have:=List.mem_singleton.1 a;omega
theorem Hy:aK rR:=fun x a=>by
 simp[rR] at a;omega
theorem D7(r:cL)(u:Int)(a:L Int)(h:aK a):aK (iK r u a):=by
 unfold iK rhd;refine bP ?_ (bP (A4 _) (bP h (bP Hy (A4 _))));refine bP (fun x b=>?_) ?_
 simp at b;omega;exact bP (A4 _) (bP (mC _ _) (bP (A4 _) (bP (mC _ _) (bP (mC _ _) (bP (mC _ _) (bP (mC _ _) (bP (mC _ _) (bP (mC _ _) (bP (mC _ _) (bP (mC _ _) (mC _ _)))))))))))
theorem aHB(r:cL)(u:Int)(a:L Int):gL (iK r u a) 8 4=gv (bI r.ls 4)/\gL (iK r u a) 16 2=gv (bI r.sq 2)/\gL (iK r u a) 18 2=gv (bI r.li 2)/\gL (iK r u a) 22 2=gv (bI r.fl 2)/\gL (iK r u a) 24 4=gv (bI u 4)/\ gL (iK r u a) 32 4=gv (bI r.br 4)/\gL (iK r u a) 36 2=gv (bI r.bq 2)/\gL (iK r u a) 38 2=gv (bI r.nx 2):=by
 unfold iK rhd;simp only[aZr];refine⟨?_,?_,?_,?_,?_,?_,?_,?_⟩;all_goals simp (disch:=first|omega|(simp only[aS,aA,aZc,aZd]<;>omega)|fail) only[iF,P0,aS,aA,Nat.reduceSub,aZ2,aZc,aZd,Nat.reduceAdd]
theorem Uo{r:cL}(h:r.Ok)(u:Int)(a:L Int)(l:L aJ):dS (iK r u a) l=Yb r l:=by
 obtain⟨k,m,n,o,p⟩:=h.num;obtain⟨q,s⟩:=h.base;obtain⟨b,c,d,e,j,f,g,i⟩:=aHB r u a;unfold dS Yb;rw[b,c,d,e,f,g,i,gv4 _ (by omega),gv2 _ (by omega),gv2 _ (by omega),gv2 _ (by omega),gv4 _ (by omega),gv2 _ (by omega),gv2 _ (by omega)]
theorem Qb:∀(k:Nat)(s:L Int)(a:L (L Int)),rS k s=some a->a.flatten.length+4<=s.length/\s.take a.flatten.length=a.flatten/\(s.drop a.flatten.length).take 4=rR/\∀p∈a,24<=p.length/\p.length<=s.length
 |0,s,a,h=>by cases h
 | k+1,s,a,h=>by
  unfold rS at h;split at h
  ·rename_i c;injection h with h
   subst h;have b:(s.take 4).length=4:=by rw[c];rfl
   rw[aZf] at b;refine⟨by simp only[List.flatten_nil,aZd];omega,rfl,c,fun p hp=>by cases hp⟩
  ·split at h
   ·cases h
   ·split at h
    ·cases h
    ·rename_i m n d;obtain⟨l,j,rfl⟩:=Option.map_eq_some_iff.1 h;obtain⟨e,f,g,i⟩:=Qb k _ l j;unfold Fi at d;have b:(s.take (pK s)).length=pK s:=by rw[aZf];omega
     rw[aZn] at e;rw[aZ6,aZb,b];refine⟨by omega, ?_, ?_,fun p hp=>?_⟩
     ·rw[List.take_add,f]
     ·rw[<- bAe,g]
     ·rcases bAl.1 hp with rfl | hp
      ·rw[b];omega
      ·have:=i p hp;rw[aZn] at this;omega
theorem aAX:∀(k m:Nat)(s:L Int),s.length<k->k<=m->rS m s=rS k s
 |0,m,s,h,_=>by omega
 |k+1,0,s,_,h=>by omega
 | k+1,m+1,s,h,d=>by
  unfold rS;split
  ·rfl
  ·split
   ·rfl
   ·split
    ·rfl
    ·rename_i b c a;unfold Fi at a;rw[aAX k m _ (by rw[aZn];omega) (by omega)]
theorem aAY(s:L Int):Ab s=if s.take 4=rR then some [] else if s.length<24 then none else if Fi s then none else (Ab (s.drop (pK s))).map (s.take (pK s)::·):=by
 show rS (s.length+1) s=_;rw[rS];split;rfl;split;rfl;split;rfl;rename_i b c a;unfold Fi at a;rw[Ab,aAX ((s.drop (pK s)).length+1) s.length _ (by omega) (by rw[aZn];omega)]
theorem aQB{n:Int}(h:n∈M6):bI n 4≠rR:=by
 intro e;have a:gv (bI n 4)=gv rR:=by rw[e]
 have b:0<=n/\n<=192:=by
  simp only[M6,bAl,bAG,or_false] at h;omega
 rw[gv4 _ (by omega)] at a;simp only[gv,rR] at a;omega
theorem Uq(z:L Int):∀l:L aJ,(∀a∈l,a.W/\gE a=0)->Ab ((l.map gV).flatten++(rR++z))=some (l.map gV)
 | [],_=>by
  rw[aAY,if_pos (by rfl)];rfl
 | a::l,h=>by
  obtain⟨e,f⟩:=h a aZu;obtain⟨p,c,q,r,s,k,m⟩:=P9 e f;have o:=Uq z l (fun b n=>h b (aZC _ n))
  rw[aZl,aZ6,aZr];have u:4<=((l.map gV).flatten++(rR++z)).length:=by
   simp only[aZb,rR,aZc,aZd];omega
  generalize (l.map gV).flatten++(rR++z)=t at *;have d:=(mZ e f).ty;have j:pK (gV a++t)=eO a:=by
   have g:gL (gV a++t) 4 4=gL (gV a) 4 4:=by
    unfold gL;rw[List.drop_append_of_le_length (by omega),bAz (by rw[aZn];omega)]
   unfold pK;rw[g,m];omega
  have i:(gV a++t).length=eO a+t.length:=by rw[aZb,c]
  rw[aAY,if_neg,if_neg,if_neg,j,List.drop_left' c,o,bAs c]
  ·rfl
  ·unfold Fi;rw[j];omega
  ·omega
  ·rw[bAz (by omega),k];exact aQB d
theorem Ur:∀l:L aJ,(∀a∈l,a.W/\gE a=0)->iG (l.map gV)=(l,0)
 |[],_=>rfl
 | a::l,h=>by
  obtain⟨c,d⟩:=h a aZu;have g:=Ur l (fun b f=>h b (aZC _ f))
  have e:bL (gV a)=(a,0):=by rw[(Hx c d).1,aDj c d]
  rw[aZl,iG,e,g];rfl
theorem aAZ:∀b:L (L Int),(∀p∈b,aK p/\p.length<=1000)->((iG b).2=0->(iG b).1.map gV=b/\∀a∈(iG b).1,gE a=0)/\(∀a∈(iG b).1,a.W)/\(iG b).1.length<=b.length/\((iG b).2≠0->(iG b).1=[])
 |[],_=>⟨fun _=>⟨rfl,fun a h=>by cases h⟩,fun a h=>(by cases h),aZe _,fun _=>rfl⟩
 | p::t,h=>by
  obtain⟨g,i⟩:=h p aZu;obtain⟨m,n,o,w⟩:=aAZ t (fun q l=>h q (aZC _ l))
  have j:=aL0 g i;have k:=(aLZ g i).1;rw[iG];split
  ·rename_i c;exact⟨fun e=>absurd e c,fun a h=>(by cases h),aZv _,fun _=>rfl⟩
  ·rename_i c;split
   ·rename_i f;exact⟨fun e=>absurd e f,fun a h=>(by cases h),aZv _,fun _=>rfl⟩
   ·rename_i f;obtain⟨u,v⟩:=j (Classical.not_not.1 c);obtain⟨r,s⟩:=m (Classical.not_not.1 f);refine⟨fun _=>⟨by rw[aZl,v,r],fun a d=>?_⟩,fun a d=>?_,by simpa using o,fun e=>absurd rfl e⟩
    ·rcases bAl.1 d with rfl | d
     ·exact u
     ·exact s a d
    ·rcases bAl.1 d with rfl | d
     ·exact k
     ·exact n a d
theorem Yc{s:L Int}(e:s.length=512)(b:aK s)(c:jN s):1<=gO s/\gO s<=65535:=by
 have d:=Ce b 40;have a:=c.1;unfold gO at a ⊢;omega
theorem Kq{s:L Int}(c:s.length=512)(a:aK s):aK (eK s):=by
 intro x d;obtain⟨j,b,rfl⟩:=List.mem_iff_getElem.1 d;have e:(eK s)[j]=(eK s).getD j 0:=by simp[aZo,b]
 rw[e,Tv c];split;omega;unfold opG;split;exact qH a _;exact qH a _
theorem aHC{s:L Int}(f:s.length=512)(e:aK s)(i:jN s)(b:L Int)(l:b.length<=444):(iK (dS (eK s) []) (68+(b.length:Int)) b=eK s)↔(gL (eK s) 24 4=68+b.length/\mY (iK (dS (eK s) []) (gL (eK s) 24 4) b) (gO s) 8=s):=by
 constructor;intro h;have g:=(aHB (dS (eK s) []) (68+(b.length:Int)) b).2.2.2.2.1;rw[h,gv4 _ (by omega)] at g;refine⟨g,?_⟩;rw[g,h,aG3 f e i];rintro⟨k,d⟩;rw[k] at d;have m:=A3 (dS (eK s) []) (68+(b.length:Int)) b l;have q:=(Tx (n:=gO s) m (fun j a c=>aHz _ _ _ j a c) (Yc f e i)).1
 rw[d] at q;exact q.symm
end
section
variable {G:aF}{bb:Bool}
structure G9 (G:aF):Prop where
 sq:G 0=some [ci 16,ci 2]
 li:G 1=some [ci 18,ci 2]
 fl:G 2=some [ci 22,ci 2]
 ba:G 3=some [ci 32,ci 4]
 bo:G 4=some [ci 36,ci 2]
 nx:G 5=some [ci 38,ci 2]
 ls:G 6=some [ci 8,ci 4]
 fi:G 7=some [ci 20,ci 2]
 en:G 8=some [ci 24,ci 4]
 si:G 9=some [ci 28,ci 4]
abbrev Lx(a k:Int):AV:=.agg [.dc (ci a),.dc (ci k)]
theorem aQC(l:L Int)(a k:Nat)(n:Int)(N:Nat)(e:l.length=N)(h:a+k<=N)(g:N<=1000000)(c:-9223372036854775808<=n/\n<=9223372036854775807):EV G (Tb (bs bb)) 190 [Lx a k,.one (.bls 0 0 N 1),vi n] [yb l]=some (.tup [],[yb (bA l a n k)]):=by
 refine aB rfl ?_;simp (disch:=omega) only[go_sem,h190c];rw[aR (fun j=>⟨(jk 1 (.one (.bls 0 0 N 1)::vi (F9 n j)::.one (.ptr 1 0)::jk 4 (vi k::vi j::jk 13 []))),[yb (bA l a n j),.box [.dc (ci a),.dc (ci k)]]⟩) k ?_ ?_]
 simp (disch:=omega) only[go_sem,h190l0];rfl;intro j f;have b:=dG l a n j;have d:=Xd n c j;have h3:=aGJ (bA l a n j) (a+j) (F9 n j % 256) (by omega);simp (disch:=omega) only[go_sem,h190l0,aZa,b,wu8,Int.reduceToNat,Int.reducePow,Hp,F9,bA,h3]
theorem nA(l:L Int)(a k:Nat)(n:Int)(b:l.length=512)(h:a+k<=512)(c:-9223372036854775808<=n/\n<=9223372036854775807):EV G (Tb (bs bb)) 190 [Lx a k,.one (.bls 0 0 512 1),vi n] [yb l]=some (.tup [],[yb (bA l a n k)]):=aQC l a k n 512 b h (by decide) c
structure aQD (r:cL):Prop where
 sq:-9223372036854775808<=r.sq/\r.sq<=9223372036854775807
 li:-9223372036854775808<=r.li/\r.li<=9223372036854775807
 fl:-9223372036854775808<=r.fl/\r.fl<=9223372036854775807
 br:-9223372036854775808<=r.br/\r.br<=9223372036854775807
 bq:-9223372036854775808<=r.bq/\r.bq<=9223372036854775807
 nx:-9223372036854775808<=r.nx/\r.nx<=9223372036854775807
 ls:-9223372036854775808<=r.ls/\r.ls<=9223372036854775807
theorem cL.Ok.n9{r:cL}(a:r.Ok):aQD r:=by
 obtain⟨b,c,d,e,f⟩:=a.num;obtain⟨g,h⟩:=a.base;exact⟨by omega,by omega,by omega,by omega,by omega,by omega,by omega⟩
theorem aA0(c:G9 G)(r:cL)(a:L Int)(hN:aQD r)(ha:a.length<=444)(Z:aK a):EV G (Tb (bs bb)) 128 [r.v,sv a] []=some (sv (iK r (68+(a.length:Int)) a),[]):=by
 refine aB rfl ?_;obtain⟨n1,n2,n3,n4,n5,n6,n7⟩:=hN;have hp:=aQA r a ha;rw[<- hp];unfold pbl;have u:(iW (zl 512) 0 [70,73,76,69]).length=512:=by rw[cX (by rw[aS];decide),aS]
 have K:eU (70::73::76::69::List.take 508 [])++List.drop (eU (70::73::76::69::List.take 508 [])).length (List.map yC (zl 512))=(iW (zl 512) 0 [70,73,76,69]).map yC:=by
  have h:=pH (zl 512) [70,73,76,69] 0 4 (fun x d=>by simp at d;omega) (by decide)
  rw[aAm] at h;exact h
 have r0:List.replicate 512 (aU.dc (DC.raw (Value.int .u8 0)))=(zl 512).map yC:=Pp 512;generalize iW (zl 512) 0 [70,73,76,69]=f at *;have p1:EV G (Tb (bs bb)) 190 [Lx 8 4,.one (.bls 0 0 512 1),vi r.ls] [yb f]=some (.tup [],[yb (bA f 8 r.ls 4)]):=nA (G:=G) (bb:=bb) f 8 4 r.ls u (by decide) (by omega);have w:(bA f 8 r.ls 4).length=512:=by rw[dG,u]
 generalize bA f 8 r.ls 4=g at *;have p2:EV G (Tb (bs bb)) 190 [Lx 16 2,.one (.bls 0 0 512 1),vi r.sq] [yb g]=some (.tup [],[yb (bA g 16 r.sq 2)]):=nA (G:=G) (bb:=bb) g 16 2 r.sq w (by decide) (by omega);have y:(bA g 16 r.sq 2).length=512:=by rw[dG,w]
 generalize bA g 16 r.sq 2=i at *;have p3:EV G (Tb (bs bb)) 190 [Lx 18 2,.one (.bls 0 0 512 1),vi r.li] [yb i]=some (.tup [],[yb (bA i 18 r.li 2)]):=nA (G:=G) (bb:=bb) i 18 2 r.li y (by decide) (by omega);have A:(bA i 18 r.li 2).length=512:=by rw[dG,y]
 generalize bA i 18 r.li 2=j at *;have p4:EV G (Tb (bs bb)) 190 [Lx 20 2,.one (.bls 0 0 512 1),vi 64] [yb j]=some (.tup [],[yb (bA j 20 64 2)]):=nA (G:=G) (bb:=bb) j 20 2 64 A (by decide) (by omega);have B:(bA j 20 64 2).length=512:=by rw[dG,A]
 generalize bA j 20 64 2=k at *;have p5:EV G (Tb (bs bb)) 190 [Lx 22 2,.one (.bls 0 0 512 1),vi r.fl] [yb k]=some (.tup [],[yb (bA k 22 r.fl 2)]):=nA (G:=G) (bb:=bb) k 22 2 r.fl B (by decide) (by omega);have C:(bA k 22 r.fl 2).length=512:=by rw[dG,B]
 generalize bA k 22 r.fl 2=l at *;have p6:EV G (Tb (bs bb)) 190 [Lx 24 4,.one (.bls 0 0 512 1),vi (68+(a.length:Int))] [yb l]=some (.tup [],[yb (bA l 24 (68+(a.length:Int)) 4)]):=nA (G:=G) (bb:=bb) l 24 4 (68+(a.length:Int)) C (by decide) (by omega);have D:(bA l 24 (68+(a.length:Int)) 4).length=512:=by rw[dG,C]
 generalize bA l 24 (68+(a.length:Int)) 4=m at *;have p7:EV G (Tb (bs bb)) 190 [Lx 28 4,.one (.bls 0 0 512 1),vi 512] [yb m]=some (.tup [],[yb (bA m 28 512 4)]):=nA (G:=G) (bb:=bb) m 28 4 512 D (by decide) (by omega);have E:(bA m 28 512 4).length=512:=by rw[dG,D]
 generalize bA m 28 512 4=n at *;have p8:EV G (Tb (bs bb)) 190 [Lx 32 4,.one (.bls 0 0 512 1),vi r.br] [yb n]=some (.tup [],[yb (bA n 32 r.br 4)]):=nA (G:=G) (bb:=bb) n 32 4 r.br E (by decide) (by omega);have F:(bA n 32 r.br 4).length=512:=by rw[dG,E]
 generalize bA n 32 r.br 4=o at *;have p9:EV G (Tb (bs bb)) 190 [Lx 36 2,.one (.bls 0 0 512 1),vi r.bq] [yb o]=some (.tup [],[yb (bA o 36 r.bq 2)]):=nA (G:=G) (bb:=bb) o 36 2 r.bq F (by decide) (by omega);have H:(bA o 36 r.bq 2).length=512:=by rw[dG,F]
 generalize bA o 36 r.bq 2=p at *;have I:EV G (Tb (bs bb)) 190 [Lx 38 2,.one (.bls 0 0 512 1),vi r.nx] [yb p]=some (.tup [],[yb (bA p 38 r.nx 2)]):=nA (G:=G) (bb:=bb) p 38 2 r.nx H (by decide) (by omega);have e:(bA p 38 r.nx 2).length=512:=by rw[dG,H]
 generalize bA p 38 r.nx 2=b at *;have O:(dB a:ByteArray)++⟨#[255,255,255,255]⟩=dB (a++rR):=by
  have:=Ho a rR;exact this
 have M:fM .add (sv a) (.one (.dc (.raw (.string ⟨#[255,255,255,255]⟩))))=some (sv (a++rR)):=by
  rw[De (by rw[aC];show a.length+4<=_;omega),O]
 have t:aK (a++rR):=fun x d=>by
  rcases bAv.1 d with d | d
  ·exact Z x d
  ·exact Hy x d
 have J:(a++rR).length=a.length+4:=by rw[aZb];rfl
 have N:=pH b (a++rR) 64 448 t (by omega);have lc:(iW b 64 (a++rR)).length=512:=by rw[cX (by rw[J,e];omega),e]
 have P:jM (List.take 512 (List.map yC (iW b 64 (a++rR))))=some ((iW b 64 (a++rR)).map u8):=by rw[Dr _ _ (by omega),lI]
 have q:(64:Int)+(a.length:Int)+4=68+(a.length:Int):=by omega
 generalize iW b 64 (a++rR)=z at *;have Q:=c.sq;have R:=c.li;have S:=c.fl;have T:=c.ba;have U:=c.bo;have V:=c.nx;have W:=c.ls;have X:=c.fi;have Y:=c.en;have s:=c.si;simp (disch:=omega) only[go_sem,h128c,aZa,aS,r0,K,p1,p2,p3,p4,p5,p6,p7,p8,p9,I,Q,R,S,T,U,V,W,X,Y,s,u,w,y,A,B,C,D,E,F,H,e,M,aC,J,N,lc,P,S7,q,Int.reduceToNat,cI]
end
section
variable {G:aF}{bb:Bool}
theorem Ac(l:L Int)(c:aK l)(a k:Nat)(m:a+k<=l.length)(p:k<=4)(q:l.length<=1000000):EV G (Tb (bs bb)) 126 [Lx a k,sv l] []=some (vi (gL l a k),[]):=by
 refine aB rfl ?_;simp (disch:=first|omega|(simp only[aZb,aZc,aZd,aZa,aA];omega)) only[go_sem,h126c]
 rw[aR (fun j=>⟨(jk 1 (sv l::.one (.ptr 0 0)::jk 2 (vi (gL l (a+k-j) j)::vi ((k:Int)-1-j)::jk 18 []))),[.box [.dc (ci a),.dc (ci k)]]⟩) k ?_ ?_]
 have e:a+k-k=a:=by omega
 have b:¬ 0<=(k:Int)-1-(k:Int):=by omega
 simp (disch:=first|omega|(simp only[aZb,aZc,aZd,aZa,aA];omega)) only[go_sem,h126l0,e,b]
 simp[gL,gv,jk];intro j n;have d:=c _ (aZk (show a+k-1-j<l.length by omega));have h:=kP c (a+k-j) j (by omega);have f:gL l (a+k-(j+1)) (j+1)=gL l (a+k-j) j*256+l[a+k-1-j]'(by omega):=by
  have:a+k-(j+1)<l.length:=by omega
  rw[aG0 l _ j this,show a+k-(j+1)+1=a+k-j by omega,Int.mul_comm];rw[Int.add_comm];congr 1;congr 1;omega
 have b:0<=(k:Int)-1-(j:Int):=by omega
 rw[f];generalize gL l (a+k-j) j=z at h ⊢;have g:((a:Int)+((k:Int)-1-(j:Int))).toNat=a+k-1-j:=by omega
 have i:=gY _ d;have o:=orL z _ (by omega) d;simp (disch:=first|omega|(simp only[aZb,aZc,aZd,aZa,aA];omega)) only[go_sem,h126l0,eq_true b,aZt,g,i,Int.reduceToNat,Int.reducePow,o]
 rw[show (k:Int)-1-(j:Int)-1=(k:Int)-1-((j:Int)+1) by omega]
