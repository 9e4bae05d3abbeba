/- Part. Conditions: none. -/
import Derived.Test.YtalhnjjchkmfeaaGreatDoorMb
namespace Go.Proofs.YtalhnjjchkmfeaaGreatDoor
set_option linter.unusedSimpArgs false
set_option linter.unusedVariables false
section
def Sl:aV->Bool
 |.dc _=>true
 |.ref _=>true
 |.mpc _=>true
 |_=>false
def Z8(hp:L aD):aV->aV
 | .bld id n=>match aL hp id with
   | .arr _ _ es=>if n<=es.length then .dc (.slc (es.take n)) else .junk
   | _=>.junk
 |.dc d=>.dc d
 |.ref c=>.ref c
 |.mpc es=>.mpc es
 |.fn f b=>bif b.all Sl then .fn f b else .junk
 |_=>.junk
def vwA(hp:L aD):AV->AV
 |.one c=>.one (Z8 hp c)
 |.agg cs=>.agg (cs.map (Z8 hp))
 |.tup _=>.junk
 |.junk=>.junk
def Jc:L aV->Option (L DC)
 |[]=>some []
 |.dc d::cs=>(Jc cs).map (d::·)
 |_=>none
def aOP:Option (L DC)->aV
 |some b=>.ref b
 |none=>.junk
def toD:aV->aV
 |.dc (.raw (.slice none 0 0))=>.dc (.slc [])
 |.ref b=>.dc (.ptr b)
 |c=>c
def vwN(hp:L aD)(c:aV):aV:=toD (Z8 hp c)
def aCo(hp:L aD):L aV->L aV
 |[]=>[]
 |c::cs=>vwN hp c::aCo hp cs
def vpP(hp:L aD)(off:Nat):aD->aV
 |.box cs=>aOP (Jc (aCo hp (cs.drop off)))
 |_=>.junk
def vwM(hp:L aD):aV->aV
 |.ptr id off=>toD (vpP hp off (aL hp id))
 |.bld id n=>vwN hp (.bld id n)
 |.dc d=>vwN hp (.dc d)
 |.ref b=>.dc (.ptr b)
 |.mpc _=>.junk
 |.fn _ _=>.junk
 |.ept _ _ _ _=>.junk
 |.bls _ _ _ _=>.junk
 |.junk=>.junk
def aCp(hp:L aD):L aV->L aV
 |[]=>[]
 |c::cs=>vwM hp c::aCp hp cs
def vqP(hp:L aD)(off:Nat):aD->aV
 |.box cs=>aOP (Jc (aCp hp (cs.drop off)))
 |_=>.junk
def fnV(f:FuncId)(cs:L aV):aV:=bif cs.all Sl then .fn f cs else .junk
def vp0(hp:L aD):aV->aV
 |.ptr id off=>vqP hp off (aL hp id)
 |.bld id n=>Z8 hp (.bld id n)
 |.dc d=>.dc d
 |.ref c=>.ref c
 |.mpc es=>.mpc es
 |.fn f b=>Z8 hp (.fn f b)
 |.ept _ _ _ _=>.junk
 |.bls _ _ _ _=>.junk
 |.junk=>.junk
def aFg(hp:L aD):L aV->L aV
 |[]=>[]
 |c::cs=>vp0 hp c::aFg hp cs
def vpC(hp:L aD):aV->aV
 |.fn f b=>fnV f (aFg hp b)
 |.ptr id off=>vp0 hp (.ptr id off)
 |.bld id n=>vp0 hp (.bld id n)
 |.dc d=>.dc d
 |.ref c=>.ref c
 |.mpc es=>.mpc es
 |.ept _ _ _ _=>.junk
 |.bls _ _ _ _=>.junk
 |.junk=>.junk
def vpA(hp:L aD):AV->AV
 |.one c=>.one (vpC hp c)
 |.agg cs=>.agg (cs.map (Z8 hp))
 |.tup _=>.junk
 |.junk=>.junk
def uU:aV->Bool
 |.dc (.raw _)=>true
 |_=>false
def aNT:TV->Bool
 |.one c=>uU c
 |.agg cs=>cs.all uU
def mL:AV->Bool
 |.one c=>uU c
 |.agg cs=>cs.all uU
 |.tup l=>l.all aNT
 |.junk=>false
section
variable {P:Program}{G:aF}{k:Nat}{st st':AS}{R:AS->Prop}{o:aN}{rest:L aN}{F F':Fz}{γ γ':L OI}{w:World}
theorem Df(c:dV F γ st.hp w):F.sub (iY w):=fun b o h=>c.fz b o h
theorem sL(A:dV F γ st.hp w){c:aV}{v:Value}(h:RC F γ c v):RC (iY w) [] (Z8 st.hp c) v:=by
 have l:=Df A;cases h with
 |dc d v h=>exact .dc d v (h.mono l)
 |ref cs b off g t q=>exact .ref cs b off g (fun j d h=>(t j d h).mono l) (fun j d h=>l.cell (q j d h))
 |mpc es r p e h x u=>exact .mpc es r p e (l _ _ h) x u
 |bldN id cap s=>
  simp only[Z8];split;rename_i B sz es z;split;simp only[bAO];exact .dc _ _ (.nil _ _);exact .junk _ rfl;exact .junk _ rfl
 |bld id n b cap s=>
  simp only[Z8];split;rename_i B sz es z;split;rename_i H;have:=aE2 (F':=iY w) (γ':=γ) A z l (fun i o _ h=>h) (fun b c h=>rfl) (.bld id n b cap s)
  have C:Cc id es (.bld id n)=.dc (.slc (es.take n)):=by simp[Cc,H]
  rw[C] at this;have D:cN (·==id) (.dc (.slc (es.take n)))=.dc (.slc (es.take n)):=by simp[cN,aV.keep]
  rw[D] at this;cases this with|dc _ _ h=>exact .dc _ _ h
  exact .junk _ rfl;exact .junk _ rfl
 |ptr id off b s=>exact .junk _ rfl
 |ept id i size off b cap s=>exact .junk _ rfl
 |bls id K n size b cap c off s J q=>exact .junk _ rfl
 |fn f m g t=>
  simp only[Z8];cases q:m.all Sl with
  |false=>exact .junk _ rfl
  |true=>
   refine .fn f m g (fun i c h=>?_)
   have u:=bA0.1 q c (aZ4 h);have y:=t i c h;generalize g i=v at y ⊢;cases y with
   |dc d v h=>exact .dc d _ (h.mono l)
   |ref cs b off g t q=>exact .ref cs b off g (fun j d h=>(t j d h).mono l) (fun j d h=>l.cell (q j d h))
   |mpc es r p e E x I=>exact .mpc es r p e (l _ _ E) x I
   |_=>simp[Sl] at u
 |junk v h=>exact .junk v h
theorem aFh(d:dV F γ st.hp w){a:AV}{v:Value}(h:RV F γ a v):RV (iY w) [] (vwA st.hp a) v:=by
 cases h with
 |one c v h=>exact .one _ _ (sL d h)
 |agg cs vs e h=>
  refine .agg _ _ (by simpa using e) (fun i c v b g=>?_)
  rw[aZI] at b;obtain⟨f,h3,rfl⟩:=Option.map_eq_some_iff.1 b;exact sL d (h i f v h3 g)
 |tup l vs e h=>exact .junk _
 |junk v=>exact .junk v
theorem Pe(hp:L aD):∀cs,aCo hp cs=cs.map (vwN hp)
 |[]=>rfl
 |c::cs=>by rw[aCo,Pe hp cs];rfl
theorem Pf(hp:L aD):∀cs,aFg hp cs=cs.map (vp0 hp)
 |[]=>rfl
 |c::cs=>by rw[aFg,Pf hp cs];rfl
theorem Jd:∀{cs:L aV}{e:L DC}{j:Nat}{d:DC},Jc cs=some e->e[j]?=some d->cs[j]?=some (.dc d)
 |[],e,j,d,h,b=>by simp only[Jc,Option.some.injEq] at h;subst h;simp at b
 | c::cs,e,j,d,h,b=>by
   cases c with
   | dc i=>
     simp only[Jc] at h;obtain⟨f,g,rfl⟩:=Option.map_eq_some_iff.1 h;cases j with
     | zero=>simp at b;simp[b]
     | succ j=>simp at b;simpa using Jd g b
   | _=>simp[Jc] at h
theorem Pg(hp:L aD):∀cs,aCp hp cs=cs.map (vwM hp)
 |[]=>rfl
 |c::cs=>by rw[aCp,Pg hp cs];rfl
theorem Xb{F:Fz}{γ:L OI}{c:aV}{v:Value}(h:RC F γ c v):RC F γ (toD c) v:=by
 unfold toD;split;cases h with|dc _ _ h=>cases h with|raw _ h=>exact .dc _ _ (.nil _ _)
 cases h with|ref _ b off g e d=>exact .dc _ _ (.ptr _ b off g e d)
 exact h
theorem Sm(x:dV F γ st.hp w){id off b:Nat}{cs:L aV}{s:aV->aV}{m:L DC}(u:aL st.hp id=.box cs)(t:γ[id]?=some (.box b))(z:∀c v,RC F γ c v->RC (iY w) [] (s c) v) (r:Jc ((cs.drop off).map s)=some m):RC (iY w) [] (.ref m) (.pointer (some ⟨b,off,none⟩)):=by
 obtain⟨vs,T,⟨B,A,y⟩,l,p⟩:=x.box u t;refine .ref m b off (fun j=>vs.getD (off+j) (.bool false)) ?_ ?_
 intro j d n;have i:=Jd r n;rw[aZI] at i;obtain⟨q,g,h3⟩:=Option.map_eq_some_iff.1 i;rw[aZ9] at g;have f:off+j<vs.size:=Nat.lt_of_lt_of_le (aK g) l;have h4:=p (off+j) q _ g (bAe f);have h5:=z _ _ h4;rw[h3] at h5;have e:vs.getD (off+j) (.bool false)=vs[off+j]:=by simp[Array.getD,f]
 show RD (iY w) d (vs.getD (off+j) (.bool false));rw[e];cases h5 with|dc _ _ h=>exact h
 intro j d n;have i:=Jd r n;rw[aZI] at i;obtain⟨q,g,h3⟩:=Option.map_eq_some_iff.1 i;rw[aZ9] at g;have f:off+j<vs.size:=Nat.lt_of_lt_of_le (aK g) l;simp[Fz.cell?,iY,A,Array.getD,f]
theorem Xc(b:dV F γ st.hp w){c:aV}{v:Value}(h:RC F γ c v):RC (iY w) [] (vwN st.hp c) v:=Xb (sL b h)
theorem aOT(e:dV F γ st.hp w){id off:Nat}{v:Value}(h:RC F γ (.ptr id off) v):RC (iY w) [] (vpP st.hp off (aL st.hp id)) v:=by
 cases h with
 |ptr id off b f=>
  cases g:aL st.hp id with
  |box cs=>
   simp only[vpP];cases d:Jc (aCo st.hp (cs.drop off)) with
   |none=>exact .junk _ rfl
   |some i=>rw[Pe] at d;exact Sm e g f (fun c v h=>Xc e h) d
  |_=>exact .junk _ rfl
theorem aOU(e:dV F γ st.hp w){c:aV}{v:Value}(h:RC F γ c v):RC (iY w) [] (vwM st.hp c) v:=by
 cases b:c with
 |ptr id off=>subst b;exact Xb (aOT e h)
 |bld id n=>subst b;exact Xc e h
 |dc d=>subst b;exact Xc e h
 |ref f=>subst b;exact Xb (c:=.ref f) (sL e h)
 |_=>exact .junk _ h.is1
theorem E8(e:dV F γ st.hp w){c:aV}{v:Value}(h:RC F γ c v):RC (iY w) [] (vp0 st.hp c) v:=by
 cases g:c with
 |ptr id off=>
  subst g;cases h with
  |ptr id off b l=>
   simp only[vp0];cases m:aL st.hp id with
   |box cs=>
    simp only[vqP];cases j:Jc (aCp st.hp (cs.drop off)) with
    |none=>exact .junk _ rfl
    |some p=>rw[Pg] at j;exact Sm e m l (fun c v h=>aOU e h) j
   |_=>exact .junk _ rfl
 |dc d=>subst g;exact sL e h
 |ref cs=>subst g;exact sL e h
 |mpc es=>subst g;exact sL e h
 |bld id n=>subst g;exact sL e h
 |fn f i=>subst g;exact sL e h
 |ept=>exact .junk _ h.is1
 |bls=>exact .junk _ h.is1
 |junk=>exact .junk _ h.is1
theorem aOV(l:dV F γ st.hp w){c:aV}{v:Value}(h:RC F γ c v):RC (iY w) [] (vpC st.hp c) v:=by
 cases j:c with
 |fn f b=>
  subst j;cases h with
  |fn f b g q=>
   simp only[vpC,fnV,Pf];cases j:(b.map (vp0 st.hp)).all Sl with
   |false=>exact .junk _ rfl
   |true=>
    have e:b.length=(b.map (vp0 st.hp)).length:=by simp
    simp only[cond_true,e];refine .fn f _ g (fun i c h=>?_)
    rw[aZI] at h;obtain⟨m,p,rfl⟩:=Option.map_eq_some_iff.1 h;exact E8 l (q i m p)
 |dc d=>subst j;exact E8 l h
 |ref cs=>subst j;exact E8 l h
 |mpc es=>subst j;exact E8 l h
 |bld id n=>subst j;exact E8 l h
 |ptr id off=>subst j;exact E8 l h
 |ept=>exact .junk _ h.is1
 |bls=>exact .junk _ h.is1
 |junk=>exact .junk _ h.is1
theorem aFi(b:dV F γ st.hp w){a:AV}{v:Value}(h:RV F γ a v):RV (iY w) [] (vpA st.hp a) v:=by
 cases h with
 |one c v h=>exact .one _ _ (aOV b h)
 |agg cs vs d h=>exact aFh b (.agg cs vs d h)
 |tup l vs d h=>exact .junk _
 |junk v=>exact .junk v
theorem Ph{c:aV}{v:Value}(b:uU c=true)(h:RC F γ c v):RC F' γ' c v:=by
 cases h with
 | dc d v h=>cases h with
   | raw v h=>exact .dc _ _ (.raw v h)
   | nil A c=>simp[uU] at b
   | slc=>simp[uU] at b
   | ptr=>simp[uU] at b
 |_=>simp[uU] at b
theorem Sn{cs:L aV}{vs:Array Value}(e:cs.all uU=true)(h:∀(i:Nat) c v,cs[i]?=some c->vs[i]?=some v->RC F γ c v):∀(i:Nat) c v,cs[i]?=some c->vs[i]?=some v->RC F' γ' c v:=
 fun i c v b d=>Ph (bA0.1 e c (aZ4 b)) (h i c v b d)
theorem Pi{a:AV}{v:Value}(d:mL a=true)(h:RV F γ a v):RV F' γ' a v:=by
 cases h with
 |one c v h=>exact .one _ _ (Ph d h)
 |agg cs vs b h=>exact .agg _ _ b (Sn d h)
 |tup l vs b h=>
  refine .tup _ _ b (fun i t v e g=>?_)
  have f:=bA0.1 d t (aZ4 e);cases h i t v e g with
  |one c v h=>exact .one _ _ (Ph f h)
  |agg cs vs b h=>exact .agg _ _ b (Sn f h)
 |junk v=>simp[mL] at d
theorem WR.callV{f:FuncId}{j:L aH}{d:L AV}{r:AV}(H:jR G st o.guard)(X:o.ai=.call f j)(C:QC P G f d r)(Z:mL r=true) (m:j.map (fun x=>vwA st.hp (aM G st.sl x))=d) (h:WR P G k rest R ⟨aR st.sl o.dst r,st.hp⟩):WR P G k (o::rest) R st:=by
 refine WR.step H (fun F γ a w u M hd l O N Y=>?_)
 rw[X] at M;obtain⟨c,t,p,rfl,g⟩:=C3 M;obtain⟨U,op,S,pos,z,A⟩:=u;simp only at t;subst t;have Q:=C4 (G:=G) O N c.args;have I:mR (iY w) [] d (c.args.map a.eval):=by
  rw[<- m];refine⟨by rw[Q.1];simp,fun i T v y B=>?_⟩
  rw[aZI] at y;obtain⟨x,hx,rfl⟩:=Option.map_eq_some_iff.1 y;exact aFh l (Q.2 i _ v (by rw[aZI,hx];rfl) B)
 refine .inr ⟨f,c.args.map a.eval,?_,(C (iY w) [] _ w (Ho w) (N.sub (Df l)) I).mono ?_⟩;simp[execOp,resolve,p,Act.eval,Deferred.ofValue,invoke,lS g];rintro e w' ⟨v,T,K,F2,γ2,rfl,⟨rfl,rfl⟩,_,V,hI,W⟩;have n:=Ay V;have q:iL k F γ w F γ w':=⟨fun _ _ h=>h,n.os,n.tape,n.output,n.size,fun b E _=>n.block b E,fun _ _ h=>.inl h,fun i b h=>.inl ⟨i,h⟩,fun _ _ _ h=>h⟩
 have s:dV F γ st.hp w':=⟨fun b J h=>by rw[n.block b (l.fzlt h)];exact l.fz b J h,l.len,l.nd,l.disj,fun i J x y B=>by
   have g:=l.ok i J x y B;exact g.ext (fun _ _ h=>h) (fun _ _ h=>h) (fun b D=>n.block b (g.lt D))⟩
 exact⟨v,_,F,γ,rfl,h,q,s,O.put _ (Pi Z W),Y⟩
theorem WR.callP{f:FuncId}{j:L aH}{d:L AV}{r:AV}(H:jR G st o.guard)(X:o.ai=.call f j)(C:QC P G f d r)(Z:mL r=true) (m:j.map (fun x=>vpA st.hp (aM G st.sl x))=d) (h:WR P G k rest R ⟨aR st.sl o.dst r,st.hp⟩):WR P G k (o::rest) R st:=by
 refine WR.step H (fun F γ a w u M hd l O N Y=>?_)
 rw[X] at M;obtain⟨c,t,p,rfl,g⟩:=C3 M;obtain⟨U,op,S,pos,z,A⟩:=u;simp only at t;subst t;have Q:=C4 (G:=G) O N c.args;have I:mR (iY w) [] d (c.args.map a.eval):=by
  rw[<- m];refine⟨by rw[Q.1];simp,fun i T v y B=>?_⟩
  rw[aZI] at y;obtain⟨x,hx,rfl⟩:=Option.map_eq_some_iff.1 y;exact aFi l (Q.2 i _ v (by rw[aZI,hx];rfl) B)
 refine .inr ⟨f,c.args.map a.eval,?_,(C (iY w) [] _ w (Ho w) (N.sub (Df l)) I).mono ?_⟩;simp[execOp,resolve,p,Act.eval,Deferred.ofValue,invoke,lS g];rintro e w' ⟨v,T,K,F2,γ2,rfl,⟨rfl,rfl⟩,_,V,hI,W⟩;have n:=Ay V;have q:iL k F γ w F γ w':=⟨fun _ _ h=>h,n.os,n.tape,n.output,n.size,fun b E _=>n.block b E,fun _ _ h=>.inl h,fun i b h=>.inl ⟨i,h⟩,fun _ _ _ h=>h⟩
 have s:dV F γ st.hp w':=⟨fun b J h=>by rw[n.block b (l.fzlt h)];exact l.fz b J h,l.len,l.nd,l.disj,fun i J x y B=>by
   have g:=l.ok i J x y B;exact g.ext (fun _ _ h=>h) (fun _ _ h=>h) (fun b D=>n.block b (g.lt D))⟩
 exact⟨v,_,F,γ,rfl,h,q,s,O.put _ (Pi Z W),Y⟩
theorem C6.viewP{f:FuncId}{l c:L AV}{hp:L aD}{r:AV}(t:QC P G f c r)(I:mL r=true)(d:l.map (vpA hp)=c):C6 P G k f l hp (fun q os=>q=r/\os=[]):=by
 intro F γ w vs j H O C;have m:dV F γ (⟨[],hp⟩:AS).hp w:=j;have z:mR (iY w) [] c vs:=by
  rw[<- d];refine⟨by rw[C.1];simp,fun i q v p s=>?_⟩
  rw[aZI] at p;obtain⟨x,J,rfl⟩:=Option.map_eq_some_iff.1 p;exact aFi m (C.2 i x v J s)
 refine (t (iY w) [] _ w (Ho w) (H.sub (Df m)) z).mono ?_;rintro e w' ⟨v,q,B,M,K,rfl,⟨rfl,rfl⟩,_,D,N,E⟩;have g:=Ay D;refine⟨v,_,_,F,γ,rfl,⟨rfl,rfl⟩,⟨fun _ _ h=>h,g.os,g.tape,g.output,g.size,fun b y _=>g.block b y,fun _ _ h=>.inl h,fun i b h=>.inl ⟨i,h⟩,fun _ _ _ h=>h⟩,?_,fun _ _ h=>h,Pi I E⟩
 rw[bAy];exact⟨fun b A h=>by rw[g.block b (j.fzlt h)];exact j.fz b A h,j.len,j.nd,j.disj,fun i A x p s=>by
     have n:=j.ok i A x p s;exact n.ext (fun _ _ h=>h) (fun _ _ h=>h) (fun b u=>g.block b (n.lt u))⟩
theorem aJU:toD (.dc (.raw (.slice none 0 0)))=.dc (.slc []):=rfl
theorem aJV{b:L DC}:toD (.ref b)=.dc (.ptr b):=rfl
theorem aJW{es:L (L DC)}:toD (.dc (.slc es))=.dc (.slc es):=rfl
theorem aJX{es:L DC}:toD (.dc (.ptr es))=.dc (.ptr es):=rfl
theorem aJY{k:IntKind}{n:Int}:toD (.dc (.raw (.int k n)))=.dc (.raw (.int k n)):=rfl
theorem aFj{n:Bool}:toD (.dc (.raw (.bool n)))=.dc (.raw (.bool n)):=rfl
theorem aJZ{n:ByteArray}:toD (.dc (.raw (.string n)))=.dc (.raw (.string n)):=rfl
theorem aOW:toD (.dc (.raw (.pointer none)))=.dc (.raw (.pointer none)):=rfl
end
attribute [go_sem] aJU aJV aJW aJX aJY aFj aJZ aOW
attribute [go_sem] vwM aCp vqP Jc aOP vwN aCo vpP fnV vp0 aFg vpC vpA Sl vwA Z8 mL uU aNT List.all_nil List.all_cons
end
section
section
variable {P:Program}{G:aF}{k:Nat}{st st':AS}{R:AS->Prop}{o:aN}{rest:L aN}
end
attribute [go_sem] aCe Cc aOI Wy lM eI
end
section
def Wf(i j x:Nat):Nat:=bif nq x i then j else bif nq x j then i else x
def L2{α:Type}(d:α)(l:L α)(i j:Nat):L α:=(l.set i (l.getD j d)).set j (l.getD i d)
def G4(x:Nat×Nat)(st:AS):AS:=⟨st.sl.map (dP (Wf x.1 x.2)),(L2 .dead st.hp x.1 x.2).map (fA (Wf x.1 x.2))⟩
def prm:L (Nat×Nat)->AS->AS
 |[],st=>st
 |x::p,st=>prm p (G4 x st)
def pOK(b n:Nat)(p:L (Nat×Nat)):Prop:=∀x∈p,b<=x.1/\b<=x.2/\x.1<n/\x.2<n
theorem aFk(i j x:Nat):Wf i j x=if x=i then j else if x=j then i else x:=by
 unfold Wf;rw[jK,jK];by_cases h:x=i;simp[h];rw[if_neg h,show (x==i)=false by simpa using h,cond_false];by_cases b:x=j;simp[b];rw[if_neg b,show (x==j)=false by simpa using b,cond_false]
theorem Pj(i j x:Nat):Wf i j (Wf i j x)=x:=by
 simp only[aFk]
 repeat' split
 all_goals omega
theorem aJ1{i j x b:Nat}(c:b<=i)(d:b<=j)(e:x<b):Wf i j x=x:=by
 rw[aFk,if_neg (by omega),if_neg (by omega)]
theorem Je{α:Type}(d:α)(l:L α)(i j:Nat):(L2 d l i j).length=l.length:=by simp[L2]
theorem So{α:Type}(d:α)(l:L α){i j:Nat}(f:i<l.length)(e:j<l.length)(x:Nat):(L2 d l i j)[x]?=l[Wf i j x]?:=by
 have g:∀y,y<l.length->l[y]?=some (l.getD y d):=fun y h=>by rw[aZN,aZJ h];rfl
 unfold L2;rw[aFk];by_cases c:x=i;rw[if_pos c];subst c;by_cases b:j=x;subst b;rw[aZ7 (by simpa using e),g j e];rw[aZY b,aZ7 f,g j e];rw[if_neg c];by_cases b:x=j;rw[if_pos b];subst b;rw[aZ7 (by simpa using e),g i f];rw[if_neg b,aZY (Ne.symm b),aZY (Ne.symm c)]
theorem Jf(x:Nat×Nat)(st:AS):(G4 x st).hp.length=st.hp.length:=by simp[G4,Je]
theorem Z9:∀(p:L (Nat×Nat)) (st:AS),(prm p st).hp.length=st.hp.length
 |[],_=>rfl
 |x::p,st=>by rw[prm,Z9 p,Jf]
theorem aAa:∀(p q:L (Nat×Nat)) (st:AS),prm (p++q) st=prm q (prm p st)
 |[],_,_=>rfl
 |x::p,q,st=>by rw[aZW,prm,prm,aAa p q]
theorem aCq(x:Nat×Nat)(st:AS):aE (G4 x st)=G4 x (aE st):=by
 have e:∀id,aP (st.hp.getD id .dead)=(st.hp.map aP).getD id .dead:=fun id=>(bL (hp:=st.hp) id).symm
 simp only[aE,G4,L2,aZ5,bAd,Function.comp_apply,<- e,oW];congr 3;refine aZ1 (fun o _=>?_)
 simp[oW]
theorem Sp:∀(p:L (Nat×Nat)) (st:AS),aE (prm p st)=prm p (aE st)
 |[],_=>rfl
 |x::p,st=>by rw[prm,prm,Sp p,aCq]
theorem Sq(st:AS):(aE st).hp.length=st.hp.length:=by simp[aE]
section
variable {P:Program}{G:aF}{k:Nat}{F F0:Fz}{γ γ0:L OI}{w w0:World}{a:Act}{st:AS}
theorem aJ2{x:Nat×Nat}{p:Nat}(q:p<=x.1)(r:p<=x.2)(h3:x.1<st.hp.length)(h4:x.2<st.hp.length)(D:k<=p)(d:iL k F0 γ0 w0 F γ w)(g:dV F γ st.hp w)(n:bZ F γ st.sl a):∃γ',iL k F0 γ0 w0 F γ' w/\dV F γ' (G4 x st).hp w/\bZ F γ' (G4 x st).sl a/\γ'.length=γ.length:=by
 obtain⟨i,j⟩:=x;simp only at q r h3 h4;have u:=g.len;have m:∀y,(L2 OI.dead γ i j)[y]?=γ[Wf i j y]?:=So _ _ (by omega) (by omega);have l:∀y,cF (L2 OI.dead γ i j) y=cF γ (Wf i j y):=fun y=>by unfold cF;rw[m]
 have f:∀(id:Nat)(o:OI),γ[id]?=some o->(L2 OI.dead γ i j)[Wf i j id]?=some o:=fun id o h=>by rw[m,Pj];exact h
 refine⟨L2 .dead γ i j,?_,?_,?_,Je ..⟩;refine⟨d.sub,d.os,d.tape,d.output,d.size,d.far,d.new,fun y b h=>d.blk (Wf i j y) b (by rw[<- l];exact h),fun y c b h=>?_⟩
 rw[m,aJ1 q r (by omega)];exact d.box y c b h;refine⟨g.fz,by rw[Je,Jf];exact u,fun y z b c B=>?_,fun y b c=>g.disj (Wf i j y) b (by rw[<- l];exact c),fun y o x c s=>?_⟩
 have:=g.nd (Wf i j y) (Wf i j z) b (by rw[<- l];exact c) (by rw[<- l];exact B);rw[<- Pj i j y,this,Pj];simp only[G4,aZI,So _ _ h3 h4] at c;rw[m] at s;cases e:st.hp[Wf i j y]? with
 |none=>rw[e] at c;cases c
 |some t=>
  rw[e] at c;injection c with c;subst c
  exact (g.ok _ _ _ e s).ren f
 refine⟨n.1,by simp[G4];exact n.2.1,fun y C v c A=>?_⟩
 simp only[G4,aZI] at c;cases e:st.sl[y]? with
 |none=>rw[e] at c;cases c
 |some t=>
  rw[e] at c;injection c with c;subst c
  exact (n.2.2 y t v e A).ren f
theorem aFl{h:Nat}(g:k<=h):∀(p:L (Nat×Nat)) (st:AS) (γ:L OI),pOK h st.hp.length p->iL k F0 γ0 w0 F γ w->dV F γ st.hp w->bZ F γ st.sl a-> ∃γ',iL k F0 γ0 w0 F γ' w/\dV F γ' (prm p st).hp w/\bZ F γ' (prm p st).sl a/\γ'.length=γ.length
 |[],st,γ,_,b,c,d=>⟨γ,b,c,d,rfl⟩
 | x::p,st,γ,hp,b,c,d=>by
   obtain⟨t,u,h3,h4⟩:=hp x aZT;obtain⟨e,n,q,r,s⟩:=aJ2 t u h3 h4 g b c d;obtain⟨f,i,j,l,m⟩:=aFl g p (G4 x st) e (fun y v=>by rw[Jf];exact hp y (aZ3 _ v)) n q r
   exact⟨f,i,j,l,by rw[m,s]⟩
theorem AW.prm{x:eK}{Q:Exit->AS->Prop}(h:AW P G k x (fun e s=>∃p,pOK st.hp.length s.hp.length p/\Q e (prm p s)) st):AW P G k x Q st:=by
 intro c r F γ a w d v t f g u;refine h c r F γ a w d v t f g (fun e i w' F' γ' B ⟨p,n,q⟩ y z A D=>?_)
 obtain⟨b,j,l,m,C⟩:=aFl (by rw[<- d.len];exact f) p B γ' n y z A;exact u e i w' F' b _ q j l m (by omega)
end
end
section
def aJ3:aV->Bool
 |.bls _ _ _ _=>true
 |_=>false
def aAb:L aV->Bool
 |[]=>false
 |c::cs=>aJ3 c||aAb cs
def aSY:TV->Bool
 |.one c=>aJ3 c
 |.agg cs=>aAb cs
def aFm:L TV->Bool
 |[]=>false
 |c::cs=>aSY c||aFm cs
def Xd:AV->Bool
 |.one c=>aJ3 c
 |.agg cs=>aAb cs
 |.tup l=>aFm l
 |.junk=>false
def bxD(n size:Nat):Option (L DC)->aV
 |some b=>if b.length=n*size then .dc (.slc (gD size n b)) else .junk
 |none=>.junk
def bxC(id:Nat)(cs:L aV):aV->aV
 |.bls j k n s=>bif nq j id then bxD n s (dcs ((cs.drop (k*s)).take (n*s))) else .bls j k n s
 |c=>c
def bxT(id:Nat)(cs:L aV):TV->TV
 |.one c=>.one (bxC id cs c)
 |.agg l=>.agg (l.map (bxC id cs))
def bxV(id:Nat)(cs:L aV):AV->AV
 |.one c=>.one (bxC id cs c)
 |.agg l=>.agg (l.map (bxC id cs))
 |.tup l=>.tup (l.map (bxT id cs))
 |.junk=>.junk
def bxO(id:Nat)(cs:L aV):aD->aD
 |.box l=>.box (l.map (bxC id cs))
 |o=>o
def bxB(id:Nat)(cs:L aV)(st:AS):AS:=⟨st.sl.map fun v=>bG (fun x=>nq x id) (bxV id cs v),(st.hp.map fun o=>cU (fun x=>nq x id) (bxO id cs o)).set id .dead⟩
def bx1(id:Nat)(st:AS):aD->Bool->AS
 |.box cs,true=>bxB id cs st
 |_,_=>st
def Dg(n:Nat):L Nat->AS->AS
 |[],st=>st
 |id::r,st=>Dg n r (bx1 id st (aL st.hp id) (decide (n<=id)))
def bxW(n:Nat)(b:L Nat)(st:AS):Bool->AS
 |true=>Dg n b st
 |false=>st
theorem aJ4{cs:L aV}{b:L DC}(h:dcs cs=some b){j:Nat}{d:DC}(c:b[j]?=some d):cs[j]?=some (.dc d):=by
 rw[mZ h];simp only[kY,aZI,c,aZF]
theorem Nc{size:Nat}:∀(n:Nat)(b:L DC),b.length=n*size->∀(i j:Nat) e d,(gD size n b)[i]?=some e->e[j]?=some d->b[i*size+j]?=some d/\i<n
 |0,b,h,i,j,e,d,c,_=>by simp[gD] at c
 | n+1,b,h,0,j,e,d,c,f=>by
   simp only[gD,bBi,Option.some.injEq] at c;subst c;rw[bAb] at f;split at f
   · exact⟨by rw[Nat.zero_mul,bAm];exact f,Nat.succ_pos _⟩
   · cases f
 | n+1,b,h,i+1,j,e,d,c,f=>by
   simp only[gD,bBf] at c;have g:(b.drop size).length=n * size:=by rw[aZK,h,Nat.succ_mul];omega
   obtain⟨h3,h4⟩:=Nc n (b.drop size) g i j e d c f;rw[aZ9] at h3;exact⟨by rw[<- h3];congr 1;rw[Nat.succ_mul];omega,by omega⟩
section
variable {k:Nat}{as:AS}{F:Fz}{γ:L OI}{w:World}
theorem aS0{F':Fz}{γ':L OI}{id b:Nat}{cs:L aV}(U:dV F γ as.hp w)(O:aL as.hp id=.box cs)(g:γ[id]?=some (.box b))(I:F.sub F')(Q:∀(i:Nat)(o:OI),(nq i id)=false->γ[i]?=some o->γ'[i]?=some o) (N:F' b=w.heap[b]?) {c:aV}{v:Value} (h:RC F γ c v):RC F' γ' (cN (fun x=>nq x id) (bxC id cs c)) v:=by
 have hx:=U.ok id (.box cs) (.box b) (fM O (by simp)) g;obtain⟨vs,T,⟨fz,S,W⟩,Z,Y⟩:=hx;by_cases E:∃t n s,c=.bls id t n s;obtain⟨t,n,s,rfl⟩:=E;have z:nq id id=true:=by rw[jK];simp
 simp only[bxC,z,cond_true];cases y:dcs ((cs.drop (t*s)).take (n*s)) with
 |none=>exact .junk _ (by cases h;rfl)
 |some l=>
  simp only[bxD];split;rename_i H;obtain⟨c1,J,D⟩:=lF s n l H;have M:cN (fun x=>nq x id) (.dc (.slc (gD s n l)))=.dc (.slc (gD s n l)):=by simp[cN,aV.keep]
  rw[M];refine .dc _ _ ?_;cases h with
  |bls _ _ _ _ b' cap c off f X q=>
   have B:b'=b:=by
    rcases f with f|f;rw[g] at f;injection f with f;cases f;rw[g] at f;injection f with f;injection f with f;exact f.symm
   subst B;have r:∀(i j:Nat) e d,(gD s n l)[i]?=some e->e[j]?=some d->∃u,vs[off+(i*s+j)]?=some u/\RD F d u:=by
    intro i j e d m p;obtain⟨h3,h4⟩:=Nc n l H i j e d m p;have h5:=aJ4 y h3;rw[bAb] at h5;split at h5;rw[aZ9] at h5;have C:=X (by omega);rw[<- C] at h5;have V:off+(i*s+j)<cs.length:=(List.getElem?_eq_some_iff.1 h5).1;have h6:vs[off+(i*s+j)]?=some (vs[off+(i*s+j)]'(by omega)):=bAe (by omega);have h7:=Y _ _ _ h5 h6;refine⟨_,h6,?_⟩;cases h7 with
    |dc _ _ h=>exact h
    cases h5
   have:=RD.slc (F:=F') b' off c s (gD s n l) (fun i j=>vs.toList.getD (off+(i * s+j)) undef) J (fun i j e d m p=>by
       obtain⟨u,A,y⟩:=r i j e d m p;simp only[aZN,bAF,A,bAl];exact y.mono I) (fun i j e d m p=>by
       obtain⟨u,A,y⟩:=r i j e d m p;simp only[aZN,bAF,A,bAl,Fz.cell?];rw[N,S];simpa using A) (by rw[D];exact q)
   rwa[D] at this
  exact .junk _ (by cases h;rfl)
 have K:bxC id cs c=c:=by
  cases c<;>try rfl
  rename_i j t n s;simp only[bxC];cases z:nq j id with
  |true=>
   rw[jK,beq_iff_eq] at z;subst z;exact absurd ⟨t,n,s,rfl⟩ E
  |false=>rfl
 rw[K];exact h.kill I Q
theorem Gh.bx{id:Nat}{cs:L aV}(X:aL as.hp id=.box cs)(Y:k<=id):Gh k as (bxB id cs as):=by
 intro F γ a w r W hk;have M:=fM X (by simp);have n:id<γ.length:=by rw[r.len];exact aK M
 have H:γ[id]?=some (γ[id]'n):=aZJ n;generalize hxe:γ[id]'n=x at H;have N:=r.ok id _ _ M H;cases x with
 |arr _ _=>exact N.elim
 |dead=>exact N.elim
 |box bl=>
 let F':Fz:=F.add w bl
 have J:F' bl=w.heap[bl]?:=by simp[F',Fz.add]
 have z:∀b',bl≠b'->F' b'=F b':=by
  intro b' D;simp only[F',Fz.add];rw[if_neg (fun e=>D e.symm)]
 have g:F.sub F':=by
  intro b o h;rw[z b (fun e=>by rw[r.disj id b (bT H (by rw[e];rfl))] at h;cases h)];exact h
 have hq:∀i:Nat,(nq i id)=false->i≠id:=fun i h e=>by rw[jK,e] at h;simp at h
 have U:∀ (i:Nat) (o:OI),(nq i id)=false->γ[i]?=some o->(γ.set id .dead)[i]?=some o:=fun i o d f=>by
   rw[aZY (Ne.symm (hq i d))];exact f
 have A:∀i b,cF (γ.set id .dead) i=some b->i≠id/\cF γ i=some b:=by
  intro i b h;obtain⟨y,I,O⟩:=dC h;by_cases m:id=i;subst m;rw[aZ7 n] at I;injection I with I;subst I
  simp[OI.blk] at O;rw[aZY m] at I;exact⟨Ne.symm m,bT I O⟩
 have B:=fun {c:aV}{v:Value} (h:RC F γ c v)=>aS0 (F':=F') (γ':=γ.set id .dead) r X H g U J h
 have q:∀ {l:L aV} {vs:Array Value},(∀ (i:Nat) c v,l[i]?=some c->vs[i]?=some v->RC F γ c v)->∀ (i:Nat) c v,((l.map (bxC id cs)).map (cN (fun x=>nq x id)))[i]?=some c->vs[i]?=some v->RC F' (γ.set id .dead) c v:=by
   intro l vs h i c v Q hv;rw[aZ5,aZI] at Q;cases C:l[i]? with
   | none=>simp[C] at Q
   | some c0=>
     simp only[C,aZF,Option.some.injEq,Function.comp] at Q;subst Q;exact B (h i c0 v C hv)
 refine⟨F',γ.set id .dead,⟨g,rfl,rfl,rfl,aZE _,fun _ _ _=>rfl,fun b o h=>?_,fun i b h=>.inl ⟨i,(A i b h).2⟩,fun i hik b h=>?_⟩,
   ⟨fun b o h=>?_,by simp[bxB,r.len],fun i j b d f=>r.nd i j b (A i b d).2 (A j b f).2,fun i b h=>?_,fun i o y d f=>?_⟩, ?_,by simpa using hk⟩
 by_cases u:bl=b;exact .inr (.inr ⟨id,bT H (by rw[u];rfl)⟩);rw[z b u] at h;exact .inl h;rw[aZY (by omega)];exact h;by_cases u:bl=b;subst u;rw[J] at h;exact h;rw[z b u] at h;exact r.fz b o h;obtain⟨D,K⟩:=A i b h;rw[z b (fun e=>D (r.nd _ _ _ K (bT H (by rw[e];rfl))))]
 exact r.disj i b K;simp only[bxB] at d;by_cases m:id=i;subst m;rw[aZ7 n] at f;rw[aZ7 (by rw[aZz,<- r.len];exact n)] at d;injection d with d;injection f with f;subst d;subst f
 trivial;rw[aZY m] at d f;rw[aZI] at d;cases V:as.hp[i]? with
 |none=>simp[V] at d
 |some Z=>
  simp only[V,aZF,Option.some.injEq] at d;subst d;have h3:=r.ok i Z y V f;cases Z with
  |box l=>
   cases y with
   |box b=>
    obtain⟨vs,T,g1,g2,g3⟩:=h3;exact⟨vs,T,g1,by simpa[bxO] using g2,q g3⟩
   |arr _ _=>exact h3.elim
   |dead=>exact h3.elim
  |arr c2 s2 es2=>
   have:=h3.kill (p:=(fun x=>nq x id)) (F':=F') (γ':=γ.set id .dead) (w':=w) g U (fun _ _=>rfl)
   exact this
  |dead=>
   have:=h3.kill (p:=(fun x=>nq x id)) (F':=F') (γ':=γ.set id .dead) (w':=w) g U (fun _ _=>rfl)
   exact this
 refine⟨W.1,by simpa[bxB] using W.2.1,fun i av v d f=>?_⟩
 simp only[bxB] at d;rw[aZI] at d;cases E:as.sl[i]? with
 |none=>simp[E] at d
 |some S=>
  simp only[E,aZF,Option.some.injEq] at d;subst d;have h3:=W.2.2 i S v E f;cases h3 with
  |one c v h=>exact .one _ _ (B h)
  |agg l vs s h=>exact .agg _ _ (by simpa[bxV] using s) (q h)
  |tup l vs s h=>
   refine .tup _ _ (by simpa[bxV] using s) (fun i t v d f=>?_)
   rw[aZ5,aZI] at d;obtain⟨t0,h4,rfl⟩:=Option.map_eq_some_iff.1 d;cases h i t0 v h4 f with
   |one c v h=>exact .one _ _ (B h)
   |agg l vs s h=>exact .agg _ _ (by simpa[bxT] using s) (q h)
  |junk v=>exact .junk v
theorem aCs{id:Nat}{cs:L aV}(o:aD):aP (bxO id cs o)=bxO id cs (aP o):=by cases o<;>rfl
theorem uV{n:Nat}(b:k<=n):∀(d:L Nat)(s:AS),∃c,Gh k s c/\aE c=Dg n d (aE s)
 |[],s=>⟨s,Gh.refl,rfl⟩
 | id::r,s=>by
   simp only[Dg];have e:aL (aE s).hp id=aP (aL s.hp id):=bL (hp:=s.hp) id;rw[e];cases i:aL s.hp id with
   | arr _ _ _=>exact uV b r s
   | dead=>exact uV b r s
   | box cs=>
     simp only[aP];by_cases f:n<=id
     · rw[decide_eq_true f]
       obtain⟨c,g,h⟩:=uV b r (bxB id cs s);refine⟨c,(Gh.bx i (by omega)).trans g, ?_⟩;rw[h];congr 1;simp only[bx1,bxB,aE,bAd,aZ5,aP];congr 2;exact aZ1 (fun o _=>by simp only[Function.comp_apply,pF,aCs])
     · rw[decide_eq_false f]
       exact uV b r s
theorem aOX{n:Nat}(e:k<=n)(c:L Nat)(s:AS)(b:Bool):∃d,Gh k s d/\aE d=bxW n c (aE s) b:=by
 cases b with
 |true=>exact uV e c s
 |false=>exact⟨s,Gh.refl,rfl⟩
theorem rJ(n:Nat):∀(b:L Nat)(st:AS),(Dg n b st).sl.length=st.sl.length/\(Dg n b st).hp.length=st.hp.length
 |[],st=>⟨rfl,rfl⟩
 | id::r,st=>by
   simp only[Dg];cases aL st.hp id with
   | box cs=>
     cases decide (n<=id) with
     | true=>
       obtain⟨c,d⟩:=rJ n r (bxB id cs st);exact⟨by rw[bx1,c];simp[bxB],by rw[bx1,d];simp[bxB]⟩
     | false=>exact rJ n r st
   | arr _ _ _=>exact rJ n r st
   | dead=>exact rJ n r st
theorem aAc(n:Nat)(c:L Nat)(st:AS)(b:Bool):(bxW n c st b).sl.length=st.sl.length/\(bxW n c st b).hp.length=st.hp.length:=by
 cases b with
 |true=>exact rJ n c st
 |false=>exact⟨rfl,rfl⟩
end
end
section
def bvC(id s len:Nat):aV->aV
 |.bld j n=>bif nq j id then (bif nq n len then .bls id 0 n s else .junk) else .bld j n
 |.ept j i z o=>bif nq j id then .ptr id (i*z+o) else .ept j i z o
 |.fn f b=>cN (fun x=>nq x id) (.fn f b)
 |.dc d=>.dc d
 |.ref cs=>.ref cs
 |.mpc es=>.mpc es
 |.junk=>.junk
 |.ptr j o=>.ptr j o
 |.bls j i z o=>.bls j i z o
def Sr(id s len:Nat):L aV->L aV
 |[]=>[]
 |c::cs=>bvC id s len c::Sr id s len cs
def bvT(id s len:Nat):TV->TV
 |.one c=>.one (bvC id s len c)
 |.agg l=>.agg (Sr id s len l)
def bvV(id s len:Nat):AV->AV
 |.one c=>.one (bvC id s len c)
 |.agg l=>.agg (Sr id s len l)
 |.tup l=>.tup (l.map (bvT id s len))
 |.junk=>.junk
def bvS(id s len:Nat):L AV->L AV
 |[]=>[]
 |v::vs=>bvV id s len v::bvS id s len vs
def bvO(id s len:Nat):aD->aD
 |.box l=>.box (Sr id s len l)
 |.arr c z es=>.arr c z es
 |.dead=>.dead
def bvH(id s len:Nat):L aD->L aD
 |[]=>[]
 |o::os=>bvO id s len o::bvH id s len os
theorem Dh(id s len:Nat):∀l,Sr id s len l=l.map (bvC id s len)
 |[]=>rfl
 |c::cs=>by rw[Sr,Dh id s len cs];rfl
theorem Xe(id s len:Nat):∀l,bvS id s len l=l.map (bvV id s len)
 |[]=>rfl
 |c::cs=>by rw[bvS,Xe id s len cs];rfl
theorem Pl(id s len:Nat):∀l,bvH id s len l=l.map (bvO id s len)
 |[]=>rfl
 |c::cs=>by rw[bvH,Pl id s len cs];rfl
def bvB(id s:Nat)(es:L (L DC))(st:AS):AS:=⟨bvS id s es.length st.sl,(bvH id s es.length st.hp).set id (.box (kY es.flatten))⟩
def bv1(id s:Nat)(es:L (L DC))(st:AS):Bool->AS
 |true=>bX [id] st
 |false=>bvB id s es st
def bvZ(id:Nat)(st:AS):aD->AS
 |.arr _ s es=>bv1 id s es st es.isEmpty
 |_=>st
def Ss:L Nat->AS->AS
 |[],st=>st
 |id::r,st=>Ss r (bvZ id st (aL st.hp id))
theorem rK{α:Type}{s:Nat}:∀(es:L (L α)),(∀e∈es,e.length=s)->es.flatten.length=es.length*s/\∀(m:Nat) d,es.flatten[m]?=some d->∃i j e,es[i]?=some e/\e[j]?=some d/\m=i*s+j
 |[],_=>⟨by simp,fun m d h=>by simp at h⟩
 | e::es,c=>by
   obtain⟨f,g⟩:=rK es (fun x n=>c x (aZ3 _ n))
   have l:=c e (aZT ..);refine⟨by rw[bAx,aZA,f,l,aZB,Nat.succ_mul,Nat.add_comm],fun m d h=>?_⟩
   rw[bAx] at h;by_cases b:m < e.length
   · rw[aZU b] at h
     exact⟨0,m,e,rfl,h,by simp⟩
   · rw[aZ0 (Nat.le_of_not_lt b)] at h
     obtain⟨i,j,x,h3,h4,h5⟩:=g _ _ h;exact⟨i+1,j,x,h3,h4,by rw[Nat.succ_mul];omega⟩
section
variable {k:Nat}{as:AS}{F:Fz}{γ:L OI}{w:World}
theorem Gh.bv{id c s:Nat}{es:L (L DC)}(hb:aL as.hp id=.arr c s es)(hne:es.isEmpty=false):Gh k as (bvB id s es as):=by
 intro F γ a w M hs hk;have U:=fM hb (by simp);have E:id<γ.length:=by rw[M.len];exact aK U
 have I:γ[id]?=some (γ[id]'E):=aZJ E;generalize hxe:γ[id]'E=x at I;have K:=M.ok id _ _ U I;cases x with
 |box _=>exact K.elim
 |dead=>exact K.elim
 |arr b A=>
 cases b with
 |none=>
  obtain⟨_,_,h3⟩:=K;subst h3;cases hne
 |some b=>
 obtain⟨S,hle,hes,ws,T,how,hws,hwr⟩:=K;subst S;obtain⟨hfl,hfg⟩:=rK es hes;have hg:∀ (i:Nat) (o:OI),(nq i id)=false->γ[i]?=some o->(γ.set id (.box b))[i]?=some o:=fun i o p q=>by
   rw[jK] at p;rw[aZY (fun e=>by rw[e] at p;simp at p)];exact q
 have B:(γ.set id (.box b))[id]?=some (.box b):=aZ7 E;have u:∀i b',cF (γ.set id (.box b)) i=some b'->cF γ i=some b':=by
  intro i b' h;obtain⟨y,Q,X⟩:=dC h;by_cases C:id=i;subst C;rw[B] at Q;injection Q with Q;subst Q
  exact bT I X;rw[aZY C] at Q;exact bT Q X
 have Z:∀{c:aV}{v:Value},RC F γ c v->RC F (γ.set id (.box b)) (bvC id s es.length c) v:=by
  intro c v h;have W:∀i,nq i id=true->i=id:=fun i h=>by rw[jK] at h;simpa using h
  have r:c.keep (fun x=>nq x id)=true->RC F (γ.set id (.box b)) c v:=fun hk=>h.mono (fun _ _ h=>h) hg hk
  cases c with
  |dc d=>exact r rfl
  |ref cs=>exact r rfl
  |mpc e=>exact r rfl
  |junk=>exact r rfl
  |fn f caps=>exact RC.kill (fun _ _ h=>h) hg h
  |ptr j o=>
   refine r ?_;simp only[aV.keep,bAD];cases D:nq j id with
   |false=>rfl
   |true=>
    cases h with|ptr _ _ b' J=>
    rw[W j D,I] at J;injection J with J;cases J
  |bls j lo n z=>
   cases D:nq j id with
   |false=>exact r (by simp[aV.keep,D])
   |true=>
    cases h with|bls _ _ _ _ b' cap c off g ho O=>
    rw[W j D] at g ⊢;refine .bls _ _ _ _ b' cap c off (.inr ?_) ho O;rw[B];rcases g with g|g
    rw[I] at g;injection g with g;injection g with p q;injection p with p;rw[p]
    rw[I] at g;injection g with g;cases g
  |ept j i z o=>
   simp only[bvC];cases D:nq j id with
   |false=>exact r (by simp[aV.keep,D])
   |true=>
    simp only[cond_true];cases h with|ept _ _ _ _ b' cap g=>
    rw[W j D,I] at g;injection g with g;injection g with p q;injection p with p;subst p
    exact .ptr _ _ _ B
  |bld j n=>
   simp only[bvC];cases D:nq j id with
   |false=>exact r (by simp[aV.keep,D])
   |true=>
    simp only[cond_true];cases hn:nq n es.length with
    |false=>exact .junk _ h.is1
    |true=>
     rw[jK] at hn;have hn':n=es.length:=by simpa using hn
     simp only[cond_true];cases h with
     |bldN _ cap g=>rw[W j D,I] at g;injection g with g;cases g
     |bld _ _ b' cap g=>
      rw[W j D,I] at g;injection g with g;injection g with p q;injection p with p;subst p;subst q
      exact .bls _ _ _ _ b A A 0 (.inr B) (fun _=>by simp) (by omega)
 have N:∀{l:L aV}{vs:Array Value},(∀(i:Nat) c v,l[i]?=some c->vs[i]?=some v->RC F γ c v)->∀(i:Nat) c v,(Sr id s es.length l)[i]?=some c->vs[i]?=some v->RC F (γ.set id (.box b)) c v:=by
  intro l vs h i c v O hv;rw[Dh,aZI] at O;obtain⟨c0,p,rfl⟩:=Option.map_eq_some_iff.1 O;exact Z (h i c0 v p hv)
 refine⟨F,γ.set id (.box b),⟨fun _ _ h=>h,rfl,rfl,rfl,aZE _,fun _ _ _=>rfl,fun _ _ h=>.inl h,fun i b' h=>.inl ⟨i,u i b' h⟩,fun i _ b' h=>?_⟩,
   ⟨M.fz,by simp[bvB,Pl,M.len],fun i j b' p q=>M.nd i j b' (u i b' p) (u j b' q),fun i b' h=>M.disj i b' (u i b' h),fun i o y p q=>?_⟩, ?_,by simpa using hk⟩
 rw[aZY (fun e=>by rw[<- e,I] at h;injection h with h;cases h)];exact h
 simp only[bvB,Pl] at p;by_cases C:id=i;subst C;rw[B] at q;rw[aZ7 (by rw[aZz,<- M.len];exact E)] at p;injection p with p;injection q with q;subst p;subst q
 have V:es.length*s<=A*s:=bAC _ hle;refine⟨ws,T,how,by rw[hws];simp only[kY,aZz,hfl];exact V,fun m c v O hv=>?_⟩
 simp only[kY,aZI] at O;obtain⟨d,h3,rfl⟩:=Option.map_eq_some_iff.1 O;obtain⟨i,j,e,h4,h5,rfl⟩:=hfg m d h3;exact .dc _ _ (hwr i j e d v h4 h5 hv);rw[aZY C] at p q;rw[aZI] at p;obtain⟨o0,h3,rfl⟩:=Option.map_eq_some_iff.1 p;have h4:=M.ok i o0 y h3 q;cases o0 with
 |box l=>
  cases y with
  |box b'=>
   obtain⟨vs,T',g1,g2,g3⟩:=h4;exact⟨vs,T',g1,by simpa[Dh] using g2,N g3⟩
  |arr _ _=>exact h4.elim
  |dead=>exact h4.elim
 |arr c2 s2 es2=>
  cases y with
  |box b'=>exact h4.elim
  |arr b' c'=>cases b'<;>exact h4
  |dead=>exact h4.elim
 |dead=>
  cases y with
  |box b'=>exact h4.elim
  |arr b' c'=>cases b'<;>exact h4.elim
  |dead=>trivial
 refine⟨hs.1,by simpa[bvB,Xe] using hs.2.1,fun i av v p q=>?_⟩
 simp only[bvB,Xe] at p;rw[aZI] at p;obtain⟨Y,h3,rfl⟩:=Option.map_eq_some_iff.1 p;have h4:=hs.2.2 i Y v h3 q;cases h4 with
 |one c v h=>exact .one _ _ (Z h)
 |agg l vs H h=>exact .agg _ _ (by simpa[Dh] using H) (N h)
 |tup l vs H h=>
  refine .tup _ _ (by simpa using H) (fun i t v p q=>?_)
  rw[aZI] at p;obtain⟨t0,h5,rfl⟩:=Option.map_eq_some_iff.1 p;cases h i t0 v h5 q with
  |one c v h=>exact .one _ _ (Z h)
  |agg l vs H h=>exact .agg _ _ (by simpa[Dh] using H) (N h)
 |junk v=>exact .junk v
theorem aCt{id s n:Nat}(o:aD):aP (bvO id s n o)=bvO id s n (aP o):=by cases o<;>rfl
theorem uW:∀(g:L Nat)(s:AS),∃b,Gh k s b/\aE b=Ss g (aE s)
 |[],s=>⟨s,Gh.refl,rfl⟩
 | id::r,s=>by
   simp only[Ss];have e:aL (aE s).hp id=aP (aL s.hp id):=bL (hp:=s.hp) id;rw[e];cases l:aL s.hp id with
   | box cs=>exact uW r s
   | dead=>exact uW r s
   | arr c z es=>
     simp only[aP,bvZ];cases j:es.isEmpty with
     | true=>
       obtain⟨m,h,i⟩:=gC (k:=k) [id] s;obtain⟨b,d,f⟩:=uW r m;refine⟨b,h.trans d, ?_⟩;rw[f,i];rfl
     | false=>
       obtain⟨b,d,f⟩:=uW r (bvB id z es s);refine⟨b,(Gh.bv l j).trans d, ?_⟩;rw[f];congr 1;simp only[bv1,bvB,aE,Pl,bAd,aZ5,aP];congr 2;exact aZ1 (fun o _=>by simp only[Function.comp_apply,aCt])
end
end
section
inductive GH where
 |nil (d sz:Nat)
 |nilB (d j sz:Nat)
 |frz (d:Nat)
 |bv (d:Nat)
inductive HC where
 |skip|ret
 |exit (id:Nat)
 |region (ops:List aN)
 |regR (L:List Nat) (ops:List aN)
 |drawn (ops:List (Bool×aN))
 |drawnF (prs:List (Nat×Nat)) (ops:List aN)
 |drawnT (L:List Nat) (t:IT) (ops:List aN)
 |seq (a b:HC)
 |cond (c:aH) (a b:HC)
 |block (id:Nat) (a:HC)
 |loop (live:List Nat) (a:HC)
 |gh (g:GH) (a:HC)
 |trm (L:List Nat) (a:HC)
 |bad
def HC.er:HC->eK
 |.skip=>.skip
 |.ret=>.ret
 |.exit id=>.exit id
 |.region ops=>.region ops
 |.regR _ ops=>.region ops
 |.drawn ops=>.drawn ops
 |.drawnF d ops=>.drawnF d ops
 |.drawnT _ t ops=>.drawnT t ops
 |.seq a b=>.seq a.er b.er
 |.cond c a b=>.cond c a.er b.er
 |.block id a=>.block id a.er
 |.loop _ a=>.loop a.er
 |.gh _ a=>a.er
 |.trm _ a=>a.er
 |.bad=>.bad
abbrev Oo(d:Nat)(b:AI):aN:=⟨some d,b,none⟩
abbrev On(b:AI):aN:=⟨none,b,none⟩
abbrev Og(g:Nat)(b:Bool)(d:Nat)(c:AI):aN:=⟨some d,c,some (g,b)⟩
abbrev Qo(x:aN):Bool×aN:=(true,x)
abbrev Qe(x:aN):Bool×aN:=(false,x)
abbrev Ki(n:Int):aH:=.k (.int .i64 n)
abbrev Zi(n:Int):Value:=.int .i64 n
def ghN(d sz:Nat)(st:AS):AV->AS
 |.one (.dc (.raw (.slice none 0 0)))=>⟨st.sl.set d (.one (.bld st.hp.length 0)),st.hp++[.arr 0 sz []]⟩
 |_=>st
def aJ5(id j sz:Nat)(cs:L aV)(st:AS):Option aV->AS
 |some (.dc (.raw (.slice none 0 0)))=>⟨st.sl,st.hp.set id (.box (cs.set j (.bld st.hp.length 0)))++[.arr 0 sz []]⟩
 |_=>st
def aJ6(id j sz:Nat)(st:AS):aD->AS
 |.box cs=>aJ5 id j sz cs st cs[j]?
 |_=>st
def ghB(j sz:Nat)(st:AS):AV->AS
 |.one (.ptr id off)=>aJ6 id (off+j) sz st (aL st.hp id)
 |_=>st
def aOY:aV->L Nat
 |.bld id _=>[id]
 |_=>[]
def aFo:L aV->L Nat
 |[]=>[]
 |c::cs=>aOY c++aFo cs
def aFp:AV->L Nat
 |.one c=>aOY c
 |.agg cs=>aFo cs
 |_=>[]
def ghE:GH->AS->AS
 |.nil d sz,st=>ghN d sz st (st.sl.getD d .junk)
 |.nilB d j sz,st=>ghB j sz st (st.sl.getD d .junk)
 |.frz d,st=>bX (aFp (st.sl.getD d .junk)) st
 |.bv d,st=>Ss (aFp (st.sl.getD d .junk)) st
def gG(size:Nat):L (L DC)->Bool
 |[]=>true
 |e::es=>nq e.length size&&gG size es
def klC(id:Nat):aV->aV
 |.dc d=>.dc d
 |.ref cs=>.ref cs
 |.mpc es=>.mpc es
 |.junk=>.junk
 |.ptr j o=>bif nq j id then .junk else .ptr j o
 |.bld j n=>bif nq j id then .junk else .bld j n
 |.ept j i s o=>bif nq j id then .junk else .ept j i s o
 |.bls j i s o=>bif nq j id then .junk else .bls j i s o
 |.fn f b=>cN (·==id) (.fn f b)
def Pm(id:Nat):L aV->L aV
 |[]=>[]
 |c::cs=>klC id c::Pm id cs
def klV(id:Nat):AV->AV
 |.one c=>.one (klC id c)
 |.agg cs=>.agg (Pm id cs)
 |.tup l=>.tup (l.map (uD (·==id)))
 |.junk=>.junk
def klS(id:Nat):L AV->L AV
 |[]=>[]
 |v::vs=>klV id v::klS id vs
def klO(id:Nat):aD->aD
 |.box cs=>.box (Pm id cs)
 |.arr c s es=>.arr c s es
 |.dead=>.dead
def klH(id:Nat):L aD->L aD
 |[]=>[]
 |o::os=>klO id o::klH id os
def apB(d:Option Nat)(size bytes:Nat)(st:AS)(id n:Nat):aD->Option (L (L DC))->Option AS
 | .arr _ sz es,some b=>if sz=size/\n<=es.length/\gG size b=true/\(n+b.length) * bytes<=140737488355328 then
     some ⟨aR (klS id st.sl) d (.one (.bld id (n+b.length))),(klH id st.hp).set id (.arr 0 size (es.take n++b))⟩ else none
 |_,_=>none
def apN(d:Option Nat)(size bytes:Nat)(st:AS):Option (L (L DC))->Option AS
 | some b=>if gG size b=true/\b.length * bytes<=140737488355328 then
     some ⟨aR st.sl d (.one (.bld st.hp.length b.length)),klH st.hp.length st.hp++[.arr 0 size b]⟩ else none
 |none=>none
def apZ(d:Option Nat)(size bytes:Nat)(st:AS):AV->AV->Option AS
 |.one (.bld id n),x=>apB d size bytes st id n (aL st.hp id) (sF st.hp x)
 |.one (.dc (.raw (.slice none 0 0))),x=>apN d size bytes st (sF st.hp x)
 |_,_=>none
def Xf:aV->Bool
 |.ptr _ _=>false
 |.ept _ _ _ _=>false
 |.bls _ _ _ _=>false
 |.fn _ b=>b.all Sl
 |_=>true
def aFq:AV->Bool
 |.one c=>Xf c
 |.agg cs=>cs.all Xf
 |.tup _=>false
 |.junk=>true
def sM(G:aF)(sl:L AV):L aH->Bool
 |[]=>true
 |x::b=>aFq (aM G sl x)&&sM G sl b
def G5(G:aF)(st:AS):L aH->L AV
 |[]=>[]
 |x::b=>G3 (vwA st.hp (aM G st.sl x))::G5 G st b
def Di(G:aF)(st:AS):L aH->L AV
 |[]=>[]
 |x::b=>G3 (vpA st.hp (aM G st.sl x))::Di G st b
def lG(G:aF)(sl:L AV):L aH->L AV
 |[]=>[]
 |x::b=>G3 (aM G sl x)::lG G sl b
def mM(G:aF)(sl:L AV):L aH->L Nat
 |[]=>[]
 |x::b=>aFp (aM G sl x)++mM G sl b
def nwK(d:Option Nat)(st:AS):Option (AV×L aD)->Option AS
 |some (b,os)=>some ⟨aR st.sl d (dP (cQ [] st.hp.length) b),st.hp++os.map (fA (cQ [] st.hp.length))⟩
 |none=>none
def Xg(call:aO)(G:aF)(d:Option Nat)(f:FuncId)(b:L aH)(st:AS):Option AS:=
 bif (lG G st.sl b).all (dH fun _=>true) then nwK d st (call f (lG G st.sl b) []) else none
def aO0:aD->Bool
 |.arr c _ _=>nq c 0
 |_=>true
def aCu:L aD->Bool
 |[]=>true
 |o::os=>aO0 o&&aCu os
def dnK(d:Option Nat)(st:AS):Option (AV×L aD)->Option AS
 |some (b,os)=>bif aCu os then some ⟨aR st.sl d (dP (cQ [] st.hp.length) b),st.hp++os.map (fA (cQ [] st.hp.length))⟩ else none
 |none=>none
def dnZ(call:aO)(G:aF)(d:Option Nat)(f:FuncId)(b:L aH)(st:AS):Option AS:=
 bif (lG G st.sl b).all (dH fun _=>true) then dnK d st (call f (lG G st.sl b) []) else none
def vwK(call:aO)(G:aF)(d:Option Nat)(f:FuncId)(b:L aH)(st:AS):Option (AV×L aD)->Option AS
 |some (c,[])=>bif mL c then some ⟨aR st.sl d c,st.hp⟩ else Xg call G d f b (bX (mM G st.sl b) st)
 |some (_,_::_)=>Xg call G d f b (bX (mM G st.sl b) st)
 |none=>none
def lI(call:aO):aO:=fun f a hp=>call f (a.map G3) hp
def clZ(call:aO)(G:aF)(d:Option Nat)(f:FuncId)(b:L aH)(st:AS):Option AS:=
 bif sM G st.sl b then vwK call G d f b st (call f (G5 G st b) [])
 else lE (lI call) d f (b.map (aM G (bX (mM G st.sl b) st).sl)) (bX (mM G st.sl b) st)
def cvK(call:aO)(G:aF)(d:Option Nat)(c:L aH)(st:AS):AV->Option AS
 |.one (.fn f b)=>lE (lI call) d f (c.map (aM G st.sl)++b.map AV.one) st
 |_=>none
def cvZ(call:aO)(G:aF)(d:Option Nat)(x:aH)(b:L aH)(st:AS):Option AS:=
 cvK call G d b (bX (mM G st.sl b) st) (aM G (bX (mM G st.sl b) st).sl x)
def isT(t:Nat):aH->Bool
 |.t n=>nq n t
 |_=>false
def aO1(t:Nat):L aH->Bool
 |[]=>false
 |x::b=>isT t x||aO1 t b
def aNW(t:Nat):AI->Bool
 |.app _ _ _ _ x=>isT t x
 |.call _ b=>aO1 t b
 |_=>false
def aO2(t:Nat):L aN->Bool
 |[]=>false
 |o::l=>aNW t o.ai||aO2 t l
def aJ9:Option Nat->L aN->Bool
 |some t,l=>aO2 t l
 |none,_=>false
def Jg(G:aF)(sl:L AV):L (Nat×aH)->L Nat
 |[]=>[]
 |(_,x)::b=>aFp (aM G sl x)++Jg G sl b
def bsP(st:AS)(d:Option Nat)(size len:Nat)(cs:L aV):Option (L DC)->Option AS
 |some b=>if b.length=len*size then some ⟨aR st.sl d (.one (.bld st.hp.length len)),st.hp++[.arr 0 size (gD size len b)]⟩ else none
 |none=>if size=1 then some ⟨aR st.sl d (.one (.bls st.hp.length 0 len 1)),st.hp++[.box cs]⟩ else none
def bsO(G:aF)(st:AS)(d:Option Nat)(size len:Nat)(z:L Value)(b:L (Nat×aH)):Option AS:=
 (iQ (zs z (len*size)) (b.map fun (j,x)=>(j*size,size,aM G st.sl x))).bind fun cs=>bsP st d size len cs (dcs cs)
def bsZ(G:aF)(st:AS)(d:Option Nat)(size len:Nat)(z:L Value)(b:L (Nat×aH)):Bool->Option AS
 |true=>bsX G (bX (Jg G st.sl b) st) d size len z b
 |false=>bsO G (bX (Jg G st.sl b) st) d size len z b
def mkK(d:Option Nat)(size bytes:Nat)(b:L Value)(st:AS):Option Int->Option Int->Option AS
 |some (.ofNat n),some (.ofNat m)=>if n<=m/\m*bytes<=140737488355328 then some ⟨aR st.sl d (.one (.bld st.hp.length n)),st.hp++[.arr 0 size (List.replicate n (b.map DC.raw))]⟩ else none
 |_,_=>none
def mkZ(G:aF)(st:AS)(d:Option Nat)(size bytes:Nat)(b:L Value)(l c:aH):Option AS:=mkK d size bytes b st (bI (aM G st.sl l)) (bI (aM G st.sl c))
def aS7(d:Option Nat)(st:AS)(id k n size:Nat)(cs:L aV):L Value->Option AS
 |[v]=>if size=1/\0<n/\k+n<=cs.length then some ⟨aR st.sl d (.tup []),st.hp.set id (.box (dA cs k (List.replicate n (cK v))))⟩ else none
 |_=>none
def Xh(d:Option Nat)(st:AS)(id k n size:Nat)(b:L Value):aD->Option AS
 |.arr _ s es=>if s=size/\k+n<=es.length then some ⟨aR st.sl d (.tup []),st.hp.set id (.arr 0 size (Rq es k n (b.map DC.raw)))⟩ else none
 |.box cs=>aS7 d st id k n size cs b
 |_=>none
def aO4(d:Option Nat)(size:Nat)(b:L Value)(st:AS):AV->Option AS
 |.one (.bls id k n s)=>if s=size then Xh d st id k n size b (aL st.hp id) else none
 |.one (.bld id n)=>Xh d st id 0 n size b (aL st.hp id)
 |_=>none
def aCw(G:aF)(st:AS)(d:Option Nat)(size:Nat)(b:L Value)(x:aH):Option AS:=aO4 d size b st (aM G st.sl x)
def aFr(d:Option Nat)(st:AS)(id b n:Nat)(s:ByteArray):aD->Option AS
 |.box cs=>if b+n<=cs.length then some ⟨aR st.sl d (dX (.int .i64 (min s.size n:Nat))),st.hp.set id (.box (dA cs b (fG (s.data.toList.take n))))⟩ else none
 |.arr _ z es=>if z=1/\b+n<=es.length then some ⟨aR st.sl d (dX (.int .i64 (min s.size n:Nat))),st.hp.set id (.arr 0 1 (Ru es b (s.data.toList.take n)))⟩ else none
 |_=>none
def aO5(d:Option Nat)(st:AS):AV->Option ByteArray->Option AS
 |.one (.bls id b n z),some s=>if z=1 then aFr d st id b n s (aL st.hp id) else none
 |_,_=>none
def aCx(G:aF)(st:AS)(d:Option Nat)(x y:aH):Option AS:=aO5 d st (aM G st.sl x) (dO (aM G st.sl y))
def aS8(d:Option Nat)(st:AS):Option ByteArray->Option AS
 |some s=>some ⟨aR st.sl d (.one (.dc (.slc (iA s)))),st.hp⟩
 |none=>none
def aCy(G:aF)(st:AS)(d:Option Nat)(x:aH):Option AS:=aS8 d st (dO (aM G st.sl x))
def aKa(d:Option Nat)(st:AS):Option ByteArray->Option AS
 |some s=>some ⟨aR st.sl d (.one (.bld st.hp.length s.size)),st.hp++[.arr 0 1 (iA s)]⟩
 |none=>none
def mbK(d:Option Nat)(size bytes:Nat)(st:AS):L Value->Option Int->Option Int->Option AS
 |[v],some (.ofNat n),some (.ofNat m)=>if size=1/\n<=m/\m*bytes<=140737488355328 then some ⟨aR st.sl d (.one (.bls st.hp.length 0 n 1)),st.hp++[.box (List.replicate m (cK v))]⟩ else none
 |_,_,_=>none
def mN(call:aO)(G:aF)(st:AS)(l:L aN)(d:Option Nat):AI->Option AS
 |.call f b=>clZ call G d f b st
 |.callv x b=>cvZ call G d x b st
 |.app size bytes _ s x=>apZ d size bytes st (aM G st.sl s) (aM G st.sl x)
 |.bslc size len z c=>bsZ G st d size len z c (aJ9 d l)
 |.apps _ _=>none
 |.mk size bytes z x y=>mkZ G st d size bytes z x y
 |.clr size z x=>aCw G st d size z x
 |.cpys x y=>aCx G st d x y
 |.cvsb x=>aCy G st d x
 |ai=>Hp G st d ai
def guZ(call:aO)(G:aF)(st:AS)(l:L aN)(d:Option Nat)(b:AI):Option Bool->Option AS
 |some true=>mN call G st l d b
 |some false=>some ⟨aR st.sl d (.tup []),st.hp⟩
 |none=>none
def Xi(call:aO)(G:aF)(st:AS)(l:L aN)(d:Option Nat)(c:AI):Option (Nat×Bool)->Option AS
 |none=>mN call G st l d c
 |some (g,b)=>guZ call G st l d c (gK b (aM G st.sl (.t g)))
def evR(call:aO)(G:aF):L aN->Option AS->Option AS
 |_,none=>none
 |[],some st=>some st
 |o::l,some st=>evR call G l (Xi call G st l o.dst o.ai o.guard)
def Pn:List Nat->Nat->Bool
 |[],_=>false
 |x::L,n=>nq n x||Pn L n
def kL(L:List Nat):AI->Option (Nat×Bool)->Bool
 |.call f _,none=>Pn L f
 |.mk _ _ _ _ _,none=>Pn L 0
 |.cvsb _,none=>Pn L 1
 |_,_=>false
def vpK(d:Option Nat)(st:AS):Option (AV×L aD)->Option AS
 |some (b,[])=>bif mL b then some ⟨aR st.sl d b,st.hp⟩ else none
 |some (_,_::_)=>none
 |none=>none
def aFs(call:aO)(G:aF)(st:AS)(d:Option Nat)(f:FuncId)(b:L aH):Bool->Option AS
 |true=>vpK d st (call f (Di G st b) [])
 |false=>lE (lI call) d f (b.map (aM G st.sl)) st
def St(call:aO)(G:aF)(L:List Nat)(st:AS)(d:Option Nat):AI->Option AS
 |.call f b=>aFs call G st d f b (Pn L (f+100000))
 |.mk size bytes z x y=>mbK d size bytes st z (bI (aM G st.sl x)) (bI (aM G st.sl y))
 |.cvsb x=>aKa d st (dO (aM G st.sl x))
 |_=>none
def Jh(call:aO)(G:aF)(L:List Nat)(st:AS)(l:List aN)(d:Option Nat)(b:AI)(g:Option (Nat×Bool)):Bool->Option AS
 |true=>St call G L st d b
 |false=>Xi call G st l d b g
def G6(call:aO)(G:aF)(L:List Nat):List aN->Option AS->Option AS
 |_,none=>none
 |[],some st=>some st
 |o::l,some st=>G6 call G L l (Jh call G L st l o.dst o.ai o.guard (kL L o.ai o.guard))
open Classical in
noncomputable def Gj(d:Nat)(a b:Option AS):Option AS:=if ∃s c p,a=some s/\b=some c/\pOK d c.hp.length p/\prm p c=s then a else none
noncomputable def Gk(call:aO)(G:aF)(L:List Nat)(b:Nat)(ops:List aN):IT->Option AS->Option AS
 |_,none=>none
 |.nil,some st=>some st
 |.st i t,some st=>Gk call G L b ops t (Jh call G L st ops (iR ops i).dst (iR ops i).ai (iR ops i).guard (kL L (iR ops i).ai (iR ops i).guard))
 | .br i t r,some st=>match O8 r with
   | true=>Gk call G L b ops t (Jh call G L st ops (iR ops i).dst (iR ops i).ai (iR ops i).guard (kL L (iR ops i).ai (iR ops i).guard))
   | false=>Gj b (Gk call G L b ops t (Jh call G L st ops (iR ops i).dst (iR ops i).ai (iR ops i).guard (kL L (iR ops i).ai (iR ops i).guard))) (Gk call G L b ops r (some st))
 |.stop,some _=>none
def qcF(d:Option Nat)(st:AS)(v:AV):Option AS:=bif dH (fun _=>true) v then some ⟨aR st.sl d v,st.hp⟩ else none
def qcK(d:Option Nat)(st:AS):Option (AV×L aD)->Option AS
 |some (b,[])=>bif dH (fun _=>true) b then some ⟨aR st.sl d b,st.hp⟩ else none
 |some (b,o::os)=>qcF d st (bG (fun id=>decide (0<=id)) ((bX (jV b) ⟨[b],o::os⟩).sl.getD 0 .junk))
 |none=>none
def Ct(call:aO)(G:aF)(st:AS)(d:Option Nat):AI->Option AS
 |.call f b=>bif (lG G st.sl b).all (dH fun _=>true) then qcK d st (call f (lG G st.sl b) []) else none
 |ai=>gO st d (evX G st.sl (O4 ai st.hp) ai)
def dvK(call:aO)(G:aF)(d:Option Nat)(f:FuncId)(c:L aH)(st:AS):Option (AV×L aD)->Option AS
 |some (b,[])=>bif mL b then some ⟨aR st.sl d b,st.hp⟩ else dnZ call G d f c st
 |some (_,_::_)=>dnZ call G d f c st
 |none=>none
def ldZ(call:aO)(G:aF)(st:AS)(d:Option Nat):AI->Option AS
 |.call f b=>dvK call G d f b st (call f (Di G st b) [])
 |.callv x b=>cvZ call G d x b st
 |.app size bytes _ s x=>apZ d size bytes st (aM G st.sl s) (aM G st.sl x)
 |.bslc size len z c=>bsO G st d size len z c
 |.mk size bytes z x y=>mkZ G st d size bytes z x y
 |.clr size z x=>aCw G st d size z x
 |.cpys x y=>aCx G st d x y
 |.cvsb x=>aCy G st d x
 |.alloc z=>Hp G st d (.alloc z)
 |.box x=>Hp G st d (.box x)
 |.store size x v=>Hp G st d (.store size x v)
 |_=>none
def drZ(call:aO)(G:aF)(st:AS)(d:Option Nat)(b:AI):Bool->Option AS
 |true=>Ct call G st d b
 |false=>ldZ call G st d b
def aCB(call:aO)(G:aF)(st:AS)(q:Bool)(d:Option Nat)(b:AI):Option Bool->Option AS
 |some true=>drZ call G st d b q
 |some false=>some ⟨aR st.sl d (.tup []),st.hp⟩
 |none=>none
def drO(call:aO)(G:aF)(st:AS)(q:Bool)(d:Option Nat)(c:AI):Option (Nat×Bool)->Option AS
 |none=>drZ call G st d c q
 |some (g,b)=>aCB call G st q d c (gK b (aM G st.sl (.t g)))
def G7(call:aO)(G:aF):L (Bool×aN)->Option AS->Option AS
 |_,none=>none
 |[],some st=>some st
 |o::l,some st=>G7 call G l (drO call G st o.1 o.2.dst o.2.ai o.2.guard)
def aCC:AI->Bool
 |.alloc _=>true
 |_=>false
def nAl:L aN->Nat
 |[]=>0
 |o::l=>bif aCC o.ai then nAl l+1 else nAl l
def Dj:Nat->L aD
 |0=>[]
 |n+1=>.dead::Dj n
abbrev FP:=L Nat×L Nat
def fpA(G:aF)(sl:L AV):L aH->L Nat
 |[]=>[]
 |x::b=>Rd (aM G sl x)++fpA G sl b
def fvN(d:Option Nat)(r:Nat)(z:L Value)(st:AS):Option aD->Option (AS×FP)
 |some .dead=>some (⟨aR st.sl d (.one (.ptr r 0)),st.hp.set r (.box (z.map cK))⟩,[r],[])
 |_=>none
def fvT(size id off:Nat)(vs:L aV)(st:AS):Option aD->Option (AS×FP)
 |some (.box cs)=>if vs.length=size/\off+size<=cs.length then some (⟨st.sl,st.hp.set id (.box (dA cs off vs))⟩,[id],[id]) else none
 |_=>none
def fvS(d:Option Nat)(size:Nat)(st:AS):AV->Option (L aV)->Option (AS×FP)
 | .one (.ptr id off),some vs=>match d with
   | none=>fvT size id off vs st st.hp[id]?
   | some _=>none
 |_,_=>none
def Wg(R:L Nat):Option AS->Option (AS×FP)
 |some s=>some (s,[],R)
 |none=>none
def aKb(d:Option Nat)(id b n:Nat)(bs:ByteArray)(st:AS):Option aD->Option (AS×FP)
 |some (.box cs)=>if b+n<=cs.length then some (⟨aR st.sl d (dX (.int .i64 (min bs.size n:Nat))),st.hp.set id (.box (dA cs b (fG (bs.data.toList.take n))))⟩,[id],[id]) else none
 |_=>none
def fvY(d:Option Nat)(st:AS):AV->Option ByteArray->Option (AS×FP)
 |.one (.bls id b n z),some bs=>if z=1 then aKb d id b n bs st st.hp[id]? else none
 |_,_=>none
def aFt(d:Option Nat)(id:Nat)(st:AS):Option (AV×L aD)->Option (AS×FP)
 |some (.tup [],[.box cs])=>bif keepL (fun _=>true) cs then some (⟨aR st.sl d (.tup []),st.hp.set id (.box cs)⟩,[id],[id]) else none
 |_=>none
def fvB(call:aO)(d:Option Nat)(f:FuncId)(st:AS)(b:L AV)(id:Nat):Option aD->Option (AS×FP)
 |some (.box cs)=>bif keepL (fun _=>true) cs&&b.all (dH (lD [id])) then aFt d id st (lI call f (b.map (dP (mJ [id]))) [.box cs]) else none
 |_=>none
def fvC(call:aO)(G:aF)(st:AS)(d:Option Nat)(f:FuncId)(b:L aH):L Nat->Option (AS×FP)
 |[]=>Wg [] (Ct call G st d (.call f b))
 |[id]=>fvB call d f st (b.map (aM G st.sl)) id st.hp[id]?
 |_=>none
def fvL:Nat->Option AS->Option (AS×FP)
 |0,_=>none
 |_+1,s=>Wg [] s
def L3(call:aO)(G:aF)(st:AS)(d:Option Nat)(r:Nat):AI->Option (AS×FP)
 |.alloc z=>fvN d r z st st.hp[r]?
 |.store size x v=>fvS d size st (aM G st.sl x) (cellsOf (aM G st.sl v))
 |.cpys x y=>fvY d st (aM G st.sl x) (dO (aM G st.sl y))
 |.call f b=>fvC call G st d f b ((b.map (aM G st.sl)).flatMap jV)
 |.bslc size len z c=>fvL len (bsX G st d size len z c)
 |ai=>bif ai.isPure then Wg (fpA G st.sl (bK ai)) (mN call G st [] d ai) else none
def fvG(call:aO)(G:aF)(st:AS)(d:Option Nat)(r:Nat)(b:AI):Option Bool->Option (AS×FP)
 |some true=>L3 call G st d r b
 |some false=>some (⟨aR st.sl d (.tup []),st.hp⟩,[],[])
 |none=>none
def fvO(call:aO)(G:aF)(st:AS)(d:Option Nat)(r:Nat)(c:AI):Option (Nat×Bool)->Option (AS×FP)
 |none=>L3 call G st d r c
 |some (g,b)=>fvG call G st d r c (gK b (aM G st.sl (.t g)))
def Su:List Nat->Nat->Bool
 |[],_=>false
 |x::L,n=>nq n x||Su L n
def G8:L Nat->L Nat->Bool
 |[],_=>true
 |x::a,b=>!Su b x&&G8 a b
def dsM:FP->FP->Bool
 |(w,r),(w',r')=>G8 w r'&&(G8 w w'&&G8 w' r)
def atF:L FP->Nat->FP
 |[],_=>([],[])
 |f::_,0=>f
 |_::b,n+1=>atF b n
def L4:L (Nat×Nat)->L FP->Bool
 |[],_=>true
 |(p,q)::c,b=>dsM (atF b p) (atF b q)&&L4 c b
def Xj(call:aO)(G:aF)(b:L (Nat×Nat)):L FP->Nat->L aN->Option AS->Option AS
 |_,_,_,none=>none
 |acc,_,[],some st=>bif L4 b acc then some st else none
 | acc,r,o::l,some st=>match fvO call G st o.dst r o.ai o.guard with
   | some (s,f)=>Xj call G b (acc++[f]) (bif aCC o.ai then r+1 else r) l (some s)
   | none=>none
def ctC(m:Nat):aV->aV
 |.dc d=>.dc d
 |.ref cs=>.ref cs
 |.mpc es=>.mpc es
 |.junk=>.junk
 |.ptr j o=>if m<=j then .junk else .ptr j o
 |.bld j n=>if m<=j then .junk else .bld j n
 |.ept j i s o=>if m<=j then .junk else .ept j i s o
 |.bls j i s o=>if m<=j then .junk else .bls j i s o
 |.fn f b=>cN (fun id=>decide (m<=id)) (.fn f b)
def Ha(m:Nat):L aV->L aV
 |[]=>[]
 |c::cs=>ctC m c::Ha m cs
def ctV(m:Nat):AV->AV
 |.one c=>.one (ctC m c)
 |.agg cs=>.agg (Ha m cs)
 |.tup l=>.tup (l.map (uD fun id=>decide (m<=id)))
 |.junk=>.junk
def ctO(m:Nat):aD->aD
 |.box cs=>.box (Ha m cs)
 |.arr c s es=>.arr c s es
 |.dead=>.dead
def ctH(m:Nat):Nat->L aD->L aD
 |0,_=>[]
 |_+1,[]=>[]
 |n+1,o::os=>ctO m o::ctH m n os
def ctS(m:Nat):List Nat->List AV->List AV
 |_,[]=>[]
 |[],_::b=>.junk::ctS m [] b
 |0::L,x::b=>ctV m x::ctS m L b
 |(n+1)::L,_::b=>.junk::ctS m (n::L) b
def kO(L:List Nat)(m:Nat)(st:AS):AS:=⟨ctS m L st.sl,ctH m m st.hp⟩
def Ls(b:AS->Option (Exit×AS))(L:List Nat)(m:Nat):Nat->AS->Option (Exit×AS)
 |0,_=>none
 | n+1,st=>match b st with
   | some (.normal,s)=>Ls b L m n (kO L m s)
   | r=>r
open Classical in
noncomputable def lim{α:Type}(f:Nat->Option α):Option α:=if h:∃n r,f n=some r then f h.choose else none
noncomputable def B6(b:AS->Option (Exit×AS))(L:List Nat)(m:Nat)(st:AS):Option (Exit×AS):=lim fun n=>Ls b L m n st
def nrm:Option AS->Option (Exit×AS)
 |some s=>some (.normal,s)
 |none=>none
def aKc(id:Nat)(s:AS):Exit->Option (Exit×AS)
 |.exit b=>if b=id then some (.normal,s) else some (.exit b,s)
 |e=>some (e,s)
def Bn(id:Nat):Option (Exit×AS)->Option (Exit×AS)
 |some (e,s)=>aKc id s e
 |none=>none
noncomputable def EC(call:aO)(G:aF):HC->AS->Option (Exit×AS)
 |.skip,st=>some (.normal,st)
 |.ret,st=>some (.ret,st)
 |.exit id,st=>some (.exit id,st)
 |.region ops,st=>nrm (evR call G ops (some st))
 |.regR L ops,st=>nrm (G6 call G L ops (some st))
 |.drawn ops,st=>nrm (G7 call G ops (some st))
 |.drawnF d ops,st=>nrm (Xj call G d [] st.hp.length ops (some ⟨st.sl,st.hp++Dj (nAl ops)⟩))
 |.drawnT L t ops,st=>nrm (Gk call G L st.hp.length ops t (some st))
 | .seq a b,st=>match EC call G a st with
   | some (.normal,s)=>EC call G b s
   | r=>r
 | .cond c a b,st=>match cO (aM G st.sl c) with
   | some true=>EC call G a st
   | some false=>EC call G b st
   | none=>none
 |.block id a,st=>Bn id (EC call G a st)
 |.loop L a,st=>B6 (EC call G a) L st.hp.length (kO L st.hp.length st)
 |.gh g a,st=>EC call G a (ghE g st)
 |.trm L a,st=>EC call G a (kO L st.hp.length st)
 |.bad,_=>none
structure HF where
 code:HC
 rs:List lC
 nt:Nat
 own:Bool
structure HT where
 tab:FuncId->Option HF
 base:aO
def aO8(b:Bool)(n:Nat)(hp:L aD)(v:AV):AV×L aD:=
 bif b then
  (bif dH (fun id=>decide (n<=id)) v&&(hp.take n).all (pE fun id=>decide (n<=id)) then (G3 v,hp.take n) else (G3 v,hp))
 else (G3 (bG (fun id=>decide (n<=id)) ((bX (jV v) (bxW n (jV v) ⟨[v],hp⟩ (Xd v))).sl.getD 0 .junk)),((bX (jV v) (bxW n (jV v) ⟨[v],hp⟩ (Xd v))).hp.take n).map (cU fun id=>decide (n<=id)))
def Xk(b:Bool)(n:Nat)(hp:L aD):Option AV->Option (AV×L aD)
 |some v=>some (aO8 b n hp v)
 |none=>none
def qC(b:Bool)(c:L lC)(n:Nat):Option (Exit×AS)->Option (AV×L aD)
 |some (e,s)=>if M4 e=true/\n<=s.hp.length then Xk b n s.hp (tQ s c) else none
 |none=>none
noncomputable def Xl(call:aO)(G:aF)(h:HF)(b:L AV)(hp:L aD):Option (AV×L aD):=
 qC h.own h.rs hp.length (EC call G h.code ⟨b++tK (h.nt-b.length),hp⟩)
noncomputable def callN(G:aF)(T:HT):Nat->aO
 |0,_,_,_=>none
 | n+1,f,b,hp=>match T.tab f with
   | some h=>Xl (callN G T n) G h b hp
   | none=>T.base f b hp
noncomputable def EV(G:aF)(T:HT):aO:=fun f b hp=>lim fun n=>callN G T n f b hp
