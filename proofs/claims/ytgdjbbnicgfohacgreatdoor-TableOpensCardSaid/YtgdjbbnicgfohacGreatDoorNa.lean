/- Part. Conditions: none. -/
import Derived.Test.YtgdjbbnicgfohacGreatDoorMb
namespace Go.Proofs.YtgdjbbnicgfohacGreatDoor
set_option linter.unusedSimpArgs false
set_option linter.unusedVariables false
section
def R7:aU->Bool
 |.dc _=>true
 |.ref _=>true
 |.mpc _=>true
 |_=>false
def Zq(hp:L aD):aU->aU
 | .bld id n=>match aL hp id with
   | .arr _ _ es=>if n<=es.length then .dc (.slc (es.take n)) else .junk
   | _=>.junk
 |.dc d=>.dc d
 |.ref c=>.ref c
 |.mpc es=>.mpc es
 |.fn f b=>bif b.all R7 then .fn f b else .junk
 |_=>.junk
def vwA(hp:L aD):AV->AV
 |.one c=>.one (Zq hp c)
 |.agg cs=>.agg (cs.map (Zq hp))
 |.tup _=>.junk
 |.junk=>.junk
def I5:L aU->Option (L DC)
 |[]=>some []
 |.dc d::cs=>(I5 cs).map (d::·)
 |_=>none
def aOm:Option (L DC)->aU
 |some b=>.ref b
 |none=>.junk
def toD:aU->aU
 |.dc (.raw (.slice none 0 0))=>.dc (.slc [])
 |.ref b=>.dc (.ptr b)
 |c=>c
def vwN(hp:L aD)(c:aU):aU:=toD (Zq hp c)
def aB8(hp:L aD):L aU->L aU
 |[]=>[]
 |c::cs=>vwN hp c::aB8 hp cs
def vpP(hp:L aD)(off:Nat):aD->aU
 |.box cs=>aOm (I5 (aB8 hp (cs.drop off)))
 |_=>.junk
def vwM(hp:L aD):aU->aU
 |.ptr id off=>toD (vpP hp off (aL hp id))
 |.bld id n=>vwN hp (.bld id n)
 |.dc d=>vwN hp (.dc d)
 |.ref b=>.dc (.ptr b)
 |.mpc _=>.junk
 |.fn _ _=>.junk
 |.ept _ _ _ _=>.junk
 |.bls _ _ _ _=>.junk
 |.junk=>.junk
def aB9(hp:L aD):L aU->L aU
 |[]=>[]
 |c::cs=>vwM hp c::aB9 hp cs
def vqP(hp:L aD)(off:Nat):aD->aU
 |.box cs=>aOm (I5 (aB9 hp (cs.drop off)))
 |_=>.junk
def fnV(f:FuncId)(cs:L aU):aU:=bif cs.all R7 then .fn f cs else .junk
def vp0(hp:L aD):aU->aU
 |.ptr id off=>vqP hp off (aL hp id)
 |.bld id n=>Zq hp (.bld id n)
 |.dc d=>.dc d
 |.ref c=>.ref c
 |.mpc es=>.mpc es
 |.fn f b=>Zq hp (.fn f b)
 |.ept _ _ _ _=>.junk
 |.bls _ _ _ _=>.junk
 |.junk=>.junk
def aEY(hp:L aD):L aU->L aU
 |[]=>[]
 |c::cs=>vp0 hp c::aEY hp cs
def vpC(hp:L aD):aU->aU
 |.fn f b=>fnV f (aEY hp b)
 |.ptr id off=>vp0 hp (.ptr id off)
 |.bld id n=>vp0 hp (.bld id n)
 |.dc d=>.dc d
 |.ref c=>.ref c
 |.mpc es=>.mpc es
 |.ept _ _ _ _=>.junk
 |.bls _ _ _ _=>.junk
 |.junk=>.junk
def vpA(hp:L aD):AV->AV
 |.one c=>.one (vpC hp c)
 |.agg cs=>.agg (cs.map (Zq hp))
 |.tup _=>.junk
 |.junk=>.junk
def uM:aU->Bool
 |.dc (.raw _)=>true
 |_=>false
def aNp:TV->Bool
 |.one c=>uM c
 |.agg cs=>cs.all uM
def mI:AV->Bool
 |.one c=>uM c
 |.agg cs=>cs.all uM
 |.tup l=>l.all aNp
 |.junk=>false
section
variable {P:Program}{G:aF}{k:Nat}{st st':AS}{R:AS->Prop}{o:aN}{rest:L aN}{F F':Fz}{γ γ':L OI}{w:World}
theorem C5(c:dP F γ st.hp w):F.sub (iU w):=fun b o h=>c.fz b o h
theorem sI(z:dP F γ st.hp w){c:aU}{v:Value}(h:RC F γ c v):RC (iU w) [] (Zq st.hp c) v:=by
 have l:=C5 z;cases h with
 |dc d v h=>exact .dc d v (h.mono l)
 |ref cs b off g s q=>exact .ref cs b off g (fun j d h=>(s j d h).mono l) (fun j d h=>l.cell (q j d h))
 |mpc es r p e h u t=>exact .mpc es r p e (l _ _ h) u t
 |bldN id cap h0=>
  simp only[Zq];split;rename_i A sz es y;split;simp only[bAp];exact .dc _ _ (.nil _ _);exact .junk _ rfl;exact .junk _ rfl
 |bld id n b cap h0=>
  simp only[Zq];split;rename_i A sz es y;split;rename_i E;have:=aEK (F':=iU w) (γ':=γ) z y l (fun i o _ h=>h) (fun b c h=>rfl) (.bld id n b cap h0)
  have B:B4 id es (.bld id n)=.dc (.slc (es.take n)):=by simp[B4,E]
  rw[B] at this;have C:cJ (·==id) (.dc (.slc (es.take n)))=.dc (.slc (es.take n)):=by simp[cJ,aU.keep]
  rw[C] at this;cases this with|dc _ _ h=>exact .dc _ _ h
  exact .junk _ rfl;exact .junk _ rfl
 |ptr id off b h0=>exact .junk _ rfl
 |ept id i size off b cap h0=>exact .junk _ rfl
 |bls id J n size b cap c off h0 I q=>exact .junk _ rfl
 |fn f m g s=>
  simp only[Zq];cases q:m.all R7 with
  |false=>exact .junk _ rfl
  |true=>
   refine .fn f m g (fun i c h=>?_)
   have t:=bAw.1 q c (aZD h);have x:=s i c h;generalize g i=v at x ⊢;cases x with
   |dc d v h=>exact .dc d _ (h.mono l)
   |ref cs b off g s q=>exact .ref cs b off g (fun j d h=>(s j d h).mono l) (fun j d h=>l.cell (q j d h))
   |mpc es r p e D u H=>exact .mpc es r p e (l _ _ D) u H
   |_=>simp[R7] at t
 |junk v h=>exact .junk v h
theorem aEZ(d:dP F γ st.hp w){a:AV}{v:Value}(h:RV F γ a v):RV (iU w) [] (vwA st.hp a) v:=by
 cases h with
 |one c v h=>exact .one _ _ (sI d h)
 |agg cs vs e h=>
  refine .agg _ _ (by simpa using e) (fun i c v b g=>?_)
  rw[aZi] at b;obtain⟨f,h3,rfl⟩:=Option.map_eq_some_iff.1 b;exact sI d (h i f v h3 g)
 |tup l vs e h=>exact .junk _
 |junk v=>exact .junk v
theorem Oz(hp:L aD):∀cs,aB8 hp cs=cs.map (vwN hp)
 |[]=>rfl
 |c::cs=>by rw[aB8,Oz hp cs];rfl
theorem O0(hp:L aD):∀cs,aEY hp cs=cs.map (vp0 hp)
 |[]=>rfl
 |c::cs=>by rw[aEY,O0 hp cs];rfl
theorem I6:∀{cs:L aU}{e:L DC}{j:Nat}{d:DC},I5 cs=some e->e[j]?=some d->cs[j]?=some (.dc d)
 |[],e,j,d,h,b=>by simp only[I5,Option.some.injEq] at h;subst h;simp at b
 | c::cs,e,j,d,h,b=>by
   cases c with
   | dc i=>
     simp only[I5] at h;obtain⟨f,g,rfl⟩:=Option.map_eq_some_iff.1 h;cases j with
     | zero=>simp at b;simp[b]
     | succ j=>simp at b;simpa using I6 g b
   | _=>simp[I5] at h
theorem O1(hp:L aD):∀cs,aB9 hp cs=cs.map (vwM hp)
 |[]=>rfl
 |c::cs=>by rw[aB9,O1 hp cs];rfl
theorem Wn{F:Fz}{γ:L OI}{c:aU}{v:Value}(h:RC F γ c v):RC F γ (toD c) v:=by
 unfold toD;split;cases h with|dc _ _ h=>cases h with|raw _ h=>exact .dc _ _ (.nil _ _)
 cases h with|ref _ b off g e d=>exact .dc _ _ (.ptr _ b off g e d)
 exact h
theorem R8(u:dP F γ st.hp w){id off b:Nat}{cs:L aU}{s:aU->aU}{m:L DC}(t:aL st.hp id=.box cs)(h0:γ[id]?=some (.box b))(y:∀c v,RC F γ c v->RC (iU w) [] (s c) v)(r:I5 ((cs.drop off).map s)=some m):RC (iU w) [] (.ref m) (.pointer (some ⟨b,off,none⟩)):=by
 obtain⟨vs,T,⟨A,z,x⟩,l,p⟩:=u.box t h0;refine .ref m b off (fun j=>vs.getD (off+j) (.bool false)) ?_ ?_
 intro j d n;have i:=I6 r n;rw[aZi] at i;obtain⟨q,g,h3⟩:=Option.map_eq_some_iff.1 i;rw[aZJ] at g;have f:off+j<vs.size:=Nat.lt_of_lt_of_le (aI g) l;have h4:=p (off+j) q _ g (aZP f);have h5:=y _ _ h4;rw[h3] at h5;have e:vs.getD (off+j) (.bool false)=vs[off+j]:=by simp[Array.getD,f]
 show RD (iU w) d (vs.getD (off+j) (.bool false));rw[e];cases h5 with|dc _ _ h=>exact h
 intro j d n;have i:=I6 r n;rw[aZi] at i;obtain⟨q,g,h3⟩:=Option.map_eq_some_iff.1 i;rw[aZJ] at g;have f:off+j<vs.size:=Nat.lt_of_lt_of_le (aI g) l;simp[Fz.cell?,iU,z,Array.getD,f]
theorem Wo(b:dP F γ st.hp w){c:aU}{v:Value}(h:RC F γ c v):RC (iU w) [] (vwN st.hp c) v:=Wn (sI b h)
theorem aOq(e:dP F γ st.hp w){id off:Nat}{v:Value}(h:RC F γ (.ptr id off) v):RC (iU w) [] (vpP st.hp off (aL st.hp id)) v:=by
 cases h with
 |ptr id off b h0=>
  cases f:aL st.hp id with
  |box cs=>
   simp only[vpP];cases d:I5 (aB8 st.hp (cs.drop off)) with
   |none=>exact .junk _ rfl
   |some g=>rw[Oz] at d;exact R8 e f h0 (fun c v h=>Wo e h) d
  |_=>exact .junk _ rfl
theorem aOr(e:dP F γ st.hp w){c:aU}{v:Value}(h:RC F γ c v):RC (iU w) [] (vwM st.hp c) v:=by
 cases b:c with
 |ptr id off=>subst b;exact Wn (aOq e h)
 |bld id n=>subst b;exact Wo e h
 |dc d=>subst b;exact Wo e h
 |ref f=>subst b;exact Wn (c:=.ref f) (sI e h)
 |_=>exact .junk _ h.is1
theorem Ey(e:dP F γ st.hp w){c:aU}{v:Value}(h:RC F γ c v):RC (iU w) [] (vp0 st.hp c) v:=by
 cases g:c with
 |ptr id off=>
  subst g;cases h with
  |ptr id off b h0=>
   simp only[vp0];cases l:aL st.hp id with
   |box cs=>
    simp only[vqP];cases j:I5 (aB9 st.hp (cs.drop off)) with
    |none=>exact .junk _ rfl
    |some m=>rw[O1] at j;exact R8 e l h0 (fun c v h=>aOr e h) j
   |_=>exact .junk _ rfl
 |dc d=>subst g;exact sI e h
 |ref cs=>subst g;exact sI e h
 |mpc es=>subst g;exact sI e h
 |bld id n=>subst g;exact sI e h
 |fn f i=>subst g;exact sI e h
 |ept=>exact .junk _ h.is1
 |bls=>exact .junk _ h.is1
 |junk=>exact .junk _ h.is1
theorem aOs(l:dP F γ st.hp w){c:aU}{v:Value}(h:RC F γ c v):RC (iU w) [] (vpC st.hp c) v:=by
 cases j:c with
 |fn f b=>
  subst j;cases h with
  |fn f b g q=>
   simp only[vpC,fnV,O0];cases j:(b.map (vp0 st.hp)).all R7 with
   |false=>exact .junk _ rfl
   |true=>
    have e:b.length=(b.map (vp0 st.hp)).length:=by simp
    simp only[cond_true,e];refine .fn f _ g (fun i c h=>?_)
    rw[aZi] at h;obtain⟨m,p,rfl⟩:=Option.map_eq_some_iff.1 h;exact Ey l (q i m p)
 |dc d=>subst j;exact Ey l h
 |ref cs=>subst j;exact Ey l h
 |mpc es=>subst j;exact Ey l h
 |bld id n=>subst j;exact Ey l h
 |ptr id off=>subst j;exact Ey l h
 |ept=>exact .junk _ h.is1
 |bls=>exact .junk _ h.is1
 |junk=>exact .junk _ h.is1
theorem aE0(b:dP F γ st.hp w){a:AV}{v:Value}(h:RV F γ a v):RV (iU w) [] (vpA st.hp a) v:=by
 cases h with
 |one c v h=>exact .one _ _ (aOs b h)
 |agg cs vs d h=>exact aEZ b (.agg cs vs d h)
 |tup l vs d h=>exact .junk _
 |junk v=>exact .junk v
theorem O2{c:aU}{v:Value}(b:uM c=true)(h:RC F γ c v):RC F' γ' c v:=by
 cases h with
 | dc d v h=>cases h with
   | raw v h=>exact .dc _ _ (.raw v h)
   | nil A c=>simp[uM] at b
   | slc=>simp[uM] at b
   | ptr=>simp[uM] at b
 |_=>simp[uM] at b
theorem R9{cs:L aU}{vs:Array Value}(e:cs.all uM=true)(h:∀(i:Nat) c v,cs[i]?=some c->vs[i]?=some v->RC F γ c v):∀(i:Nat) c v,cs[i]?=some c->vs[i]?=some v->RC F' γ' c v:=
 fun i c v b d=>O2 (bAw.1 e c (aZD b)) (h i c v b d)
theorem O3{a:AV}{v:Value}(d:mI a=true)(h:RV F γ a v):RV F' γ' a v:=by
 cases h with
 |one c v h=>exact .one _ _ (O2 d h)
 |agg cs vs b h=>exact .agg _ _ b (R9 d h)
 |tup l vs b h=>
  refine .tup _ _ b (fun i t v e g=>?_)
  have f:=bAw.1 d t (aZD e);cases h i t v e g with
  |one c v h=>exact .one _ _ (O2 f h)
  |agg cs vs b h=>exact .agg _ _ b (R9 f h)
 |junk v=>simp[mI] at d
theorem WR.callV{f:FuncId}{j:L aH}{d:L AV}{r:AV}(H:jP G st o.guard)(X:o.ai=.call f j)(C:QC P G f d r)(Z:mI r=true)(m:j.map (fun x=>vwA st.hp (aM G st.sl x))=d) (h:WR P G k rest R ⟨aQ st.sl o.dst r,st.hp⟩):WR P G k (o::rest) R st:=by
 refine WR.step H (fun F γ a w u M hd l O N Y=>?_)
 rw[X] at M;obtain⟨c,t,p,rfl,g⟩:=Cu M;obtain⟨U,op,S,pos,z,A⟩:=u;simp only at t;subst t;have Q:=Cv (G:=G) O N c.args;have I:mP (iU w) [] d (c.args.map a.eval):=by
  rw[<- m];refine⟨by rw[Q.1];simp,fun i T v y B=>?_⟩
  rw[aZi] at y;obtain⟨x,hx,rfl⟩:=Option.map_eq_some_iff.1 y;exact aEZ l (Q.2 i _ v (by rw[aZi,hx];rfl) B)
 refine .inr ⟨f,c.args.map a.eval,?_,(C (iU w) [] _ w (Hf w) (N.sub (C5 l)) I).mono ?_⟩;simp[execOp,resolve,p,Act.eval,Deferred.ofValue,invoke,lR g];rintro e w' ⟨v,T,K,F2,γ2,rfl,⟨rfl,rfl⟩,_,V,hI,W⟩;have n:=Ap V;have q:iH k F γ w F γ w':=⟨fun _ _ h=>h,n.os,n.tape,n.output,n.size,fun b E _=>n.block b E,fun _ _ h=>.inl h,fun i b h=>.inl ⟨i,h⟩,fun _ _ _ h=>h⟩
 have s:dP F γ st.hp w':=⟨fun b J h=>by rw[n.block b (l.fzlt h)];exact l.fz b J h,l.len,l.nd,l.disj,fun i J x y B=>by
   have g:=l.ok i J x y B;exact g.ext (fun _ _ h=>h) (fun _ _ h=>h) (fun b D=>n.block b (g.lt D))⟩
 exact⟨v,_,F,γ,rfl,h,q,s,O.put _ (O3 Z W),Y⟩
theorem WR.callP{f:FuncId}{j:L aH}{d:L AV}{r:AV}(H:jP G st o.guard)(X:o.ai=.call f j)(C:QC P G f d r)(Z:mI r=true)(m:j.map (fun x=>vpA st.hp (aM G st.sl x))=d) (h:WR P G k rest R ⟨aQ st.sl o.dst r,st.hp⟩):WR P G k (o::rest) R st:=by
 refine WR.step H (fun F γ a w u M hd l O N Y=>?_)
 rw[X] at M;obtain⟨c,t,p,rfl,g⟩:=Cu M;obtain⟨U,op,S,pos,z,A⟩:=u;simp only at t;subst t;have Q:=Cv (G:=G) O N c.args;have I:mP (iU w) [] d (c.args.map a.eval):=by
  rw[<- m];refine⟨by rw[Q.1];simp,fun i T v y B=>?_⟩
  rw[aZi] at y;obtain⟨x,hx,rfl⟩:=Option.map_eq_some_iff.1 y;exact aE0 l (Q.2 i _ v (by rw[aZi,hx];rfl) B)
 refine .inr ⟨f,c.args.map a.eval,?_,(C (iU w) [] _ w (Hf w) (N.sub (C5 l)) I).mono ?_⟩;simp[execOp,resolve,p,Act.eval,Deferred.ofValue,invoke,lR g];rintro e w' ⟨v,T,K,F2,γ2,rfl,⟨rfl,rfl⟩,_,V,hI,W⟩;have n:=Ap V;have q:iH k F γ w F γ w':=⟨fun _ _ h=>h,n.os,n.tape,n.output,n.size,fun b E _=>n.block b E,fun _ _ h=>.inl h,fun i b h=>.inl ⟨i,h⟩,fun _ _ _ h=>h⟩
 have s:dP F γ st.hp w':=⟨fun b J h=>by rw[n.block b (l.fzlt h)];exact l.fz b J h,l.len,l.nd,l.disj,fun i J x y B=>by
   have g:=l.ok i J x y B;exact g.ext (fun _ _ h=>h) (fun _ _ h=>h) (fun b D=>n.block b (g.lt D))⟩
 exact⟨v,_,F,γ,rfl,h,q,s,O.put _ (O3 Z W),Y⟩
theorem Cx.viewP{f:FuncId}{l c:L AV}{hp:L aD}{r:AV}(t:QC P G f c r)(I:mI r=true)(d:l.map (vpA hp)=c):Cx P G k f l hp (fun q os=>q=r/\os=[]):=by
 intro F γ w vs j H O C;have m:dP F γ (⟨[],hp⟩:AS).hp w:=j;have z:mP (iU w) [] c vs:=by
  rw[<- d];refine⟨by rw[C.1];simp,fun i q v p s=>?_⟩
  rw[aZi] at p;obtain⟨x,J,rfl⟩:=Option.map_eq_some_iff.1 p;exact aE0 m (C.2 i x v J s)
 refine (t (iU w) [] _ w (Hf w) (H.sub (C5 m)) z).mono ?_;rintro e w' ⟨v,q,B,M,K,rfl,⟨rfl,rfl⟩,_,D,N,E⟩;have g:=Ap D;refine⟨v,_,_,F,γ,rfl,⟨rfl,rfl⟩,⟨fun _ _ h=>h,g.os,g.tape,g.output,g.size,fun b y _=>g.block b y,fun _ _ h=>.inl h,fun i b h=>.inl ⟨i,h⟩,fun _ _ _ h=>h⟩,?_,fun _ _ h=>h,O3 I E⟩
 rw[aZ7];exact⟨fun b A h=>by rw[g.block b (j.fzlt h)];exact j.fz b A h,j.len,j.nd,j.disj,fun i A x p s=>by
     have n:=j.ok i A x p s;exact n.ext (fun _ _ h=>h) (fun _ _ h=>h) (fun b u=>g.block b (n.lt u))⟩
theorem aJt:toD (.dc (.raw (.slice none 0 0)))=.dc (.slc []):=rfl
theorem aJu{b:L DC}:toD (.ref b)=.dc (.ptr b):=rfl
theorem aJv{es:L (L DC)}:toD (.dc (.slc es))=.dc (.slc es):=rfl
theorem aJw{es:L DC}:toD (.dc (.ptr es))=.dc (.ptr es):=rfl
theorem aJx{k:IntKind}{n:Int}:toD (.dc (.raw (.int k n)))=.dc (.raw (.int k n)):=rfl
theorem aE1{n:Bool}:toD (.dc (.raw (.bool n)))=.dc (.raw (.bool n)):=rfl
theorem aJy{n:ByteArray}:toD (.dc (.raw (.string n)))=.dc (.raw (.string n)):=rfl
theorem aOt:toD (.dc (.raw (.pointer none)))=.dc (.raw (.pointer none)):=rfl
end
attribute [go_sem] aJt aJu aJv aJw aJx aE1 aJy aOt
attribute [go_sem] vwM aB9 vqP I5 aOm vwN aB8 vpP fnV vp0 aEY vpC vpA R7 vwA Zq mI uM aNp List.all_nil List.all_cons
end
section
section
variable {P:Program}{G:aF}{k:Nat}{st st':AS}{R:AS->Prop}{o:aN}{rest:L aN}
end
attribute [go_sem] aBY B4 aOf Wd lK eB
end
section
def Vv(i j x:Nat):Nat:=bif nq x i then j else bif nq x j then i else x
def Lm{α:Type}(d:α)(l:L α)(i j:Nat):L α:=(l.set i (l.getD j d)).set j (l.getD i d)
def Gs(x:Nat×Nat)(st:AS):AS:=⟨st.sl.map (dL (Vv x.1 x.2)),(Lm .dead st.hp x.1 x.2).map (dY (Vv x.1 x.2))⟩
def prm:L (Nat×Nat)->AS->AS
 |[],st=>st
 |x::p,st=>prm p (Gs x st)
def pOK(b n:Nat)(p:L (Nat×Nat)):Prop:=∀x∈p,b<=x.1/\b<=x.2/\x.1<n/\x.2<n
theorem aE2(i j x:Nat):Vv i j x=if x=i then j else if x=j then i else x:=by
 unfold Vv;rw[jG,jG];by_cases h:x=i;simp[h];rw[if_neg h,show (x==i)=false by simpa using h,cond_false];by_cases b:x=j;simp[b];rw[if_neg b,show (x==j)=false by simpa using b,cond_false]
theorem O4(i j x:Nat):Vv i j (Vv i j x)=x:=by
 simp only[aE2]
 repeat' split
 all_goals omega
theorem aJA{i j x b:Nat}(c:b<=i)(d:b<=j)(e:x<b):Vv i j x=x:=by
 rw[aE2,if_neg (by omega),if_neg (by omega)]
theorem I7{α:Type}(d:α)(l:L α)(i j:Nat):(Lm d l i j).length=l.length:=by simp[Lm]
theorem Sa{α:Type}(d:α)(l:L α){i j:Nat}(f:i<l.length)(e:j<l.length)(x:Nat):(Lm d l i j)[x]?=l[Vv i j x]?:=by
 have g:∀y,y<l.length->l[y]?=some (l.getD y d):=fun y h=>by rw[aZo,aZj h];rfl
 unfold Lm;rw[aE2];by_cases c:x=i;rw[if_pos c];subst c;by_cases b:j=x;subst b;rw[aZH (by simpa using e),g j e];rw[aZy b,aZH f,g j e];rw[if_neg c];by_cases b:x=j;rw[if_pos b];subst b;rw[aZH (by simpa using e),g i f];rw[if_neg b,aZy (Ne.symm b),aZy (Ne.symm c)]
theorem I8(x:Nat×Nat)(st:AS):(Gs x st).hp.length=st.hp.length:=by simp[Gs,I7]
theorem Zr:∀(p:L (Nat×Nat)) (st:AS),(prm p st).hp.length=st.hp.length
 |[],_=>rfl
 |x::p,st=>by rw[prm,Zr p,I8]
theorem Zs:∀(p q:L (Nat×Nat)) (st:AS),prm (p++q) st=prm q (prm p st)
 |[],_,_=>rfl
 |x::p,q,st=>by rw[aZx,prm,prm,Zs p q]
theorem aCa(x:Nat×Nat)(st:AS):aE (Gs x st)=Gs x (aE st):=by
 have e:∀id,aP (st.hp.getD id .dead)=(st.hp.map aP).getD id .dead:=fun id=>(bK (hp:=st.hp) id).symm
 simp only[aE,Gs,Lm,aZE,aZO,Function.comp_apply,<- e,oT];congr 3;refine aZz (fun o _=>?_)
 simp[oT]
theorem Sb:∀(p:L (Nat×Nat)) (st:AS),aE (prm p st)=prm p (aE st)
 |[],_=>rfl
 |x::p,st=>by rw[prm,prm,Sb p,aCa]
theorem Sc(st:AS):(aE st).hp.length=st.hp.length:=by simp[aE]
section
variable {P:Program}{G:aF}{k:Nat}{F F0:Fz}{γ γ0:L OI}{w w0:World}{a:Act}{st:AS}
theorem aJB{x:Nat×Nat}{p:Nat}(q:p<=x.1)(r:p<=x.2)(h3:x.1<st.hp.length)(h4:x.2<st.hp.length)(D:k<=p)(d:iH k F0 γ0 w0 F γ w)(g:dP F γ st.hp w)(n:bX F γ st.sl a):∃γ',iH k F0 γ0 w0 F γ' w/\dP F γ' (Gs x st).hp w/\bX F γ' (Gs x st).sl a/\γ'.length=γ.length:=by
 obtain⟨i,j⟩:=x;simp only at q r h3 h4;have u:=g.len;have m:∀y,(Lm OI.dead γ i j)[y]?=γ[Vv i j y]?:=Sa _ _ (by omega) (by omega);have l:∀y,cE (Lm OI.dead γ i j) y=cE γ (Vv i j y):=fun y=>by unfold cE;rw[m]
 have f:∀(id:Nat)(o:OI),γ[id]?=some o->(Lm OI.dead γ i j)[Vv i j id]?=some o:=fun id o h=>by rw[m,O4];exact h
 refine⟨Lm .dead γ i j,?_,?_,?_,I7 ..⟩;refine⟨d.sub,d.os,d.tape,d.output,d.size,d.far,d.new,fun y b h=>d.blk (Vv i j y) b (by rw[<- l];exact h),fun y c b h=>?_⟩
 rw[m,aJA q r (by omega)];exact d.box y c b h;refine⟨g.fz,by rw[I7,I8];exact u,fun y z b c B=>?_,fun y b c=>g.disj (Vv i j y) b (by rw[<- l];exact c),fun y o x c s=>?_⟩
 have:=g.nd (Vv i j y) (Vv i j z) b (by rw[<- l];exact c) (by rw[<- l];exact B);rw[<- O4 i j y,this,O4];simp only[Gs,aZi,Sa _ _ h3 h4] at c;rw[m] at s;cases e:st.hp[Vv i j y]? with
 |none=>rw[e] at c;cases c
 |some t=>
  rw[e] at c;injection c with c;subst c
  exact (g.ok _ _ _ e s).ren f
 refine⟨n.1,by simp[Gs];exact n.2.1,fun y C v c A=>?_⟩
 simp only[Gs,aZi] at c;cases e:st.sl[y]? with
 |none=>rw[e] at c;cases c
 |some t=>
  rw[e] at c;injection c with c;subst c
  exact (n.2.2 y t v e A).ren f
theorem aE3{h:Nat}(g:k<=h):∀(p:L (Nat×Nat)) (st:AS) (γ:L OI),pOK h st.hp.length p->iH k F0 γ0 w0 F γ w->dP F γ st.hp w->bX F γ st.sl a-> ∃γ',iH k F0 γ0 w0 F γ' w/\dP F γ' (prm p st).hp w/\bX F γ' (prm p st).sl a/\γ'.length=γ.length
 |[],st,γ,_,b,c,d=>⟨γ,b,c,d,rfl⟩
 | x::p,st,γ,hp,b,c,d=>by
   obtain⟨t,u,h3,h4⟩:=hp x aZu;obtain⟨e,n,q,r,s⟩:=aJB t u h3 h4 g b c d;obtain⟨f,i,j,l,m⟩:=aE3 g p (Gs x st) e (fun y v=>by rw[I8];exact hp y (aZC _ v)) n q r
   exact⟨f,i,j,l,by rw[m,s]⟩
theorem AW.prm{x:eG}{Q:Exit->AS->Prop}(h:AW P G k x (fun e s=>∃p,pOK st.hp.length s.hp.length p/\Q e (prm p s)) st):AW P G k x Q st:=by
 intro c r F γ a w d v t f g u;refine h c r F γ a w d v t f g (fun e i w' F' γ' B ⟨p,n,q⟩ y z A D=>?_)
 obtain⟨b,j,l,m,C⟩:=aE3 (by rw[<- d.len];exact f) p B γ' n y z A;exact u e i w' F' b _ q j l m (by omega)
end
end
section
def aJC:aU->Bool
 |.bls _ _ _ _=>true
 |_=>false
def Zt:L aU->Bool
 |[]=>false
 |c::cs=>aJC c||Zt cs
def aSC:TV->Bool
 |.one c=>aJC c
 |.agg cs=>Zt cs
def aE4:L TV->Bool
 |[]=>false
 |c::cs=>aSC c||aE4 cs
def Wp:AV->Bool
 |.one c=>aJC c
 |.agg cs=>Zt cs
 |.tup l=>aE4 l
 |.junk=>false
def bxD(n size:Nat):Option (L DC)->aU
 |some b=>if b.length=n*size then .dc (.slc (fY size n b)) else .junk
 |none=>.junk
def bxC(id:Nat)(cs:L aU):aU->aU
 |.bls j k n s=>bif nq j id then bxD n s (dcs ((cs.drop (k*s)).take (n*s))) else .bls j k n s
 |c=>c
def bxT(id:Nat)(cs:L aU):TV->TV
 |.one c=>.one (bxC id cs c)
 |.agg l=>.agg (l.map (bxC id cs))
def bxV(id:Nat)(cs:L aU):AV->AV
 |.one c=>.one (bxC id cs c)
 |.agg l=>.agg (l.map (bxC id cs))
 |.tup l=>.tup (l.map (bxT id cs))
 |.junk=>.junk
def bxO(id:Nat)(cs:L aU):aD->aD
 |.box l=>.box (l.map (bxC id cs))
 |o=>o
def bxB(id:Nat)(cs:L aU)(st:AS):AS:=⟨st.sl.map fun v=>bF (fun x=>nq x id) (bxV id cs v),(st.hp.map fun o=>cO (fun x=>nq x id) (bxO id cs o)).set id .dead⟩
def bx1(id:Nat)(st:AS):aD->Bool->AS
 |.box cs,true=>bxB id cs st
 |_,_=>st
def C6(n:Nat):L Nat->AS->AS
 |[],st=>st
 |id::r,st=>C6 n r (bx1 id st (aL st.hp id) (decide (n<=id)))
def bxW(n:Nat)(b:L Nat)(st:AS):Bool->AS
 |true=>C6 n b st
 |false=>st
theorem aJD{cs:L aU}{b:L DC}(h:dcs cs=some b){j:Nat}{d:DC}(c:b[j]?=some d):cs[j]?=some (.dc d):=by
 rw[mW h];simp only[kV,aZi,c,aZg]
theorem Mw{size:Nat}:∀(n:Nat)(b:L DC),b.length=n*size->∀(i j:Nat) e d,(fY size n b)[i]?=some e->e[j]?=some d->b[i*size+j]?=some d/\i<n
 |0,b,h,i,j,e,d,c,_=>by simp[fY] at c
 | n+1,b,h,0,j,e,d,c,f=>by
   simp only[fY,List.getElem?_cons_zero,Option.some.injEq] at c;subst c;rw[aZK] at f;split at f
   · exact⟨by rw[Nat.zero_mul,aZX];exact f,Nat.succ_pos _⟩
   · cases f
 | n+1,b,h,i+1,j,e,d,c,f=>by
   simp only[fY,bAM] at c;have g:(b.drop size).length=n * size:=by rw[aZn,h,Nat.succ_mul];omega
   obtain⟨h3,h4⟩:=Mw n (b.drop size) g i j e d c f;rw[aZJ] at h3;exact⟨by rw[<- h3];congr 1;rw[Nat.succ_mul];omega,by omega⟩
section
variable {k:Nat}{as:AS}{F:Fz}{γ:L OI}{w:World}
theorem aSE{F':Fz}{γ':L OI}{id b:Nat}{cs:L aU}(U:dP F γ as.hp w)(O:aL as.hp id=.box cs)(g:γ[id]?=some (.box b))(I:F.sub F')(Q:∀(i:Nat)(o:OI),(nq i id)=false->γ[i]?=some o->γ'[i]?=some o)(N:F' b=w.heap[b]?) {c:aU}{v:Value} (h:RC F γ c v):RC F' γ' (cJ (fun x=>nq x id) (bxC id cs c)) v:=by
 have hx:=U.ok id (.box cs) (.box b) (fE O (by simp)) g;obtain⟨vs,T,⟨fz,S,W⟩,Z,Y⟩:=hx;by_cases E:∃t n s,c=.bls id t n s;obtain⟨t,n,s,rfl⟩:=E;have z:nq id id=true:=by rw[jG];simp
 simp only[bxC,z,cond_true];cases y:dcs ((cs.drop (t*s)).take (n*s)) with
 |none=>exact .junk _ (by cases h;rfl)
 |some l=>
  simp only[bxD];split;rename_i H;obtain⟨c1,J,D⟩:=lB s n l H;have M:cJ (fun x=>nq x id) (.dc (.slc (fY s n l)))=.dc (.slc (fY s n l)):=by simp[cJ,aU.keep]
  rw[M];refine .dc _ _ ?_;cases h with
  |bls _ _ _ _ b' cap c off f X q=>
   have B:b'=b:=by
    rcases f with f|f;rw[g] at f;injection f with f;cases f;rw[g] at f;injection f with f;injection f with f;exact f.symm
   subst B;have r:∀(i j:Nat) e d,(fY s n l)[i]?=some e->e[j]?=some d->∃u,vs[off+(i*s+j)]?=some u/\RD F d u:=by
    intro i j e d m p;obtain⟨h3,h4⟩:=Mw n l H i j e d m p;have h5:=aJD y h3;rw[aZK] at h5;split at h5;rw[aZJ] at h5;have C:=X (by omega);rw[<- C] at h5;have V:off+(i*s+j)<cs.length:=(List.getElem?_eq_some_iff.1 h5).1;have h6:vs[off+(i*s+j)]?=some (vs[off+(i*s+j)]'(by omega)):=aZP (by omega);have h7:=Y _ _ _ h5 h6;refine⟨_,h6,?_⟩;cases h7 with
    |dc _ _ h=>exact h
    cases h5
   have:=RD.slc (F:=F') b' off c s (fY s n l) (fun i j=>vs.toList.getD (off+(i * s+j)) undef) J (fun i j e d m p=>by
       obtain⟨u,A,y⟩:=r i j e d m p;simp only[aZo,bAf,A,aZW];exact y.mono I) (fun i j e d m p=>by
       obtain⟨u,A,y⟩:=r i j e d m p;simp only[aZo,bAf,A,aZW,Fz.cell?];rw[N,S];simpa using A) (by rw[D];exact q)
   rwa[D] at this
  exact .junk _ (by cases h;rfl)
 have K:bxC id cs c=c:=by
  cases c<;>try rfl
  rename_i j t n s;simp only[bxC];cases z:nq j id with
  |true=>
   rw[jG,beq_iff_eq] at z;subst z;exact absurd ⟨t,n,s,rfl⟩ E
  |false=>rfl
 rw[K];exact h.kill I Q
theorem Gh.bx{id:Nat}{cs:L aU}(X:aL as.hp id=.box cs)(Y:k<=id):Gh k as (bxB id cs as):=by
 intro F γ a w r W hk;have M:=fE X (by simp);have n:id<γ.length:=by rw[r.len];exact aI M
 have H:γ[id]?=some (γ[id]'n):=aZj n;generalize hxe:γ[id]'n=x at H;have N:=r.ok id _ _ M H;cases x with
 |arr _ _=>exact N.elim
 |dead=>exact N.elim
 |box bl=>
 let F':Fz:=F.add w bl
 have J:F' bl=w.heap[bl]?:=by simp[F',Fz.add]
 have z:∀b',bl≠b'->F' b'=F b':=by
  intro b' D;simp only[F',Fz.add];rw[if_neg (fun e=>D e.symm)]
 have g:F.sub F':=by
  intro b o h;rw[z b (fun e=>by rw[r.disj id b (bR H (by rw[e];rfl))] at h;cases h)];exact h
 have hq:∀i:Nat,(nq i id)=false->i≠id:=fun i h e=>by rw[jG,e] at h;simp at h
 have U:∀ (i:Nat) (o:OI),(nq i id)=false->γ[i]?=some o->(γ.set id .dead)[i]?=some o:=fun i o d f=>by
   rw[aZy (Ne.symm (hq i d))];exact f
 have A:∀i b,cE (γ.set id .dead) i=some b->i≠id/\cE γ i=some b:=by
  intro i b h;obtain⟨y,I,O⟩:=dA h;by_cases m:id=i;subst m;rw[aZH n] at I;injection I with I;subst I
  simp[OI.blk] at O;rw[aZy m] at I;exact⟨Ne.symm m,bR I O⟩
 have B:=fun {c:aU}{v:Value} (h:RC F γ c v)=>aSE (F':=F') (γ':=γ.set id .dead) r X H g U J h
 have q:∀ {l:L aU} {vs:Array Value},(∀ (i:Nat) c v,l[i]?=some c->vs[i]?=some v->RC F γ c v)->∀ (i:Nat) c v,((l.map (bxC id cs)).map (cJ (fun x=>nq x id)))[i]?=some c->vs[i]?=some v->RC F' (γ.set id .dead) c v:=by
   intro l vs h i c v Q hv;rw[aZE,aZi] at Q;cases C:l[i]? with
   | none=>simp[C] at Q
   | some c0=>
     simp only[C,aZg,Option.some.injEq,Function.comp] at Q;subst Q;exact B (h i c0 v C hv)
 refine⟨F',γ.set id .dead,⟨g,rfl,rfl,rfl,aZe _,fun _ _ _=>rfl,fun b o h=>?_,fun i b h=>.inl ⟨i,(A i b h).2⟩,fun i hik b h=>?_⟩,
   ⟨fun b o h=>?_,by simp[bxB,r.len],fun i j b d f=>r.nd i j b (A i b d).2 (A j b f).2,fun i b h=>?_,fun i o y d f=>?_⟩, ?_,by simpa using hk⟩
 by_cases u:bl=b;exact .inr (.inr ⟨id,bR H (by rw[u];rfl)⟩);rw[z b u] at h;exact .inl h;rw[aZy (by omega)];exact h;by_cases u:bl=b;subst u;rw[J] at h;exact h;rw[z b u] at h;exact r.fz b o h;obtain⟨D,K⟩:=A i b h;rw[z b (fun e=>D (r.nd _ _ _ K (bR H (by rw[e];rfl))))]
 exact r.disj i b K;simp only[bxB] at d;by_cases m:id=i;subst m;rw[aZH n] at f;rw[aZH (by rw[aZa,<- r.len];exact n)] at d;injection d with d;injection f with f;subst d;subst f
 trivial;rw[aZy m] at d f;rw[aZi] at d;cases V:as.hp[i]? with
 |none=>simp[V] at d
 |some Z=>
  simp only[V,aZg,Option.some.injEq] at d;subst d;have h3:=r.ok i Z y V f;cases Z with
  |box l=>
   cases y with
   |box b=>
    obtain⟨vs,T,g1,g2,g3⟩:=h3;exact⟨vs,T,g1,by simpa[bxO] using g2,q g3⟩
   |arr _ _=>exact h3.elim
   |dead=>exact h3.elim
  |arr c2 s2 es2=>
   have:=h3.kill (p:=(fun x=>nq x id)) (F':=F') (γ':=γ.set id .dead) (w':=w) g U (fun _ _=>rfl)
   exact this
  |dead=>
   have:=h3.kill (p:=(fun x=>nq x id)) (F':=F') (γ':=γ.set id .dead) (w':=w) g U (fun _ _=>rfl)
   exact this
 refine⟨W.1,by simpa[bxB] using W.2.1,fun i av v d f=>?_⟩
 simp only[bxB] at d;rw[aZi] at d;cases E:as.sl[i]? with
 |none=>simp[E] at d
 |some S=>
  simp only[E,aZg,Option.some.injEq] at d;subst d;have h3:=W.2.2 i S v E f;cases h3 with
  |one c v h=>exact .one _ _ (B h)
  |agg l vs s h=>exact .agg _ _ (by simpa[bxV] using s) (q h)
  |tup l vs s h=>
   refine .tup _ _ (by simpa[bxV] using s) (fun i t v d f=>?_)
   rw[aZE,aZi] at d;obtain⟨t0,h4,rfl⟩:=Option.map_eq_some_iff.1 d;cases h i t0 v h4 f with
   |one c v h=>exact .one _ _ (B h)
   |agg l vs s h=>exact .agg _ _ (by simpa[bxT] using s) (q h)
  |junk v=>exact .junk v
theorem aCc{id:Nat}{cs:L aU}(o:aD):aP (bxO id cs o)=bxO id cs (aP o):=by cases o<;>rfl
theorem uN{n:Nat}(b:k<=n):∀(d:L Nat)(s:AS),∃c,Gh k s c/\aE c=C6 n d (aE s)
 |[],s=>⟨s,Gh.refl,rfl⟩
 | id::r,s=>by
   simp only[C6];have e:aL (aE s).hp id=aP (aL s.hp id):=bK (hp:=s.hp) id;rw[e];cases i:aL s.hp id with
   | arr _ _ _=>exact uN b r s
   | dead=>exact uN b r s
   | box cs=>
     simp only[aP];by_cases f:n<=id
     · rw[decide_eq_true f]
       obtain⟨c,g,h⟩:=uN b r (bxB id cs s);refine⟨c,(Gh.bx i (by omega)).trans g, ?_⟩;rw[h];congr 1;simp only[bx1,bxB,aE,aZO,aZE,aP];congr 2;exact aZz (fun o _=>by simp only[Function.comp_apply,pC,aCc])
     · rw[decide_eq_false f]
       exact uN b r s
theorem aOu{n:Nat}(e:k<=n)(c:L Nat)(s:AS)(b:Bool):∃d,Gh k s d/\aE d=bxW n c (aE s) b:=by
 cases b with
 |true=>exact uN e c s
 |false=>exact⟨s,Gh.refl,rfl⟩
theorem rF(n:Nat):∀(b:L Nat)(st:AS),(C6 n b st).sl.length=st.sl.length/\(C6 n b st).hp.length=st.hp.length
 |[],st=>⟨rfl,rfl⟩
 | id::r,st=>by
   simp only[C6];cases aL st.hp id with
   | box cs=>
     cases decide (n<=id) with
     | true=>
       obtain⟨c,d⟩:=rF n r (bxB id cs st);exact⟨by rw[bx1,c];simp[bxB],by rw[bx1,d];simp[bxB]⟩
     | false=>exact rF n r st
   | arr _ _ _=>exact rF n r st
   | dead=>exact rF n r st
theorem Zu(n:Nat)(c:L Nat)(st:AS)(b:Bool):(bxW n c st b).sl.length=st.sl.length/\(bxW n c st b).hp.length=st.hp.length:=by
 cases b with
 |true=>exact rF n c st
 |false=>exact⟨rfl,rfl⟩
end
end
section
def bvC(id s len:Nat):aU->aU
 |.bld j n=>bif nq j id then (bif nq n len then .bls id 0 n s else .junk) else .bld j n
 |.ept j i z o=>bif nq j id then .ptr id (i*z+o) else .ept j i z o
 |.fn f b=>cJ (fun x=>nq x id) (.fn f b)
 |.dc d=>.dc d
 |.ref cs=>.ref cs
 |.mpc es=>.mpc es
 |.junk=>.junk
 |.ptr j o=>.ptr j o
 |.bls j i z o=>.bls j i z o
def Sd(id s len:Nat):L aU->L aU
 |[]=>[]
 |c::cs=>bvC id s len c::Sd id s len cs
def bvT(id s len:Nat):TV->TV
 |.one c=>.one (bvC id s len c)
 |.agg l=>.agg (Sd id s len l)
def bvV(id s len:Nat):AV->AV
 |.one c=>.one (bvC id s len c)
 |.agg l=>.agg (Sd id s len l)
 |.tup l=>.tup (l.map (bvT id s len))
 |.junk=>.junk
def bvS(id s len:Nat):L AV->L AV
 |[]=>[]
 |v::vs=>bvV id s len v::bvS id s len vs
def bvO(id s len:Nat):aD->aD
 |.box l=>.box (Sd id s len l)
 |.arr c z es=>.arr c z es
 |.dead=>.dead
def bvH(id s len:Nat):L aD->L aD
 |[]=>[]
 |o::os=>bvO id s len o::bvH id s len os
theorem C7(id s len:Nat):∀l,Sd id s len l=l.map (bvC id s len)
 |[]=>rfl
 |c::cs=>by rw[Sd,C7 id s len cs];rfl
theorem Wq(id s len:Nat):∀l,bvS id s len l=l.map (bvV id s len)
 |[]=>rfl
 |c::cs=>by rw[bvS,Wq id s len cs];rfl
theorem O5(id s len:Nat):∀l,bvH id s len l=l.map (bvO id s len)
 |[]=>rfl
 |c::cs=>by rw[bvH,O5 id s len cs];rfl
def bvB(id s:Nat)(es:L (L DC))(st:AS):AS:=⟨bvS id s es.length st.sl,(bvH id s es.length st.hp).set id (.box (kV es.flatten))⟩
def bv1(id s:Nat)(es:L (L DC))(st:AS):Bool->AS
 |true=>bV [id] st
 |false=>bvB id s es st
def bvZ(id:Nat)(st:AS):aD->AS
 |.arr _ s es=>bv1 id s es st es.isEmpty
 |_=>st
def Se:L Nat->AS->AS
 |[],st=>st
 |id::r,st=>Se r (bvZ id st (aL st.hp id))
theorem rG{α:Type}{s:Nat}:∀(es:L (L α)),(∀e∈es,e.length=s)->es.flatten.length=es.length*s/\∀(m:Nat) d,es.flatten[m]?=some d->∃i j e,es[i]?=some e/\e[j]?=some d/\m=i*s+j
 |[],_=>⟨by simp,fun m d h=>by simp at h⟩
 | e::es,c=>by
   obtain⟨f,g⟩:=rG es (fun x n=>c x (aZC _ n))
   have l:=c e (aZu ..);refine⟨by rw[aZ6,aZb,f,l,aZc,Nat.succ_mul,Nat.add_comm],fun m d h=>?_⟩
   rw[aZ6] at h;by_cases b:m < e.length
   · rw[aZw b] at h
     exact⟨0,m,e,rfl,h,by simp⟩
   · rw[aZB (Nat.le_of_not_lt b)] at h
     obtain⟨i,j,x,h3,h4,h5⟩:=g _ _ h;exact⟨i+1,j,x,h3,h4,by rw[Nat.succ_mul];omega⟩
section
variable {k:Nat}{as:AS}{F:Fz}{γ:L OI}{w:World}
theorem Gh.bv{id c s:Nat}{es:L (L DC)}(hb:aL as.hp id=.arr c s es)(hne:es.isEmpty=false):Gh k as (bvB id s es as):=by
 intro F γ a w M hs hk;have U:=fE hb (by simp);have E:id<γ.length:=by rw[M.len];exact aI U
 have I:γ[id]?=some (γ[id]'E):=aZj E;generalize hxe:γ[id]'E=x at I;have K:=M.ok id _ _ U I;cases x with
 |box _=>exact K.elim
 |dead=>exact K.elim
 |arr b A=>
 cases b with
 |none=>
  obtain⟨_,_,h3⟩:=K;subst h3;cases hne
 |some b=>
 obtain⟨S,hle,hes,ws,T,how,hws,hwr⟩:=K;subst S;obtain⟨hfl,hfg⟩:=rG es hes;have hg:∀ (i:Nat) (o:OI),(nq i id)=false->γ[i]?=some o->(γ.set id (.box b))[i]?=some o:=fun i o p q=>by
   rw[jG] at p;rw[aZy (fun e=>by rw[e] at p;simp at p)];exact q
 have B:(γ.set id (.box b))[id]?=some (.box b):=aZH E;have u:∀i b',cE (γ.set id (.box b)) i=some b'->cE γ i=some b':=by
  intro i b' h;obtain⟨y,Q,X⟩:=dA h;by_cases C:id=i;subst C;rw[B] at Q;injection Q with Q;subst Q
  exact bR I X;rw[aZy C] at Q;exact bR Q X
 have Z:∀{c:aU}{v:Value},RC F γ c v->RC F (γ.set id (.box b)) (bvC id s es.length c) v:=by
  intro c v h;have W:∀i,nq i id=true->i=id:=fun i h=>by rw[jG] at h;simpa using h
  have r:c.keep (fun x=>nq x id)=true->RC F (γ.set id (.box b)) c v:=fun hk=>h.mono (fun _ _ h=>h) hg hk
  cases c with
  |dc d=>exact r rfl
  |ref cs=>exact r rfl
  |mpc e=>exact r rfl
  |junk=>exact r rfl
  |fn f caps=>exact RC.kill (fun _ _ h=>h) hg h
  |ptr j o=>
   refine r ?_;simp only[aU.keep,bAc];cases D:nq j id with
   |false=>rfl
   |true=>
    cases h with|ptr _ _ b' J=>
    rw[W j D,I] at J;injection J with J;cases J
  |bls j lo n z=>
   cases D:nq j id with
   |false=>exact r (by simp[aU.keep,D])
   |true=>
    cases h with|bls _ _ _ _ b' cap c off g ho O=>
    rw[W j D] at g ⊢;refine .bls _ _ _ _ b' cap c off (.inr ?_) ho O;rw[B];rcases g with g|g
    rw[I] at g;injection g with g;injection g with p q;injection p with p;rw[p]
    rw[I] at g;injection g with g;cases g
  |ept j i z o=>
   simp only[bvC];cases D:nq j id with
   |false=>exact r (by simp[aU.keep,D])
   |true=>
    simp only[cond_true];cases h with|ept _ _ _ _ b' cap g=>
    rw[W j D,I] at g;injection g with g;injection g with p q;injection p with p;subst p
    exact .ptr _ _ _ B
  |bld j n=>
   simp only[bvC];cases D:nq j id with
   |false=>exact r (by simp[aU.keep,D])
   |true=>
    simp only[cond_true];cases hn:nq n es.length with
    |false=>exact .junk _ h.is1
    |true=>
     rw[jG] at hn;have hn':n=es.length:=by simpa using hn
     simp only[cond_true];cases h with
     |bldN _ cap g=>rw[W j D,I] at g;injection g with g;cases g
     |bld _ _ b' cap g=>
      rw[W j D,I] at g;injection g with g;injection g with p q;injection p with p;subst p;subst q
      exact .bls _ _ _ _ b A A 0 (.inr B) (fun _=>by simp) (by omega)
 have N:∀{l:L aU}{vs:Array Value},(∀(i:Nat) c v,l[i]?=some c->vs[i]?=some v->RC F γ c v)->∀(i:Nat) c v,(Sd id s es.length l)[i]?=some c->vs[i]?=some v->RC F (γ.set id (.box b)) c v:=by
  intro l vs h i c v O hv;rw[C7,aZi] at O;obtain⟨c0,p,rfl⟩:=Option.map_eq_some_iff.1 O;exact Z (h i c0 v p hv)
 refine⟨F,γ.set id (.box b),⟨fun _ _ h=>h,rfl,rfl,rfl,aZe _,fun _ _ _=>rfl,fun _ _ h=>.inl h,fun i b' h=>.inl ⟨i,u i b' h⟩,fun i _ b' h=>?_⟩,
   ⟨M.fz,by simp[bvB,O5,M.len],fun i j b' p q=>M.nd i j b' (u i b' p) (u j b' q),fun i b' h=>M.disj i b' (u i b' h),fun i o y p q=>?_⟩, ?_,by simpa using hk⟩
 rw[aZy (fun e=>by rw[<- e,I] at h;injection h with h;cases h)];exact h
 simp only[bvB,O5] at p;by_cases C:id=i;subst C;rw[B] at q;rw[aZH (by rw[aZa,<- M.len];exact E)] at p;injection p with p;injection q with q;subst p;subst q
 have V:es.length*s<=A*s:=bAb _ hle;refine⟨ws,T,how,by rw[hws];simp only[kV,aZa,hfl];exact V,fun m c v O hv=>?_⟩
 simp only[kV,aZi] at O;obtain⟨d,h3,rfl⟩:=Option.map_eq_some_iff.1 O;obtain⟨i,j,e,h4,h5,rfl⟩:=hfg m d h3;exact .dc _ _ (hwr i j e d v h4 h5 hv);rw[aZy C] at p q;rw[aZi] at p;obtain⟨o0,h3,rfl⟩:=Option.map_eq_some_iff.1 p;have h4:=M.ok i o0 y h3 q;cases o0 with
 |box l=>
  cases y with
  |box b'=>
   obtain⟨vs,T',g1,g2,g3⟩:=h4;exact⟨vs,T',g1,by simpa[C7] using g2,N g3⟩
  |arr _ _=>exact h4.elim
  |dead=>exact h4.elim
 |arr c2 s2 es2=>
  cases y with
  |box b'=>exact h4.elim
  |arr b' c'=>cases b'<;>exact h4
  |dead=>exact h4.elim
 |dead=>
  cases y with
  |box b'=>exact h4.elim
  |arr b' c'=>cases b'<;>exact h4.elim
  |dead=>trivial
 refine⟨hs.1,by simpa[bvB,Wq] using hs.2.1,fun i av v p q=>?_⟩
 simp only[bvB,Wq] at p;rw[aZi] at p;obtain⟨Y,h3,rfl⟩:=Option.map_eq_some_iff.1 p;have h4:=hs.2.2 i Y v h3 q;cases h4 with
 |one c v h=>exact .one _ _ (Z h)
 |agg l vs H h=>exact .agg _ _ (by simpa[C7] using H) (N h)
 |tup l vs H h=>
  refine .tup _ _ (by simpa using H) (fun i t v p q=>?_)
  rw[aZi] at p;obtain⟨t0,h5,rfl⟩:=Option.map_eq_some_iff.1 p;cases h i t0 v h5 q with
  |one c v h=>exact .one _ _ (Z h)
  |agg l vs H h=>exact .agg _ _ (by simpa[C7] using H) (N h)
 |junk v=>exact .junk v
theorem aCd{id s n:Nat}(o:aD):aP (bvO id s n o)=bvO id s n (aP o):=by cases o<;>rfl
theorem uO:∀(g:L Nat)(s:AS),∃b,Gh k s b/\aE b=Se g (aE s)
 |[],s=>⟨s,Gh.refl,rfl⟩
 | id::r,s=>by
   simp only[Se];have e:aL (aE s).hp id=aP (aL s.hp id):=bK (hp:=s.hp) id;rw[e];cases l:aL s.hp id with
   | box cs=>exact uO r s
   | dead=>exact uO r s
   | arr c z es=>
     simp only[aP,bvZ];cases j:es.isEmpty with
     | true=>
       obtain⟨m,h,i⟩:=fX (k:=k) [id] s;obtain⟨b,d,f⟩:=uO r m;refine⟨b,h.trans d, ?_⟩;rw[f,i];rfl
     | false=>
       obtain⟨b,d,f⟩:=uO r (bvB id z es s);refine⟨b,(Gh.bv l j).trans d, ?_⟩;rw[f];congr 1;simp only[bv1,bvB,aE,O5,aZO,aZE,aP];congr 2;exact aZz (fun o _=>by simp only[Function.comp_apply,aCd])
end
end
section
inductive GH where
 |nil (d sz:Nat)
 |nilB (d j sz:Nat)
 |frz (d:Nat)
 |bv (d:Nat)
inductive HC where
 |skip|ret
 |exit (id:Nat)
 |region (ops:List aN)
 |regR (L:List Nat) (ops:List aN)
 |drawn (ops:List (Bool×aN))
 |drawnF (prs:List (Nat×Nat)) (ops:List aN)
 |drawnT (L:List Nat) (t:IT) (ops:List aN)
 |seq (a b:HC)
 |cond (c:aH) (a b:HC)
 |block (id:Nat) (a:HC)
 |loop (live:List Nat) (a:HC)
 |gh (g:GH) (a:HC)
 |trm (L:List Nat) (a:HC)
 |bad
def HC.er:HC->eG
 |.skip=>.skip
 |.ret=>.ret
 |.exit id=>.exit id
 |.region ops=>.region ops
 |.regR _ ops=>.region ops
 |.drawn ops=>.drawn ops
 |.drawnF d ops=>.drawnF d ops
 |.drawnT _ t ops=>.drawnT t ops
 |.seq a b=>.seq a.er b.er
 |.cond c a b=>.cond c a.er b.er
 |.block id a=>.block id a.er
 |.loop _ a=>.loop a.er
 |.gh _ a=>a.er
 |.trm _ a=>a.er
 |.bad=>.bad
abbrev Oo(d:Nat)(b:AI):aN:=⟨some d,b,none⟩
abbrev On(b:AI):aN:=⟨none,b,none⟩
abbrev Og(g:Nat)(b:Bool)(d:Nat)(c:AI):aN:=⟨some d,c,some (g,b)⟩
abbrev Qo(x:aN):Bool×aN:=(true,x)
abbrev Qe(x:aN):Bool×aN:=(false,x)
abbrev Ki(n:Int):aH:=.k (.int .i64 n)
abbrev Zi(n:Int):Value:=.int .i64 n
def ghN(d sz:Nat)(st:AS):AV->AS
 |.one (.dc (.raw (.slice none 0 0)))=>⟨st.sl.set d (.one (.bld st.hp.length 0)),st.hp++[.arr 0 sz []]⟩
 |_=>st
def aJE(id j sz:Nat)(cs:L aU)(st:AS):Option aU->AS
 |some (.dc (.raw (.slice none 0 0)))=>⟨st.sl,st.hp.set id (.box (cs.set j (.bld st.hp.length 0)))++[.arr 0 sz []]⟩
 |_=>st
def aJF(id j sz:Nat)(st:AS):aD->AS
 |.box cs=>aJE id j sz cs st cs[j]?
 |_=>st
def ghB(j sz:Nat)(st:AS):AV->AS
 |.one (.ptr id off)=>aJF id (off+j) sz st (aL st.hp id)
 |_=>st
def aOv:aU->L Nat
 |.bld id _=>[id]
 |_=>[]
def aE6:L aU->L Nat
 |[]=>[]
 |c::cs=>aOv c++aE6 cs
def aE7:AV->L Nat
 |.one c=>aOv c
 |.agg cs=>aE6 cs
 |_=>[]
def ghE:GH->AS->AS
 |.nil d sz,st=>ghN d sz st (st.sl.getD d .junk)
 |.nilB d j sz,st=>ghB j sz st (st.sl.getD d .junk)
 |.frz d,st=>bV (aE7 (st.sl.getD d .junk)) st
 |.bv d,st=>Se (aE7 (st.sl.getD d .junk)) st
def gC(size:Nat):L (L DC)->Bool
 |[]=>true
 |e::es=>nq e.length size&&gC size es
def klC(id:Nat):aU->aU
 |.dc d=>.dc d
 |.ref cs=>.ref cs
 |.mpc es=>.mpc es
 |.junk=>.junk
 |.ptr j o=>bif nq j id then .junk else .ptr j o
 |.bld j n=>bif nq j id then .junk else .bld j n
 |.ept j i s o=>bif nq j id then .junk else .ept j i s o
 |.bls j i s o=>bif nq j id then .junk else .bls j i s o
 |.fn f b=>cJ (·==id) (.fn f b)
def O6(id:Nat):L aU->L aU
 |[]=>[]
 |c::cs=>klC id c::O6 id cs
def klV(id:Nat):AV->AV
 |.one c=>.one (klC id c)
 |.agg cs=>.agg (O6 id cs)
 |.tup l=>.tup (l.map (tV (·==id)))
 |.junk=>.junk
def klS(id:Nat):L AV->L AV
 |[]=>[]
 |v::vs=>klV id v::klS id vs
def klO(id:Nat):aD->aD
 |.box cs=>.box (O6 id cs)
 |.arr c s es=>.arr c s es
 |.dead=>.dead
def klH(id:Nat):L aD->L aD
 |[]=>[]
 |o::os=>klO id o::klH id os
def apB(d:Option Nat)(size bytes:Nat)(st:AS)(id n:Nat):aD->Option (L (L DC))->Option AS
 | .arr _ sz es,some b=>if sz=size/\n<=es.length/\gC size b=true/\(n+b.length) * bytes<=140737488355328 then
     some ⟨aQ (klS id st.sl) d (.one (.bld id (n+b.length))),(klH id st.hp).set id (.arr 0 size (es.take n++b))⟩ else none
 |_,_=>none
def apN(d:Option Nat)(size bytes:Nat)(st:AS):Option (L (L DC))->Option AS
 | some b=>if gC size b=true/\b.length * bytes<=140737488355328 then
     some ⟨aQ st.sl d (.one (.bld st.hp.length b.length)),klH st.hp.length st.hp++[.arr 0 size b]⟩ else none
 |none=>none
def apZ(d:Option Nat)(size bytes:Nat)(st:AS):AV->AV->Option AS
 |.one (.bld id n),x=>apB d size bytes st id n (aL st.hp id) (rZ st.hp x)
 |.one (.dc (.raw (.slice none 0 0))),x=>apN d size bytes st (rZ st.hp x)
 |_,_=>none
def Wr:aU->Bool
 |.ptr _ _=>false
 |.ept _ _ _ _=>false
 |.bls _ _ _ _=>false
 |.fn _ b=>b.all R7
 |_=>true
def aE8:AV->Bool
 |.one c=>Wr c
 |.agg cs=>cs.all Wr
 |.tup _=>false
 |.junk=>true
def sJ(G:aF)(sl:L AV):L aH->Bool
 |[]=>true
 |x::b=>aE8 (aM G sl x)&&sJ G sl b
def Gt(G:aF)(st:AS):L aH->L AV
 |[]=>[]
 |x::b=>Gr (vwA st.hp (aM G st.sl x))::Gt G st b
def C8(G:aF)(st:AS):L aH->L AV
 |[]=>[]
 |x::b=>Gr (vpA st.hp (aM G st.sl x))::C8 G st b
def lC(G:aF)(sl:L AV):L aH->L AV
 |[]=>[]
 |x::b=>Gr (aM G sl x)::lC G sl b
def mJ(G:aF)(sl:L AV):L aH->L Nat
 |[]=>[]
 |x::b=>aE7 (aM G sl x)++mJ G sl b
def nwK(d:Option Nat)(st:AS):Option (AV×L aD)->Option AS
 |some (b,os)=>some ⟨aQ st.sl d (dL (cN [] st.hp.length) b),st.hp++os.map (dY (cN [] st.hp.length))⟩
 |none=>none
def Ws(call:aO)(G:aF)(d:Option Nat)(f:FuncId)(b:L aH)(st:AS):Option AS:=
 bif (lC G st.sl b).all (dE fun _=>true) then nwK d st (call f (lC G st.sl b) []) else none
def aOx:aD->Bool
 |.arr c _ _=>nq c 0
 |_=>true
def aCe:L aD->Bool
 |[]=>true
 |o::os=>aOx o&&aCe os
def dnK(d:Option Nat)(st:AS):Option (AV×L aD)->Option AS
 |some (b,os)=>bif aCe os then some ⟨aQ st.sl d (dL (cN [] st.hp.length) b),st.hp++os.map (dY (cN [] st.hp.length))⟩ else none
 |none=>none
def dnZ(call:aO)(G:aF)(d:Option Nat)(f:FuncId)(b:L aH)(st:AS):Option AS:=
 bif (lC G st.sl b).all (dE fun _=>true) then dnK d st (call f (lC G st.sl b) []) else none
def vwK(call:aO)(G:aF)(d:Option Nat)(f:FuncId)(b:L aH)(st:AS):Option (AV×L aD)->Option AS
 |some (c,[])=>bif mI c then some ⟨aQ st.sl d c,st.hp⟩ else Ws call G d f b (bV (mJ G st.sl b) st)
 |some (_,_::_)=>Ws call G d f b (bV (mJ G st.sl b) st)
 |none=>none
def lD(call:aO):aO:=fun f a hp=>call f (a.map Gr) hp
def clZ(call:aO)(G:aF)(d:Option Nat)(f:FuncId)(b:L aH)(st:AS):Option AS:=
 bif sJ G st.sl b then vwK call G d f b st (call f (Gt G st b) [])
 else lA (lD call) d f (b.map (aM G (bV (mJ G st.sl b) st).sl)) (bV (mJ G st.sl b) st)
def cvK(call:aO)(G:aF)(d:Option Nat)(c:L aH)(st:AS):AV->Option AS
 |.one (.fn f b)=>lA (lD call) d f (c.map (aM G st.sl)++b.map AV.one) st
 |_=>none
def cvZ(call:aO)(G:aF)(d:Option Nat)(x:aH)(b:L aH)(st:AS):Option AS:=
 cvK call G d b (bV (mJ G st.sl b) st) (aM G (bV (mJ G st.sl b) st).sl x)
def isT(t:Nat):aH->Bool
 |.t n=>nq n t
 |_=>false
def aOy(t:Nat):L aH->Bool
 |[]=>false
 |x::b=>isT t x||aOy t b
def aNs(t:Nat):AI->Bool
 |.app _ _ _ _ x=>isT t x
 |.call _ b=>aOy t b
 |_=>false
def aOz(t:Nat):L aN->Bool
 |[]=>false
 |o::l=>aNs t o.ai||aOz t l
def aJI:Option Nat->L aN->Bool
 |some t,l=>aOz t l
 |none,_=>false
def I9(G:aF)(sl:L AV):L (Nat×aH)->L Nat
 |[]=>[]
 |(_,x)::b=>aE7 (aM G sl x)++I9 G sl b
def bsP(st:AS)(d:Option Nat)(size len:Nat)(cs:L aU):Option (L DC)->Option AS
 |some b=>if b.length=len*size then some ⟨aQ st.sl d (.one (.bld st.hp.length len)),st.hp++[.arr 0 size (fY size len b)]⟩ else none
 |none=>if size=1 then some ⟨aQ st.sl d (.one (.bls st.hp.length 0 len 1)),st.hp++[.box cs]⟩ else none
def bsO(G:aF)(st:AS)(d:Option Nat)(size len:Nat)(z:L Value)(b:L (Nat×aH)):Option AS:=
 (iL (zs z (len*size)) (b.map fun (j,x)=>(j*size,size,aM G st.sl x))).bind fun cs=>bsP st d size len cs (dcs cs)
def bsZ(G:aF)(st:AS)(d:Option Nat)(size len:Nat)(z:L Value)(b:L (Nat×aH)):Bool->Option AS
 |true=>bsX G (bV (I9 G st.sl b) st) d size len z b
 |false=>bsO G (bV (I9 G st.sl b) st) d size len z b
def mkK(d:Option Nat)(size bytes:Nat)(b:L Value)(st:AS):Option Int->Option Int->Option AS
 |some (.ofNat n),some (.ofNat m)=>if n<=m/\m*bytes<=140737488355328 then some ⟨aQ st.sl d (.one (.bld st.hp.length n)),st.hp++[.arr 0 size (List.replicate n (b.map DC.raw))]⟩ else none
 |_,_=>none
def mkZ(G:aF)(st:AS)(d:Option Nat)(size bytes:Nat)(b:L Value)(l c:aH):Option AS:=mkK d size bytes b st (bH (aM G st.sl l)) (bH (aM G st.sl c))
def aSL(d:Option Nat)(st:AS)(id k n size:Nat)(cs:L aU):L Value->Option AS
 |[v]=>if size=1/\0<n/\k+n<=cs.length then some ⟨aQ st.sl d (.tup []),st.hp.set id (.box (cY cs k (List.replicate n (cI v))))⟩ else none
 |_=>none
def Wt(d:Option Nat)(st:AS)(id k n size:Nat)(b:L Value):aD->Option AS
 |.arr _ s es=>if s=size/\k+n<=es.length then some ⟨aQ st.sl d (.tup []),st.hp.set id (.arr 0 size (Rc es k n (b.map DC.raw)))⟩ else none
 |.box cs=>aSL d st id k n size cs b
 |_=>none
def aOB(d:Option Nat)(size:Nat)(b:L Value)(st:AS):AV->Option AS
 |.one (.bls id k n s)=>if s=size then Wt d st id k n size b (aL st.hp id) else none
 |.one (.bld id n)=>Wt d st id 0 n size b (aL st.hp id)
 |_=>none
def aCg(G:aF)(st:AS)(d:Option Nat)(size:Nat)(b:L Value)(x:aH):Option AS:=aOB d size b st (aM G st.sl x)
def aE9(d:Option Nat)(st:AS)(id b n:Nat)(s:ByteArray):aD->Option AS
 |.box cs=>if b+n<=cs.length then some ⟨aQ st.sl d (dQ (.int .i64 (min s.size n:Nat))),st.hp.set id (.box (cY cs b (eU (s.data.toList.take n))))⟩ else none
 |.arr _ z es=>if z=1/\b+n<=es.length then some ⟨aQ st.sl d (dQ (.int .i64 (min s.size n:Nat))),st.hp.set id (.arr 0 1 (Rg es b (s.data.toList.take n)))⟩ else none
 |_=>none
def aOC(d:Option Nat)(st:AS):AV->Option ByteArray->Option AS
 |.one (.bls id b n z),some s=>if z=1 then aE9 d st id b n s (aL st.hp id) else none
 |_,_=>none
def aCh(G:aF)(st:AS)(d:Option Nat)(x y:aH):Option AS:=aOC d st (aM G st.sl x) (dJ (aM G st.sl y))
def aSM(d:Option Nat)(st:AS):Option ByteArray->Option AS
 |some s=>some ⟨aQ st.sl d (.one (.dc (.slc (gX s)))),st.hp⟩
 |none=>none
def aCi(G:aF)(st:AS)(d:Option Nat)(x:aH):Option AS:=aSM d st (dJ (aM G st.sl x))
def aJJ(d:Option Nat)(st:AS):Option ByteArray->Option AS
 |some s=>some ⟨aQ st.sl d (.one (.bld st.hp.length s.size)),st.hp++[.arr 0 1 (gX s)]⟩
 |none=>none
def mbK(d:Option Nat)(size bytes:Nat)(st:AS):L Value->Option Int->Option Int->Option AS
 |[v],some (.ofNat n),some (.ofNat m)=>if size=1/\n<=m/\m*bytes<=140737488355328 then some ⟨aQ st.sl d (.one (.bls st.hp.length 0 n 1)),st.hp++[.box (List.replicate m (cI v))]⟩ else none
 |_,_,_=>none
def mK(call:aO)(G:aF)(st:AS)(l:L aN)(d:Option Nat):AI->Option AS
 |.call f b=>clZ call G d f b st
 |.callv x b=>cvZ call G d x b st
 |.app size bytes _ s x=>apZ d size bytes st (aM G st.sl s) (aM G st.sl x)
 |.bslc size len z c=>bsZ G st d size len z c (aJI d l)
 |.apps _ _=>none
 |.mk size bytes z x y=>mkZ G st d size bytes z x y
 |.clr size z x=>aCg G st d size z x
 |.cpys x y=>aCh G st d x y
 |.cvsb x=>aCi G st d x
 |ai=>Hg G st d ai
def guZ(call:aO)(G:aF)(st:AS)(l:L aN)(d:Option Nat)(b:AI):Option Bool->Option AS
 |some true=>mK call G st l d b
 |some false=>some ⟨aQ st.sl d (.tup []),st.hp⟩
 |none=>none
def Wu(call:aO)(G:aF)(st:AS)(l:L aN)(d:Option Nat)(c:AI):Option (Nat×Bool)->Option AS
 |none=>mK call G st l d c
 |some (g,b)=>guZ call G st l d c (gK b (aM G st.sl (.t g)))
def evR(call:aO)(G:aF):L aN->Option AS->Option AS
 |_,none=>none
 |[],some st=>some st
 |o::l,some st=>evR call G l (Wu call G st l o.dst o.ai o.guard)
def O7:List Nat->Nat->Bool
 |[],_=>false
 |x::L,n=>nq n x||O7 L n
def kI(L:List Nat):AI->Option (Nat×Bool)->Bool
 |.call f _,none=>O7 L f
 |.mk _ _ _ _ _,none=>O7 L 0
 |.cvsb _,none=>O7 L 1
 |_,_=>false
def vpK(d:Option Nat)(st:AS):Option (AV×L aD)->Option AS
 |some (b,[])=>bif mI b then some ⟨aQ st.sl d b,st.hp⟩ else none
 |some (_,_::_)=>none
 |none=>none
def aFa(call:aO)(G:aF)(st:AS)(d:Option Nat)(f:FuncId)(b:L aH):Bool->Option AS
 |true=>vpK d st (call f (C8 G st b) [])
 |false=>lA (lD call) d f (b.map (aM G st.sl)) st
def Sf(call:aO)(G:aF)(L:List Nat)(st:AS)(d:Option Nat):AI->Option AS
 |.call f b=>aFa call G st d f b (O7 L (f+100000))
 |.mk size bytes z x y=>mbK d size bytes st z (bH (aM G st.sl x)) (bH (aM G st.sl y))
 |.cvsb x=>aJJ d st (dJ (aM G st.sl x))
 |_=>none
def Ja(call:aO)(G:aF)(L:List Nat)(st:AS)(l:List aN)(d:Option Nat)(b:AI)(g:Option (Nat×Bool)):Bool->Option AS
 |true=>Sf call G L st d b
 |false=>Wu call G st l d b g
def Gu(call:aO)(G:aF)(L:List Nat):List aN->Option AS->Option AS
 |_,none=>none
 |[],some st=>some st
 |o::l,some st=>Gu call G L l (Ja call G L st l o.dst o.ai o.guard (kI L o.ai o.guard))
open Classical in
noncomputable def F6(d:Nat)(a b:Option AS):Option AS:=if ∃s c p,a=some s/\b=some c/\pOK d c.hp.length p/\prm p c=s then a else none
noncomputable def F7(call:aO)(G:aF)(L:List Nat)(b:Nat)(ops:List aN):IT->Option AS->Option AS
 |_,none=>none
 |.nil,some st=>some st
 |.st i t,some st=>F7 call G L b ops t (Ja call G L st ops (iM ops i).dst (iM ops i).ai (iM ops i).guard (kI L (iM ops i).ai (iM ops i).guard))
 | .br i t r,some st=>match Ot r with
   | true=>F7 call G L b ops t (Ja call G L st ops (iM ops i).dst (iM ops i).ai (iM ops i).guard (kI L (iM ops i).ai (iM ops i).guard))
   | false=>F6 b (F7 call G L b ops t (Ja call G L st ops (iM ops i).dst (iM ops i).ai (iM ops i).guard (kI L (iM ops i).ai (iM ops i).guard))) (F7 call G L b ops r (some st))
 |.stop,some _=>none
def qcF(d:Option Nat)(st:AS)(v:AV):Option AS:=bif dE (fun _=>true) v then some ⟨aQ st.sl d v,st.hp⟩ else none
def qcK(d:Option Nat)(st:AS):Option (AV×L aD)->Option AS
 |some (b,[])=>bif dE (fun _=>true) b then some ⟨aQ st.sl d b,st.hp⟩ else none
 |some (b,o::os)=>qcF d st (bF (fun id=>decide (0<=id)) ((bV (jU b) ⟨[b],o::os⟩).sl.getD 0 .junk))
 |none=>none
def Cj(call:aO)(G:aF)(st:AS)(d:Option Nat):AI->Option AS
 |.call f b=>bif (lC G st.sl b).all (dE fun _=>true) then qcK d st (call f (lC G st.sl b) []) else none
 |ai=>gH st d (evX G st.sl (Oj ai st.hp) ai)
def dvK(call:aO)(G:aF)(d:Option Nat)(f:FuncId)(c:L aH)(st:AS):Option (AV×L aD)->Option AS
 |some (b,[])=>bif mI b then some ⟨aQ st.sl d b,st.hp⟩ else dnZ call G d f c st
 |some (_,_::_)=>dnZ call G d f c st
 |none=>none
def ldZ(call:aO)(G:aF)(st:AS)(d:Option Nat):AI->Option AS
 |.call f b=>dvK call G d f b st (call f (C8 G st b) [])
 |.callv x b=>cvZ call G d x b st
 |.app size bytes _ s x=>apZ d size bytes st (aM G st.sl s) (aM G st.sl x)
 |.bslc size len z c=>bsO G st d size len z c
 |.mk size bytes z x y=>mkZ G st d size bytes z x y
 |.clr size z x=>aCg G st d size z x
 |.cpys x y=>aCh G st d x y
 |.cvsb x=>aCi G st d x
 |.alloc z=>Hg G st d (.alloc z)
 |.box x=>Hg G st d (.box x)
 |.store size x v=>Hg G st d (.store size x v)
 |_=>none
def drZ(call:aO)(G:aF)(st:AS)(d:Option Nat)(b:AI):Bool->Option AS
 |true=>Cj call G st d b
 |false=>ldZ call G st d b
def aCl(call:aO)(G:aF)(st:AS)(q:Bool)(d:Option Nat)(b:AI):Option Bool->Option AS
 |some true=>drZ call G st d b q
 |some false=>some ⟨aQ st.sl d (.tup []),st.hp⟩
 |none=>none
def drO(call:aO)(G:aF)(st:AS)(q:Bool)(d:Option Nat)(c:AI):Option (Nat×Bool)->Option AS
 |none=>drZ call G st d c q
 |some (g,b)=>aCl call G st q d c (gK b (aM G st.sl (.t g)))
def Gv(call:aO)(G:aF):L (Bool×aN)->Option AS->Option AS
 |_,none=>none
 |[],some st=>some st
 |o::l,some st=>Gv call G l (drO call G st o.1 o.2.dst o.2.ai o.2.guard)
def aCm:AI->Bool
 |.alloc _=>true
 |_=>false
def nAl:L aN->Nat
 |[]=>0
 |o::l=>bif aCm o.ai then nAl l+1 else nAl l
def C9:Nat->L aD
 |0=>[]
 |n+1=>.dead::C9 n
abbrev FP:=L Nat×L Nat
def fpA(G:aF)(sl:L AV):L aH->L Nat
 |[]=>[]
 |x::b=>Qy (aM G sl x)++fpA G sl b
def fvN(d:Option Nat)(r:Nat)(z:L Value)(st:AS):Option aD->Option (AS×FP)
 |some .dead=>some (⟨aQ st.sl d (.one (.ptr r 0)),st.hp.set r (.box (z.map cI))⟩,[r],[])
 |_=>none
def fvT(size id off:Nat)(vs:L aU)(st:AS):Option aD->Option (AS×FP)
 |some (.box cs)=>if vs.length=size/\off+size<=cs.length then some (⟨st.sl,st.hp.set id (.box (cY cs off vs))⟩,[id],[id]) else none
 |_=>none
def fvS(d:Option Nat)(size:Nat)(st:AS):AV->Option (L aU)->Option (AS×FP)
 | .one (.ptr id off),some vs=>match d with
   | none=>fvT size id off vs st st.hp[id]?
   | some _=>none
 |_,_=>none
def Vw(R:L Nat):Option AS->Option (AS×FP)
 |some s=>some (s,[],R)
 |none=>none
def aJK(d:Option Nat)(id b n:Nat)(bs:ByteArray)(st:AS):Option aD->Option (AS×FP)
 |some (.box cs)=>if b+n<=cs.length then some (⟨aQ st.sl d (dQ (.int .i64 (min bs.size n:Nat))),st.hp.set id (.box (cY cs b (eU (bs.data.toList.take n))))⟩,[id],[id]) else none
 |_=>none
def fvY(d:Option Nat)(st:AS):AV->Option ByteArray->Option (AS×FP)
 |.one (.bls id b n z),some bs=>if z=1 then aJK d id b n bs st st.hp[id]? else none
 |_,_=>none
def aFb(d:Option Nat)(id:Nat)(st:AS):Option (AV×L aD)->Option (AS×FP)
 |some (.tup [],[.box cs])=>bif keepL (fun _=>true) cs then some (⟨aQ st.sl d (.tup []),st.hp.set id (.box cs)⟩,[id],[id]) else none
 |_=>none
def fvB(call:aO)(d:Option Nat)(f:FuncId)(st:AS)(b:L AV)(id:Nat):Option aD->Option (AS×FP)
 |some (.box cs)=>bif keepL (fun _=>true) cs&&b.all (dE (kZ [id])) then aFb d id st (lD call f (b.map (dL (mG [id]))) [.box cs]) else none
 |_=>none
def fvC(call:aO)(G:aF)(st:AS)(d:Option Nat)(f:FuncId)(b:L aH):L Nat->Option (AS×FP)
 |[]=>Vw [] (Cj call G st d (.call f b))
 |[id]=>fvB call d f st (b.map (aM G st.sl)) id st.hp[id]?
 |_=>none
def fvL:Nat->Option AS->Option (AS×FP)
 |0,_=>none
 |_+1,s=>Vw [] s
def Lo(call:aO)(G:aF)(st:AS)(d:Option Nat)(r:Nat):AI->Option (AS×FP)
 |.alloc z=>fvN d r z st st.hp[r]?
 |.store size x v=>fvS d size st (aM G st.sl x) (cellsOf (aM G st.sl v))
 |.cpys x y=>fvY d st (aM G st.sl x) (dJ (aM G st.sl y))
 |.call f b=>fvC call G st d f b ((b.map (aM G st.sl)).flatMap jU)
 |.bslc size len z c=>fvL len (bsX G st d size len z c)
 |ai=>bif ai.isPure then Vw (fpA G st.sl (bJ ai)) (mK call G st [] d ai) else none
def fvG(call:aO)(G:aF)(st:AS)(d:Option Nat)(r:Nat)(b:AI):Option Bool->Option (AS×FP)
 |some true=>Lo call G st d r b
 |some false=>some (⟨aQ st.sl d (.tup []),st.hp⟩,[],[])
 |none=>none
def fvO(call:aO)(G:aF)(st:AS)(d:Option Nat)(r:Nat)(c:AI):Option (Nat×Bool)->Option (AS×FP)
 |none=>Lo call G st d r c
 |some (g,b)=>fvG call G st d r c (gK b (aM G st.sl (.t g)))
def Sg:List Nat->Nat->Bool
 |[],_=>false
 |x::L,n=>nq n x||Sg L n
def Gw:L Nat->L Nat->Bool
 |[],_=>true
 |x::a,b=>!Sg b x&&Gw a b
def dsM:FP->FP->Bool
 |(w,r),(w',r')=>Gw w r'&&(Gw w w'&&Gw w' r)
def atF:L FP->Nat->FP
 |[],_=>([],[])
 |f::_,0=>f
 |_::b,n+1=>atF b n
def Lp:L (Nat×Nat)->L FP->Bool
 |[],_=>true
 |(p,q)::c,b=>dsM (atF b p) (atF b q)&&Lp c b
def Wv(call:aO)(G:aF)(b:L (Nat×Nat)):L FP->Nat->L aN->Option AS->Option AS
 |_,_,_,none=>none
 |acc,_,[],some st=>bif Lp b acc then some st else none
 | acc,r,o::l,some st=>match fvO call G st o.dst r o.ai o.guard with
   | some (s,f)=>Wv call G b (acc++[f]) (bif aCm o.ai then r+1 else r) l (some s)
   | none=>none
def ctC(m:Nat):aU->aU
 |.dc d=>.dc d
 |.ref cs=>.ref cs
 |.mpc es=>.mpc es
 |.junk=>.junk
 |.ptr j o=>if m<=j then .junk else .ptr j o
 |.bld j n=>if m<=j then .junk else .bld j n
 |.ept j i s o=>if m<=j then .junk else .ept j i s o
 |.bls j i s o=>if m<=j then .junk else .bls j i s o
 |.fn f b=>cJ (fun id=>decide (m<=id)) (.fn f b)
def Gx(m:Nat):L aU->L aU
 |[]=>[]
 |c::cs=>ctC m c::Gx m cs
def ctV(m:Nat):AV->AV
 |.one c=>.one (ctC m c)
 |.agg cs=>.agg (Gx m cs)
 |.tup l=>.tup (l.map (tV fun id=>decide (m<=id)))
 |.junk=>.junk
def ctO(m:Nat):aD->aD
 |.box cs=>.box (Gx m cs)
 |.arr c s es=>.arr c s es
 |.dead=>.dead
def ctH(m:Nat):Nat->L aD->L aD
 |0,_=>[]
 |_+1,[]=>[]
 |n+1,o::os=>ctO m o::ctH m n os
def ctS(m:Nat):List Nat->List AV->List AV
 |_,[]=>[]
 |[],_::b=>.junk::ctS m [] b
 |0::L,x::b=>ctV m x::ctS m L b
 |(n+1)::L,_::b=>.junk::ctS m (n::L) b
def kN(L:List Nat)(m:Nat)(st:AS):AS:=⟨ctS m L st.sl,ctH m m st.hp⟩
def Le(b:AS->Option (Exit×AS))(L:List Nat)(m:Nat):Nat->AS->Option (Exit×AS)
 |0,_=>none
 | n+1,st=>match b st with
   | some (.normal,s)=>Le b L m n (kN L m s)
   | r=>r
open Classical in
noncomputable def lim{α:Type}(f:Nat->Option α):Option α:=if h:∃n r,f n=some r then f h.choose else none
noncomputable def Bw(b:AS->Option (Exit×AS))(L:List Nat)(m:Nat)(st:AS):Option (Exit×AS):=lim fun n=>Le b L m n st
def nrm:Option AS->Option (Exit×AS)
 |some s=>some (.normal,s)
 |none=>none
def aJL(id:Nat)(s:AS):Exit->Option (Exit×AS)
 |.exit b=>if b=id then some (.normal,s) else some (.exit b,s)
 |e=>some (e,s)
def Bf(id:Nat):Option (Exit×AS)->Option (Exit×AS)
 |some (e,s)=>aJL id s e
 |none=>none
noncomputable def EC(call:aO)(G:aF):HC->AS->Option (Exit×AS)
 |.skip,st=>some (.normal,st)
 |.ret,st=>some (.ret,st)
 |.exit id,st=>some (.exit id,st)
 |.region ops,st=>nrm (evR call G ops (some st))
 |.regR L ops,st=>nrm (Gu call G L ops (some st))
 |.drawn ops,st=>nrm (Gv call G ops (some st))
 |.drawnF d ops,st=>nrm (Wv call G d [] st.hp.length ops (some ⟨st.sl,st.hp++C9 (nAl ops)⟩))
 |.drawnT L t ops,st=>nrm (F7 call G L st.hp.length ops t (some st))
 | .seq a b,st=>match EC call G a st with
   | some (.normal,s)=>EC call G b s
   | r=>r
 | .cond c a b,st=>match cK (aM G st.sl c) with
   | some true=>EC call G a st
   | some false=>EC call G b st
   | none=>none
 |.block id a,st=>Bf id (EC call G a st)
 |.loop L a,st=>Bw (EC call G a) L st.hp.length (kN L st.hp.length st)
 |.gh g a,st=>EC call G a (ghE g st)
 |.trm L a,st=>EC call G a (kN L st.hp.length st)
 |.bad,_=>none
structure HF where
 code:HC
 rs:List kY
 nt:Nat
 own:Bool
structure HT where
 tab:FuncId->Option HF
 base:aO
def aOF(b:Bool)(n:Nat)(hp:L aD)(v:AV):AV×L aD:=
 bif b then
  (bif dE (fun id=>decide (n<=id)) v&&(hp.take n).all (pB fun id=>decide (n<=id)) then (Gr v,hp.take n) else (Gr v,hp))
 else (Gr (bF (fun id=>decide (n<=id)) ((bV (jU v) (bxW n (jU v) ⟨[v],hp⟩ (Wp v))).sl.getD 0 .junk)),((bV (jU v) (bxW n (jU v) ⟨[v],hp⟩ (Wp v))).hp.take n).map (cO fun id=>decide (n<=id)))
def Ww(b:Bool)(n:Nat)(hp:L aD):Option AV->Option (AV×L aD)
 |some v=>some (aOF b n hp v)
 |none=>none
def pX(b:Bool)(c:L kY)(n:Nat):Option (Exit×AS)->Option (AV×L aD)
 |some (e,s)=>if Mo e=true/\n<=s.hp.length then Ww b n s.hp (tJ s c) else none
 |none=>none
noncomputable def Wx(call:aO)(G:aF)(h:HF)(b:L AV)(hp:L aD):Option (AV×L aD):=
 pX h.own h.rs hp.length (EC call G h.code ⟨b++tC (h.nt-b.length),hp⟩)
noncomputable def callN(G:aF)(T:HT):Nat->aO
 |0,_,_,_=>none
 | n+1,f,b,hp=>match T.tab f with
   | some h=>Wx (callN G T n) G h b hp
   | none=>T.base f b hp
noncomputable def EV(G:aF)(T:HT):aO:=fun f b hp=>lim fun n=>callN G T n f b hp
