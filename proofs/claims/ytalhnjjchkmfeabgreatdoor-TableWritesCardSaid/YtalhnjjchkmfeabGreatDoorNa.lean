/- Part. Conditions: none. -/
import Derived.Test.YtalhnjjchkmfeabGreatDoorMb
namespace Go.Proofs.YtalhnjjchkmfeabGreatDoor
set_option linter.unusedSimpArgs false
set_option linter.unusedVariables false
section
def R3:aU->Bool
 |.dc _=>true
 |.ref _=>true
 |.mpc _=>true
 |_=>false
def Y3(hp:L aD):aU->aU
 | .bld id n=>match aL hp id with
   | .arr _ _ es=>if n<=es.length then .dc (.slc (es.take n)) else .junk
   | _=>.junk
 |.dc d=>.dc d
 |.ref c=>.ref c
 |.mpc es=>.mpc es
 |.fn f b=>bif b.all R3 then .fn f b else .junk
 |_=>.junk
def vwA(hp:L aD):AV->AV
 |.one c=>.one (Y3 hp c)
 |.agg cs=>.agg (cs.map (Y3 hp))
 |.tup _=>.junk
 |.junk=>.junk
def Is:L aU->Option (L DC)
 |[]=>some []
 |.dc d::cs=>(Is cs).map (d::·)
 |_=>none
def aOn:Option (L DC)->aU
 |some b=>.ref b
 |none=>.junk
def toD:aU->aU
 |.dc (.raw (.slice none 0 0))=>.dc (.slc [])
 |.ref b=>.dc (.ptr b)
 |c=>c
def vwN(hp:L aD)(c:aU):aU:=toD (Y3 hp c)
def aBM(hp:L aD):L aU->L aU
 |[]=>[]
 |c::cs=>vwN hp c::aBM hp cs
def vpP(hp:L aD)(off:Nat):aD->aU
 |.box cs=>aOn (Is (aBM hp (cs.drop off)))
 |_=>.junk
def vwM(hp:L aD):aU->aU
 |.ptr id off=>toD (vpP hp off (aL hp id))
 |.bld id n=>vwN hp (.bld id n)
 |.dc d=>vwN hp (.dc d)
 |.ref b=>.dc (.ptr b)
 |.mpc _=>.junk
 |.fn _ _=>.junk
 |.ept _ _ _ _=>.junk
 |.bls _ _ _ _=>.junk
 |.junk=>.junk
def aBN(hp:L aD):L aU->L aU
 |[]=>[]
 |c::cs=>vwM hp c::aBN hp cs
def vqP(hp:L aD)(off:Nat):aD->aU
 |.box cs=>aOn (Is (aBN hp (cs.drop off)))
 |_=>.junk
def fnV(f:FuncId)(cs:L aU):aU:=bif cs.all R3 then .fn f cs else .junk
def vp0(hp:L aD):aU->aU
 |.ptr id off=>vqP hp off (aL hp id)
 |.bld id n=>Y3 hp (.bld id n)
 |.dc d=>.dc d
 |.ref c=>.ref c
 |.mpc es=>.mpc es
 |.fn f b=>Y3 hp (.fn f b)
 |.ept _ _ _ _=>.junk
 |.bls _ _ _ _=>.junk
 |.junk=>.junk
def aED(hp:L aD):L aU->L aU
 |[]=>[]
 |c::cs=>vp0 hp c::aED hp cs
def vpC(hp:L aD):aU->aU
 |.fn f b=>fnV f (aED hp b)
 |.ptr id off=>vp0 hp (.ptr id off)
 |.bld id n=>vp0 hp (.bld id n)
 |.dc d=>.dc d
 |.ref c=>.ref c
 |.mpc es=>.mpc es
 |.ept _ _ _ _=>.junk
 |.bls _ _ _ _=>.junk
 |.junk=>.junk
def vpA(hp:L aD):AV->AV
 |.one c=>.one (vpC hp c)
 |.agg cs=>.agg (cs.map (Y3 hp))
 |.tup _=>.junk
 |.junk=>.junk
def zU:aU->Bool
 |.dc (.raw _)=>true
 |_=>false
def aNn:TV->Bool
 |.one c=>zU c
 |.agg cs=>cs.all zU
def mS:AV->Bool
 |.one c=>zU c
 |.agg cs=>cs.all zU
 |.tup l=>l.all aNn
 |.junk=>false
section
variable {P:Program}{G:aE}{k:Nat}{st st':AS}{R:AS->Prop}{o:aO}{rest:L aO}{F F':Fz}{γ γ':L OI}{w:World}
theorem C8(c:eG F γ st.hp w):F.sub (jE w):=fun b o h=>c.fz b o h
theorem tA(A:eG F γ st.hp w){c:aU}{v:Value}(h:RC F γ c v):RC (jE w) [] (Y3 st.hp c) v:=by
 have l:=C8 A;cases h with
 |dc d v h=>exact .dc d v (h.mono l)
 |ref cs b off g t q=>exact .ref cs b off g (fun j d h=>(t j d h).mono l) (fun j d h=>l.cell (q j d h))
 |mpc es r p e h x u=>exact .mpc es r p e (l _ _ h) x u
 |bldN id cap s=>
  simp only[Y3];split;rename_i B sz es z;split;simp only[bAg];exact .dc _ _ (.nil _ _);exact .junk _ rfl;exact .junk _ rfl
 |bld id n b cap s=>
  simp only[Y3];split;rename_i B sz es z;split;rename_i H;have:=aEp (F':=jE w) (γ':=γ) A z l (fun i o _ h=>h) (fun b c h=>rfl) (.bld id n b cap s)
  have C:B3 id es (.bld id n)=.dc (.slc (es.take n)):=by simp[B3,H]
  rw[C] at this;have D:cO (·==id) (.dc (.slc (es.take n)))=.dc (.slc (es.take n)):=by simp[cO,aU.keep]
  rw[D] at this;cases this with|dc _ _ h=>exact .dc _ _ h
  exact .junk _ rfl;exact .junk _ rfl
 |ptr id off b s=>exact .junk _ rfl
 |ept id i size off b cap s=>exact .junk _ rfl
 |bls id K n size b cap c off s J q=>exact .junk _ rfl
 |fn f m g t=>
  simp only[Y3];cases q:m.all R3 with
  |false=>exact .junk _ rfl
  |true=>
   refine .fn f m g (fun i c h=>?_)
   have u:=bAr.1 q c (aZE h);have y:=t i c h;generalize g i=v at y ⊢;cases y with
   |dc d v h=>exact .dc d _ (h.mono l)
   |ref cs b off g t q=>exact .ref cs b off g (fun j d h=>(t j d h).mono l) (fun j d h=>l.cell (q j d h))
   |mpc es r p e E x I=>exact .mpc es r p e (l _ _ E) x I
   |_=>simp[R3] at u
 |junk v h=>exact .junk v h
theorem aEE(d:eG F γ st.hp w){a:AV}{v:Value}(h:RV F γ a v):RV (jE w) [] (vwA st.hp a) v:=by
 cases h with
 |one c v h=>exact .one _ _ (tA d h)
 |agg cs vs e h=>
  refine .agg _ _ (by simpa using e) (fun i c v b g=>?_)
  rw[aZj] at b;obtain⟨f,h3,rfl⟩:=Option.map_eq_some_iff.1 b;exact tA d (h i f v h3 g)
 |tup l vs e h=>exact .junk _
 |junk v=>exact .junk v
theorem Oc(hp:L aD):∀cs,aBM hp cs=cs.map (vwN hp)
 |[]=>rfl
 |c::cs=>by rw[aBM,Oc hp cs];rfl
theorem Od(hp:L aD):∀cs,aED hp cs=cs.map (vp0 hp)
 |[]=>rfl
 |c::cs=>by rw[aED,Od hp cs];rfl
theorem It:∀{cs:L aU}{e:L DC}{j:Nat}{d:DC},Is cs=some e->e[j]?=some d->cs[j]?=some (.dc d)
 |[],e,j,d,h,b=>by simp only[Is,Option.some.injEq] at h;subst h;simp at b
 | c::cs,e,j,d,h,b=>by
   cases c with
   | dc i=>
     simp only[Is] at h;obtain⟨f,g,rfl⟩:=Option.map_eq_some_iff.1 h;cases j with
     | zero=>simp at b;simp[b]
     | succ j=>simp at b;simpa using It g b
   | _=>simp[Is] at h
theorem Oe(hp:L aD):∀cs,aBN hp cs=cs.map (vwM hp)
 |[]=>rfl
 |c::cs=>by rw[aBN,Oe hp cs];rfl
theorem V9{F:Fz}{γ:L OI}{c:aU}{v:Value}(h:RC F γ c v):RC F γ (toD c) v:=by
 unfold toD;split;cases h with|dc _ _ h=>cases h with|raw _ h=>exact .dc _ _ (.nil _ _)
 cases h with|ref _ b off g e d=>exact .dc _ _ (.ptr _ b off g e d)
 exact h
theorem R4(x:eG F γ st.hp w){id off b:Nat}{cs:L aU}{s:aU->aU}{m:L DC}(u:aL st.hp id=.box cs)(t:γ[id]?=some (.box b))(z:∀c v,RC F γ c v->RC (jE w) [] (s c) v) (r:Is ((cs.drop off).map s)=some m):RC (jE w) [] (.ref m) (.pointer (some ⟨b,off,none⟩)):=by
 obtain⟨vs,T,⟨B,A,y⟩,l,p⟩:=x.box u t;refine .ref m b off (fun j=>vs.getD (off+j) (.bool false)) ?_ ?_
 intro j d n;have i:=It r n;rw[aZj] at i;obtain⟨q,g,h3⟩:=Option.map_eq_some_iff.1 i;rw[aZK] at g;have f:off+j<vs.size:=Nat.lt_of_lt_of_le (aJ g) l;have h4:=p (off+j) q _ g (aZR f);have h5:=z _ _ h4;rw[h3] at h5;have e:vs.getD (off+j) (.bool false)=vs[off+j]:=by simp[Array.getD,f]
 show RD (jE w) d (vs.getD (off+j) (.bool false));rw[e];cases h5 with|dc _ _ h=>exact h
 intro j d n;have i:=It r n;rw[aZj] at i;obtain⟨q,g,h3⟩:=Option.map_eq_some_iff.1 i;rw[aZK] at g;have f:off+j<vs.size:=Nat.lt_of_lt_of_le (aJ g) l;simp[Fz.cell?,jE,A,Array.getD,f]
theorem Wa(b:eG F γ st.hp w){c:aU}{v:Value}(h:RC F γ c v):RC (jE w) [] (vwN st.hp c) v:=V9 (tA b h)
theorem aOr(e:eG F γ st.hp w){id off:Nat}{v:Value}(h:RC F γ (.ptr id off) v):RC (jE w) [] (vpP st.hp off (aL st.hp id)) v:=by
 cases h with
 |ptr id off b f=>
  cases g:aL st.hp id with
  |box cs=>
   simp only[vpP];cases d:Is (aBM st.hp (cs.drop off)) with
   |none=>exact .junk _ rfl
   |some i=>rw[Oc] at d;exact R4 e g f (fun c v h=>Wa e h) d
  |_=>exact .junk _ rfl
theorem aOs(e:eG F γ st.hp w){c:aU}{v:Value}(h:RC F γ c v):RC (jE w) [] (vwM st.hp c) v:=by
 cases b:c with
 |ptr id off=>subst b;exact V9 (aOr e h)
 |bld id n=>subst b;exact Wa e h
 |dc d=>subst b;exact Wa e h
 |ref f=>subst b;exact V9 (c:=.ref f) (tA e h)
 |_=>exact .junk _ h.is1
theorem Ez(e:eG F γ st.hp w){c:aU}{v:Value}(h:RC F γ c v):RC (jE w) [] (vp0 st.hp c) v:=by
 cases g:c with
 |ptr id off=>
  subst g;cases h with
  |ptr id off b l=>
   simp only[vp0];cases m:aL st.hp id with
   |box cs=>
    simp only[vqP];cases j:Is (aBN st.hp (cs.drop off)) with
    |none=>exact .junk _ rfl
    |some p=>rw[Oe] at j;exact R4 e m l (fun c v h=>aOs e h) j
   |_=>exact .junk _ rfl
 |dc d=>subst g;exact tA e h
 |ref cs=>subst g;exact tA e h
 |mpc es=>subst g;exact tA e h
 |bld id n=>subst g;exact tA e h
 |fn f i=>subst g;exact tA e h
 |ept=>exact .junk _ h.is1
 |bls=>exact .junk _ h.is1
 |junk=>exact .junk _ h.is1
theorem aOt(l:eG F γ st.hp w){c:aU}{v:Value}(h:RC F γ c v):RC (jE w) [] (vpC st.hp c) v:=by
 cases j:c with
 |fn f b=>
  subst j;cases h with
  |fn f b g q=>
   simp only[vpC,fnV,Od];cases j:(b.map (vp0 st.hp)).all R3 with
   |false=>exact .junk _ rfl
   |true=>
    have e:b.length=(b.map (vp0 st.hp)).length:=by simp
    simp only[cond_true,e];refine .fn f _ g (fun i c h=>?_)
    rw[aZj] at h;obtain⟨m,p,rfl⟩:=Option.map_eq_some_iff.1 h;exact Ez l (q i m p)
 |dc d=>subst j;exact Ez l h
 |ref cs=>subst j;exact Ez l h
 |mpc es=>subst j;exact Ez l h
 |bld id n=>subst j;exact Ez l h
 |ptr id off=>subst j;exact Ez l h
 |ept=>exact .junk _ h.is1
 |bls=>exact .junk _ h.is1
 |junk=>exact .junk _ h.is1
theorem aEF(b:eG F γ st.hp w){a:AV}{v:Value}(h:RV F γ a v):RV (jE w) [] (vpA st.hp a) v:=by
 cases h with
 |one c v h=>exact .one _ _ (aOt b h)
 |agg cs vs d h=>exact aEE b (.agg cs vs d h)
 |tup l vs d h=>exact .junk _
 |junk v=>exact .junk v
theorem Oh{c:aU}{v:Value}(b:zU c=true)(h:RC F γ c v):RC F' γ' c v:=by
 cases h with
 | dc d v h=>cases h with
   | raw v h=>exact .dc _ _ (.raw v h)
   | nil A c=>simp[zU] at b
   | slc=>simp[zU] at b
   | ptr=>simp[zU] at b
 |_=>simp[zU] at b
theorem R5{cs:L aU}{vs:Array Value}(e:cs.all zU=true)(h:∀(i:Nat) c v,cs[i]?=some c->vs[i]?=some v->RC F γ c v):∀(i:Nat) c v,cs[i]?=some c->vs[i]?=some v->RC F' γ' c v:=
 fun i c v b d=>Oh (bAr.1 e c (aZE b)) (h i c v b d)
theorem Oi{a:AV}{v:Value}(d:mS a=true)(h:RV F γ a v):RV F' γ' a v:=by
 cases h with
 |one c v h=>exact .one _ _ (Oh d h)
 |agg cs vs b h=>exact .agg _ _ b (R5 d h)
 |tup l vs b h=>
  refine .tup _ _ b (fun i t v e g=>?_)
  have f:=bAr.1 d t (aZE e);cases h i t v e g with
  |one c v h=>exact .one _ _ (Oh f h)
  |agg cs vs b h=>exact .agg _ _ b (R5 f h)
 |junk v=>simp[mS] at d
theorem WR.callV{f:FuncId}{j:L aI}{d:L AV}{r:AV}(H:kB G st o.guard)(W:o.ai=.call f j)(C:QC P G f d r)(Y:mS r=true) (m:j.map (fun x=>vwA st.hp (aM G st.sl x))=d) (h:WR P G k rest R ⟨aS st.sl o.dst r,st.hp⟩):WR P G k (o::rest) R st:=by
 refine WR.step H (fun F γ a w u M hd l O N X=>?_)
 rw[W] at M;obtain⟨c,t,p,rfl,g⟩:=Cx M;obtain⟨T,op,S,pos,z,A⟩:=u;simp only at t;subst t;have Q:=Cy (G:=G) O N c.args;have I:mX (jE w) [] d (c.args.map a.eval):=by
  rw[<- m];refine⟨by rw[Q.1];simp,fun i av v y B=>?_⟩
  rw[aZj] at y;obtain⟨x,Z,rfl⟩:=Option.map_eq_some_iff.1 y;exact aEE l (Q.2 i _ v (by rw[aZj,Z];rfl) B)
 refine .inr ⟨f,c.args.map a.eval,?_,(C (jE w) [] _ w (G2 w) (N.sub (C8 l)) I).mono ?_⟩;simp[execOp,resolve,p,Act.eval,Deferred.ofValue,invoke,mB g];rintro e w' ⟨v,av,K,F2,γ2,rfl,⟨rfl,rfl⟩,_,U,hI,V⟩;have n:=At U;have q:iU k F γ w F γ w':=⟨fun _ _ h=>h,n.os,n.tape,n.output,n.size,fun b E _=>n.block b E,fun _ _ h=>.inl h,fun i b h=>.inl ⟨i,h⟩,fun _ _ _ h=>h⟩
 have s:eG F γ st.hp w':=⟨fun b J h=>by rw[n.block b (l.fzlt h)];exact l.fz b J h,l.len,l.nd,l.disj,fun i J x y B=>by
   have g:=l.ok i J x y B;exact g.ext (fun _ _ h=>h) (fun _ _ h=>h) (fun b D=>n.block b (g.lt D))⟩
 exact⟨v,_,F,γ,rfl,h,q,s,O.put _ (Oi Y V),X⟩
theorem WR.callP{f:FuncId}{j:L aI}{d:L AV}{r:AV}(H:kB G st o.guard)(W:o.ai=.call f j)(C:QC P G f d r)(Y:mS r=true) (m:j.map (fun x=>vpA st.hp (aM G st.sl x))=d) (h:WR P G k rest R ⟨aS st.sl o.dst r,st.hp⟩):WR P G k (o::rest) R st:=by
 refine WR.step H (fun F γ a w u M hd l O N X=>?_)
 rw[W] at M;obtain⟨c,t,p,rfl,g⟩:=Cx M;obtain⟨T,op,S,pos,z,A⟩:=u;simp only at t;subst t;have Q:=Cy (G:=G) O N c.args;have I:mX (jE w) [] d (c.args.map a.eval):=by
  rw[<- m];refine⟨by rw[Q.1];simp,fun i av v y B=>?_⟩
  rw[aZj] at y;obtain⟨x,Z,rfl⟩:=Option.map_eq_some_iff.1 y;exact aEF l (Q.2 i _ v (by rw[aZj,Z];rfl) B)
 refine .inr ⟨f,c.args.map a.eval,?_,(C (jE w) [] _ w (G2 w) (N.sub (C8 l)) I).mono ?_⟩;simp[execOp,resolve,p,Act.eval,Deferred.ofValue,invoke,mB g];rintro e w' ⟨v,av,K,F2,γ2,rfl,⟨rfl,rfl⟩,_,U,hI,V⟩;have n:=At U;have q:iU k F γ w F γ w':=⟨fun _ _ h=>h,n.os,n.tape,n.output,n.size,fun b E _=>n.block b E,fun _ _ h=>.inl h,fun i b h=>.inl ⟨i,h⟩,fun _ _ _ h=>h⟩
 have s:eG F γ st.hp w':=⟨fun b J h=>by rw[n.block b (l.fzlt h)];exact l.fz b J h,l.len,l.nd,l.disj,fun i J x y B=>by
   have g:=l.ok i J x y B;exact g.ext (fun _ _ h=>h) (fun _ _ h=>h) (fun b D=>n.block b (g.lt D))⟩
 exact⟨v,_,F,γ,rfl,h,q,s,O.put _ (Oi Y V),X⟩
theorem C0.viewP{f:FuncId}{l c:L AV}{hp:L aD}{r:AV}(s:QC P G f c r)(H:mS r=true)(d:l.map (vpA hp)=c):C0 P G k f l hp (fun av os=>av=r/\os=[]):=by
 intro F γ w vs j E N B;have m:eG F γ (⟨[],hp⟩:AS).hp w:=j;have y:mX (jE w) [] c vs:=by
  rw[<- d];refine⟨by rw[B.1];simp,fun i av v p q=>?_⟩
  rw[aZj] at p;obtain⟨x,I,rfl⟩:=Option.map_eq_some_iff.1 p;exact aEF m (B.2 i x v I q)
 refine (s (jE w) [] _ w (G2 w) (E.sub (C8 m)) y).mono ?_;rintro e w' ⟨v,av,A,K,J,rfl,⟨rfl,rfl⟩,_,C,M,D⟩;have g:=At C;refine⟨v,_,_,F,γ,rfl,⟨rfl,rfl⟩,⟨fun _ _ h=>h,g.os,g.tape,g.output,g.size,fun b u _=>g.block b u,fun _ _ h=>.inl h,fun i b h=>.inl ⟨i,h⟩,fun _ _ _ h=>h⟩,?_,fun _ _ h=>h,Oi H D⟩
 rw[aZ9];exact⟨fun b z h=>by rw[g.block b (j.fzlt h)];exact j.fz b z h,j.len,j.nd,j.disj,fun i z x p q=>by
     have n:=j.ok i z x p q;exact n.ext (fun _ _ h=>h) (fun _ _ h=>h) (fun b t=>g.block b (n.lt t))⟩
theorem aJt:toD (.dc (.raw (.slice none 0 0)))=.dc (.slc []):=rfl
theorem aJu{b:L DC}:toD (.ref b)=.dc (.ptr b):=rfl
theorem aJv{es:L (L DC)}:toD (.dc (.slc es))=.dc (.slc es):=rfl
theorem aJw{es:L DC}:toD (.dc (.ptr es))=.dc (.ptr es):=rfl
theorem aJx{k:IntKind}{n:Int}:toD (.dc (.raw (.int k n)))=.dc (.raw (.int k n)):=rfl
theorem aEG{n:Bool}:toD (.dc (.raw (.bool n)))=.dc (.raw (.bool n)):=rfl
theorem aJy{n:ByteArray}:toD (.dc (.raw (.string n)))=.dc (.raw (.string n)):=rfl
theorem aOu:toD (.dc (.raw (.pointer none)))=.dc (.raw (.pointer none)):=rfl
end
attribute [go_sem] aJt aJu aJv aJw aJx aEG aJy aOu
attribute [go_sem] vwM aBN vqP Is aOn vwN aBM vpP fnV vp0 aED vpC vpA R3 vwA Y3 mS zU aNn List.all_nil List.all_cons
end
section
section
variable {P:Program}{G:aE}{k:Nat}{st st':AS}{R:AS->Prop}{o:aO}{rest:L aO}
end
attribute [go_sem] aBC B3 aOg Vz lV eI
end
section
def Vi(i j x:Nat):Nat:=bif nq x i then j else bif nq x j then i else x
def Lf{α:Type}(d:α)(l:L α)(i j:Nat):L α:=(l.set i (l.getD j d)).set j (l.getD i d)
def Gk(x:Nat×Nat)(st:AS):AS:=⟨st.sl.map (dO (Vi x.1 x.2)),(Lf .dead st.hp x.1 x.2).map (eL (Vi x.1 x.2))⟩
def prm:L (Nat×Nat)->AS->AS
 |[],st=>st
 |x::p,st=>prm p (Gk x st)
def pOK(n0 n:Nat)(p:L (Nat×Nat)):Prop:=∀x∈p,n0<=x.1/\n0<=x.2/\x.1<n/\x.2<n
theorem aEH(i j x:Nat):Vi i j x=if x=i then j else if x=j then i else x:=by
 unfold Vi;rw[jT,jT];by_cases h:x=i;simp[h];rw[if_neg h,show (x==i)=false by simpa using h,cond_false];by_cases b:x=j;simp[b];rw[if_neg b,show (x==j)=false by simpa using b,cond_false]
theorem Oj(i j x:Nat):Vi i j (Vi i j x)=x:=by
 simp only[aEH]
 repeat' split
 all_goals omega
theorem aJA{i j x n0:Nat}(b:n0<=i)(c:n0<=j)(d:x<n0):Vi i j x=x:=by
 rw[aEH,if_neg (by omega),if_neg (by omega)]
theorem Iu{α:Type}(d:α)(l:L α)(i j:Nat):(Lf d l i j).length=l.length:=by simp[Lf]
theorem R6{α:Type}(d:α)(l:L α){i j:Nat}(f:i<l.length)(e:j<l.length)(x:Nat):(Lf d l i j)[x]?=l[Vi i j x]?:=by
 have g:∀y,y<l.length->l[y]?=some (l.getD y d):=fun y h=>by rw[aZo,aZi h];rfl
 unfold Lf;rw[aEH];by_cases c:x=i;rw[if_pos c];subst c;by_cases b:j=x;subst b;rw[aZH (by simpa using e),g j e];rw[aZw b,aZH f,g j e];rw[if_neg c];by_cases b:x=j;rw[if_pos b];subst b;rw[aZH (by simpa using e),g i f];rw[if_neg b,aZw (Ne.symm b),aZw (Ne.symm c)]
theorem Iv(x:Nat×Nat)(st:AS):(Gk x st).hp.length=st.hp.length:=by simp[Gk,Iu]
theorem Y4:∀(p:L (Nat×Nat)) (st:AS),(prm p st).hp.length=st.hp.length
 |[],_=>rfl
 |x::p,st=>by rw[prm,Y4 p,Iv]
theorem Y5:∀(p q:L (Nat×Nat)) (st:AS),prm (p++q) st=prm q (prm p st)
 |[],_,_=>rfl
 |x::p,q,st=>by rw[aZp,prm,prm,Y5 p q]
theorem aBO(x:Nat×Nat)(st:AS):aF (Gk x st)=Gk x (aF st):=by
 have e:∀id,aR (st.hp.getD id .dead)=(st.hp.map aR).getD id .dead:=fun id=>(bL (hp:=st.hp) id).symm
 simp only[aF,Gk,Lf,aZG,aZN,Function.comp_apply,<- e,pE];congr 3;refine aZC (fun o _=>?_)
 simp[pE]
theorem R7:∀(p:L (Nat×Nat)) (st:AS),aF (prm p st)=prm p (aF st)
 |[],_=>rfl
 |x::p,st=>by rw[prm,prm,R7 p,aBO]
theorem R8(st:AS):(aF st).hp.length=st.hp.length:=by simp[aF]
section
variable {P:Program}{G:aE}{k:Nat}{F F0:Fz}{γ γ0:L OI}{w w0:World}{a:Act}{st:AS}
theorem aJB{x:Nat×Nat}{n0:Nat}(p:n0<=x.1)(q:n0<=x.2)(h3:x.1<st.hp.length)(h4:x.2<st.hp.length)(B:k<=n0)(d:iU k F0 γ0 w0 F γ w)(g:eG F γ st.hp w)(n:bY F γ st.sl a):∃γ',iU k F0 γ0 w0 F γ' w/\eG F γ' (Gk x st).hp w/\bY F γ' (Gk x st).sl a/\γ'.length=γ.length:=by
 obtain⟨i,j⟩:=x;simp only at p q h3 h4;have t:=g.len;have m:∀y,(Lf OI.dead γ i j)[y]?=γ[Vi i j y]?:=R6 _ _ (by omega) (by omega);have l:∀y,cG (Lf OI.dead γ i j) y=cG γ (Vi i j y):=fun y=>by unfold cG;rw[m]
 have f:∀(id:Nat)(o:OI),γ[id]?=some o->(Lf OI.dead γ i j)[Vi i j id]?=some o:=fun id o h=>by rw[m,Oj];exact h
 refine⟨Lf .dead γ i j,?_,?_,?_,Iu ..⟩;refine⟨d.sub,d.os,d.tape,d.output,d.size,d.far,d.new,fun y b h=>d.blk (Vi i j y) b (by rw[<- l];exact h),fun y c b h=>?_⟩
 rw[m,aJA p q (by omega)];exact d.box y c b h;refine⟨g.fz,by rw[Iu,Iv];exact t,fun y z b c A=>?_,fun y b c=>g.disj (Vi i j y) b (by rw[<- l];exact c),fun y o x c r=>?_⟩
 have:=g.nd (Vi i j y) (Vi i j z) b (by rw[<- l];exact c) (by rw[<- l];exact A);rw[<- Oj i j y,this,Oj];simp only[Gk,aZj,R6 _ _ h3 h4] at c;rw[m] at r;cases e:st.hp[Vi i j y]? with
 |none=>rw[e] at c;cases c
 |some s=>
  rw[e] at c;injection c with c;subst c
  exact (g.ok _ _ _ e r).ren f
 refine⟨n.1,by simp[Gk];exact n.2.1,fun y av v c u=>?_⟩
 simp only[Gk,aZj] at c;cases e:st.sl[y]? with
 |none=>rw[e] at c;cases c
 |some s=>
  rw[e] at c;injection c with c;subst c
  exact (n.2.2 y s v e u).ren f
theorem aEI{n0:Nat}(g:k<=n0):∀(p:L (Nat×Nat)) (st:AS) (γ:L OI),pOK n0 st.hp.length p->iU k F0 γ0 w0 F γ w->eG F γ st.hp w->bY F γ st.sl a-> ∃γ',iU k F0 γ0 w0 F γ' w/\eG F γ' (prm p st).hp w/\bY F γ' (prm p st).sl a/\γ'.length=γ.length
 |[],st,γ,_,b,c,d=>⟨γ,b,c,d,rfl⟩
 | x::p,st,γ,hp,b,c,d=>by
   obtain⟨s,t,h3,h4⟩:=hp x aZt;obtain⟨e,m,n,q,r⟩:=aJB s t h3 h4 g b c d;obtain⟨f,h,i,j,l⟩:=aEI g p (Gk x st) e (fun y u=>by rw[Iv];exact hp y (aZB _ u)) m n q
   exact⟨f,h,i,j,by rw[l,r]⟩
theorem AW.prm{x:eK}{Q:Exit->AS->Prop}(h:AW P G k x (fun e s=>∃p,pOK st.hp.length s.hp.length p/\Q e (prm p s)) st):AW P G k x Q st:=by
 intro c r F γ a w d v t f g u;refine h c r F γ a w d v t f g (fun e i w' F' γ' B ⟨p,n,q⟩ y z A D=>?_)
 obtain⟨b,j,l,m,C⟩:=aEI (by rw[<- d.len];exact f) p B γ' n y z A;exact u e i w' F' b _ q j l m (by omega)
end
end
section
def aJC:aU->Bool
 |.bls _ _ _ _=>true
 |_=>false
def Y6:L aU->Bool
 |[]=>false
 |c::cs=>aJC c||Y6 cs
def aSz:TV->Bool
 |.one c=>aJC c
 |.agg cs=>Y6 cs
def aEJ:L TV->Bool
 |[]=>false
 |c::cs=>aSz c||aEJ cs
def Wb:AV->Bool
 |.one c=>aJC c
 |.agg cs=>Y6 cs
 |.tup l=>aEJ l
 |.junk=>false
def bxD(n size:Nat):Option (L DC)->aU
 |some b=>if b.length=n*size then .dc (.slc (gZ size n b)) else .junk
 |none=>.junk
def bxC(id:Nat)(cs:L aU):aU->aU
 |.bls j k n s=>bif nq j id then bxD n s (dcs ((cs.drop (k*s)).take (n*s))) else .bls j k n s
 |c=>c
def bxT(id:Nat)(cs:L aU):TV->TV
 |.one c=>.one (bxC id cs c)
 |.agg l=>.agg (l.map (bxC id cs))
def bxV(id:Nat)(cs:L aU):AV->AV
 |.one c=>.one (bxC id cs c)
 |.agg l=>.agg (l.map (bxC id cs))
 |.tup l=>.tup (l.map (bxT id cs))
 |.junk=>.junk
def bxO(id:Nat)(cs:L aU):aD->aD
 |.box l=>.box (l.map (bxC id cs))
 |o=>o
def bxB(id:Nat)(cs:L aU)(st:AS):AS:=⟨st.sl.map fun v=>bG (fun x=>nq x id) (bxV id cs v),(st.hp.map fun o=>cU (fun x=>nq x id) (bxO id cs o)).set id .dead⟩
def bx1(id:Nat)(st:AS):aD->Bool->AS
 |.box cs,true=>bxB id cs st
 |_,_=>st
def C9(n:Nat):L Nat->AS->AS
 |[],st=>st
 |id::r,st=>C9 n r (bx1 id st (aL st.hp id) (decide (n<=id)))
def bxW(n:Nat)(b:L Nat)(st:AS):Bool->AS
 |true=>C9 n b st
 |false=>st
theorem aJD{cs:L aU}{b:L DC}(h:dcs cs=some b){j:Nat}{d:DC}(c:b[j]?=some d):cs[j]?=some (.dc d):=by
 rw[oV h];simp only[oR,aZj,c,aZf]
theorem Mk{size:Nat}:∀(n:Nat)(b:L DC),b.length=n*size->∀(i j:Nat) e d,(gZ size n b)[i]?=some e->e[j]?=some d->b[i*size+j]?=some d/\i<n
 |0,b,h,i,j,e,d,c,_=>by simp[gZ] at c
 | n+1,b,h,0,j,e,d,c,f=>by
   simp only[gZ,List.getElem?_cons_zero,Option.some.injEq] at c;subst c;rw[aZL] at f;split at f
   · exact⟨by rw[Nat.zero_mul,aZ0];exact f,Nat.succ_pos _⟩
   · cases f
 | n+1,b,h,i+1,j,e,d,c,f=>by
   simp only[gZ,bAK] at c;have g:(b.drop size).length=n * size:=by rw[aZh,h,Nat.succ_mul];omega
   obtain⟨h3,h4⟩:=Mk n (b.drop size) g i j e d c f;rw[aZK] at h3;exact⟨by rw[<- h3];congr 1;rw[Nat.succ_mul];omega,by omega⟩
section
variable {k:Nat}{as:AS}{F:Fz}{γ:L OI}{w:World}
theorem aSC{F':Fz}{γ':L OI}{id b:Nat}{cs:L aU}(U:eG F γ as.hp w)(O:aL as.hp id=.box cs)(g:γ[id]?=some (.box b))(I:F.sub F')(Q:∀(i:Nat)(o:OI),(nq i id)=false->γ[i]?=some o->γ'[i]?=some o) (N:F' b=w.heap[b]?) {c:aU}{v:Value} (h:RC F γ c v):RC F' γ' (cO (fun x=>nq x id) (bxC id cs c)) v:=by
 have hx:=U.ok id (.box cs) (.box b) (fK O (by simp)) g;obtain⟨vs,T,⟨fz,S,W⟩,Z,Y⟩:=hx;by_cases E:∃t n s,c=.bls id t n s;obtain⟨t,n,s,rfl⟩:=E;have z:nq id id=true:=by rw[jT];simp
 simp only[bxC,z,cond_true];cases y:dcs ((cs.drop (t*s)).take (n*s)) with
 |none=>exact .junk _ (by cases h;rfl)
 |some l=>
  simp only[bxD];split;rename_i H;obtain⟨c1,J,D⟩:=nA s n l H;have M:cO (fun x=>nq x id) (.dc (.slc (gZ s n l)))=.dc (.slc (gZ s n l)):=by simp[cO,aU.keep]
  rw[M];refine .dc _ _ ?_;cases h with
  |bls _ _ _ _ b' cap c off f X q=>
   have B:b'=b:=by
    rcases f with f|f;rw[g] at f;injection f with f;cases f;rw[g] at f;injection f with f;injection f with f;exact f.symm
   subst B;have r:∀(i j:Nat) e d,(gZ s n l)[i]?=some e->e[j]?=some d->∃u,vs[off+(i*s+j)]?=some u/\RD F d u:=by
    intro i j e d m p;obtain⟨h3,h4⟩:=Mk n l H i j e d m p;have h5:=aJD y h3;rw[aZL] at h5;split at h5;rw[aZK] at h5;have C:=X (by omega);rw[<- C] at h5;have V:off+(i*s+j)<cs.length:=(List.getElem?_eq_some_iff.1 h5).1;have h6:vs[off+(i*s+j)]?=some (vs[off+(i*s+j)]'(by omega)):=aZR (by omega);have h7:=Y _ _ _ h5 h6;refine⟨_,h6,?_⟩;cases h7 with
    |dc _ _ h=>exact h
    cases h5
   have:=RD.slc (F:=F') b' off c s (gZ s n l) (fun i j=>vs.toList.getD (off+(i * s+j)) undef) J (fun i j e d m p=>by
       obtain⟨u,A,y⟩:=r i j e d m p;simp only[aZo,bAe,A,aZU];exact y.mono I) (fun i j e d m p=>by
       obtain⟨u,A,y⟩:=r i j e d m p;simp only[aZo,bAe,A,aZU,Fz.cell?];rw[N,S];simpa using A) (by rw[D];exact q)
   rwa[D] at this
  exact .junk _ (by cases h;rfl)
 have K:bxC id cs c=c:=by
  cases c<;>try rfl
  rename_i j t n s;simp only[bxC];cases z:nq j id with
  |true=>
   rw[jT,beq_iff_eq] at z;subst z;exact absurd ⟨t,n,s,rfl⟩ E
  |false=>rfl
 rw[K];exact h.kill I Q
theorem Gh.bx{id:Nat}{cs:L aU}(X:aL as.hp id=.box cs)(Y:k<=id):Gh k as (bxB id cs as):=by
 intro F γ a w r W hk;have M:=fK X (by simp);have n:id<γ.length:=by rw[r.len];exact aJ M
 have H:γ[id]?=some (γ[id]'n):=aZi n;generalize hxe:γ[id]'n=x at H;have N:=r.ok id _ _ M H;cases x with
 |arr _ _=>exact N.elim
 |dead=>exact N.elim
 |box bl=>
 let F':Fz:=F.add w bl
 have J:F' bl=w.heap[bl]?:=by simp[F',Fz.add]
 have z:∀b',bl≠b'->F' b'=F b':=by
  intro b' D;simp only[F',Fz.add];rw[if_neg (fun e=>D e.symm)]
 have g:F.sub F':=by
  intro b o h;rw[z b (fun e=>by rw[r.disj id b (bV H (by rw[e];rfl))] at h;cases h)];exact h
 have hq:∀i:Nat,(nq i id)=false->i≠id:=fun i h e=>by rw[jT,e] at h;simp at h
 have U:∀ (i:Nat) (o:OI),(nq i id)=false->γ[i]?=some o->(γ.set id .dead)[i]?=some o:=fun i o d f=>by
   rw[aZw (Ne.symm (hq i d))];exact f
 have A:∀i b,cG (γ.set id .dead) i=some b->i≠id/\cG γ i=some b:=by
  intro i b h;obtain⟨y,I,O⟩:=dD h;by_cases m:id=i;subst m;rw[aZH n] at I;injection I with I;subst I
  simp[OI.blk] at O;rw[aZw m] at I;exact⟨Ne.symm m,bV I O⟩
 have B:=fun {c:aU}{v:Value} (h:RC F γ c v)=>aSC (F':=F') (γ':=γ.set id .dead) r X H g U J h
 have q:∀ {l:L aU} {vs:Array Value},(∀ (i:Nat) c v,l[i]?=some c->vs[i]?=some v->RC F γ c v)->∀ (i:Nat) c v,((l.map (bxC id cs)).map (cO (fun x=>nq x id)))[i]?=some c->vs[i]?=some v->RC F' (γ.set id .dead) c v:=by
   intro l vs h i c v Q hv;rw[aZG,aZj] at Q;cases C:l[i]? with
   | none=>simp[C] at Q
   | some c0=>
     simp only[C,aZf,Option.some.injEq,Function.comp] at Q;subst Q;exact B (h i c0 v C hv)
 refine⟨F',γ.set id .dead,⟨g,rfl,rfl,rfl,aZe _,fun _ _ _=>rfl,fun b o h=>?_,fun i b h=>.inl ⟨i,(A i b h).2⟩,fun i hik b h=>?_⟩,
   ⟨fun b o h=>?_,by simp[bxB,r.len],fun i j b d f=>r.nd i j b (A i b d).2 (A j b f).2,fun i b h=>?_,fun i o y d f=>?_⟩, ?_,by simpa using hk⟩
 by_cases u:bl=b;exact .inr (.inr ⟨id,bV H (by rw[u];rfl)⟩);rw[z b u] at h;exact .inl h;rw[aZw (by omega)];exact h;by_cases u:bl=b;subst u;rw[J] at h;exact h;rw[z b u] at h;exact r.fz b o h;obtain⟨D,K⟩:=A i b h;rw[z b (fun e=>D (r.nd _ _ _ K (bV H (by rw[e];rfl))))]
 exact r.disj i b K;simp only[bxB] at d;by_cases m:id=i;subst m;rw[aZH n] at f;rw[aZH (by rw[aY9,<- r.len];exact n)] at d;injection d with d;injection f with f;subst d;subst f
 trivial;rw[aZw m] at d f;rw[aZj] at d;cases V:as.hp[i]? with
 |none=>simp[V] at d
 |some Z=>
  simp only[V,aZf,Option.some.injEq] at d;subst d;have h3:=r.ok i Z y V f;cases Z with
  |box l=>
   cases y with
   |box b=>
    obtain⟨vs,T,g1,g2,g3⟩:=h3;exact⟨vs,T,g1,by simpa[bxO] using g2,q g3⟩
   |arr _ _=>exact h3.elim
   |dead=>exact h3.elim
  |arr c2 s2 es2=>
   have:=h3.kill (p:=(fun x=>nq x id)) (F':=F') (γ':=γ.set id .dead) (w':=w) g U (fun _ _=>rfl)
   exact this
  |dead=>
   have:=h3.kill (p:=(fun x=>nq x id)) (F':=F') (γ':=γ.set id .dead) (w':=w) g U (fun _ _=>rfl)
   exact this
 refine⟨W.1,by simpa[bxB] using W.2.1,fun i av v d f=>?_⟩
 simp only[bxB] at d;rw[aZj] at d;cases E:as.sl[i]? with
 |none=>simp[E] at d
 |some S=>
  simp only[E,aZf,Option.some.injEq] at d;subst d;have h3:=W.2.2 i S v E f;cases h3 with
  |one c v h=>exact .one _ _ (B h)
  |agg l vs s h=>exact .agg _ _ (by simpa[bxV] using s) (q h)
  |tup l vs s h=>
   refine .tup _ _ (by simpa[bxV] using s) (fun i t v d f=>?_)
   rw[aZG,aZj] at d;obtain⟨t0,h4,rfl⟩:=Option.map_eq_some_iff.1 d;cases h i t0 v h4 f with
   |one c v h=>exact .one _ _ (B h)
   |agg l vs s h=>exact .agg _ _ (by simpa[bxT] using s) (q h)
  |junk v=>exact .junk v
theorem aBP{id:Nat}{cs:L aU}(o:aD):aR (bxO id cs o)=bxO id cs (aR o):=by cases o<;>rfl
theorem zV{n:Nat}(b:k<=n):∀(d:L Nat)(s:AS),∃c,Gh k s c/\aF c=C9 n d (aF s)
 |[],s=>⟨s,Gh.refl,rfl⟩
 | id::r,s=>by
   simp only[C9];have e:aL (aF s).hp id=aR (aL s.hp id):=bL (hp:=s.hp) id;rw[e];cases i:aL s.hp id with
   | arr _ _ _=>exact zV b r s
   | dead=>exact zV b r s
   | box cs=>
     simp only[aR];by_cases f:n<=id
     · rw[decide_eq_true f]
       obtain⟨c,g,h⟩:=zV b r (bxB id cs s);refine⟨c,(Gh.bx i (by omega)).trans g, ?_⟩;rw[h];congr 1;simp only[bx1,bxB,aF,aZN,aZG,aR];congr 2;exact aZC (fun o _=>by simp only[Function.comp_apply,pR,aBP])
     · rw[decide_eq_false f]
       exact zV b r s
theorem aOv{n:Nat}(e:k<=n)(c:L Nat)(s:AS)(b:Bool):∃d,Gh k s d/\aF d=bxW n c (aF s) b:=by
 cases b with
 |true=>exact zV e c s
 |false=>exact⟨s,Gh.refl,rfl⟩
theorem rV(n:Nat):∀(b:L Nat)(st:AS),(C9 n b st).sl.length=st.sl.length/\(C9 n b st).hp.length=st.hp.length
 |[],st=>⟨rfl,rfl⟩
 | id::r,st=>by
   simp only[C9];cases aL st.hp id with
   | box cs=>
     cases decide (n<=id) with
     | true=>
       obtain⟨c,d⟩:=rV n r (bxB id cs st);exact⟨by rw[bx1,c];simp[bxB],by rw[bx1,d];simp[bxB]⟩
     | false=>exact rV n r st
   | arr _ _ _=>exact rV n r st
   | dead=>exact rV n r st
theorem Y7(n:Nat)(c:L Nat)(st:AS)(b:Bool):(bxW n c st b).sl.length=st.sl.length/\(bxW n c st b).hp.length=st.hp.length:=by
 cases b with
 |true=>exact rV n c st
 |false=>exact⟨rfl,rfl⟩
end
end
section
def bvC(id s len:Nat):aU->aU
 |.bld j n=>bif nq j id then (bif nq n len then .bls id 0 n s else .junk) else .bld j n
 |.ept j i z o=>bif nq j id then .ptr id (i*z+o) else .ept j i z o
 |.fn f b=>cO (fun x=>nq x id) (.fn f b)
 |.dc d=>.dc d
 |.ref cs=>.ref cs
 |.mpc es=>.mpc es
 |.junk=>.junk
 |.ptr j o=>.ptr j o
 |.bls j i z o=>.bls j i z o
def R9(id s len:Nat):L aU->L aU
 |[]=>[]
 |c::cs=>bvC id s len c::R9 id s len cs
def bvT(id s len:Nat):TV->TV
 |.one c=>.one (bvC id s len c)
 |.agg l=>.agg (R9 id s len l)
def bvV(id s len:Nat):AV->AV
 |.one c=>.one (bvC id s len c)
 |.agg l=>.agg (R9 id s len l)
 |.tup l=>.tup (l.map (bvT id s len))
 |.junk=>.junk
def bvS(id s len:Nat):L AV->L AV
 |[]=>[]
 |v::vs=>bvV id s len v::bvS id s len vs
def bvO(id s len:Nat):aD->aD
 |.box l=>.box (R9 id s len l)
 |.arr c z es=>.arr c z es
 |.dead=>.dead
def bvH(id s len:Nat):L aD->L aD
 |[]=>[]
 |o::os=>bvO id s len o::bvH id s len os
theorem Da(id s len:Nat):∀l,R9 id s len l=l.map (bvC id s len)
 |[]=>rfl
 |c::cs=>by rw[R9,Da id s len cs];rfl
theorem Wc(id s len:Nat):∀l,bvS id s len l=l.map (bvV id s len)
 |[]=>rfl
 |c::cs=>by rw[bvS,Wc id s len cs];rfl
theorem Ol(id s len:Nat):∀l,bvH id s len l=l.map (bvO id s len)
 |[]=>rfl
 |c::cs=>by rw[bvH,Ol id s len cs];rfl
def bvB(id s:Nat)(es:L (L DC))(st:AS):AS:=⟨bvS id s es.length st.sl,(bvH id s es.length st.hp).set id (.box (oR es.flatten))⟩
def bv1(id s:Nat)(es:L (L DC))(st:AS):Bool->AS
 |true=>bZ [id] st
 |false=>bvB id s es st
def bvZ(id:Nat)(st:AS):aD->AS
 |.arr _ s es=>bv1 id s es st es.isEmpty
 |_=>st
def Sa:L Nat->AS->AS
 |[],st=>st
 |id::r,st=>Sa r (bvZ id st (aL st.hp id))
theorem Iw{α:Type}{s:Nat}:∀(es:L (L α)),(∀e∈es,e.length=s)->es.flatten.length=es.length*s/\∀(m:Nat) d,es.flatten[m]?=some d->∃i j e,es[i]?=some e/\e[j]?=some d/\m=i*s+j
 |[],_=>⟨by simp,fun m d h=>by simp at h⟩
 | e::es,c=>by
   obtain⟨f,g⟩:=Iw es (fun x n=>c x (aZB _ n))
   have l:=c e (aZt ..);refine⟨by rw[aZ7,aZa,f,l,aZb,Nat.succ_mul,Nat.add_comm],fun m d h=>?_⟩
   rw[aZ7] at h;by_cases b:m < e.length
   · rw[aZv b] at h
     exact⟨0,m,e,rfl,h,by simp⟩
   · rw[aZD (Nat.le_of_not_lt b)] at h
     obtain⟨i,j,x,h3,h4,h5⟩:=g _ _ h;exact⟨i+1,j,x,h3,h4,by rw[Nat.succ_mul];omega⟩
section
variable {k:Nat}{as:AS}{F:Fz}{γ:L OI}{w:World}
theorem Gh.bv{id c s:Nat}{es:L (L DC)}(hb:aL as.hp id=.arr c s es)(hne:es.isEmpty=false):Gh k as (bvB id s es as):=by
 intro F γ a w M hs hk;have U:=fK hb (by simp);have E:id<γ.length:=by rw[M.len];exact aJ U
 have I:γ[id]?=some (γ[id]'E):=aZi E;generalize hxe:γ[id]'E=x at I;have K:=M.ok id _ _ U I;cases x with
 |box _=>exact K.elim
 |dead=>exact K.elim
 |arr b A=>
 cases b with
 |none=>
  obtain⟨_,_,h3⟩:=K;subst h3;cases hne
 |some b=>
 obtain⟨S,hle,hes,ws,T,how,hws,hwr⟩:=K;subst S;obtain⟨hfl,hfg⟩:=Iw es hes;have hg:∀ (i:Nat) (o:OI),(nq i id)=false->γ[i]?=some o->(γ.set id (.box b))[i]?=some o:=fun i o p q=>by
   rw[jT] at p;rw[aZw (fun e=>by rw[e] at p;simp at p)];exact q
 have B:(γ.set id (.box b))[id]?=some (.box b):=aZH E;have u:∀i b',cG (γ.set id (.box b)) i=some b'->cG γ i=some b':=by
  intro i b' h;obtain⟨y,Q,X⟩:=dD h;by_cases C:id=i;subst C;rw[B] at Q;injection Q with Q;subst Q
  exact bV I X;rw[aZw C] at Q;exact bV Q X
 have Z:∀{c:aU}{v:Value},RC F γ c v->RC F (γ.set id (.box b)) (bvC id s es.length c) v:=by
  intro c v h;have W:∀i,nq i id=true->i=id:=fun i h=>by rw[jT] at h;simpa using h
  have r:c.keep (fun x=>nq x id)=true->RC F (γ.set id (.box b)) c v:=fun hk=>h.mono (fun _ _ h=>h) hg hk
  cases c with
  |dc d=>exact r rfl
  |ref cs=>exact r rfl
  |mpc e=>exact r rfl
  |junk=>exact r rfl
  |fn f caps=>exact RC.kill (fun _ _ h=>h) hg h
  |ptr j o=>
   refine r ?_;simp only[aU.keep,bAb];cases D:nq j id with
   |false=>rfl
   |true=>
    cases h with|ptr _ _ b' J=>
    rw[W j D,I] at J;injection J with J;cases J
  |bls j lo n z=>
   cases D:nq j id with
   |false=>exact r (by simp[aU.keep,D])
   |true=>
    cases h with|bls _ _ _ _ b' cap c off g ho O=>
    rw[W j D] at g ⊢;refine .bls _ _ _ _ b' cap c off (.inr ?_) ho O;rw[B];rcases g with g|g
    rw[I] at g;injection g with g;injection g with p q;injection p with p;rw[p]
    rw[I] at g;injection g with g;cases g
  |ept j i z o=>
   simp only[bvC];cases D:nq j id with
   |false=>exact r (by simp[aU.keep,D])
   |true=>
    simp only[cond_true];cases h with|ept _ _ _ _ b' cap g=>
    rw[W j D,I] at g;injection g with g;injection g with p q;injection p with p;subst p
    exact .ptr _ _ _ B
  |bld j n=>
   simp only[bvC];cases D:nq j id with
   |false=>exact r (by simp[aU.keep,D])
   |true=>
    simp only[cond_true];cases hn:nq n es.length with
    |false=>exact .junk _ h.is1
    |true=>
     rw[jT] at hn;have hn':n=es.length:=by simpa using hn
     simp only[cond_true];cases h with
     |bldN _ cap g=>rw[W j D,I] at g;injection g with g;cases g
     |bld _ _ b' cap g=>
      rw[W j D,I] at g;injection g with g;injection g with p q;injection p with p;subst p;subst q
      exact .bls _ _ _ _ b A A 0 (.inr B) (fun _=>by simp) (by omega)
 have N:∀{l:L aU}{vs:Array Value},(∀(i:Nat) c v,l[i]?=some c->vs[i]?=some v->RC F γ c v)->∀(i:Nat) c v,(R9 id s es.length l)[i]?=some c->vs[i]?=some v->RC F (γ.set id (.box b)) c v:=by
  intro l vs h i c v O hv;rw[Da,aZj] at O;obtain⟨c0,p,rfl⟩:=Option.map_eq_some_iff.1 O;exact Z (h i c0 v p hv)
 refine⟨F,γ.set id (.box b),⟨fun _ _ h=>h,rfl,rfl,rfl,aZe _,fun _ _ _=>rfl,fun _ _ h=>.inl h,fun i b' h=>.inl ⟨i,u i b' h⟩,fun i _ b' h=>?_⟩,
   ⟨M.fz,by simp[bvB,Ol,M.len],fun i j b' p q=>M.nd i j b' (u i b' p) (u j b' q),fun i b' h=>M.disj i b' (u i b' h),fun i o y p q=>?_⟩, ?_,by simpa using hk⟩
 rw[aZw (fun e=>by rw[<- e,I] at h;injection h with h;cases h)];exact h
 simp only[bvB,Ol] at p;by_cases C:id=i;subst C;rw[B] at q;rw[aZH (by rw[aY9,<- M.len];exact E)] at p;injection p with p;injection q with q;subst p;subst q
 have V:es.length*s<=A*s:=bAj _ hle;refine⟨ws,T,how,by rw[hws];simp only[oR,aY9,hfl];exact V,fun m c v O hv=>?_⟩
 simp only[oR,aZj] at O;obtain⟨d,h3,rfl⟩:=Option.map_eq_some_iff.1 O;obtain⟨i,j,e,h4,h5,rfl⟩:=hfg m d h3;exact .dc _ _ (hwr i j e d v h4 h5 hv);rw[aZw C] at p q;rw[aZj] at p;obtain⟨o0,h3,rfl⟩:=Option.map_eq_some_iff.1 p;have h4:=M.ok i o0 y h3 q;cases o0 with
 |box l=>
  cases y with
  |box b'=>
   obtain⟨vs,T',g1,g2,g3⟩:=h4;exact⟨vs,T',g1,by simpa[Da] using g2,N g3⟩
  |arr _ _=>exact h4.elim
  |dead=>exact h4.elim
 |arr c2 s2 es2=>
  cases y with
  |box b'=>exact h4.elim
  |arr b' c'=>cases b'<;>exact h4
  |dead=>exact h4.elim
 |dead=>
  cases y with
  |box b'=>exact h4.elim
  |arr b' c'=>cases b'<;>exact h4.elim
  |dead=>trivial
 refine⟨hs.1,by simpa[bvB,Wc] using hs.2.1,fun i av v p q=>?_⟩
 simp only[bvB,Wc] at p;rw[aZj] at p;obtain⟨Y,h3,rfl⟩:=Option.map_eq_some_iff.1 p;have h4:=hs.2.2 i Y v h3 q;cases h4 with
 |one c v h=>exact .one _ _ (Z h)
 |agg l vs H h=>exact .agg _ _ (by simpa[Da] using H) (N h)
 |tup l vs H h=>
  refine .tup _ _ (by simpa using H) (fun i t v p q=>?_)
  rw[aZj] at p;obtain⟨t0,h5,rfl⟩:=Option.map_eq_some_iff.1 p;cases h i t0 v h5 q with
  |one c v h=>exact .one _ _ (Z h)
  |agg l vs H h=>exact .agg _ _ (by simpa[Da] using H) (N h)
 |junk v=>exact .junk v
theorem aBQ{id s n:Nat}(o:aD):aR (bvO id s n o)=bvO id s n (aR o):=by cases o<;>rfl
theorem zW:∀(g:L Nat)(s:AS),∃b,Gh k s b/\aF b=Sa g (aF s)
 |[],s=>⟨s,Gh.refl,rfl⟩
 | id::r,s=>by
   simp only[Sa];have e:aL (aF s).hp id=aR (aL s.hp id):=bL (hp:=s.hp) id;rw[e];cases l:aL s.hp id with
   | box cs=>exact zW r s
   | dead=>exact zW r s
   | arr c z es=>
     simp only[aR,bvZ];cases j:es.isEmpty with
     | true=>
       obtain⟨m,h,i⟩:=gE (k:=k) [id] s;obtain⟨b,d,f⟩:=zW r m;refine⟨b,h.trans d, ?_⟩;rw[f,i];rfl
     | false=>
       obtain⟨b,d,f⟩:=zW r (bvB id z es s);refine⟨b,(Gh.bv l j).trans d, ?_⟩;rw[f];congr 1;simp only[bv1,bvB,aF,Ol,aZN,aZG,aR];congr 2;exact aZC (fun o _=>by simp only[Function.comp_apply,aBQ])
end
end
section
inductive GH where
 |nil (d sz:Nat)
 |nilB (d j sz:Nat)
 |frz (d:Nat)
 |bv (d:Nat)
inductive HC where
 |skip|ret
 |exit (id:Nat)
 |region (ops:List aO)
 |regR (L:List Nat) (ops:List aO)
 |drawn (ops:List (Bool×aO))
 |drawnF (prs:List (Nat×Nat)) (ops:List aO)
 |drawnT (L:List Nat) (t:IT) (ops:List aO)
 |seq (a b:HC)
 |cond (c:aI) (a b:HC)
 |block (id:Nat) (a:HC)
 |loop (live:List Nat) (a:HC)
 |gh (g:GH) (a:HC)
 |trm (L:List Nat) (a:HC)
 |bad
def HC.er:HC->eK
 |.skip=>.skip
 |.ret=>.ret
 |.exit id=>.exit id
 |.region ops=>.region ops
 |.regR _ ops=>.region ops
 |.drawn ops=>.drawn ops
 |.drawnF d ops=>.drawnF d ops
 |.drawnT _ t ops=>.drawnT t ops
 |.seq a b=>.seq a.er b.er
 |.cond c a b=>.cond c a.er b.er
 |.block id a=>.block id a.er
 |.loop _ a=>.loop a.er
 |.gh _ a=>a.er
 |.trm _ a=>a.er
 |.bad=>.bad
abbrev Oo(d:Nat)(b:AI):aO:=⟨some d,b,none⟩
abbrev On(b:AI):aO:=⟨none,b,none⟩
abbrev Og(g:Nat)(b:Bool)(d:Nat)(c:AI):aO:=⟨some d,c,some (g,b)⟩
abbrev Qo(x:aO):Bool×aO:=(true,x)
abbrev Qe(x:aO):Bool×aO:=(false,x)
abbrev Ki(n:Int):aI:=.k (.int .i64 n)
abbrev Zi(n:Int):Value:=.int .i64 n
def ghN(d sz:Nat)(st:AS):AV->AS
 |.one (.dc (.raw (.slice none 0 0)))=>⟨st.sl.set d (.one (.bld st.hp.length 0)),st.hp++[.arr 0 sz []]⟩
 |_=>st
def aJE(id j sz:Nat)(cs:L aU)(st:AS):Option aU->AS
 |some (.dc (.raw (.slice none 0 0)))=>⟨st.sl,st.hp.set id (.box (cs.set j (.bld st.hp.length 0)))++[.arr 0 sz []]⟩
 |_=>st
def aJF(id j sz:Nat)(st:AS):aD->AS
 |.box cs=>aJE id j sz cs st cs[j]?
 |_=>st
def ghB(j sz:Nat)(st:AS):AV->AS
 |.one (.ptr id off)=>aJF id (off+j) sz st (aL st.hp id)
 |_=>st
def aOw:aU->L Nat
 |.bld id _=>[id]
 |_=>[]
def aEL:L aU->L Nat
 |[]=>[]
 |c::cs=>aOw c++aEL cs
def aEM:AV->L Nat
 |.one c=>aOw c
 |.agg cs=>aEL cs
 |_=>[]
def ghE:GH->AS->AS
 |.nil d sz,st=>ghN d sz st (st.sl.getD d .junk)
 |.nilB d j sz,st=>ghB j sz st (st.sl.getD d .junk)
 |.frz d,st=>bZ (aEM (st.sl.getD d .junk)) st
 |.bv d,st=>Sa (aEM (st.sl.getD d .junk)) st
def gG(size:Nat):L (L DC)->Bool
 |[]=>true
 |e::es=>nq e.length size&&gG size es
def klC(id:Nat):aU->aU
 |.dc d=>.dc d
 |.ref cs=>.ref cs
 |.mpc es=>.mpc es
 |.junk=>.junk
 |.ptr j o=>bif nq j id then .junk else .ptr j o
 |.bld j n=>bif nq j id then .junk else .bld j n
 |.ept j i s o=>bif nq j id then .junk else .ept j i s o
 |.bls j i s o=>bif nq j id then .junk else .bls j i s o
 |.fn f b=>cO (·==id) (.fn f b)
def Om(id:Nat):L aU->L aU
 |[]=>[]
 |c::cs=>klC id c::Om id cs
def klV(id:Nat):AV->AV
 |.one c=>.one (klC id c)
 |.agg cs=>.agg (Om id cs)
 |.tup l=>.tup (l.map (uJ (·==id)))
 |.junk=>.junk
def klS(id:Nat):L AV->L AV
 |[]=>[]
 |v::vs=>klV id v::klS id vs
def klO(id:Nat):aD->aD
 |.box cs=>.box (Om id cs)
 |.arr c s es=>.arr c s es
 |.dead=>.dead
def klH(id:Nat):L aD->L aD
 |[]=>[]
 |o::os=>klO id o::klH id os
def apB(d:Option Nat)(size bytes:Nat)(st:AS)(id n:Nat):aD->Option (L (L DC))->Option AS
 | .arr _ sz es,some b=>if sz=size/\n<=es.length/\gG size b=true/\(n+b.length) * bytes<=140737488355328 then
     some ⟨aS (klS id st.sl) d (.one (.bld id (n+b.length))),(klH id st.hp).set id (.arr 0 size (es.take n++b))⟩ else none
 |_,_=>none
def apN(d:Option Nat)(size bytes:Nat)(st:AS):Option (L (L DC))->Option AS
 | some b=>if gG size b=true/\b.length * bytes<=140737488355328 then
     some ⟨aS st.sl d (.one (.bld st.hp.length b.length)),klH st.hp.length st.hp++[.arr 0 size b]⟩ else none
 |none=>none
def apZ(d:Option Nat)(size bytes:Nat)(st:AS):AV->AV->Option AS
 |.one (.bld id n),x=>apB d size bytes st id n (aL st.hp id) (sV st.hp x)
 |.one (.dc (.raw (.slice none 0 0))),x=>apN d size bytes st (sV st.hp x)
 |_,_=>none
def Wd:aU->Bool
 |.ptr _ _=>false
 |.ept _ _ _ _=>false
 |.bls _ _ _ _=>false
 |.fn _ b=>b.all R3
 |_=>true
def aEN:AV->Bool
 |.one c=>Wd c
 |.agg cs=>cs.all Wd
 |.tup _=>false
 |.junk=>true
def tC(G:aE)(sl:L AV):L aI->Bool
 |[]=>true
 |x::b=>aEN (aM G sl x)&&tC G sl b
def Gl(G:aE)(st:AS):L aI->L AV
 |[]=>[]
 |x::b=>Gj (vwA st.hp (aM G st.sl x))::Gl G st b
def Db(G:aE)(st:AS):L aI->L AV
 |[]=>[]
 |x::b=>Gj (vpA st.hp (aM G st.sl x))::Db G st b
def lN(G:aE)(sl:L AV):L aI->L AV
 |[]=>[]
 |x::b=>Gj (aM G sl x)::lN G sl b
def mT(G:aE)(sl:L AV):L aI->L Nat
 |[]=>[]
 |x::b=>aEM (aM G sl x)++mT G sl b
def nwK(d:Option Nat)(st:AS):Option (AV×L aD)->Option AS
 |some (av,os)=>some ⟨aS st.sl d (dO (cQ [] st.hp.length) av),st.hp++os.map (eL (cQ [] st.hp.length))⟩
 |none=>none
def We(call:aN)(G:aE)(d:Option Nat)(f:FuncId)(b:L aI)(st:AS):Option AS:=
 bif (lN G st.sl b).all (dH fun _=>true) then nwK d st (call f (lN G st.sl b) []) else none
def aOy:aD->Bool
 |.arr c _ _=>nq c 0
 |_=>true
def aBR:L aD->Bool
 |[]=>true
 |o::os=>aOy o&&aBR os
def dnK(d:Option Nat)(st:AS):Option (AV×L aD)->Option AS
 |some (av,os)=>bif aBR os then some ⟨aS st.sl d (dO (cQ [] st.hp.length) av),st.hp++os.map (eL (cQ [] st.hp.length))⟩ else none
 |none=>none
def dnZ(call:aN)(G:aE)(d:Option Nat)(f:FuncId)(b:L aI)(st:AS):Option AS:=
 bif (lN G st.sl b).all (dH fun _=>true) then dnK d st (call f (lN G st.sl b) []) else none
def vwK(call:aN)(G:aE)(d:Option Nat)(f:FuncId)(b:L aI)(st:AS):Option (AV×L aD)->Option AS
 |some (av,[])=>bif mS av then some ⟨aS st.sl d av,st.hp⟩ else We call G d f b (bZ (mT G st.sl b) st)
 |some (_,_::_)=>We call G d f b (bZ (mT G st.sl b) st)
 |none=>none
def lO(call:aN):aN:=fun f a hp=>call f (a.map Gj) hp
def clZ(call:aN)(G:aE)(d:Option Nat)(f:FuncId)(b:L aI)(st:AS):Option AS:=
 bif tC G st.sl b then vwK call G d f b st (call f (Gl G st b) [])
 else lM (lO call) d f (b.map (aM G (bZ (mT G st.sl b) st).sl)) (bZ (mT G st.sl b) st)
def cvK(call:aN)(G:aE)(d:Option Nat)(c:L aI)(st:AS):AV->Option AS
 |.one (.fn f b)=>lM (lO call) d f (c.map (aM G st.sl)++b.map AV.one) st
 |_=>none
def cvZ(call:aN)(G:aE)(d:Option Nat)(x:aI)(b:L aI)(st:AS):Option AS:=
 cvK call G d b (bZ (mT G st.sl b) st) (aM G (bZ (mT G st.sl b) st).sl x)
def isT(t:Nat):aI->Bool
 |.t n=>nq n t
 |_=>false
def aOz(t:Nat):L aI->Bool
 |[]=>false
 |x::b=>isT t x||aOz t b
def aNq(t:Nat):AI->Bool
 |.app _ _ _ _ x=>isT t x
 |.call _ b=>aOz t b
 |_=>false
def aOA(t:Nat):L aO->Bool
 |[]=>false
 |o::l=>aNq t o.ai||aOA t l
def aJI:Option Nat->L aO->Bool
 |some t,l=>aOA t l
 |none,_=>false
def Ix(G:aE)(sl:L AV):L (Nat×aI)->L Nat
 |[]=>[]
 |(_,x)::b=>aEM (aM G sl x)++Ix G sl b
def bsP(st:AS)(d:Option Nat)(size len:Nat)(cs:L aU):Option (L DC)->Option AS
 |some b=>if b.length=len*size then some ⟨aS st.sl d (.one (.bld st.hp.length len)),st.hp++[.arr 0 size (gZ size len b)]⟩ else none
 |none=>if size=1 then some ⟨aS st.sl d (.one (.bls st.hp.length 0 len 1)),st.hp++[.box cs]⟩ else none
def bsO(G:aE)(st:AS)(d:Option Nat)(size len:Nat)(z:L Value)(b:L (Nat×aI)):Option AS:=
 (iV (zs z (len*size)) (b.map fun (j,x)=>(j*size,size,aM G st.sl x))).bind fun cs=>bsP st d size len cs (dcs cs)
def bsZ(G:aE)(st:AS)(d:Option Nat)(size len:Nat)(z:L Value)(b:L (Nat×aI)):Bool->Option AS
 |true=>bsX G (bZ (Ix G st.sl b) st) d size len z b
 |false=>bsO G (bZ (Ix G st.sl b) st) d size len z b
def mkK(d:Option Nat)(size bytes:Nat)(b:L Value)(st:AS):Option Int->Option Int->Option AS
 |some (.ofNat n),some (.ofNat m)=>if n<=m/\m*bytes<=140737488355328 then some ⟨aS st.sl d (.one (.bld st.hp.length n)),st.hp++[.arr 0 size (List.replicate n (b.map DC.raw))]⟩ else none
 |_,_=>none
def mkZ(G:aE)(st:AS)(d:Option Nat)(size bytes:Nat)(b:L Value)(l c:aI):Option AS:=mkK d size bytes b st (bH (aM G st.sl l)) (bH (aM G st.sl c))
def aSI(d:Option Nat)(st:AS)(id k n size:Nat)(cs:L aU):L Value->Option AS
 |[v]=>if size=1/\0<n/\k+n<=cs.length then some ⟨aS st.sl d (.tup []),st.hp.set id (.box (dB cs k (List.replicate n (cN v))))⟩ else none
 |_=>none
def Wf(d:Option Nat)(st:AS)(id k n size:Nat)(b:L Value):aD->Option AS
 |.arr _ s es=>if s=size/\k+n<=es.length then some ⟨aS st.sl d (.tup []),st.hp.set id (.arr 0 size (Q8 es k n (b.map DC.raw)))⟩ else none
 |.box cs=>aSI d st id k n size cs b
 |_=>none
def aOC(d:Option Nat)(size:Nat)(b:L Value)(st:AS):AV->Option AS
 |.one (.bls id k n s)=>if s=size then Wf d st id k n size b (aL st.hp id) else none
 |.one (.bld id n)=>Wf d st id 0 n size b (aL st.hp id)
 |_=>none
def aBT(G:aE)(st:AS)(d:Option Nat)(size:Nat)(b:L Value)(x:aI):Option AS:=aOC d size b st (aM G st.sl x)
def aEO(d:Option Nat)(st:AS)(id b n:Nat)(s:ByteArray):aD->Option AS
 |.box cs=>if b+n<=cs.length then some ⟨aS st.sl d (dS (.int .i64 (min s.size n:Nat))),st.hp.set id (.box (dB cs b (fH (s.data.toList.take n))))⟩ else none
 |.arr _ z es=>if z=1/\b+n<=es.length then some ⟨aS st.sl d (dS (.int .i64 (min s.size n:Nat))),st.hp.set id (.arr 0 1 (Rc es b (s.data.toList.take n)))⟩ else none
 |_=>none
def aOD(d:Option Nat)(st:AS):AV->Option ByteArray->Option AS
 |.one (.bls id b n z),some s=>if z=1 then aEO d st id b n s (aL st.hp id) else none
 |_,_=>none
def aBU(G:aE)(st:AS)(d:Option Nat)(x y:aI):Option AS:=aOD d st (aM G st.sl x) (dN (aM G st.sl y))
def aSJ(d:Option Nat)(st:AS):Option ByteArray->Option AS
 |some s=>some ⟨aS st.sl d (.one (.dc (.slc (iA s)))),st.hp⟩
 |none=>none
def aBV(G:aE)(st:AS)(d:Option Nat)(x:aI):Option AS:=aSJ d st (dN (aM G st.sl x))
def aJJ(d:Option Nat)(st:AS):Option ByteArray->Option AS
 |some s=>some ⟨aS st.sl d (.one (.bld st.hp.length s.size)),st.hp++[.arr 0 1 (iA s)]⟩
 |none=>none
def mbK(d:Option Nat)(size bytes:Nat)(st:AS):L Value->Option Int->Option Int->Option AS
 |[v],some (.ofNat n),some (.ofNat m)=>if size=1/\n<=m/\m*bytes<=140737488355328 then some ⟨aS st.sl d (.one (.bls st.hp.length 0 n 1)),st.hp++[.box (List.replicate m (cN v))]⟩ else none
 |_,_,_=>none
def mU(call:aN)(G:aE)(st:AS)(l:L aO)(d:Option Nat):AI->Option AS
 |.call f b=>clZ call G d f b st
 |.callv x b=>cvZ call G d x b st
 |.app size bytes _ s x=>apZ d size bytes st (aM G st.sl s) (aM G st.sl x)
 |.bslc size len z c=>bsZ G st d size len z c (aJI d l)
 |.apps _ _=>none
 |.mk size bytes z x y=>mkZ G st d size bytes z x y
 |.clr size z x=>aBT G st d size z x
 |.cpys x y=>aBU G st d x y
 |.cvsb x=>aBV G st d x
 |ai=>G3 G st d ai
def guZ(call:aN)(G:aE)(st:AS)(l:L aO)(d:Option Nat)(b:AI):Option Bool->Option AS
 |some true=>mU call G st l d b
 |some false=>some ⟨aS st.sl d (.tup []),st.hp⟩
 |none=>none
def Wg(call:aN)(G:aE)(st:AS)(l:L aO)(d:Option Nat)(c:AI):Option (Nat×Bool)->Option AS
 |none=>mU call G st l d c
 |some (g,b)=>guZ call G st l d c (gK b (aM G st.sl (.t g)))
def evR(call:aN)(G:aE):L aO->Option AS->Option AS
 |_,none=>none
 |[],some st=>some st
 |o::l,some st=>evR call G l (Wg call G st l o.dst o.ai o.guard)
def Oq:List Nat->Nat->Bool
 |[],_=>false
 |x::L,n=>nq n x||Oq L n
def kQ(L:List Nat):AI->Option (Nat×Bool)->Bool
 |.call f _,none=>Oq L f
 |.mk _ _ _ _ _,none=>Oq L 0
 |.cvsb _,none=>Oq L 1
 |_,_=>false
def vpK(d:Option Nat)(st:AS):Option (AV×L aD)->Option AS
 |some (av,[])=>bif mS av then some ⟨aS st.sl d av,st.hp⟩ else none
 |some (_,_::_)=>none
 |none=>none
def aEP(call:aN)(G:aE)(st:AS)(d:Option Nat)(f:FuncId)(b:L aI):Bool->Option AS
 |true=>vpK d st (call f (Db G st b) [])
 |false=>lM (lO call) d f (b.map (aM G st.sl)) st
def Sb(call:aN)(G:aE)(L:List Nat)(st:AS)(d:Option Nat):AI->Option AS
 |.call f b=>aEP call G st d f b (Oq L (f+100000))
 |.mk size bytes z x y=>mbK d size bytes st z (bH (aM G st.sl x)) (bH (aM G st.sl y))
 |.cvsb x=>aJJ d st (dN (aM G st.sl x))
 |_=>none
def Iy(call:aN)(G:aE)(L:List Nat)(st:AS)(l:List aO)(d:Option Nat)(b:AI)(g:Option (Nat×Bool)):Bool->Option AS
 |true=>Sb call G L st d b
 |false=>Wg call G st l d b g
def Gm(call:aN)(G:aE)(L:List Nat):List aO->Option AS->Option AS
 |_,none=>none
 |[],some st=>some st
 |o::l,some st=>Gm call G L l (Iy call G L st l o.dst o.ai o.guard (kQ L o.ai o.guard))
open Classical in
noncomputable def F5(n0:Nat)(a b:Option AS):Option AS:=if ∃s c p,a=some s/\b=some c/\pOK n0 c.hp.length p/\prm p c=s then a else none
noncomputable def F6(call:aN)(G:aE)(L:List Nat)(n0:Nat)(ops:List aO):IT->Option AS->Option AS
 |_,none=>none
 |.nil,some st=>some st
 |.st i t,some st=>F6 call G L n0 ops t (Iy call G L st ops (iW ops i).dst (iW ops i).ai (iW ops i).guard (kQ L (iW ops i).ai (iW ops i).guard))
 | .br i t r,some st=>match N6 r with
   | true=>F6 call G L n0 ops t (Iy call G L st ops (iW ops i).dst (iW ops i).ai (iW ops i).guard (kQ L (iW ops i).ai (iW ops i).guard))
   | false=>F5 n0 (F6 call G L n0 ops t (Iy call G L st ops (iW ops i).dst (iW ops i).ai (iW ops i).guard (kQ L (iW ops i).ai (iW ops i).guard))) (F6 call G L n0 ops r (some st))
 |.stop,some _=>none
def qcF(d:Option Nat)(st:AS)(v:AV):Option AS:=bif dH (fun _=>true) v then some ⟨aS st.sl d v,st.hp⟩ else none
def qcK(d:Option Nat)(st:AS):Option (AV×L aD)->Option AS
 |some (av,[])=>bif dH (fun _=>true) av then some ⟨aS st.sl d av,st.hp⟩ else none
 |some (av,o::os)=>qcF d st (bG (fun id=>decide (0<=id)) ((bZ (kK av) ⟨[av],o::os⟩).sl.getD 0 .junk))
 |none=>none
def Cn(call:aN)(G:aE)(st:AS)(d:Option Nat):AI->Option AS
 |.call f b=>bif (lN G st.sl b).all (dH fun _=>true) then qcK d st (call f (lN G st.sl b) []) else none
 |ai=>gO st d (evX G st.sl (N0 ai st.hp) ai)
def dvK(call:aN)(G:aE)(d:Option Nat)(f:FuncId)(b:L aI)(st:AS):Option (AV×L aD)->Option AS
 |some (av,[])=>bif mS av then some ⟨aS st.sl d av,st.hp⟩ else dnZ call G d f b st
 |some (_,_::_)=>dnZ call G d f b st
 |none=>none
def ldZ(call:aN)(G:aE)(st:AS)(d:Option Nat):AI->Option AS
 |.call f b=>dvK call G d f b st (call f (Db G st b) [])
 |.callv x b=>cvZ call G d x b st
 |.app size bytes _ s x=>apZ d size bytes st (aM G st.sl s) (aM G st.sl x)
 |.bslc size len z c=>bsO G st d size len z c
 |.mk size bytes z x y=>mkZ G st d size bytes z x y
 |.clr size z x=>aBT G st d size z x
 |.cpys x y=>aBU G st d x y
 |.cvsb x=>aBV G st d x
 |.alloc z=>G3 G st d (.alloc z)
 |.box x=>G3 G st d (.box x)
 |.store size x v=>G3 G st d (.store size x v)
 |_=>none
def drZ(call:aN)(G:aE)(st:AS)(d:Option Nat)(b:AI):Bool->Option AS
 |true=>Cn call G st d b
 |false=>ldZ call G st d b
def aBY(call:aN)(G:aE)(st:AS)(q:Bool)(d:Option Nat)(b:AI):Option Bool->Option AS
 |some true=>drZ call G st d b q
 |some false=>some ⟨aS st.sl d (.tup []),st.hp⟩
 |none=>none
def drO(call:aN)(G:aE)(st:AS)(q:Bool)(d:Option Nat)(c:AI):Option (Nat×Bool)->Option AS
 |none=>drZ call G st d c q
 |some (g,b)=>aBY call G st q d c (gK b (aM G st.sl (.t g)))
def Gn(call:aN)(G:aE):L (Bool×aO)->Option AS->Option AS
 |_,none=>none
 |[],some st=>some st
 |o::l,some st=>Gn call G l (drO call G st o.1 o.2.dst o.2.ai o.2.guard)
def aBZ:AI->Bool
 |.alloc _=>true
 |_=>false
def nAl:L aO->Nat
 |[]=>0
 |o::l=>bif aBZ o.ai then nAl l+1 else nAl l
def Dd:Nat->L aD
 |0=>[]
 |n+1=>.dead::Dd n
abbrev FP:=L Nat×L Nat
def fpA(G:aE)(sl:L AV):L aI->L Nat
 |[]=>[]
 |x::b=>Qr (aM G sl x)++fpA G sl b
def fvN(d:Option Nat)(r:Nat)(z:L Value)(st:AS):Option aD->Option (AS×FP)
 |some .dead=>some (⟨aS st.sl d (.one (.ptr r 0)),st.hp.set r (.box (z.map cN))⟩,[r],[])
 |_=>none
def fvT(size id off:Nat)(vs:L aU)(st:AS):Option aD->Option (AS×FP)
 |some (.box cs)=>if vs.length=size/\off+size<=cs.length then some (⟨st.sl,st.hp.set id (.box (dB cs off vs))⟩,[id],[id]) else none
 |_=>none
def fvS(d:Option Nat)(size:Nat)(st:AS):AV->Option (L aU)->Option (AS×FP)
 | .one (.ptr id off),some vs=>match d with
   | none=>fvT size id off vs st st.hp[id]?
   | some _=>none
 |_,_=>none
def Vj(R:L Nat):Option AS->Option (AS×FP)
 |some s=>some (s,[],R)
 |none=>none
def aJK(d:Option Nat)(id b n:Nat)(bs:ByteArray)(st:AS):Option aD->Option (AS×FP)
 |some (.box cs)=>if b+n<=cs.length then some (⟨aS st.sl d (dS (.int .i64 (min bs.size n:Nat))),st.hp.set id (.box (dB cs b (fH (bs.data.toList.take n))))⟩,[id],[id]) else none
 |_=>none
def fvY(d:Option Nat)(st:AS):AV->Option ByteArray->Option (AS×FP)
 |.one (.bls id b n z),some bs=>if z=1 then aJK d id b n bs st st.hp[id]? else none
 |_,_=>none
def aEQ(d:Option Nat)(id:Nat)(st:AS):Option (AV×L aD)->Option (AS×FP)
 |some (.tup [],[.box cs])=>bif keepL (fun _=>true) cs then some (⟨aS st.sl d (.tup []),st.hp.set id (.box cs)⟩,[id],[id]) else none
 |_=>none
def fvB(call:aN)(d:Option Nat)(f:FuncId)(st:AS)(b:L AV)(id:Nat):Option aD->Option (AS×FP)
 |some (.box cs)=>bif keepL (fun _=>true) cs&&b.all (dH (lL [id])) then aEQ d id st (lO call f (b.map (dO (mO [id]))) [.box cs]) else none
 |_=>none
def fvC(call:aN)(G:aE)(st:AS)(d:Option Nat)(f:FuncId)(b:L aI):L Nat->Option (AS×FP)
 |[]=>Vj [] (Cn call G st d (.call f b))
 |[id]=>fvB call d f st (b.map (aM G st.sl)) id st.hp[id]?
 |_=>none
def fvL:Nat->Option AS->Option (AS×FP)
 |0,_=>none
 |_+1,s=>Vj [] s
def Lg(call:aN)(G:aE)(st:AS)(d:Option Nat)(r:Nat):AI->Option (AS×FP)
 |.alloc z=>fvN d r z st st.hp[r]?
 |.store size x v=>fvS d size st (aM G st.sl x) (cellsOf (aM G st.sl v))
 |.cpys x y=>fvY d st (aM G st.sl x) (dN (aM G st.sl y))
 |.call f b=>fvC call G st d f b ((b.map (aM G st.sl)).flatMap kK)
 |.bslc size len z c=>fvL len (bsX G st d size len z c)
 |ai=>bif ai.isPure then Vj (fpA G st.sl (bK ai)) (mU call G st [] d ai) else none
def fvG(call:aN)(G:aE)(st:AS)(d:Option Nat)(r:Nat)(b:AI):Option Bool->Option (AS×FP)
 |some true=>Lg call G st d r b
 |some false=>some (⟨aS st.sl d (.tup []),st.hp⟩,[],[])
 |none=>none
def fvO(call:aN)(G:aE)(st:AS)(d:Option Nat)(r:Nat)(c:AI):Option (Nat×Bool)->Option (AS×FP)
 |none=>Lg call G st d r c
 |some (g,b)=>fvG call G st d r c (gK b (aM G st.sl (.t g)))
def Sc:List Nat->Nat->Bool
 |[],_=>false
 |x::L,n=>nq n x||Sc L n
def Gp:L Nat->L Nat->Bool
 |[],_=>true
 |x::a,b=>!Sc b x&&Gp a b
def dsM:FP->FP->Bool
 |(w,r),(w',r')=>Gp w r'&&(Gp w w'&&Gp w' r)
def atF:L FP->Nat->FP
 |[],_=>([],[])
 |f::_,0=>f
 |_::b,n+1=>atF b n
def Lh:L (Nat×Nat)->L FP->Bool
 |[],_=>true
 |(p,q)::c,b=>dsM (atF b p) (atF b q)&&Lh c b
def Wh(call:aN)(G:aE)(b:L (Nat×Nat)):L FP->Nat->L aO->Option AS->Option AS
 |_,_,_,none=>none
 |acc,_,[],some st=>bif Lh b acc then some st else none
 | acc,r,o::l,some st=>match fvO call G st o.dst r o.ai o.guard with
   | some (s,f)=>Wh call G b (acc++[f]) (bif aBZ o.ai then r+1 else r) l (some s)
   | none=>none
def ctC(m:Nat):aU->aU
 |.dc d=>.dc d
 |.ref cs=>.ref cs
 |.mpc es=>.mpc es
 |.junk=>.junk
 |.ptr j o=>if m<=j then .junk else .ptr j o
 |.bld j n=>if m<=j then .junk else .bld j n
 |.ept j i s o=>if m<=j then .junk else .ept j i s o
 |.bls j i s o=>if m<=j then .junk else .bls j i s o
 |.fn f b=>cO (fun id=>decide (m<=id)) (.fn f b)
def Gq(m:Nat):L aU->L aU
 |[]=>[]
 |c::cs=>ctC m c::Gq m cs
def ctV(m:Nat):AV->AV
 |.one c=>.one (ctC m c)
 |.agg cs=>.agg (Gq m cs)
 |.tup l=>.tup (l.map (uJ fun id=>decide (m<=id)))
 |.junk=>.junk
def ctO(m:Nat):aD->aD
 |.box cs=>.box (Gq m cs)
 |.arr c s es=>.arr c s es
 |.dead=>.dead
def ctH(m:Nat):Nat->L aD->L aD
 |0,_=>[]
 |_+1,[]=>[]
 |n+1,o::os=>ctO m o::ctH m n os
def ctS(m:Nat):List Nat->List AV->List AV
 |_,[]=>[]
 |[],_::b=>.junk::ctS m [] b
 |0::L,x::b=>ctV m x::ctS m L b
 |(n+1)::L,_::b=>.junk::ctS m (n::L) b
def lA(L:List Nat)(m:Nat)(st:AS):AS:=⟨ctS m L st.sl,ctH m m st.hp⟩
def K6(b:AS->Option (Exit×AS))(L:List Nat)(m:Nat):Nat->AS->Option (Exit×AS)
 |0,_=>none
 | n+1,st=>match b st with
   | some (.normal,s)=>K6 b L m n (lA L m s)
   | r=>r
open Classical in
noncomputable def lim{α:Type}(f:Nat->Option α):Option α:=if h:∃n r,f n=some r then f h.choose else none
noncomputable def Bv(b:AS->Option (Exit×AS))(L:List Nat)(m:Nat)(st:AS):Option (Exit×AS):=lim fun n=>K6 b L m n st
def nrm:Option AS->Option (Exit×AS)
 |some s=>some (.normal,s)
 |none=>none
def aJL(id:Nat)(s:AS):Exit->Option (Exit×AS)
 |.exit b=>if b=id then some (.normal,s) else some (.exit b,s)
 |e=>some (e,s)
def Bg(id:Nat):Option (Exit×AS)->Option (Exit×AS)
 |some (e,s)=>aJL id s e
 |none=>none
noncomputable def EC(call:aN)(G:aE):HC->AS->Option (Exit×AS)
 |.skip,st=>some (.normal,st)
 |.ret,st=>some (.ret,st)
 |.exit id,st=>some (.exit id,st)
 |.region ops,st=>nrm (evR call G ops (some st))
 |.regR L ops,st=>nrm (Gm call G L ops (some st))
 |.drawn ops,st=>nrm (Gn call G ops (some st))
 |.drawnF d ops,st=>nrm (Wh call G d [] st.hp.length ops (some ⟨st.sl,st.hp++Dd (nAl ops)⟩))
 |.drawnT L t ops,st=>nrm (F6 call G L st.hp.length ops t (some st))
 | .seq a b,st=>match EC call G a st with
   | some (.normal,s)=>EC call G b s
   | r=>r
 | .cond c a b,st=>match cP (aM G st.sl c) with
   | some true=>EC call G a st
   | some false=>EC call G b st
   | none=>none
 |.block id a,st=>Bg id (EC call G a st)
 |.loop L a,st=>Bv (EC call G a) L st.hp.length (lA L st.hp.length st)
 |.gh g a,st=>EC call G a (ghE g st)
 |.trm L a,st=>EC call G a (lA L st.hp.length st)
 |.bad,_=>none
structure HF where
 code:HC
 rs:List lK
 nt:Nat
 own:Bool
structure HT where
 tab:FuncId->Option HF
 base:aN
def aOF(b:Bool)(n:Nat)(hp:L aD)(v:AV):AV×L aD:=
 bif b then
  (bif dH (fun id=>decide (n<=id)) v&&(hp.take n).all (pQ fun id=>decide (n<=id)) then (Gj v,hp.take n) else (Gj v,hp))
 else (Gj (bG (fun id=>decide (n<=id)) ((bZ (kK v) (bxW n (kK v) ⟨[v],hp⟩ (Wb v))).sl.getD 0 .junk)),((bZ (kK v) (bxW n (kK v) ⟨[v],hp⟩ (Wb v))).hp.take n).map (cU fun id=>decide (n<=id)))
def Wi(b:Bool)(n:Nat)(hp:L aD):Option AV->Option (AV×L aD)
 |some v=>some (aOF b n hp v)
 |none=>none
def qL(b:Bool)(c:L lK)(n:Nat):Option (Exit×AS)->Option (AV×L aD)
 |some (e,s)=>if Mc e=true/\n<=s.hp.length then Wi b n s.hp (uC s c) else none
 |none=>none
noncomputable def Wj(call:aN)(G:aE)(h:HF)(b:L AV)(hp:L aD):Option (AV×L aD):=
 qL h.own h.rs hp.length (EC call G h.code ⟨b++tW (h.nt-b.length),hp⟩)
noncomputable def callN(G:aE)(T:HT):Nat->aN
 |0,_,_,_=>none
 | n+1,f,b,hp=>match T.tab f with
   | some h=>Wj (callN G T n) G h b hp
   | none=>T.base f b hp
noncomputable def EV(G:aE)(T:HT):aN:=fun f b hp=>lim fun n=>callN G T n f b hp
