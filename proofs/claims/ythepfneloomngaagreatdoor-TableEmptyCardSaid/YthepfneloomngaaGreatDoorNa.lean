/- Codes with hints, and an evaluator of them whose steps are equations. Conditions: none. -/
import Derived.Test.YthepfneloomngaaGreatDoorMb
namespace Go.Proofs.YthepfneloomngaaGreatDoor
set_option linter.unusedSimpArgs false
set_option linter.unusedVariables false
section
def Py:aT->Bool
 |.dc _=>true
 |.ref _=>true
 |.mpc _=>true
 |_=>false
def Wu(hp:List aC):aT->aT
 | .bld id n=>match aI hp id with
   | .arr _ _ es=>if n<=es.length then .dc (.slc (es.take n)) else .junk
   | _=>.junk
 |.dc d=>.dc d
 |.ref ds=>.ref ds
 |.mpc es=>.mpc es
 |.fn f caps=>bif caps.all Py then .fn f caps else .junk
 |_=>.junk
def vwA(hp:List aC):AV->AV
 |.one c=>.one (Wu hp c)
 |.agg cs=>.agg (cs.map (Wu hp))
 |.tup _=>.junk
 |.junk=>.junk
def Hf:List aT->Option (List DC)
 |[]=>some []
 |.dc d::cs=>(Hf cs).map (d::·)
 |_=>none
def aMV:Option (List DC)->aT
 |some ds=>.ref ds
 |none=>.junk
def toD:aT->aT
 |.dc (.raw (.slice none 0 0))=>.dc (.slc [])
 |.ref ds=>.dc (.ptr ds)
 |c=>c
def vwN(hp:List aC)(c:aT):aT:=toD (Wu hp c)
def aAv(hp:List aC):List aT->List aT
 |[]=>[]
 |c::cs=>vwN hp c::aAv hp cs
def vpP(hp:List aC)(off:Nat):aC->aT
 |.box cs=>aMV (Hf (aAv hp (cs.drop off)))
 |_=>.junk
def vwM(hp:List aC):aT->aT
 |.ptr id off=>toD (vpP hp off (aI hp id))
 |.bld id n=>vwN hp (.bld id n)
 |.dc d=>vwN hp (.dc d)
 |.ref ds=>.dc (.ptr ds)
 |.mpc _=>.junk
 |.fn _ _=>.junk
 |.ept _ _ _ _=>.junk
 |.bls _ _ _ _=>.junk
 |.junk=>.junk
def aAw(hp:List aC):List aT->List aT
 |[]=>[]
 |c::cs=>vwM hp c::aAw hp cs
def vqP(hp:List aC)(off:Nat):aC->aT
 |.box cs=>aMV (Hf (aAw hp (cs.drop off)))
 |_=>.junk
def fnV(f:FuncId)(cs:List aT):aT:=bif cs.all Py then .fn f cs else .junk
def vp0(hp:List aC):aT->aT
 |.ptr id off=>vqP hp off (aI hp id)
 |.bld id n=>Wu hp (.bld id n)
 |.dc d=>.dc d
 |.ref ds=>.ref ds
 |.mpc es=>.mpc es
 |.fn f caps=>Wu hp (.fn f caps)
 |.ept _ _ _ _=>.junk
 |.bls _ _ _ _=>.junk
 |.junk=>.junk
def aDg(hp:List aC):List aT->List aT
 |[]=>[]
 |c::cs=>vp0 hp c::aDg hp cs
def vpC(hp:List aC):aT->aT
 |.fn f caps=>fnV f (aDg hp caps)
 |.ptr id off=>vp0 hp (.ptr id off)
 |.bld id n=>vp0 hp (.bld id n)
 |.dc d=>.dc d
 |.ref ds=>.ref ds
 |.mpc es=>.mpc es
 |.ept _ _ _ _=>.junk
 |.bls _ _ _ _=>.junk
 |.junk=>.junk
def vpA(hp:List aC):AV->AV
 |.one c=>.one (vpC hp c)
 |.agg cs=>.agg (cs.map (Wu hp))
 |.tup _=>.junk
 |.junk=>.junk
def tA:aT->Bool
 |.dc (.raw _)=>true
 |_=>false
def aLK:TV->Bool
 |.one c=>tA c
 |.agg cs=>cs.all tA
def lI:AV->Bool
 |.one c=>tA c
 |.agg cs=>cs.all tA
 |.tup l=>l.all aLK
 |.junk=>false
section
variable {P:Program}{G:aE}{k:Nat}{st st':AS}{R:AS->Prop}{o:aN}{rest:List aN}{F F':Fz}{γ γ':List OI}{w:World}
theorem Bb(hi:dE F γ st.hp w):F.sub (iB w):=fun b o h=>hi.fz b o h
theorem qX(hi:dE F γ st.hp w){c:aT}{v:Value}(h:RC F γ c v):RC (iB w) [] (Wu st.hp c) v:=by
 have hs:=Bb hi;cases h with
 |dc d v h=>exact .dc d v (h.mono hs)
 |ref cs b off g hr hc=>exact .ref cs b off g (fun j d h=>(hr j d h).mono hs) (fun j d h=>hs.cell (hc j d h))
 |mpc es r clk ents h he h1=>exact .mpc es r clk ents (hs _ _ h) he h1
 |bldN id cap h0=>
  simp only[Wu];split;rename_i cp sz es hb;split;simp only[aYQ];exact .dc _ _ (.nil _ _);exact .junk _ rfl;exact .junk _ rfl
 |bld id n b cap h0=>
  simp only[Wu];split;rename_i cp sz es hb;split;rename_i hn;have:=aC2 (F':=iB w) (γ':=γ) hi hb hs (fun i o _ h=>h) (fun b c h=>rfl) (.bld id n b cap h0)
  have e1:Ae id es (.bld id n)=.dc (.slc (es.take n)):=by simp[Ae,hn]
  rw[e1] at this;have e2:cG (·==id) (.dc (.slc (es.take n)))=.dc (.slc (es.take n)):=by simp[cG,aT.keep]
  rw[e2] at this;cases this with|dc _ _ h=>exact .dc _ _ h
  exact .junk _ rfl;exact .junk _ rfl
 |ptr id off b h0=>exact .junk _ rfl
 |ept id i size off b cap h0=>exact .junk _ rfl
 |bls id lo n size b cap c off h0 ho hc=>exact .junk _ rfl
 |fn f caps g hr=>
  simp only[Wu];cases hc:caps.all Py with
  |false=>exact .junk _ rfl
  |true=>
   refine .fn f caps g (fun i c h=>?_)
   have h1:=aY2.1 hc c (aX0 h);have h2:=hr i c h;generalize g i=v at h2 ⊢;cases h2 with
   |dc d v h=>exact .dc d _ (h.mono hs)
   |ref cs b off g hr hc=>exact .ref cs b off g (fun j d h=>(hr j d h).mono hs) (fun j d h=>hs.cell (hc j d h))
   |mpc es r clk ents hm he hz=>exact .mpc es r clk ents (hs _ _ hm) he hz
   |_=>simp[Py] at h1
 |junk v h=>exact .junk v h
theorem aDh(hi:dE F γ st.hp w){a:AV}{v:Value}(h:RV F γ a v):RV (iB w) [] (vwA st.hp a) v:=by
 cases h with
 |one c v h=>exact .one _ _ (qX hi h)
 |agg cs vs hs h=>
  refine .agg _ _ (by simpa using hs) (fun i c v h1 h2=>?_)
  rw[aXI] at h1;obtain⟨c0,h3,rfl⟩:=Option.map_eq_some_iff.1 h1;exact qX hi (h i c0 v h3 h2)
 |tup l vs hs h=>exact .junk _
 |junk v=>exact .junk v
theorem Mo(hp:List aC):∀cs,aAv hp cs=cs.map (vwN hp)
 |[]=>rfl
 |c::cs=>by rw[aAv,Mo hp cs];rfl
theorem Mp(hp:List aC):∀cs,aDg hp cs=cs.map (vp0 hp)
 |[]=>rfl
 |c::cs=>by rw[aDg,Mp hp cs];rfl
theorem Hg:∀{cs:List aT}{ds:List DC}{j:Nat}{d:DC},Hf cs=some ds->ds[j]?=some d->cs[j]?=some (.dc d)
 |[],ds,j,d,h,hd=>by simp only[Hf,Option.some.injEq] at h;subst h;simp at hd
 | c::cs,ds,j,d,h,hd=>by
   cases c with
   | dc d0=>
     simp only[Hf] at h;obtain⟨ds0,h1,rfl⟩:=Option.map_eq_some_iff.1 h;cases j with
     | zero=>simp at hd;simp[hd]
     | succ j=>simp at hd;simpa using Hg h1 hd
   | _=>simp[Hf] at h
theorem Mq(hp:List aC):∀cs,aAw hp cs=cs.map (vwM hp)
 |[]=>rfl
 |c::cs=>by rw[aAw,Mq hp cs];rfl
theorem Tu{F:Fz}{γ:List OI}{c:aT}{v:Value}(h:RC F γ c v):RC F γ (toD c) v:=by
 unfold toD;split;cases h with|dc _ _ h=>cases h with|raw _ h=>exact .dc _ _ (.nil _ _)
 cases h with|ref _ b off g hr hc=>exact .dc _ _ (.ptr _ b off g hr hc)
 exact h
theorem Pz(hi:dE F γ st.hp w){id off b:Nat}{cs:List aT}{vw:aT->aT}{ds:List DC}(hb:aI st.hp id=.box cs)(h0:γ[id]?=some (.box b))(hv:∀c v,RC F γ c v->RC (iB w) [] (vw c) v)
  (hd:Hf ((cs.drop off).map vw)=some ds):RC (iB w) [] (.ref ds) (.pointer (some ⟨b,off,none⟩)):=by
 obtain⟨vs,T,⟨fz,hw,hnf⟩,hsz,hok⟩:=hi.box hb h0;refine .ref ds b off (fun j=>vs.getD (off+j) (.bool false)) ?_ ?_
 intro j d hj;have h1:=Hg hd hj;rw[aXI] at h1;obtain⟨c0,h2,h3⟩:=Option.map_eq_some_iff.1 h1;rw[aX9] at h2;have hlt:off+j<vs.size:=Nat.lt_of_lt_of_le (aG h2) hsz;have h4:=hok (off+j) c0 _ h2 (aX8 hlt);have h5:=hv _ _ h4;rw[h3] at h5;have e:vs.getD (off+j) (.bool false)=vs[off+j]:=by simp[Array.getD,hlt]
 show RD (iB w) d (vs.getD (off+j) (.bool false));rw[e];cases h5 with|dc _ _ h=>exact h
 intro j d hj;have h1:=Hg hd hj;rw[aXI] at h1;obtain⟨c0,h2,h3⟩:=Option.map_eq_some_iff.1 h1;rw[aX9] at h2;have hlt:off+j<vs.size:=Nat.lt_of_lt_of_le (aG h2) hsz;simp[Fz.cell?,iB,hw,Array.getD,hlt]
theorem Tv(hi:dE F γ st.hp w){c:aT}{v:Value}(h:RC F γ c v):RC (iB w) [] (vwN st.hp c) v:=Tu (qX hi h)
theorem aMZ(hi:dE F γ st.hp w){id off:Nat}{v:Value}(h:RC F γ (.ptr id off) v):RC (iB w) [] (vpP st.hp off (aI st.hp id)) v:=by
 cases h with
 |ptr id off b h0=>
  cases hb:aI st.hp id with
  |box cs=>
   simp only[vpP];cases hd:Hf (aAv st.hp (cs.drop off)) with
   |none=>exact .junk _ rfl
   |some ds=>rw[Mo] at hd;exact Pz hi hb h0 (fun c v h=>Tv hi h) hd
  |_=>exact .junk _ rfl
theorem aM0(hi:dE F γ st.hp w){c:aT}{v:Value}(h:RC F γ c v):RC (iB w) [] (vwM st.hp c) v:=by
 cases hc:c with
 |ptr id off=>subst hc;exact Tu (aMZ hi h)
 |bld id n=>subst hc;exact Tv hi h
 |dc d=>subst hc;exact Tv hi h
 |ref ds=>subst hc;exact Tu (c:=.ref ds) (qX hi h)
 |_=>exact .junk _ h.is1
theorem C7(hi:dE F γ st.hp w){c:aT}{v:Value}(h:RC F γ c v):RC (iB w) [] (vp0 st.hp c) v:=by
 cases hc:c with
 |ptr id off=>
  subst hc;cases h with
  |ptr id off b h0=>
   simp only[vp0];cases hb:aI st.hp id with
   |box cs=>
    simp only[vqP];cases hd:Hf (aAw st.hp (cs.drop off)) with
    |none=>exact .junk _ rfl
    |some ds=>rw[Mq] at hd;exact Pz hi hb h0 (fun c v h=>aM0 hi h) hd
   |_=>exact .junk _ rfl
 |dc d=>subst hc;exact qX hi h
 |ref cs=>subst hc;exact qX hi h
 |mpc es=>subst hc;exact qX hi h
 |bld id n=>subst hc;exact qX hi h
 |fn f caps=>subst hc;exact qX hi h
 |ept=>exact .junk _ h.is1
 |bls=>exact .junk _ h.is1
 |junk=>exact .junk _ h.is1
theorem aM1(hi:dE F γ st.hp w){c:aT}{v:Value}(h:RC F γ c v):RC (iB w) [] (vpC st.hp c) v:=by
 cases hc:c with
 |fn f caps=>
  subst hc;cases h with
  |fn f caps g hr=>
   simp only[vpC,fnV,Mp];cases hc:(caps.map (vp0 st.hp)).all Py with
   |false=>exact .junk _ rfl
   |true=>
    have e:caps.length=(caps.map (vp0 st.hp)).length:=by simp
    simp only[cond_true,e];refine .fn f _ g (fun i c h=>?_)
    rw[aXI] at h;obtain⟨c0,h2,rfl⟩:=Option.map_eq_some_iff.1 h;exact C7 hi (hr i c0 h2)
 |dc d=>subst hc;exact C7 hi h
 |ref cs=>subst hc;exact C7 hi h
 |mpc es=>subst hc;exact C7 hi h
 |bld id n=>subst hc;exact C7 hi h
 |ptr id off=>subst hc;exact C7 hi h
 |ept=>exact .junk _ h.is1
 |bls=>exact .junk _ h.is1
 |junk=>exact .junk _ h.is1
theorem aDi(hi:dE F γ st.hp w){a:AV}{v:Value}(h:RV F γ a v):RV (iB w) [] (vpA st.hp a) v:=by
 cases h with
 |one c v h=>exact .one _ _ (aM1 hi h)
 |agg cs vs hs h=>exact aDh hi (.agg cs vs hs h)
 |tup l vs hs h=>exact .junk _
 |junk v=>exact .junk v
theorem Mr{c:aT}{v:Value}(hc:tA c=true)(h:RC F γ c v):RC F' γ' c v:=by
 cases h with
 | dc d v h=>cases h with
   | raw v h=>exact .dc _ _ (.raw v h)
   | nil A c=>simp[tA] at hc
   | slc=>simp[tA] at hc
   | ptr=>simp[tA] at hc
 |_=>simp[tA] at hc
theorem P0{cs:List aT}{vs:Array Value}(hc:cs.all tA=true)(h:∀(i:Nat) c v,cs[i]?=some c->vs[i]?=some v->RC F γ c v):∀(i:Nat) c v,cs[i]?=some c->vs[i]?=some v->RC F' γ' c v:=
 fun i c v h1 h2=>Mr (aY2.1 hc c (aX0 h1)) (h i c v h1 h2)
theorem Ms{a:AV}{v:Value}(hc:lI a=true)(h:RV F γ a v):RV F' γ' a v:=by
 cases h with
 |one c v h=>exact .one _ _ (Mr hc h)
 |agg cs vs hs h=>exact .agg _ _ hs (P0 hc h)
 |tup l vs hs h=>
  refine .tup _ _ hs (fun i t v h1 h2=>?_)
  have ht:=aY2.1 hc t (aX0 h1);cases h i t v h1 h2 with
  |one c v h=>exact .one _ _ (Mr ht h)
  |agg cs vs hs h=>exact .agg _ _ hs (P0 ht h)
 |junk v=>simp[lI] at hc
theorem WR.callV{f:FuncId}{args:List aH}{cargs:List AV}{r:AV}(hgd:iY G st o.guard)(ha:o.ai=.call f args)(hac:QC P G f cargs r)(hr:lI r=true)
  (hargs:args.map (fun x=>vwA st.hp (aK G st.sl x))=cargs) (h:WR P G k rest R ⟨aQ st.sl o.dst r,st.hp⟩):WR P G k (o::rest) R st:=by
 refine WR.step hgd (fun F γ a w oper hc hd hi hs hg hk=>?_)
 rw[ha] at hc;obtain⟨c,hop,hcal,rfl,hok⟩:=A1 hc;obtain⟨dst,op,type,pos,after,guard⟩:=oper;simp only at hop;subst hop;have hv:=A2 (G:=G) hs hg c.args;have hv2:lP (iB w) [] cargs (c.args.map a.eval):=by
  rw[<- hargs];refine⟨by rw[hv.1];simp,fun i av v h1 h2=>?_⟩
  rw[aXI] at h1;obtain⟨x,hx,rfl⟩:=Option.map_eq_some_iff.1 h1;exact aDh hi (hv.2 i _ v (by rw[aXI,hx];rfl) h2)
 refine .inr ⟨f,c.args.map a.eval,?_,(hac (iB w) [] _ w (Fn w) (hg.sub (Bb hi)) hv2).mono ?_⟩;simp[execOp,resolve,hcal,Act.eval,Deferred.ofValue,invoke,kU hok];rintro e w' ⟨v,av,objs',F2,γ2,rfl,⟨rfl,rfl⟩,_,hE,hI,hR⟩;have hb:=uH hE;have hext:gU k F γ w F γ w':=⟨fun _ _ h=>h,hb.os,hb.tape,hb.output,hb.size,fun b hbl _=>hb.block b hbl,fun _ _ h=>.inl h,fun i b h=>.inl ⟨i,h⟩,fun _ _ _ h=>h⟩
 have hinv:dE F γ st.hp w':=⟨fun b ob h=>by rw[hb.block b (hi.fzlt h)];exact hi.fz b ob h,hi.len,hi.nd,hi.disj,fun i ob x h1 h2=>by
   have hok:=hi.ok i ob x h1 h2;exact hok.ext (fun _ _ h=>h) (fun _ _ h=>h) (fun b hb2=>hb.block b (hok.lt hb2))⟩
 exact⟨v,_,F,γ,rfl,h,hext,hinv,hs.put _ (Ms hr hR),hk⟩
theorem WR.callP{f:FuncId}{args:List aH}{cargs:List AV}{r:AV}(hgd:iY G st o.guard)(ha:o.ai=.call f args)(hac:QC P G f cargs r)(hr:lI r=true)
  (hargs:args.map (fun x=>vpA st.hp (aK G st.sl x))=cargs) (h:WR P G k rest R ⟨aQ st.sl o.dst r,st.hp⟩):WR P G k (o::rest) R st:=by
 refine WR.step hgd (fun F γ a w oper hc hd hi hs hg hk=>?_)
 rw[ha] at hc;obtain⟨c,hop,hcal,rfl,hok⟩:=A1 hc;obtain⟨dst,op,type,pos,after,guard⟩:=oper;simp only at hop;subst hop;have hv:=A2 (G:=G) hs hg c.args;have hv2:lP (iB w) [] cargs (c.args.map a.eval):=by
  rw[<- hargs];refine⟨by rw[hv.1];simp,fun i av v h1 h2=>?_⟩
  rw[aXI] at h1;obtain⟨x,hx,rfl⟩:=Option.map_eq_some_iff.1 h1;exact aDi hi (hv.2 i _ v (by rw[aXI,hx];rfl) h2)
 refine .inr ⟨f,c.args.map a.eval,?_,(hac (iB w) [] _ w (Fn w) (hg.sub (Bb hi)) hv2).mono ?_⟩;simp[execOp,resolve,hcal,Act.eval,Deferred.ofValue,invoke,kU hok];rintro e w' ⟨v,av,objs',F2,γ2,rfl,⟨rfl,rfl⟩,_,hE,hI,hR⟩;have hb:=uH hE;have hext:gU k F γ w F γ w':=⟨fun _ _ h=>h,hb.os,hb.tape,hb.output,hb.size,fun b hbl _=>hb.block b hbl,fun _ _ h=>.inl h,fun i b h=>.inl ⟨i,h⟩,fun _ _ _ h=>h⟩
 have hinv:dE F γ st.hp w':=⟨fun b ob h=>by rw[hb.block b (hi.fzlt h)];exact hi.fz b ob h,hi.len,hi.nd,hi.disj,fun i ob x h1 h2=>by
   have hok:=hi.ok i ob x h1 h2;exact hok.ext (fun _ _ h=>h) (fun _ _ h=>h) (fun b hb2=>hb.block b (hok.lt hb2))⟩
 exact⟨v,_,F,γ,rfl,h,hext,hinv,hs.put _ (Ms hr hR),hk⟩
theorem A4.viewP{f:FuncId}{avs cargs:List AV}{hp:List aC}{r:AV}(hac:QC P G f cargs r)(hr:lI r=true)(hargs:avs.map (vpA hp)=cargs):A4 P G k f avs hp (fun av os=>av=r/\os=[]):=by
 intro F γ w vs hi hg hk hv;have hi':dE F γ (⟨[],hp⟩:AS).hp w:=hi;have hv2:lP (iB w) [] cargs vs:=by
  rw[<- hargs];refine⟨by rw[hv.1];simp,fun i av v h1 h2=>?_⟩
  rw[aXI] at h1;obtain⟨x,hx,rfl⟩:=Option.map_eq_some_iff.1 h1;exact aDi hi' (hv.2 i x v hx h2)
 refine (hac (iB w) [] _ w (Fn w) (hg.sub (Bb hi')) hv2).mono ?_;rintro e w' ⟨v,av,objs',F2,γ2,rfl,⟨rfl,rfl⟩,_,hE,hI,hR⟩;have hb:=uH hE;refine⟨v,_,_,F,γ,rfl,⟨rfl,rfl⟩,⟨fun _ _ h=>h,hb.os,hb.tape,hb.output,hb.size,fun b hbl _=>hb.block b hbl,fun _ _ h=>.inl h,fun i b h=>.inl ⟨i,h⟩,fun _ _ _ h=>h⟩,?_,fun _ _ h=>h,Ms hr hR⟩
 rw[aYE];exact⟨fun b ob h=>by rw[hb.block b (hi.fzlt h)];exact hi.fz b ob h,hi.len,hi.nd,hi.disj,fun i ob x h1 h2=>by
     have hok:=hi.ok i ob x h1 h2;exact hok.ext (fun _ _ h=>h) (fun _ _ h=>h) (fun b hb2=>hb.block b (hok.lt hb2))⟩
theorem aHI:toD (.dc (.raw (.slice none 0 0)))=.dc (.slc []):=rfl
theorem aHJ{ds:List DC}:toD (.ref ds)=.dc (.ptr ds):=rfl
theorem aHK{es:List (List DC)}:toD (.dc (.slc es))=.dc (.slc es):=rfl
theorem aHL{es:List DC}:toD (.dc (.ptr es))=.dc (.ptr es):=rfl
theorem aHM{k:IntKind}{n:Int}:toD (.dc (.raw (.int k n)))=.dc (.raw (.int k n)):=rfl
theorem aDj{n:Bool}:toD (.dc (.raw (.bool n)))=.dc (.raw (.bool n)):=rfl
theorem aHN{n:ByteArray}:toD (.dc (.raw (.string n)))=.dc (.raw (.string n)):=rfl
theorem aM2:toD (.dc (.raw (.pointer none)))=.dc (.raw (.pointer none)):=rfl
end
attribute [go_sem] aHI aHJ aHK aHL aHM aDj aHN aM2
attribute [go_sem] vwM aAw vqP Hf aMV vwN aAv vpP fnV vp0 aDg vpC vpA Py vwA Wu lI tA aLK List.all_nil List.all_cons
end
section
section
variable {P:Program}{G:aE}{k:Nat}{st st':AS}{R:AS->Prop}{o:aN}{rest:List aN}
end
attribute [go_sem] aAl Ae aMP Tk kS dO
end
section
def S3(i j x:Nat):Nat:=bif nq x i then j else bif nq x j then i else x
def Jw{α:Type}(d:α)(l:List α)(i j:Nat):List α:=(l.set i (l.getD j d)).set j (l.getD i d)
def Ew(x:Nat×Nat)(st:AS):AS:=⟨st.sl.map (cY (S3 x.1 x.2)),(Jw .dead st.hp x.1 x.2).map (dC (S3 x.1 x.2))⟩
def prm:List (Nat×Nat)->AS->AS
 |[],st=>st
 |x::p,st=>prm p (Ew x st)
def pOK(n0 n:Nat)(p:List (Nat×Nat)):Prop:=∀x∈p,n0<=x.1/\n0<=x.2/\x.1<n/\x.2<n
theorem aDk(i j x:Nat):S3 i j x=if x=i then j else if x=j then i else x:=by
 unfold S3;rw[iM,iM];by_cases h:x=i;simp[h];rw[if_neg h,show (x==i)=false by simpa using h,cond_false];by_cases h':x=j;simp[h'];rw[if_neg h',show (x==j)=false by simpa using h',cond_false]
theorem Mt(i j x:Nat):S3 i j (S3 i j x)=x:=by
 simp only[aDk]
 repeat' split
 all_goals omega
theorem aHP{i j x n0:Nat}(hi:n0<=i)(hj:n0<=j)(hx:x<n0):S3 i j x=x:=by
 rw[aDk,if_neg (by omega),if_neg (by omega)]
theorem Hh{α:Type}(d:α)(l:List α)(i j:Nat):(Jw d l i j).length=l.length:=by simp[Jw]
theorem P1{α:Type}(d:α)(l:List α){i j:Nat}(hi:i<l.length)(hj:j<l.length)(x:Nat):(Jw d l i j)[x]?=l[S3 i j x]?:=by
 have g:∀y,y<l.length->l[y]?=some (l.getD y d):=fun y hy=>by rw[aXN,aXJ hy];rfl
 unfold Jw;rw[aDk];by_cases h2:x=i;rw[if_pos h2];subst h2;by_cases h1:j=x;subst h1;rw[aX7 (by simpa using hj),g j hj];rw[aXW h1,aX7 hi,g j hj];rw[if_neg h2];by_cases h1:x=j;rw[if_pos h1];subst h1;rw[aX7 (by simpa using hj),g i hi];rw[if_neg h1,aXW (Ne.symm h1),aXW (Ne.symm h2)]
theorem Hi(x:Nat×Nat)(st:AS):(Ew x st).hp.length=st.hp.length:=by simp[Ew,Hh]
theorem Wv:∀(p:List (Nat×Nat)) (st:AS),(prm p st).hp.length=st.hp.length
 |[],_=>rfl
 |x::p,st=>by rw[prm,Wv p,Hi]
theorem Ww:∀(p q:List (Nat×Nat)) (st:AS),prm (p++q) st=prm q (prm p st)
 |[],_,_=>rfl
 |x::p,q,st=>by rw[aYd,prm,prm,Ww p q]
theorem aAx(x:Nat×Nat)(st:AS):aD (Ew x st)=Ew x (aD st):=by
 have e:∀id,aP (st.hp.getD id .dead)=(st.hp.map aP).getD id .dead:=fun id=>(bI (hp:=st.hp) id).symm
 simp only[aD,Ew,Jw,aX1,aYa,Function.comp_apply,<- e,nP];congr 3;refine aXZ (fun o _=>?_)
 simp[nP]
theorem P2:∀(p:List (Nat×Nat)) (st:AS),aD (prm p st)=prm p (aD st)
 |[],_=>rfl
 |x::p,st=>by rw[prm,prm,P2 p,aAx]
theorem P3(st:AS):(aD st).hp.length=st.hp.length:=by simp[aD]
section
variable {P:Program}{G:aE}{k:Nat}{F F0:Fz}{γ γ0:List OI}{w w0:World}{a:Act}{st:AS}
theorem aHQ{x:Nat×Nat}{n0:Nat}(h1:n0<=x.1)(h2:n0<=x.2)(h3:x.1<st.hp.length)(h4:x.2<st.hp.length)(hk:k<=n0)(hE:gU k F0 γ0 w0 F γ w)(hi:dE F γ st.hp w)(hs:bV F γ st.sl a):
  ∃γ',gU k F0 γ0 w0 F γ' w/\dE F γ' (Ew x st).hp w/\bV F γ' (Ew x st).sl a/\γ'.length=γ.length:=by
 obtain⟨i,j⟩:=x;simp only at h1 h2 h3 h4;have hl:=hi.len;have hg:∀y,(Jw OI.dead γ i j)[y]?=γ[S3 i j y]?:=P1 _ _ (by omega) (by omega);have hb:∀y,bZ (Jw OI.dead γ i j) y=bZ γ (S3 i j y):=fun y=>by unfold bZ;rw[hg]
 have hgr:∀(id:Nat) (o:OI),γ[id]?=some o->(Jw OI.dead γ i j)[S3 i j id]?=some o:=fun id o h=>by rw[hg,Mt];exact h
 refine⟨Jw .dead γ i j,?_,?_,?_,Hh ..⟩;refine⟨hE.sub,hE.os,hE.tape,hE.output,hE.size,hE.far,hE.new,fun y b h=>hE.blk (S3 i j y) b (by rw[<- hb];exact h),fun y hy b h=>?_⟩
 rw[hg,aHP h1 h2 (by omega)];exact hE.box y hy b h;refine⟨hi.fz,by rw[Hh,Hi];exact hl,fun y z b hy hz=>?_,fun y b hy=>hi.disj (S3 i j y) b (by rw[<- hb];exact hy),fun y o x hy hx=>?_⟩
 have:=hi.nd (S3 i j y) (S3 i j z) b (by rw[<- hb];exact hy) (by rw[<- hb];exact hz);rw[<- Mt i j y,this,Mt];simp only[Ew,aXI,P1 _ _ h3 h4] at hy;rw[hg] at hx;cases ho:st.hp[S3 i j y]? with
 |none=>rw[ho] at hy;cases hy
 |some o'=>
  rw[ho] at hy;injection hy with hy;subst hy
  exact (hi.ok _ _ _ ho hx).ren hgr
 refine⟨hs.1,by simp[Ew];exact hs.2.1,fun y av v hy hv=>?_⟩
 simp only[Ew,aXI] at hy;cases ho:st.sl[y]? with
 |none=>rw[ho] at hy;cases hy
 |some o'=>
  rw[ho] at hy;injection hy with hy;subst hy
  exact (hs.2.2 y o' v ho hv).ren hgr
theorem aDl{n0:Nat}(hk:k<=n0):∀(p:List (Nat×Nat)) (st:AS) (γ:List OI),pOK n0 st.hp.length p->gU k F0 γ0 w0 F γ w->dE F γ st.hp w->bV F γ st.sl a->
  ∃γ',gU k F0 γ0 w0 F γ' w/\dE F γ' (prm p st).hp w/\bV F γ' (prm p st).sl a/\γ'.length=γ.length
 |[],st,γ,_,hE,hi,hs=>⟨γ,hE,hi,hs,rfl⟩
 | x::p,st,γ,hp,hE,hi,hs=>by
   obtain⟨h1,h2,h3,h4⟩:=hp x aXV;obtain⟨γ1,g1,g2,g3,g4⟩:=aHQ h1 h2 h3 h4 hk hE hi hs;obtain⟨γ2,e1,e2,e3,e4⟩:=aDl hk p (Ew x st) γ1 (fun y hy=>by rw[Hi];exact hp y (aX3 _ hy)) g1 g2 g3
   exact⟨γ2,e1,e2,e3,by rw[e4,g4]⟩
theorem AW.prm{x:dP}{Q:Exit->AS->Prop}(h:AW P G k x (fun e s=>∃p,pOK st.hp.length s.hp.length p/\Q e (prm p s)) st):AW P G k x Q st:=by
 intro c hc F γ a w hi hs hg hk QE hq;refine h c hc F γ a w hi hs hg hk QE (fun e a' w' F' γ' s' ⟨p,h1,h2⟩ q2 q3 q4 q5=>?_)
 obtain⟨γ2,e1,e2,e3,e4⟩:=aDl (by rw[<- hi.len];exact hk) p s' γ' h1 q2 q3 q4;exact hq e a' w' F' γ2 _ h2 e1 e2 e3 (by omega)
end
end
section
def aHR:aT->Bool
 |.bls _ _ _ _=>true
 |_=>false
def Wx:List aT->Bool
 |[]=>false
 |c::cs=>aHR c||Wx cs
def aQ6:TV->Bool
 |.one c=>aHR c
 |.agg cs=>Wx cs
def aDm:List TV->Bool
 |[]=>false
 |c::cs=>aQ6 c||aDm cs
def Tw:AV->Bool
 |.one c=>aHR c
 |.agg cs=>Wx cs
 |.tup l=>aDm l
 |.junk=>false
def bxD(n size:Nat):Option (List DC)->aT
 |some ds=>if ds.length=n*size then .dc (.slc (fE size n ds)) else .junk
 |none=>.junk
def bxC(id:Nat)(cs:List aT):aT->aT
 |.bls j k n s=>bif nq j id then bxD n s (dcs ((cs.drop (k*s)).take (n*s))) else .bls j k n s
 |c=>c
def bxT(id:Nat)(cs:List aT):TV->TV
 |.one c=>.one (bxC id cs c)
 |.agg l=>.agg (l.map (bxC id cs))
def bxV(id:Nat)(cs:List aT):AV->AV
 |.one c=>.one (bxC id cs c)
 |.agg l=>.agg (l.map (bxC id cs))
 |.tup l=>.tup (l.map (bxT id cs))
 |.junk=>.junk
def bxO(id:Nat)(cs:List aT):aC->aC
 |.box l=>.box (l.map (bxC id cs))
 |o=>o
def bxB(id:Nat)(cs:List aT)(st:AS):AS:=⟨st.sl.map fun v=>bD (fun x=>nq x id) (bxV id cs v),(st.hp.map fun o=>cJ (fun x=>nq x id) (bxO id cs o)).set id .dead⟩
def bx1(id:Nat)(st:AS):aC->Bool->AS
 |.box cs,true=>bxB id cs st
 |_,_=>st
def Bc(n:Nat):List Nat->AS->AS
 |[],st=>st
 |id::r,st=>Bc n r (bx1 id st (aI st.hp id) (decide (n<=id)))
def bxW(n:Nat)(ids:List Nat)(st:AS):Bool->AS
 |true=>Bc n ids st
 |false=>st
theorem aHS{cs:List aT}{ds:List DC}(h:dcs cs=some ds){j:Nat}{d:DC}(hd:ds[j]?=some d):cs[j]?=some (.dc d):=by
 rw[lY h];simp only[mD,aXI,hd,aXG]
theorem K3{size:Nat}:∀(n:Nat) (ds:List DC),ds.length=n*size->∀(i j:Nat) e d,(fE size n ds)[i]?=some e->e[j]?=some d->ds[i*size+j]?=some d/\i<n
 |0,ds,h,i,j,e,d,h1,_=>by simp[fE] at h1
 | n+1,ds,h,0,j,e,d,h1,h2=>by
   simp only[fE,List.getElem?_cons_zero,Option.some.injEq] at h1;subst h1;rw[aX2] at h2;split at h2
   · exact⟨by rw[Nat.zero_mul,aYi];exact h2,Nat.succ_pos _⟩
   · cases h2
 | n+1,ds,h,i+1,j,e,d,h1,h2=>by
   simp only[fE,aZa] at h1;have hl:(ds.drop size).length=n * size:=by rw[aXS,h,Nat.succ_mul];omega
   obtain⟨h3,h4⟩:=K3 n (ds.drop size) hl i j e d h1 h2;rw[aX9] at h3;exact⟨by rw[<- h3];congr 1;rw[Nat.succ_mul];omega,by omega⟩
section
variable {k:Nat}{as:AS}{F:Fz}{γ:List OI}{w:World}
theorem aQ8{F':Fz}{γ':List OI}{id b:Nat}{cs:List aT}(hi:dE F γ as.hp w)(hb:aI as.hp id=.box cs)(hgm:γ[id]?=some (.box b))(hs:F.sub F')(hg:∀(i:Nat) (o:OI),(nq i id)=false->γ[i]?=some o->γ'[i]?=some o)
  (hF:F' b=w.heap[b]?) {c:aT}{v:Value} (h:RC F γ c v):RC F' γ' (cG (fun x=>nq x id) (bxC id cs c)) v:=by
 have hx:=hi.ok id (.box cs) (.box b) (eG hb (by simp)) hgm;obtain⟨vs,T,⟨fz,hh,hnf⟩,hvs,hr⟩:=hx;by_cases hc:∃lo n s,c=.bls id lo n s;obtain⟨lo,n,s,rfl⟩:=hc;have hq:nq id id=true:=by rw[iM];simp
 simp only[bxC,hq,cond_true];cases hd:dcs ((cs.drop (lo*s)).take (n*s)) with
 |none=>exact .junk _ (by cases h;rfl)
 |some ds=>
  simp only[bxD];split;rename_i hl;obtain⟨c1,c2,c3⟩:=kH s n ds hl;have e2:cG (fun x=>nq x id) (.dc (.slc (fE s n ds)))=.dc (.slc (fE s n ds)):=by simp[cG,aT.keep]
  rw[e2];refine .dc _ _ ?_;cases h with
  |bls _ _ _ _ b' cap c off hgm' ho hcap=>
   have hbb:b'=b:=by
    rcases hgm' with hgm'|hgm';rw[hgm] at hgm';injection hgm' with hgm';cases hgm';rw[hgm] at hgm';injection hgm' with hgm';injection hgm' with hgm';exact hgm'.symm
   subst hbb;have key:∀(i j:Nat) e d,(fE s n ds)[i]?=some e->e[j]?=some d->∃u,vs[off+(i*s+j)]?=some u/\RD F d u:=by
    intro i j e d h1 h2;obtain⟨h3,h4⟩:=K3 n ds hl i j e d h1 h2;have h5:=aHS hd h3;rw[aX2] at h5;split at h5;rw[aX9] at h5;have ho':=ho (by omega);rw[<- ho'] at h5;have hlt:off+(i*s+j)<cs.length:=(List.getElem?_eq_some_iff.1 h5).1;have h6:vs[off+(i*s+j)]?=some (vs[off+(i*s+j)]'(by omega)):=aX8 (by omega);have h7:=hr _ _ _ h5 h6;refine⟨_,h6,?_⟩;cases h7 with
    |dc _ _ h=>exact h
    cases h5
   have:=RD.slc (F:=F') b' off c s (fE s n ds) (fun i j=>vs.toList.getD (off+(i * s+j)) undef) c2 (fun i j e d h1 h2=>by
       obtain⟨u,hu,hd⟩:=key i j e d h1 h2;simp only[aXN,aYy,hu,aYn];exact hd.mono hs) (fun i j e d h1 h2=>by
       obtain⟨u,hu,hd⟩:=key i j e d h1 h2;simp only[aXN,aYy,hu,aYn,Fz.cell?];rw[hF,hh];simpa using hu) (by rw[c3];exact hcap)
   rwa[c3] at this
  exact .junk _ (by cases h;rfl)
 have e1:bxC id cs c=c:=by
  cases c<;>try rfl
  rename_i j lo n s;simp only[bxC];cases hq:nq j id with
  |true=>
   rw[iM,beq_iff_eq] at hq;subst hq;exact absurd ⟨lo,n,s,rfl⟩ hc
  |false=>rfl
 rw[e1];exact h.kill hs hg
theorem Gh.bx{id:Nat}{cs:List aT}(hb:aI as.hp id=.box cs)(hkid:k<=id):Gh k as (bxB id cs as):=by
 intro F γ a w hi hs hk;have hho:=eG hb (by simp);have hlt:id<γ.length:=by rw[hi.len];exact aG hho
 have hx:γ[id]?=some (γ[id]'hlt):=aXJ hlt;generalize hxe:γ[id]'hlt=x at hx;have hok:=hi.ok id _ _ hho hx;cases x with
 |arr _ _=>exact hok.elim
 |dead=>exact hok.elim
 |box bl=>
 let F':Fz:=F.add w bl
 have hFb:F' bl=w.heap[bl]?:=by simp[F',Fz.add]
 have hFo:∀b',bl≠b'->F' b'=F b':=by
  intro b' hne;simp only[F',Fz.add];rw[if_neg (fun e=>hne e.symm)]
 have hsub:F.sub F':=by
  intro b o h;rw[hFo b (fun e=>by rw[hi.disj id b (bM hx (by rw[e];rfl))] at h;cases h)];exact h
 have hq:∀i:Nat,(nq i id)=false->i≠id:=fun i h e=>by rw[iM,e] at h;simp at h
 have hg:∀ (i:Nat) (o:OI),(nq i id)=false->γ[i]?=some o->(γ.set id .dead)[i]?=some o:=fun i o h1 h2=>by
   rw[aXW (Ne.symm (hq i h1))];exact h2
 have hb2:∀i b,bZ (γ.set id .dead) i=some b->i≠id/\bZ γ i=some b:=by
  intro i b h;obtain⟨y,hy,hyb⟩:=cU h;by_cases hii:id=i;subst hii;rw[aX7 hlt] at hy;injection hy with hy;subst hy
  simp[OI.blk] at hyb;rw[aXW hii] at hy;exact⟨Ne.symm hii,bM hy hyb⟩
 have frz:=fun {c:aT}{v:Value} (h:RC F γ c v)=>aQ8 (F':=F') (γ':=γ.set id .dead) hi hb hx hsub hg hFb h
 have frzs:∀ {l:List aT} {vs:Array Value},(∀ (i:Nat) c v,l[i]?=some c->vs[i]?=some v->RC F γ c v)->∀ (i:Nat) c v,((l.map (bxC id cs)).map (cG (fun x=>nq x id)))[i]?=some c->vs[i]?=some v->RC F' (γ.set id .dead) c v:=by
   intro l vs h i c v hc hv;rw[aX1,aXI] at hc;cases hci:l[i]? with
   | none=>simp[hci] at hc
   | some c0=>
     simp only[hci,aXG,Option.some.injEq,Function.comp] at hc;subst hc;exact frz (h i c0 v hci hv)
 refine⟨F',γ.set id .dead,⟨hsub,rfl,rfl,rfl,aXF _,fun _ _ _=>rfl,fun b o h=>?_,fun i b h=>.inl ⟨i,(hb2 i b h).2⟩,fun i hik b h=>?_⟩,
   ⟨fun b o h=>?_,by simp[bxB,hi.len],fun i j b h1 h2=>hi.nd i j b (hb2 i b h1).2 (hb2 j b h2).2,fun i b h=>?_,fun i o y h1 h2=>?_⟩, ?_,by simpa using hk⟩
 by_cases hxb:bl=b;exact .inr (.inr ⟨id,bM hx (by rw[hxb];rfl)⟩);rw[hFo b hxb] at h;exact .inl h;rw[aXW (by omega)];exact h;by_cases hxb:bl=b;subst hxb;rw[hFb] at h;exact h;rw[hFo b hxb] at h;exact hi.fz b o h;obtain⟨hne,hbb⟩:=hb2 i b h;rw[hFo b (fun e=>hne (hi.nd _ _ _ hbb (bM hx (by rw[e];rfl))))]
 exact hi.disj i b hbb;simp only[bxB] at h1;by_cases hii:id=i;subst hii;rw[aX7 hlt] at h2;rw[aX7 (by rw[aXC,<- hi.len];exact hlt)] at h1;injection h1 with h1;injection h2 with h2;subst h1;subst h2
 trivial;rw[aXW hii] at h1 h2;rw[aXI] at h1;cases ho:as.hp[i]? with
 |none=>simp[ho] at h1
 |some o0=>
  simp only[ho,aXG,Option.some.injEq] at h1;subst h1;have h3:=hi.ok i o0 y ho h2;cases o0 with
  |box l=>
   cases y with
   |box b=>
    obtain⟨vs,T,g1,g2,g3⟩:=h3;exact⟨vs,T,g1,by simpa[bxO] using g2,frzs g3⟩
   |arr _ _=>exact h3.elim
   |dead=>exact h3.elim
  |arr c2 s2 es2=>
   have:=h3.kill (p:=(fun x=>nq x id)) (F':=F') (γ':=γ.set id .dead) (w':=w) hsub hg (fun _ _=>rfl)
   exact this
  |dead=>
   have:=h3.kill (p:=(fun x=>nq x id)) (F':=F') (γ':=γ.set id .dead) (w':=w) hsub hg (fun _ _=>rfl)
   exact this
 refine⟨hs.1,by simpa[bxB] using hs.2.1,fun i av v h1 h2=>?_⟩
 simp only[bxB] at h1;rw[aXI] at h1;cases hsi:as.sl[i]? with
 |none=>simp[hsi] at h1
 |some av0=>
  simp only[hsi,aXG,Option.some.injEq] at h1;subst h1;have h3:=hs.2.2 i av0 v hsi h2;cases h3 with
  |one c v h=>exact .one _ _ (frz h)
  |agg l vs hsz h=>exact .agg _ _ (by simpa[bxV] using hsz) (frzs h)
  |tup l vs hsz h=>
   refine .tup _ _ (by simpa[bxV] using hsz) (fun i t v h1 h2=>?_)
   rw[aX1,aXI] at h1;obtain⟨t0,h4,rfl⟩:=Option.map_eq_some_iff.1 h1;cases h i t0 v h4 h2 with
   |one c v h=>exact .one _ _ (frz h)
   |agg l vs hsz h=>exact .agg _ _ (by simpa[bxT] using hsz) (frzs h)
  |junk v=>exact .junk v
theorem aAz{id:Nat}{cs:List aT}(o:aC):aP (bxO id cs o)=bxO id cs (aP o):=by cases o<;>rfl
theorem tC{n:Nat}(hk:k<=n):∀(ids:List Nat) (s:AS),∃s',Gh k s s'/\aD s'=Bc n ids (aD s)
 |[],s=>⟨s,Gh.refl,rfl⟩
 | id::r,s=>by
   simp only[Bc];have e:aI (aD s).hp id=aP (aI s.hp id):=bI (hp:=s.hp) id;rw[e];cases ho:aI s.hp id with
   | arr _ _ _=>exact tC hk r s
   | dead=>exact tC hk r s
   | box cs=>
     simp only[aP];by_cases hn:n<=id
     · rw[decide_eq_true hn]
       obtain⟨s',h1,h2⟩:=tC hk r (bxB id cs s);refine⟨s',(Gh.bx ho (by omega)).trans h1, ?_⟩;rw[h2];congr 1;simp only[bx1,bxB,aD,aYa,aX1,aP];congr 2;exact aXZ (fun o _=>by simp only[Function.comp_apply,nY,aAz])
     · rw[decide_eq_false hn]
       exact tC hk r s
theorem aM3{n:Nat}(hk:k<=n)(ids:List Nat)(s:AS)(b:Bool):∃s',Gh k s s'/\aD s'=bxW n ids (aD s) b:=by
 cases b with
 |true=>exact tC hk ids s
 |false=>exact⟨s,Gh.refl,rfl⟩
theorem pY(n:Nat):∀(ids:List Nat) (st:AS),(Bc n ids st).sl.length=st.sl.length/\(Bc n ids st).hp.length=st.hp.length
 |[],st=>⟨rfl,rfl⟩
 | id::r,st=>by
   simp only[Bc];cases aI st.hp id with
   | box cs=>
     cases decide (n<=id) with
     | true=>
       obtain⟨h1,h2⟩:=pY n r (bxB id cs st);exact⟨by rw[bx1,h1];simp[bxB],by rw[bx1,h2];simp[bxB]⟩
     | false=>exact pY n r st
   | arr _ _ _=>exact pY n r st
   | dead=>exact pY n r st
theorem Wy(n:Nat)(ids:List Nat)(st:AS)(b:Bool):(bxW n ids st b).sl.length=st.sl.length/\(bxW n ids st b).hp.length=st.hp.length:=by
 cases b with
 |true=>exact pY n ids st
 |false=>exact⟨rfl,rfl⟩
end
end
section
def bvC(id s len:Nat):aT->aT
 |.bld j n=>bif nq j id then (bif nq n len then .bls id 0 n s else .junk) else .bld j n
 |.ept j i z o=>bif nq j id then .ptr id (i*z+o) else .ept j i z o
 |.fn f caps=>cG (fun x=>nq x id) (.fn f caps)
 |.dc d=>.dc d
 |.ref cs=>.ref cs
 |.mpc es=>.mpc es
 |.junk=>.junk
 |.ptr j o=>.ptr j o
 |.bls j i z o=>.bls j i z o
def P4(id s len:Nat):List aT->List aT
 |[]=>[]
 |c::cs=>bvC id s len c::P4 id s len cs
def bvT(id s len:Nat):TV->TV
 |.one c=>.one (bvC id s len c)
 |.agg l=>.agg (P4 id s len l)
def bvV(id s len:Nat):AV->AV
 |.one c=>.one (bvC id s len c)
 |.agg l=>.agg (P4 id s len l)
 |.tup l=>.tup (l.map (bvT id s len))
 |.junk=>.junk
def bvS(id s len:Nat):List AV->List AV
 |[]=>[]
 |v::vs=>bvV id s len v::bvS id s len vs
def bvO(id s len:Nat):aC->aC
 |.box l=>.box (P4 id s len l)
 |.arr c z es=>.arr c z es
 |.dead=>.dead
def bvH(id s len:Nat):List aC->List aC
 |[]=>[]
 |o::os=>bvO id s len o::bvH id s len os
theorem Be(id s len:Nat):∀l,P4 id s len l=l.map (bvC id s len)
 |[]=>rfl
 |c::cs=>by rw[P4,Be id s len cs];rfl
theorem Tx(id s len:Nat):∀l,bvS id s len l=l.map (bvV id s len)
 |[]=>rfl
 |c::cs=>by rw[bvS,Tx id s len cs];rfl
theorem Mu(id s len:Nat):∀l,bvH id s len l=l.map (bvO id s len)
 |[]=>rfl
 |c::cs=>by rw[bvH,Mu id s len cs];rfl
def bvB(id s:Nat)(es:List (List DC))(st:AS):AS:=⟨bvS id s es.length st.sl,(bvH id s es.length st.hp).set id (.box (mD es.flatten))⟩
def bv1(id s:Nat)(es:List (List DC))(st:AS):Bool->AS
 |true=>bU [id] st
 |false=>bvB id s es st
def bvZ(id:Nat)(st:AS):aC->AS
 |.arr _ s es=>bv1 id s es st es.isEmpty
 |_=>st
def P5:List Nat->AS->AS
 |[],st=>st
 |id::r,st=>P5 r (bvZ id st (aI st.hp id))
theorem pZ{α:Type}{s:Nat}:∀(es:List (List α)),(∀e∈es,e.length=s)->es.flatten.length=es.length*s/\∀(m:Nat) d,es.flatten[m]?=some d->∃i j e,es[i]?=some e/\e[j]?=some d/\m=i*s+j
 |[],_=>⟨by simp,fun m d h=>by simp at h⟩
 | e::es,hs=>by
   obtain⟨h1,h2⟩:=pZ es (fun x hx=>hs x (aX3 _ hx))
   have he:=hs e (aXV ..);refine⟨by rw[aYA,aXD,h1,he,aXE,Nat.succ_mul,Nat.add_comm],fun m d h=>?_⟩
   rw[aYA] at h;by_cases hm:m < e.length
   · rw[aXU hm] at h
     exact⟨0,m,e,rfl,h,by simp⟩
   · rw[aXY (Nat.le_of_not_lt hm)] at h
     obtain⟨i,j,x,h3,h4,h5⟩:=h2 _ _ h;exact⟨i+1,j,x,h3,h4,by rw[Nat.succ_mul];omega⟩
section
variable {k:Nat}{as:AS}{F:Fz}{γ:List OI}{w:World}
theorem Gh.bv{id c s:Nat}{es:List (List DC)}(hb:aI as.hp id=.arr c s es)(hne:es.isEmpty=false):Gh k as (bvB id s es as):=by
 intro F γ a w hi hs hk;have hho:=eG hb (by simp);have hlt:id<γ.length:=by rw[hi.len];exact aG hho
 have hx:γ[id]?=some (γ[id]'hlt):=aXJ hlt;generalize hxe:γ[id]'hlt=x at hx;have hok:=hi.ok id _ _ hho hx;cases x with
 |box _=>exact hok.elim
 |dead=>exact hok.elim
 |arr b cap'=>
 cases b with
 |none=>
  obtain⟨_,_,h3⟩:=hok;subst h3;cases hne
 |some b=>
 obtain⟨hcap,hle,hes,ws,T,how,hws,hwr⟩:=hok;subst hcap;obtain⟨hfl,hfg⟩:=pZ es hes;have hg:∀ (i:Nat) (o:OI),(nq i id)=false->γ[i]?=some o->(γ.set id (.box b))[i]?=some o:=fun i o h1 h2=>by
   rw[iM] at h1;rw[aXW (fun e=>by rw[e] at h1;simp at h1)];exact h2
 have hgs:(γ.set id (.box b))[id]?=some (.box b):=aX7 hlt;have hblk:∀i b',bZ (γ.set id (.box b)) i=some b'->bZ γ i=some b':=by
  intro i b' h;obtain⟨y,hy,hyb⟩:=cU h;by_cases hii:id=i;subst hii;rw[hgs] at hy;injection hy with hy;subst hy
  exact bM hx hyb;rw[aXW hii] at hy;exact bM hy hyb
 have fz:∀{c:aT}{v:Value},RC F γ c v->RC F (γ.set id (.box b)) (bvC id s es.length c) v:=by
  intro c v h;have hq:∀i,nq i id=true->i=id:=fun i h=>by rw[iM] at h;simpa using h
  have key:c.keep (fun x=>nq x id)=true->RC F (γ.set id (.box b)) c v:=fun hk=>h.mono (fun _ _ h=>h) hg hk
  cases c with
  |dc d=>exact key rfl
  |ref cs=>exact key rfl
  |mpc e=>exact key rfl
  |junk=>exact key rfl
  |fn f caps=>exact RC.kill (fun _ _ h=>h) hg h
  |ptr j o=>
   refine key ?_;simp only[aT.keep,aYC];cases hj:nq j id with
   |false=>rfl
   |true=>
    cases h with|ptr _ _ b' hj'=>
    rw[hq j hj,hx] at hj';injection hj' with hj';cases hj'
  |bls j lo n z=>
   cases hj:nq j id with
   |false=>exact key (by simp[aT.keep,hj])
   |true=>
    cases h with|bls _ _ _ _ b' cap c off hgm ho hc=>
    rw[hq j hj] at hgm ⊢;refine .bls _ _ _ _ b' cap c off (.inr ?_) ho hc;rw[hgs];rcases hgm with hgm|hgm
    rw[hx] at hgm;injection hgm with hgm;injection hgm with h1 h2;injection h1 with h1;rw[h1]
    rw[hx] at hgm;injection hgm with hgm;cases hgm
  |ept j i z o=>
   simp only[bvC];cases hj:nq j id with
   |false=>exact key (by simp[aT.keep,hj])
   |true=>
    simp only[cond_true];cases h with|ept _ _ _ _ b' cap hgm=>
    rw[hq j hj,hx] at hgm;injection hgm with hgm;injection hgm with h1 h2;injection h1 with h1;subst h1
    exact .ptr _ _ _ hgs
  |bld j n=>
   simp only[bvC];cases hj:nq j id with
   |false=>exact key (by simp[aT.keep,hj])
   |true=>
    simp only[cond_true];cases hn:nq n es.length with
    |false=>exact .junk _ h.is1
    |true=>
     rw[iM] at hn;have hn':n=es.length:=by simpa using hn
     simp only[cond_true];cases h with
     |bldN _ cap hgm=>rw[hq j hj,hx] at hgm;injection hgm with hgm;cases hgm
     |bld _ _ b' cap hgm=>
      rw[hq j hj,hx] at hgm;injection hgm with hgm;injection hgm with h1 h2;injection h1 with h1;subst h1;subst h2
      exact .bls _ _ _ _ b cap' cap' 0 (.inr hgs) (fun _=>by simp) (by omega)
 have fzs:∀{l:List aT}{vs:Array Value},(∀(i:Nat) c v,l[i]?=some c->vs[i]?=some v->RC F γ c v)->∀(i:Nat) c v,(P4 id s es.length l)[i]?=some c->vs[i]?=some v->RC F (γ.set id (.box b)) c v:=by
  intro l vs h i c v hc hv;rw[Be,aXI] at hc;obtain⟨c0,h1,rfl⟩:=Option.map_eq_some_iff.1 hc;exact fz (h i c0 v h1 hv)
 refine⟨F,γ.set id (.box b),⟨fun _ _ h=>h,rfl,rfl,rfl,aXF _,fun _ _ _=>rfl,fun _ _ h=>.inl h,fun i b' h=>.inl ⟨i,hblk i b' h⟩,fun i _ b' h=>?_⟩,
   ⟨hi.fz,by simp[bvB,Mu,hi.len],fun i j b' h1 h2=>hi.nd i j b' (hblk i b' h1) (hblk j b' h2),fun i b' h=>hi.disj i b' (hblk i b' h),fun i o y h1 h2=>?_⟩, ?_,by simpa using hk⟩
 rw[aXW (fun e=>by rw[<- e,hx] at h;injection h with h;cases h)];exact h
 simp only[bvB,Mu] at h1;by_cases hii:id=i;subst hii;rw[hgs] at h2;rw[aX7 (by rw[aXC,<- hi.len];exact hlt)] at h1;injection h1 with h1;injection h2 with h2;subst h1;subst h2
 have hmul:es.length*s<=cap'*s:=aYD _ hle;refine⟨ws,T,how,by rw[hws];simp only[mD,aXC,hfl];exact hmul,fun m c v hc hv=>?_⟩
 simp only[mD,aXI] at hc;obtain⟨d,h3,rfl⟩:=Option.map_eq_some_iff.1 hc;obtain⟨i,j,e,h4,h5,rfl⟩:=hfg m d h3;exact .dc _ _ (hwr i j e d v h4 h5 hv);rw[aXW hii] at h1 h2;rw[aXI] at h1;obtain⟨o0,h3,rfl⟩:=Option.map_eq_some_iff.1 h1;have h4:=hi.ok i o0 y h3 h2;cases o0 with
 |box l=>
  cases y with
  |box b'=>
   obtain⟨vs,T',g1,g2,g3⟩:=h4;exact⟨vs,T',g1,by simpa[Be] using g2,fzs g3⟩
  |arr _ _=>exact h4.elim
  |dead=>exact h4.elim
 |arr c2 s2 es2=>
  cases y with
  |box b'=>exact h4.elim
  |arr b' c'=>cases b'<;>exact h4
  |dead=>exact h4.elim
 |dead=>
  cases y with
  |box b'=>exact h4.elim
  |arr b' c'=>cases b'<;>exact h4.elim
  |dead=>trivial
 refine⟨hs.1,by simpa[bvB,Tx] using hs.2.1,fun i av v h1 h2=>?_⟩
 simp only[bvB,Tx] at h1;rw[aXI] at h1;obtain⟨av0,h3,rfl⟩:=Option.map_eq_some_iff.1 h1;have h4:=hs.2.2 i av0 v h3 h2;cases h4 with
 |one c v h=>exact .one _ _ (fz h)
 |agg l vs hsz h=>exact .agg _ _ (by simpa[Be] using hsz) (fzs h)
 |tup l vs hsz h=>
  refine .tup _ _ (by simpa using hsz) (fun i t v h1 h2=>?_)
  rw[aXI] at h1;obtain⟨t0,h5,rfl⟩:=Option.map_eq_some_iff.1 h1;cases h i t0 v h5 h2 with
  |one c v h=>exact .one _ _ (fz h)
  |agg l vs hsz h=>exact .agg _ _ (by simpa[Be] using hsz) (fzs h)
 |junk v=>exact .junk v
theorem aAA{id s n:Nat}(o:aC):aP (bvO id s n o)=bvO id s n (aP o):=by cases o<;>rfl
theorem tD:∀(ids:List Nat) (s:AS),∃s',Gh k s s'/\aD s'=P5 ids (aD s)
 |[],s=>⟨s,Gh.refl,rfl⟩
 | id::r,s=>by
   simp only[P5];have e:aI (aD s).hp id=aP (aI s.hp id):=bI (hp:=s.hp) id;rw[e];cases ho:aI s.hp id with
   | box cs=>exact tD r s
   | dead=>exact tD r s
   | arr c z es=>
     simp only[aP,bvZ];cases hn:es.isEmpty with
     | true=>
       obtain⟨s1,g1,g2⟩:=fA (k:=k) [id] s;obtain⟨s',h1,h2⟩:=tD r s1;refine⟨s',g1.trans h1, ?_⟩;rw[h2,g2];rfl
     | false=>
       obtain⟨s',h1,h2⟩:=tD r (bvB id z es s);refine⟨s',(Gh.bv ho hn).trans h1, ?_⟩;rw[h2];congr 1;simp only[bv1,bvB,aD,Mu,aYa,aX1,aP];congr 2;exact aXZ (fun o _=>by simp only[Function.comp_apply,aAA])
end
end
section
inductive GH where
 |nil (d sz:Nat)
 |nilB (d j sz:Nat)
 |frz (d:Nat)
 |bv (d:Nat)
inductive HC where
 |skip|ret
 |exit (id:Nat)
 |region (ops:List aN)
 |regR (L:List Nat) (ops:List aN)
 |drawn (ops:List (Bool×aN))
 |drawnF (prs:List (Nat×Nat)) (ops:List aN)
 |drawnT (L:List Nat) (t:IT) (ops:List aN)
 |seq (a b:HC)
 |cond (c:aH) (a b:HC)
 |block (id:Nat) (a:HC)
 |loop (live:List Nat) (a:HC)
 |gh (g:GH) (a:HC)
 |trm (L:List Nat) (a:HC)
 |bad
def HC.er:HC->dP
 |.skip=>.skip
 |.ret=>.ret
 |.exit id=>.exit id
 |.region ops=>.region ops
 |.regR _ ops=>.region ops
 |.drawn ops=>.drawn ops
 |.drawnF prs ops=>.drawnF prs ops
 |.drawnT _ t ops=>.drawnT t ops
 |.seq a b=>.seq a.er b.er
 |.cond c a b=>.cond c a.er b.er
 |.block id a=>.block id a.er
 |.loop _ a=>.loop a.er
 |.gh _ a=>a.er
 |.trm _ a=>a.er
 |.bad=>.bad
abbrev Oo(d:Nat)(ai:AI):aN:=⟨some d,ai,none⟩
abbrev On(ai:AI):aN:=⟨none,ai,none⟩
abbrev Og(g:Nat)(b:Bool)(d:Nat)(ai:AI):aN:=⟨some d,ai,some (g,b)⟩
abbrev Qo(x:aN):Bool×aN:=(true,x)
abbrev Qe(x:aN):Bool×aN:=(false,x)
abbrev Ki(n:Int):aH:=.k (.int .i64 n)
abbrev Zi(n:Int):Value:=.int .i64 n
def ghN(d sz:Nat)(st:AS):AV->AS
 |.one (.dc (.raw (.slice none 0 0)))=>⟨st.sl.set d (.one (.bld st.hp.length 0)),st.hp++[.arr 0 sz []]⟩
 |_=>st
def aHT(id j sz:Nat)(cs:List aT)(st:AS):Option aT->AS
 |some (.dc (.raw (.slice none 0 0)))=>⟨st.sl,st.hp.set id (.box (cs.set j (.bld st.hp.length 0)))++[.arr 0 sz []]⟩
 |_=>st
def aHU(id j sz:Nat)(st:AS):aC->AS
 |.box cs=>aHT id j sz cs st cs[j]?
 |_=>st
def ghB(j sz:Nat)(st:AS):AV->AS
 |.one (.ptr id off)=>aHU id (off+j) sz st (aI st.hp id)
 |_=>st
def aM4:aT->List Nat
 |.bld id _=>[id]
 |_=>[]
def aDo:List aT->List Nat
 |[]=>[]
 |c::cs=>aM4 c++aDo cs
def aDp:AV->List Nat
 |.one c=>aM4 c
 |.agg cs=>aDo cs
 |_=>[]
def ghE:GH->AS->AS
 |.nil d sz,st=>ghN d sz st (st.sl.getD d .junk)
 |.nilB d j sz,st=>ghB j sz st (st.sl.getD d .junk)
 |.frz d,st=>bU (aDp (st.sl.getD d .junk)) st
 |.bv d,st=>P5 (aDp (st.sl.getD d .junk)) st
def gE(size:Nat):List (List DC)->Bool
 |[]=>true
 |e::es=>nq e.length size&&gE size es
def klC(id:Nat):aT->aT
 |.dc d=>.dc d
 |.ref cs=>.ref cs
 |.mpc es=>.mpc es
 |.junk=>.junk
 |.ptr j o=>bif nq j id then .junk else .ptr j o
 |.bld j n=>bif nq j id then .junk else .bld j n
 |.ept j i s o=>bif nq j id then .junk else .ept j i s o
 |.bls j i s o=>bif nq j id then .junk else .bls j i s o
 |.fn f caps=>cG (·==id) (.fn f caps)
def Tz(id:Nat):List aT->List aT
 |[]=>[]
 |c::cs=>klC id c::Tz id cs
def klV(id:Nat):AV->AV
 |.one c=>.one (klC id c)
 |.agg cs=>.agg (Tz id cs)
 |.tup l=>.tup (l.map (sG (·==id)))
 |.junk=>.junk
def klS(id:Nat):List AV->List AV
 |[]=>[]
 |v::vs=>klV id v::klS id vs
def klO(id:Nat):aC->aC
 |.box cs=>.box (Tz id cs)
 |.arr c s es=>.arr c s es
 |.dead=>.dead
def klH(id:Nat):List aC->List aC
 |[]=>[]
 |o::os=>klO id o::klH id os
def apB(d:Option Nat)(size bytes:Nat)(st:AS)(id n:Nat):aC->Option (List (List DC))->Option AS
 | .arr _ sz es,some news=>if sz=size/\n<=es.length/\gE size news=true/\(n+news.length) * bytes<=140737488355328 then
     some ⟨aQ (klS id st.sl) d (.one (.bld id (n+news.length))),(klH id st.hp).set id (.arr 0 size (es.take n++news))⟩ else none
 |_,_=>none
def apN(d:Option Nat)(size bytes:Nat)(st:AS):Option (List (List DC))->Option AS
 | some news=>if gE size news=true/\news.length * bytes<=140737488355328 then
     some ⟨aQ st.sl d (.one (.bld st.hp.length news.length)),klH st.hp.length st.hp++[.arr 0 size news]⟩ else none
 |none=>none
def apZ(d:Option Nat)(size bytes:Nat)(st:AS):AV->AV->Option AS
 |.one (.bld id n),x=>apB d size bytes st id n (aI st.hp id) (qS st.hp x)
 |.one (.dc (.raw (.slice none 0 0))),x=>apN d size bytes st (qS st.hp x)
 |_,_=>none
def T0:aT->Bool
 |.ptr _ _=>false
 |.ept _ _ _ _=>false
 |.bls _ _ _ _=>false
 |.fn _ caps=>caps.all Py
 |_=>true
def aDq:AV->Bool
 |.one c=>T0 c
 |.agg cs=>cs.all T0
 |.tup _=>false
 |.junk=>true
def qY(G:aE)(sl:List AV):List aH->Bool
 |[]=>true
 |x::xs=>aDq (aK G sl x)&&qY G sl xs
def Ex(G:aE)(st:AS):List aH->List AV
 |[]=>[]
 |x::xs=>Ev (vwA st.hp (aK G st.sl x))::Ex G st xs
def Bf(G:aE)(st:AS):List aH->List AV
 |[]=>[]
 |x::xs=>Ev (vpA st.hp (aK G st.sl x))::Bf G st xs
def jF(G:aE)(sl:List AV):List aH->List AV
 |[]=>[]
 |x::xs=>Ev (aK G sl x)::jF G sl xs
def lJ(G:aE)(sl:List AV):List aH->List Nat
 |[]=>[]
 |x::xs=>aDp (aK G sl x)++lJ G sl xs
def nwK(d:Option Nat)(st:AS):Option (AV×List aC)->Option AS
 |some (av,os)=>some ⟨aQ st.sl d (cY (cF [] st.hp.length) av),st.hp++os.map (dC (cF [] st.hp.length))⟩
 |none=>none
def T1(call:aO)(G:aE)(d:Option Nat)(f:FuncId)(xs:List aH)(st:AS):Option AS:=
 bif (jF G st.sl xs).all (cV fun _=>true) then nwK d st (call f (jF G st.sl xs) []) else none
def aM6:aC->Bool
 |.arr c _ _=>nq c 0
 |_=>true
def P6:List aC->Bool
 |[]=>true
 |o::os=>aM6 o&&P6 os
def dnK(d:Option Nat)(st:AS):Option (AV×List aC)->Option AS
 |some (av,os)=>bif P6 os then some ⟨aQ st.sl d (cY (cF [] st.hp.length) av),st.hp++os.map (dC (cF [] st.hp.length))⟩ else none
 |none=>none
def dnZ(call:aO)(G:aE)(d:Option Nat)(f:FuncId)(xs:List aH)(st:AS):Option AS:=
 bif (jF G st.sl xs).all (cV fun _=>true) then dnK d st (call f (jF G st.sl xs) []) else none
def vwK(call:aO)(G:aE)(d:Option Nat)(f:FuncId)(xs:List aH)(st:AS):Option (AV×List aC)->Option AS
 |some (av,[])=>bif lI av then some ⟨aQ st.sl d av,st.hp⟩ else T1 call G d f xs (bU (lJ G st.sl xs) st)
 |some (_,_::_)=>T1 call G d f xs (bU (lJ G st.sl xs) st)
 |none=>none
def kI(call:aO):aO:=fun f a hp=>call f (a.map Ev) hp
def clZ(call:aO)(G:aE)(d:Option Nat)(f:FuncId)(xs:List aH)(st:AS):Option AS:=
 bif qY G st.sl xs then vwK call G d f xs st (call f (Ex G st xs) [])
 else kG (kI call) d f (xs.map (aK G (bU (lJ G st.sl xs) st).sl)) (bU (lJ G st.sl xs) st)
def cvK(call:aO)(G:aE)(d:Option Nat)(xs:List aH)(st:AS):AV->Option AS
 |.one (.fn f caps)=>kG (kI call) d f (xs.map (aK G st.sl)++caps.map AV.one) st
 |_=>none
def cvZ(call:aO)(G:aE)(d:Option Nat)(x:aH)(xs:List aH)(st:AS):Option AS:=
 cvK call G d xs (bU (lJ G st.sl xs) st) (aK G (bU (lJ G st.sl xs) st).sl x)
def isT(t:Nat):aH->Bool
 |.t n=>nq n t
 |_=>false
def aM7(t:Nat):List aH->Bool
 |[]=>false
 |x::xs=>isT t x||aM7 t xs
def aLN(t:Nat):AI->Bool
 |.app _ _ _ _ x=>isT t x
 |.call _ xs=>aM7 t xs
 |_=>false
def aM8(t:Nat):List aN->Bool
 |[]=>false
 |o::l=>aLN t o.ai||aM8 t l
def aHW:Option Nat->List aN->Bool
 |some t,l=>aM8 t l
 |none,_=>false
def Hj(G:aE)(sl:List AV):List (Nat×aH)->List Nat
 |[]=>[]
 |(_,x)::ps=>aDp (aK G sl x)++Hj G sl ps
def bsP(st:AS)(d:Option Nat)(size len:Nat)(cs:List aT):Option (List DC)->Option AS
 |some ds=>if ds.length=len*size then some ⟨aQ st.sl d (.one (.bld st.hp.length len)),st.hp++[.arr 0 size (fE size len ds)]⟩ else none
 |none=>if size=1 then some ⟨aQ st.sl d (.one (.bls st.hp.length 0 len 1)),st.hp++[.box cs]⟩ else none
def bsO(G:aE)(st:AS)(d:Option Nat)(size len:Nat)(z:List Value)(ps:List (Nat×aH)):Option AS:=
 (gX (zs z (len*size)) (ps.map fun (j,x)=>(j*size,size,aK G st.sl x))).bind fun cs=>bsP st d size len cs (dcs cs)
def bsZ(G:aE)(st:AS)(d:Option Nat)(size len:Nat)(z:List Value)(ps:List (Nat×aH)):Bool->Option AS
 |true=>bsX G (bU (Hj G st.sl ps) st) d size len z ps
 |false=>bsO G (bU (Hj G st.sl ps) st) d size len z ps
def mkK(d:Option Nat)(size bytes:Nat)(zero:List Value)(st:AS):Option Int->Option Int->Option AS
 |some (.ofNat n),some (.ofNat m)=>if n<=m/\m*bytes<=140737488355328 then some ⟨aQ st.sl d (.one (.bld st.hp.length n)),st.hp++[.arr 0 size (List.replicate n (zero.map DC.raw))]⟩ else none
 |_,_=>none
def mkZ(G:aE)(st:AS)(d:Option Nat)(size bytes:Nat)(zero:List Value)(l c:aH):Option AS:=mkK d size bytes zero st (bH (aK G st.sl l)) (bH (aK G st.sl c))
def aRg(d:Option Nat)(st:AS)(id k n size:Nat)(cs:List aT):List Value->Option AS
 |[v]=>if size=1/\0<n/\k+n<=cs.length then some ⟨aQ st.sl d (.tup []),st.hp.set id (.box (cQ cs k (List.replicate n (dA v))))⟩ else none
 |_=>none
def T2(d:Option Nat)(st:AS)(id k n size:Nat)(zero:List Value):aC->Option AS
 |.arr _ s es=>if s=size/\k+n<=es.length then some ⟨aQ st.sl d (.tup []),st.hp.set id (.arr 0 size (O5 es k n (zero.map DC.raw)))⟩ else none
 |.box cs=>aRg d st id k n size cs zero
 |_=>none
def aNa(d:Option Nat)(size:Nat)(zero:List Value)(st:AS):AV->Option AS
 |.one (.bls id k n s)=>if s=size then T2 d st id k n size zero (aI st.hp id) else none
 |.one (.bld id n)=>T2 d st id 0 n size zero (aI st.hp id)
 |_=>none
def aAC(G:aE)(st:AS)(d:Option Nat)(size:Nat)(zero:List Value)(x:aH):Option AS:=aNa d size zero st (aK G st.sl x)
def aDr(d:Option Nat)(st:AS)(id lo n:Nat)(s:ByteArray):aC->Option AS
 |.box cs=>if lo+n<=cs.length then some ⟨aQ st.sl d (dG (.int .i64 (min s.size n:Nat))),st.hp.set id (.box (cQ cs lo (dZ (s.data.toList.take n))))⟩ else none
 |.arr _ z es=>if z=1/\lo+n<=es.length then some ⟨aQ st.sl d (dG (.int .i64 (min s.size n:Nat))),st.hp.set id (.arr 0 1 (O9 es lo (s.data.toList.take n)))⟩ else none
 |_=>none
def aNb(d:Option Nat)(st:AS):AV->Option ByteArray->Option AS
 |.one (.bls id lo n z),some s=>if z=1 then aDr d st id lo n s (aI st.hp id) else none
 |_,_=>none
def aAD(G:aE)(st:AS)(d:Option Nat)(x y:aH):Option AS:=aNb d st (aK G st.sl x) (dB (aK G st.sl y))
def aRh(d:Option Nat)(st:AS):Option ByteArray->Option AS
 |some s=>some ⟨aQ st.sl d (.one (.dc (.slc (gD s)))),st.hp⟩
 |none=>none
def aAE(G:aE)(st:AS)(d:Option Nat)(x:aH):Option AS:=aRh d st (dB (aK G st.sl x))
def aHX(d:Option Nat)(st:AS):Option ByteArray->Option AS
 |some s=>some ⟨aQ st.sl d (.one (.bld st.hp.length s.size)),st.hp++[.arr 0 1 (gD s)]⟩
 |none=>none
def mbK(d:Option Nat)(size bytes:Nat)(st:AS):List Value->Option Int->Option Int->Option AS
 |[v],some (.ofNat n),some (.ofNat m)=>if size=1/\n<=m/\m*bytes<=140737488355328 then some ⟨aQ st.sl d (.one (.bls st.hp.length 0 n 1)),st.hp++[.box (List.replicate m (dA v))]⟩ else none
 |_,_,_=>none
def lK(call:aO)(G:aE)(st:AS)(l:List aN)(d:Option Nat):AI->Option AS
 |.call f xs=>clZ call G d f xs st
 |.callv x xs=>cvZ call G d x xs st
 |.app size bytes _ s x=>apZ d size bytes st (aK G st.sl s) (aK G st.sl x)
 |.bslc size len z ps=>bsZ G st d size len z ps (aHW d l)
 |.apps _ _=>none
 |.mk size bytes z x y=>mkZ G st d size bytes z x y
 |.clr size z x=>aAC G st d size z x
 |.cpys x y=>aAD G st d x y
 |.cvsb x=>aAE G st d x
 |ai=>Fo G st d ai
def guZ(call:aO)(G:aE)(st:AS)(l:List aN)(d:Option Nat)(ai:AI):Option Bool->Option AS
 |some true=>lK call G st l d ai
 |some false=>some ⟨aQ st.sl d (.tup []),st.hp⟩
 |none=>none
def T4(call:aO)(G:aE)(st:AS)(l:List aN)(d:Option Nat)(ai:AI):Option (Nat×Bool)->Option AS
 |none=>lK call G st l d ai
 |some (g,b)=>guZ call G st l d ai (gK b (aK G st.sl (.t g)))
def evR(call:aO)(G:aE):List aN->Option AS->Option AS
 |_,none=>none
 |[],some st=>some st
 |o::l,some st=>evR call G l (T4 call G st l o.dst o.ai o.guard)
def Mv:List Nat->Nat->Bool
 |[],_=>false
 |x::L,n=>nq n x||Mv L n
def jU(L:List Nat):AI->Option (Nat×Bool)->Bool
 |.call f _,none=>Mv L f
 |.mk _ _ _ _ _,none=>Mv L 0
 |.cvsb _,none=>Mv L 1
 |_,_=>false
def vpK(d:Option Nat)(st:AS):Option (AV×List aC)->Option AS
 |some (av,[])=>bif lI av then some ⟨aQ st.sl d av,st.hp⟩ else none
 |some (_,_::_)=>none
 |none=>none
def aDs(call:aO)(G:aE)(st:AS)(d:Option Nat)(f:FuncId)(xs:List aH):Bool->Option AS
 |true=>vpK d st (call f (Bf G st xs) [])
 |false=>kG (kI call) d f (xs.map (aK G st.sl)) st
def P7(call:aO)(G:aE)(L:List Nat)(st:AS)(d:Option Nat):AI->Option AS
 |.call f xs=>aDs call G st d f xs (Mv L (f+100000))
 |.mk size bytes z x y=>mbK d size bytes st z (bH (aK G st.sl x)) (bH (aK G st.sl y))
 |.cvsb x=>aHX d st (dB (aK G st.sl x))
 |_=>none
def Hk(call:aO)(G:aE)(L:List Nat)(st:AS)(l:List aN)(d:Option Nat)(ai:AI)(g:Option (Nat×Bool)):Bool->Option AS
 |true=>P7 call G L st d ai
 |false=>T4 call G st l d ai g
def Ey(call:aO)(G:aE)(L:List Nat):List aN->Option AS->Option AS
 |_,none=>none
 |[],some st=>some st
 |o::l,some st=>Ey call G L l (Hk call G L st l o.dst o.ai o.guard (jU L o.ai o.guard))
open Classical in
noncomputable def Eb(n0:Nat)(a b:Option AS):Option AS:=if ∃s s' p,a=some s/\b=some s'/\pOK n0 s'.hp.length p/\prm p s'=s then a else none
noncomputable def Ec(call:aO)(G:aE)(L:List Nat)(n0:Nat)(ops:List aN):IT->Option AS->Option AS
 |_,none=>none
 |.nil,some st=>some st
 |.st i t,some st=>Ec call G L n0 ops t (Hk call G L st ops (gY ops i).dst (gY ops i).ai (gY ops i).guard (jU L (gY ops i).ai (gY ops i).guard))
 | .br i t r,some st=>match Mh r with
   | true=>Ec call G L n0 ops t (Hk call G L st ops (gY ops i).dst (gY ops i).ai (gY ops i).guard (jU L (gY ops i).ai (gY ops i).guard))
   | false=>Eb n0 (Ec call G L n0 ops t (Hk call G L st ops (gY ops i).dst (gY ops i).ai (gY ops i).guard (jU L (gY ops i).ai (gY ops i).guard))) (Ec call G L n0 ops r (some st))
 |.stop,some _=>none
def qcF(d:Option Nat)(st:AS)(v:AV):Option AS:=bif cV (fun _=>true) v then some ⟨aQ st.sl d v,st.hp⟩ else none
def qcK(d:Option Nat)(st:AS):Option (AV×List aC)->Option AS
 |some (av,[])=>bif cV (fun _=>true) av then some ⟨aQ st.sl d av,st.hp⟩ else none
 |some (av,o::os)=>qcF d st (bD (fun id=>decide (0<=id)) ((bU (jE av) ⟨[av],o::os⟩).sl.getD 0 .junk))
 |none=>none
def Bg(call:aO)(G:aE)(st:AS)(d:Option Nat):AI->Option AS
 |.call f xs=>bif (jF G st.sl xs).all (cV fun _=>true) then qcK d st (call f (jF G st.sl xs) []) else none
 |ai=>fX st d (evX G st.sl (Md ai st.hp) ai)
def dvK(call:aO)(G:aE)(d:Option Nat)(f:FuncId)(xs:List aH)(st:AS):Option (AV×List aC)->Option AS
 |some (av,[])=>bif lI av then some ⟨aQ st.sl d av,st.hp⟩ else dnZ call G d f xs st
 |some (_,_::_)=>dnZ call G d f xs st
 |none=>none
def ldZ(call:aO)(G:aE)(st:AS)(d:Option Nat):AI->Option AS
 |.call f xs=>dvK call G d f xs st (call f (Bf G st xs) [])
 |.callv x xs=>cvZ call G d x xs st
 |.app size bytes _ s x=>apZ d size bytes st (aK G st.sl s) (aK G st.sl x)
 |.bslc size len z ps=>bsO G st d size len z ps
 |.mk size bytes z x y=>mkZ G st d size bytes z x y
 |.clr size z x=>aAC G st d size z x
 |.cpys x y=>aAD G st d x y
 |.cvsb x=>aAE G st d x
 |.alloc z=>Fo G st d (.alloc z)
 |.box x=>Fo G st d (.box x)
 |.store size x v=>Fo G st d (.store size x v)
 |_=>none
def drZ(call:aO)(G:aE)(st:AS)(d:Option Nat)(ai:AI):Bool->Option AS
 |true=>Bg call G st d ai
 |false=>ldZ call G st d ai
def aAH(call:aO)(G:aE)(st:AS)(q:Bool)(d:Option Nat)(ai:AI):Option Bool->Option AS
 |some true=>drZ call G st d ai q
 |some false=>some ⟨aQ st.sl d (.tup []),st.hp⟩
 |none=>none
def drO(call:aO)(G:aE)(st:AS)(q:Bool)(d:Option Nat)(ai:AI):Option (Nat×Bool)->Option AS
 |none=>drZ call G st d ai q
 |some (g,b)=>aAH call G st q d ai (gK b (aK G st.sl (.t g)))
def Ez(call:aO)(G:aE):List (Bool×aN)->Option AS->Option AS
 |_,none=>none
 |[],some st=>some st
 |o::l,some st=>Ez call G l (drO call G st o.1 o.2.dst o.2.ai o.2.guard)
def aAI:AI->Bool
 |.alloc _=>true
 |_=>false
def nAl:List aN->Nat
 |[]=>0
 |o::l=>bif aAI o.ai then nAl l+1 else nAl l
def Bh:Nat->List aC
 |0=>[]
 |n+1=>.dead::Bh n
abbrev FP:=List Nat×List Nat
def fpA(G:aE)(sl:List AV):List aH->List Nat
 |[]=>[]
 |x::xs=>Oq (aK G sl x)++fpA G sl xs
def fvN(d:Option Nat)(r:Nat)(z:List Value)(st:AS):Option aC->Option (AS×FP)
 |some .dead=>some (⟨aQ st.sl d (.one (.ptr r 0)),st.hp.set r (.box (z.map dA))⟩,[r],[])
 |_=>none
def fvT(size id off:Nat)(vs:List aT)(st:AS):Option aC->Option (AS×FP)
 |some (.box cs)=>if vs.length=size/\off+size<=cs.length then some (⟨st.sl,st.hp.set id (.box (cQ cs off vs))⟩,[id],[id]) else none
 |_=>none
def fvS(d:Option Nat)(size:Nat)(st:AS):AV->Option (List aT)->Option (AS×FP)
 | .one (.ptr id off),some vs=>match d with
   | none=>fvT size id off vs st st.hp[id]?
   | some _=>none
 |_,_=>none
def S4(R:List Nat):Option AS->Option (AS×FP)
 |some s=>some (s,[],R)
 |none=>none
def aHY(d:Option Nat)(id lo n:Nat)(bs:ByteArray)(st:AS):Option aC->Option (AS×FP)
 |some (.box cs)=>if lo+n<=cs.length then some (⟨aQ st.sl d (dG (.int .i64 (min bs.size n:Nat))),st.hp.set id (.box (cQ cs lo (dZ (bs.data.toList.take n))))⟩,[id],[id]) else none
 |_=>none
def fvY(d:Option Nat)(st:AS):AV->Option ByteArray->Option (AS×FP)
 |.one (.bls id lo n z),some bs=>if z=1 then aHY d id lo n bs st st.hp[id]? else none
 |_,_=>none
def aDt(d:Option Nat)(id:Nat)(st:AS):Option (AV×List aC)->Option (AS×FP)
 |some (.tup [],[.box cs])=>bif keepL (fun _=>true) cs then some (⟨aQ st.sl d (.tup []),st.hp.set id (.box cs)⟩,[id],[id]) else none
 |_=>none
def fvB(call:aO)(d:Option Nat)(f:FuncId)(st:AS)(avs:List AV)(id:Nat):Option aC->Option (AS×FP)
 |some (.box cs)=>bif keepL (fun _=>true) cs&&avs.all (cV (kF [id])) then aDt d id st (kI call f (avs.map (cY (lE [id]))) [.box cs]) else none
 |_=>none
def fvC(call:aO)(G:aE)(st:AS)(d:Option Nat)(f:FuncId)(xs:List aH):List Nat->Option (AS×FP)
 |[]=>S4 [] (Bg call G st d (.call f xs))
 |[id]=>fvB call d f st (xs.map (aK G st.sl)) id st.hp[id]?
 |_=>none
def fvL:Nat->Option AS->Option (AS×FP)
 |0,_=>none
 |_+1,s=>S4 [] s
def Jx(call:aO)(G:aE)(st:AS)(d:Option Nat)(r:Nat):AI->Option (AS×FP)
 |.alloc z=>fvN d r z st st.hp[r]?
 |.store size x v=>fvS d size st (aK G st.sl x) (cellsOf (aK G st.sl v))
 |.cpys x y=>fvY d st (aK G st.sl x) (dB (aK G st.sl y))
 |.call f xs=>fvC call G st d f xs ((xs.map (aK G st.sl)).flatMap jE)
 |.bslc size len z ps=>fvL len (bsX G st d size len z ps)
 |ai=>bif ai.isPure then S4 (fpA G st.sl (bA ai)) (lK call G st [] d ai) else none
def fvG(call:aO)(G:aE)(st:AS)(d:Option Nat)(r:Nat)(ai:AI):Option Bool->Option (AS×FP)
 |some true=>Jx call G st d r ai
 |some false=>some (⟨aQ st.sl d (.tup []),st.hp⟩,[],[])
 |none=>none
def fvO(call:aO)(G:aE)(st:AS)(d:Option Nat)(r:Nat)(ai:AI):Option (Nat×Bool)->Option (AS×FP)
 |none=>Jx call G st d r ai
 |some (g,b)=>fvG call G st d r ai (gK b (aK G st.sl (.t g)))
def P8:List Nat->Nat->Bool
 |[],_=>false
 |x::L,n=>nq n x||P8 L n
def E0:List Nat->List Nat->Bool
 |[],_=>true
 |x::a,b=>!P8 b x&&E0 a b
def dsM:FP->FP->Bool
 |(w,r),(w',r')=>E0 w r'&&(E0 w w'&&E0 w' r)
def atF:List FP->Nat->FP
 |[],_=>([],[])
 |f::_,0=>f
 |_::fs,n+1=>atF fs n
def Jy:List (Nat×Nat)->List FP->Bool
 |[],_=>true
 |(p,q)::prs,fs=>dsM (atF fs p) (atF fs q)&&Jy prs fs
def T5(call:aO)(G:aE)(prs:List (Nat×Nat)):List FP->Nat->List aN->Option AS->Option AS
 |_,_,_,none=>none
 |acc,_,[],some st=>bif Jy prs acc then some st else none
 | acc,r,o::l,some st=>match fvO call G st o.dst r o.ai o.guard with
   | some (s,f)=>T5 call G prs (acc++[f]) (bif aAI o.ai then r+1 else r) l (some s)
   | none=>none
def ctC(m:Nat):aT->aT
 |.dc d=>.dc d
 |.ref cs=>.ref cs
 |.mpc es=>.mpc es
 |.junk=>.junk
 |.ptr j o=>if m<=j then .junk else .ptr j o
 |.bld j n=>if m<=j then .junk else .bld j n
 |.ept j i s o=>if m<=j then .junk else .ept j i s o
 |.bls j i s o=>if m<=j then .junk else .bls j i s o
 |.fn f caps=>cG (fun id=>decide (m<=id)) (.fn f caps)
def Jz(m:Nat):List aT->List aT
 |[]=>[]
 |c::cs=>ctC m c::Jz m cs
def ctV(m:Nat):AV->AV
 |.one c=>.one (ctC m c)
 |.agg cs=>.agg (Jz m cs)
 |.tup l=>.tup (l.map (sG fun id=>decide (m<=id)))
 |.junk=>.junk
def ctO(m:Nat):aC->aC
 |.box cs=>.box (Jz m cs)
 |.arr c s es=>.arr c s es
 |.dead=>.dead
def ctH(m:Nat):Nat->List aC->List aC
 |0,_=>[]
 |_+1,[]=>[]
 |n+1,o::os=>ctO m o::ctH m n os
def ctS(m:Nat):List Nat->List AV->List AV
 |_,[]=>[]
 |[],_::xs=>.junk::ctS m [] xs
 |0::L,x::xs=>ctV m x::ctS m L xs
 |(n+1)::L,_::xs=>.junk::ctS m (n::L) xs
def jY(L:List Nat)(m:Nat)(st:AS):AS:=⟨ctS m L st.sl,ctH m m st.hp⟩
def Jr(run:AS->Option (Exit×AS))(L:List Nat)(m:Nat):Nat->AS->Option (Exit×AS)
 |0,_=>none
 | n+1,st=>match run st with
   | some (.normal,s)=>Jr run L m n (jY L m s)
   | r=>r
open Classical in
noncomputable def lim{α:Type}(f:Nat->Option α):Option α:=if h:∃n r,f n=some r then f h.choose else none
noncomputable def zU(run:AS->Option (Exit×AS))(L:List Nat)(m:Nat)(st:AS):Option (Exit×AS):=lim fun n=>Jr run L m n st
def nrm:Option AS->Option (Exit×AS)
 |some s=>some (.normal,s)
 |none=>none
def aHZ(id:Nat)(s:AS):Exit->Option (Exit×AS)
 |.exit id'=>if id'=id then some (.normal,s) else some (.exit id',s)
 |e=>some (e,s)
def Hl(id:Nat):Option (Exit×AS)->Option (Exit×AS)
 |some (e,s)=>aHZ id s e
 |none=>none
noncomputable def EC(call:aO)(G:aE):HC->AS->Option (Exit×AS)
 |.skip,st=>some (.normal,st)
 |.ret,st=>some (.ret,st)
 |.exit id,st=>some (.exit id,st)
 |.region ops,st=>nrm (evR call G ops (some st))
 |.regR L ops,st=>nrm (Ey call G L ops (some st))
 |.drawn ops,st=>nrm (Ez call G ops (some st))
 |.drawnF prs ops,st=>nrm (T5 call G prs [] st.hp.length ops (some ⟨st.sl,st.hp++Bh (nAl ops)⟩))
 |.drawnT L t ops,st=>nrm (Ec call G L st.hp.length ops t (some st))
 | .seq a b,st=>match EC call G a st with
   | some (.normal,s)=>EC call G b s
   | r=>r
 | .cond c a b,st=>match cH (aK G st.sl c) with
   | some true=>EC call G a st
   | some false=>EC call G b st
   | none=>none
 |.block id a,st=>Hl id (EC call G a st)
 |.loop L a,st=>zU (EC call G a) L st.hp.length (jY L st.hp.length st)
 |.gh g a,st=>EC call G a (ghE g st)
 |.trm L a,st=>EC call G a (jY L st.hp.length st)
 |.bad,_=>none
structure HF where
 code:HC
 rs:List kQ
 nt:Nat
 own:Bool
structure HT where
 tab:FuncId->Option HF
 base:aO
def aNe(own:Bool)(n:Nat)(hp:List aC)(v:AV):AV×List aC:=
 bif own then
  (bif cV (fun id=>decide (n<=id)) v&&(hp.take n).all (nX fun id=>decide (n<=id)) then (Ev v,hp.take n) else (Ev v,hp))
 else (Ev (bD (fun id=>decide (n<=id)) ((bU (jE v) (bxW n (jE v) ⟨[v],hp⟩ (Tw v))).sl.getD 0 .junk)),((bU (jE v) (bxW n (jE v) ⟨[v],hp⟩ (Tw v))).hp.take n).map (cJ fun id=>decide (n<=id)))
def T6(own:Bool)(n:Nat)(hp:List aC):Option AV->Option (AV×List aC)
 |some v=>some (aNe own n hp v)
 |none=>none
def C8(own:Bool)(rs:List kQ)(n:Nat):Option (Exit×AS)->Option (AV×List aC)
 |some (e,s)=>if Kv e=true/\n<=s.hp.length then T6 own n s.hp (rW s rs) else none
 |none=>none
noncomputable def T7(call:aO)(G:aE)(h:HF)(args:List AV)(hp:List aC):Option (AV×List aC):=
 C8 h.own h.rs hp.length (EC call G h.code ⟨args++rS (h.nt-args.length),hp⟩)
noncomputable def callN(G:aE)(T:HT):Nat->aO
 |0,_,_,_=>none
 | n+1,f,args,hp=>match T.tab f with
   | some h=>T7 (callN G T n) G h args hp
   | none=>T.base f args hp
noncomputable def EV(G:aE)(T:HT):aO:=fun f args hp=>lim fun n=>callN G T n f args hp
end
end Go.Proofs.YthepfneloomngaaGreatDoor
