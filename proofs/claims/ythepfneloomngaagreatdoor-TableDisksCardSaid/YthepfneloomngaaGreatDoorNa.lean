/- Codes with hints, and an evaluator of them whose steps are equations. Conditions: none. -/
import Derived.Test.YthepfneloomngaaGreatDoorMb
namespace Go.Proofs.YthepfneloomngaaGreatDoor
set_option linter.unusedSimpArgs false
set_option linter.unusedVariables false
section
def Nt:aR->Bool
  | .dc _=>true
  | .ref _=>true
  | .mpc _=>true
  | _=>false
def Vb(hp:List aD):aR->aR
  | .bld id n=>match aI hp id with
    | .arr _ _ es=>if n<=es.length then .dc (.slc (es.take n)) else .junk
    | _=>.junk
  | .dc d=>.dc d
  | .ref ds=>.ref ds
  | .mpc es=>.mpc es
  | .fn f caps=>bif caps.all Nt then .fn f caps else .junk
  | _=>.junk
def vwA(hp:List aD):AV->AV
  | .one c=>.one (Vb hp c)
  | .agg cs=>.agg (cs.map (Vb hp))
  | .tup _=>.junk
  | .junk=>.junk
def Fs:List aR->Option (List DC)
  | []=>some []
  | .dc d::cs=>(Fs cs).map (d::·)
  | _=>none
def aLw:Option (List DC)->aR
  | some ds=>.ref ds
  | none=>.junk
def toD:aR->aR
  | .dc (.raw (.slice none 0 0))=>.dc (.slc [])
  | .ref ds=>.dc (.ptr ds)
  | c=>c
def vwN(hp:List aD)(c:aR):aR:=toD (Vb hp c)
def Y2(hp:List aD):List aR->List aR
  | []=>[]
  | c::cs=>vwN hp c::Y2 hp cs
def vpP(hp:List aD)(off:Nat):aD->aR
  | .box cs=>aLw (Fs (Y2 hp (cs.drop off)))
  | _=>.junk
def vwM(hp:List aD):aR->aR
  | .ptr id off=>toD (vpP hp off (aI hp id))
  | .bld id n=>vwN hp (.bld id n)
  | .dc d=>vwN hp (.dc d)
  | .ref ds=>.dc (.ptr ds)
  | .mpc _=>.junk
  | .fn _ _=>.junk
  | .ept _ _ _ _=>.junk
  | .bls _ _ _ _=>.junk
  | .junk=>.junk
def Y3(hp:List aD):List aR->List aR
  | []=>[]
  | c::cs=>vwM hp c::Y3 hp cs
def vqP(hp:List aD)(off:Nat):aD->aR
  | .box cs=>aLw (Fs (Y3 hp (cs.drop off)))
  | _=>.junk
def fnV(f:FuncId)(cs:List aR):aR:=bif cs.all Nt then .fn f cs else .junk
def vp0(hp:List aD):aR->aR
  | .ptr id off=>vqP hp off (aI hp id)
  | .bld id n=>Vb hp (.bld id n)
  | .dc d=>.dc d
  | .ref ds=>.ref ds
  | .mpc es=>.mpc es
  | .fn f caps=>Vb hp (.fn f caps)
  | .ept _ _ _ _=>.junk
  | .bls _ _ _ _=>.junk
  | .junk=>.junk
def aB8(hp:List aD):List aR->List aR
  | []=>[]
  | c::cs=>vp0 hp c::aB8 hp cs
def vpC(hp:List aD):aR->aR
  | .fn f caps=>fnV f (aB8 hp caps)
  | .ptr id off=>vp0 hp (.ptr id off)
  | .bld id n=>vp0 hp (.bld id n)
  | .dc d=>.dc d
  | .ref ds=>.ref ds
  | .mpc es=>.mpc es
  | .ept _ _ _ _=>.junk
  | .bls _ _ _ _=>.junk
  | .junk=>.junk
def vpA(hp:List aD):AV->AV
  | .one c=>.one (vpC hp c)
  | .agg cs=>.agg (cs.map (Vb hp))
  | .tup _=>.junk
  | .junk=>.junk
def rS:aR->Bool
  | .dc (.raw _)=>true
  | _=>false
def aKk:TV->Bool
  | .one c=>rS c
  | .agg cs=>cs.all rS
def kX:AV->Bool
  | .one c=>rS c
  | .agg cs=>cs.all rS
  | .tup l=>l.all aKk
  | .junk=>false
section
variable {P:Program} {G:aF} {k:Nat} {st st':AS} {R:AS->Prop} {o:aM} {rest:List aM} {F F':Fz} {γ γ':List OI} {w:World}
theorem zQ(hi:dC F γ st.hp w):F.sub (gG w):=fun b o h=>hi.fz b o h
theorem qF(hi:dC F γ st.hp w){c:aR}{v:Value}(h:RC F γ c v):RC (gG w) [] (Vb st.hp c) v:=by
  have hs:=zQ hi;cases h with
  | dc d v h=>exact .dc d v (h.mono hs)
  | ref cs b off g hr hc=>exact .ref cs b off g (fun j d h=>(hr j d h).mono hs) (fun j d h=>hs.cell (hc j d h))
  | mpc es r clk ents h he h1=>exact .mpc es r clk ents (hs _ _ h) he h1
  | bldN id cap h0=>
    simp only[Vb];split
    · rename_i cp sz es hb
      split
      · simp only[aXq];exact .dc _ _ (.nil _ _)
      · exact .junk _ rfl
    · exact .junk _ rfl
  | bld id n b cap h0=>
    simp only[Vb];split
    · rename_i cp sz es hb
      split
      · rename_i hn
        have:=aBU (F':=gG w) (γ':=γ) hi hb hs (fun i o _ h=>h) (fun b c h=>rfl) (.bld id n b cap h0)
        have e1:uO id es (.bld id n)=.dc (.slc (es.take n)):=by simp[uO,hn]
        rw[e1] at this;have e2:cE (·==id) (.dc (.slc (es.take n)))=.dc (.slc (es.take n)):=by simp[cE,aR.keep]
        rw[e2] at this;cases this with | dc _ _ h=>exact .dc _ _ h
      · exact .junk _ rfl
    · exact .junk _ rfl
  | ptr id off b h0=>exact .junk _ rfl
  | ept id i size off b cap h0=>exact .junk _ rfl
  | bls id lo n size b cap c off h0 ho hc=>exact .junk _ rfl
  | fn f caps g hr=>
    simp only[Vb];cases hc:caps.all Nt with
    | false=>exact .junk _ rfl
    | true=>
      refine .fn f caps g (fun i c h=>?_)
      have h1:=List.all_eq_true.1 hc c (aWD h);have h2:=hr i c h;generalize g i=v at h2 ⊢;cases h2 with
      | dc d v h=>exact .dc d _ (h.mono hs)
      | ref cs b off g hr hc=>exact .ref cs b off g (fun j d h=>(hr j d h).mono hs) (fun j d h=>hs.cell (hc j d h))
      | mpc es r clk ents hm he hz=>exact .mpc es r clk ents (hs _ _ hm) he hz
      | _=>simp[Nt] at h1
  | junk v h=>exact .junk v h
theorem aB9(hi:dC F γ st.hp w){a:AV}{v:Value}(h:RV F γ a v):RV (gG w) [] (vwA st.hp a) v:=by
  cases h with
  | one c v h=>exact .one _ _ (qF hi h)
  | agg cs vs hs h=>
    refine .agg _ _ (by simpa using hs) (fun i c v h1 h2=>?_)
    rw[aWl] at h1;obtain⟨c0,h3,rfl⟩:=Option.map_eq_some_iff.1 h1;exact qF hi (h i c0 v h3 h2)
  | tup l vs hs h=>exact .junk _
  | junk v=>exact .junk v
theorem Kq(hp:List aD):∀ cs,Y2 hp cs=cs.map (vwN hp)
  | []=>rfl
  | c::cs=>by rw[Y2,Kq hp cs];rfl
theorem Kr(hp:List aD):∀ cs,aB8 hp cs=cs.map (vp0 hp)
  | []=>rfl
  | c::cs=>by rw[aB8,Kr hp cs];rfl
theorem Ft:∀ {cs:List aR} {ds:List DC} {j:Nat} {d:DC},Fs cs=some ds->ds[j]?=some d->cs[j]?=some (.dc d)
  | [],ds,j,d,h,hd=>by simp only[Fs,Option.some.injEq] at h;subst h;simp at hd
  | c::cs,ds,j,d,h,hd=>by
    cases c with
    | dc d0=>
      simp only[Fs] at h;obtain⟨ds0,h1,rfl⟩:=Option.map_eq_some_iff.1 h;cases j with
      | zero=>simp at hd;simp[hd]
      | succ j=>simp at hd;simpa using Ft h1 hd
    | _=>simp[Fs] at h
theorem Ks(hp:List aD):∀ cs,Y3 hp cs=cs.map (vwM hp)
  | []=>rfl
  | c::cs=>by rw[Y3,Ks hp cs];rfl
theorem Sa{F:Fz}{γ:List OI}{c:aR}{v:Value}(h:RC F γ c v):RC F γ (toD c) v:=by
  unfold toD;split
  · cases h with | dc _ _ h=>cases h with | raw _ h=>exact .dc _ _ (.nil _ _)
  · cases h with | ref _ b off g hr hc=>exact .dc _ _ (.ptr _ b off g hr hc)
  · exact h
theorem Nu(hi:dC F γ st.hp w){id off b:Nat}{cs:List aR}{vw:aR->aR}{ds:List DC}(hb:aI st.hp id=.box cs)(h0:γ[id]?=some (.box b))(hv:∀ c v,RC F γ c v->RC (gG w) [] (vw c) v)
    (hd:Fs ((cs.drop off).map vw)=some ds):RC (gG w) [] (.ref ds) (.pointer (some ⟨b,off,none⟩)):=by
  obtain⟨vs,T,⟨fz,hw,hnf⟩,hsz,hok⟩:=hi.box hb h0;refine .ref ds b off (fun j=>vs.getD (off+j) (.bool false)) ?_ ?_
  · intro j d hj
    have h1:=Ft hd hj;rw[aWl] at h1;obtain⟨c0,h2,h3⟩:=Option.map_eq_some_iff.1 h1;rw[aWK] at h2;have hlt:off+j < vs.size:=Nat.lt_of_lt_of_le (aG h2) hsz;have h4:=hok (off+j) c0 _ h2 (aWJ hlt);have h5:=hv _ _ h4;rw[h3] at h5;have e:vs.getD (off+j) (.bool false)=vs[off+j]:=by simp[Array.getD,hlt]
    show RD (gG w) d (vs.getD (off+j) (.bool false));rw[e];cases h5 with | dc _ _ h=>exact h
  · intro j d hj
    have h1:=Ft hd hj;rw[aWl] at h1;obtain⟨c0,h2,h3⟩:=Option.map_eq_some_iff.1 h1;rw[aWK] at h2;have hlt:off+j < vs.size:=Nat.lt_of_lt_of_le (aG h2) hsz;simp[Fz.cell?,gG,hw,Array.getD,hlt]
theorem Sb(hi:dC F γ st.hp w){c:aR}{v:Value}(h:RC F γ c v):RC (gG w) [] (vwN st.hp c) v:=Sa (qF hi h)
theorem aLA(hi:dC F γ st.hp w){id off:Nat}{v:Value}(h:RC F γ (.ptr id off) v):RC (gG w) [] (vpP st.hp off (aI st.hp id)) v:=by
  cases h with
  | ptr id off b h0=>
    cases hb:aI st.hp id with
    | box cs=>
      simp only[vpP];cases hd:Fs (Y2 st.hp (cs.drop off)) with
      | none=>exact .junk _ rfl
      | some ds=>rw[Kq] at hd;exact Nu hi hb h0 (fun c v h=>Sb hi h) hd
    | _=>exact .junk _ rfl
theorem aLB(hi:dC F γ st.hp w){c:aR}{v:Value}(h:RC F γ c v):RC (gG w) [] (vwM st.hp c) v:=by
  cases hc:c with
  | ptr id off=>subst hc;exact Sa (aLA hi h)
  | bld id n=>subst hc;exact Sb hi h
  | dc d=>subst hc;exact Sb hi h
  | ref ds=>subst hc;exact Sa (c:=.ref ds) (qF hi h)
  | _=>exact .junk _ h.is1
theorem Bq(hi:dC F γ st.hp w){c:aR}{v:Value}(h:RC F γ c v):RC (gG w) [] (vp0 st.hp c) v:=by
  cases hc:c with
  | ptr id off=>
    subst hc;cases h with
    | ptr id off b h0=>
      simp only[vp0];cases hb:aI st.hp id with
      | box cs=>
        simp only[vqP];cases hd:Fs (Y3 st.hp (cs.drop off)) with
        | none=>exact .junk _ rfl
        | some ds=>rw[Ks] at hd;exact Nu hi hb h0 (fun c v h=>aLB hi h) hd
      | _=>exact .junk _ rfl
  | dc d=>subst hc;exact qF hi h
  | ref cs=>subst hc;exact qF hi h
  | mpc es=>subst hc;exact qF hi h
  | bld id n=>subst hc;exact qF hi h
  | fn f caps=>subst hc;exact qF hi h
  | ept=>exact .junk _ h.is1
  | bls=>exact .junk _ h.is1
  | junk=>exact .junk _ h.is1
theorem aLC(hi:dC F γ st.hp w){c:aR}{v:Value}(h:RC F γ c v):RC (gG w) [] (vpC st.hp c) v:=by
  cases hc:c with
  | fn f caps=>
    subst hc;cases h with
    | fn f caps g hr=>
      simp only[vpC,fnV,Kr];cases hc:(caps.map (vp0 st.hp)).all Nt with
      | false=>exact .junk _ rfl
      | true=>
        have e:caps.length=(caps.map (vp0 st.hp)).length:=by simp
        simp only[cond_true,e];refine .fn f _ g (fun i c h=>?_)
        rw[aWl] at h;obtain⟨c0,h2,rfl⟩:=Option.map_eq_some_iff.1 h;exact Bq hi (hr i c0 h2)
  | dc d=>subst hc;exact Bq hi h
  | ref cs=>subst hc;exact Bq hi h
  | mpc es=>subst hc;exact Bq hi h
  | bld id n=>subst hc;exact Bq hi h
  | ptr id off=>subst hc;exact Bq hi h
  | ept=>exact .junk _ h.is1
  | bls=>exact .junk _ h.is1
  | junk=>exact .junk _ h.is1
theorem aCa(hi:dC F γ st.hp w){a:AV}{v:Value}(h:RV F γ a v):RV (gG w) [] (vpA st.hp a) v:=by
  cases h with
  | one c v h=>exact .one _ _ (aLC hi h)
  | agg cs vs hs h=>exact aB9 hi (.agg cs vs hs h)
  | tup l vs hs h=>exact .junk _
  | junk v=>exact .junk v
theorem Kt{c:aR}{v:Value}(hc:rS c=true)(h:RC F γ c v):RC F' γ' c v:=by
  cases h with
  | dc d v h=>cases h with
    | raw v h=>exact .dc _ _ (.raw v h)
    | nil A c=>simp[rS] at hc
    | slc=>simp[rS] at hc
    | ptr=>simp[rS] at hc
  | _=>simp[rS] at hc
theorem Nv{cs:List aR}{vs:Array Value}(hc:cs.all rS=true)(h:∀ (i:Nat) c v,cs[i]?=some c->vs[i]?=some v->RC F γ c v):∀ (i:Nat) c v,cs[i]?=some c->vs[i]?=some v->RC F' γ' c v:=
  fun i c v h1 h2=>Kt (List.all_eq_true.1 hc c (aWD h1)) (h i c v h1 h2)
theorem Ku{a:AV}{v:Value}(hc:kX a=true)(h:RV F γ a v):RV F' γ' a v:=by
  cases h with
  | one c v h=>exact .one _ _ (Kt hc h)
  | agg cs vs hs h=>exact .agg _ _ hs (Nv hc h)
  | tup l vs hs h=>
    refine .tup _ _ hs (fun i t v h1 h2=>?_)
    have ht:=List.all_eq_true.1 hc t (aWD h1);cases h i t v h1 h2 with
    | one c v h=>exact .one _ _ (Kt ht h)
    | agg cs vs hs h=>exact .agg _ _ hs (Nv ht h)
  | junk v=>simp[kX] at hc
theorem WR.callV{f:FuncId}{args:List aH}{cargs:List AV}{r:AV}(hgd:iG G st o.guard)(ha:o.ai=.call f args)(hac:QC P G f cargs r)(hr:kX r=true)
    (hargs:args.map (fun x=>vwA st.hp (aJ G st.sl x))=cargs) (h:WR P G k rest R ⟨aP st.sl o.dst r,st.hp⟩):WR P G k (o::rest) R st:=by
  refine WR.step hgd (fun F γ a w oper hc hd hi hs hg hk=>?_)
  rw[ha] at hc;obtain⟨c,hop,hcal,rfl,hok⟩:=zF hc;obtain⟨dst,op,type,pos,after,guard⟩:=oper;simp only at hop;subst hop;have hv:=zG (G:=G) hs hg c.args;have hv2:lC (gG w) [] cargs (c.args.map a.eval):=by
    rw[<- hargs];refine⟨by rw[hv.1];simp,fun i av v h1 h2=>?_⟩
    rw[aWl] at h1;obtain⟨x,hx,rfl⟩:=Option.map_eq_some_iff.1 h1;exact aB9 hi (hv.2 i _ v (by rw[aWl,hx];rfl) h2)
  refine .inr ⟨f,c.args.map a.eval, ?_,(hac (gG w) [] _ w (D9 w) (hg.sub (zQ hi)) hv2).mono ?_⟩
  · simp[execOp,resolve,hcal,Act.eval,Deferred.ofValue,invoke,kK hok]
  · rintro e w' ⟨v,av,objs',F2,γ2,rfl,⟨rfl,rfl⟩,_,hE,hI,hR⟩
    have hb:=sW hE;have hext:gA k F γ w F γ w':=⟨fun _ _ h=>h,hb.os,hb.tape,hb.output,hb.size,fun b hbl _=>hb.block b hbl,fun _ _ h=>.inl h,fun i b h=>.inl ⟨i,h⟩,fun _ _ _ h=>h⟩
    have hinv:dC F γ st.hp w':=⟨fun b ob h=>by rw[hb.block b (hi.fzlt h)];exact hi.fz b ob h,hi.len,hi.nd,hi.disj,fun i ob x h1 h2=>by
      have hok:=hi.ok i ob x h1 h2;exact hok.ext (fun _ _ h=>h) (fun _ _ h=>h) (fun b hb2=>hb.block b (hok.lt hb2))⟩
    exact⟨v,_,F,γ,rfl,h,hext,hinv,hs.put _ (Ku hr hR),hk⟩
theorem WR.callP{f:FuncId}{args:List aH}{cargs:List AV}{r:AV}(hgd:iG G st o.guard)(ha:o.ai=.call f args)(hac:QC P G f cargs r)(hr:kX r=true)
    (hargs:args.map (fun x=>vpA st.hp (aJ G st.sl x))=cargs) (h:WR P G k rest R ⟨aP st.sl o.dst r,st.hp⟩):WR P G k (o::rest) R st:=by
  refine WR.step hgd (fun F γ a w oper hc hd hi hs hg hk=>?_)
  rw[ha] at hc;obtain⟨c,hop,hcal,rfl,hok⟩:=zF hc;obtain⟨dst,op,type,pos,after,guard⟩:=oper;simp only at hop;subst hop;have hv:=zG (G:=G) hs hg c.args;have hv2:lC (gG w) [] cargs (c.args.map a.eval):=by
    rw[<- hargs];refine⟨by rw[hv.1];simp,fun i av v h1 h2=>?_⟩
    rw[aWl] at h1;obtain⟨x,hx,rfl⟩:=Option.map_eq_some_iff.1 h1;exact aCa hi (hv.2 i _ v (by rw[aWl,hx];rfl) h2)
  refine .inr ⟨f,c.args.map a.eval, ?_,(hac (gG w) [] _ w (D9 w) (hg.sub (zQ hi)) hv2).mono ?_⟩
  · simp[execOp,resolve,hcal,Act.eval,Deferred.ofValue,invoke,kK hok]
  · rintro e w' ⟨v,av,objs',F2,γ2,rfl,⟨rfl,rfl⟩,_,hE,hI,hR⟩
    have hb:=sW hE;have hext:gA k F γ w F γ w':=⟨fun _ _ h=>h,hb.os,hb.tape,hb.output,hb.size,fun b hbl _=>hb.block b hbl,fun _ _ h=>.inl h,fun i b h=>.inl ⟨i,h⟩,fun _ _ _ h=>h⟩
    have hinv:dC F γ st.hp w':=⟨fun b ob h=>by rw[hb.block b (hi.fzlt h)];exact hi.fz b ob h,hi.len,hi.nd,hi.disj,fun i ob x h1 h2=>by
      have hok:=hi.ok i ob x h1 h2;exact hok.ext (fun _ _ h=>h) (fun _ _ h=>h) (fun b hb2=>hb.block b (hok.lt hb2))⟩
    exact⟨v,_,F,γ,rfl,h,hext,hinv,hs.put _ (Ku hr hR),hk⟩
theorem zI.viewP{f:FuncId}{avs cargs:List AV}{hp:List aD}{r:AV}(hac:QC P G f cargs r)(hr:kX r=true)(hargs:avs.map (vpA hp)=cargs):zI P G k f avs hp (fun av os=>av=r/\os=[]):=by
  intro F γ w vs hi hg hk hv;have hi':dC F γ (⟨[],hp⟩:AS).hp w:=hi;have hv2:lC (gG w) [] cargs vs:=by
    rw[<- hargs];refine⟨by rw[hv.1];simp,fun i av v h1 h2=>?_⟩
    rw[aWl] at h1;obtain⟨x,hx,rfl⟩:=Option.map_eq_some_iff.1 h1;exact aCa hi' (hv.2 i x v hx h2)
  refine (hac (gG w) [] _ w (D9 w) (hg.sub (zQ hi')) hv2).mono ?_;rintro e w' ⟨v,av,objs',F2,γ2,rfl,⟨rfl,rfl⟩,_,hE,hI,hR⟩;have hb:=sW hE;refine⟨v,_,_,F,γ,rfl,⟨rfl,rfl⟩,⟨fun _ _ h=>h,hb.os,hb.tape,hb.output,hb.size,fun b hbl _=>hb.block b hbl,fun _ _ h=>.inl h,fun i b h=>.inl ⟨i,h⟩,fun _ _ _ h=>h⟩, ?_,fun _ _ h=>h,Ku hr hR⟩
  rw[aXr];exact⟨fun b ob h=>by rw[hb.block b (hi.fzlt h)];exact hi.fz b ob h,hi.len,hi.nd,hi.disj,fun i ob x h1 h2=>by
      have hok:=hi.ok i ob x h1 h2;exact hok.ext (fun _ _ h=>h) (fun _ _ h=>h) (fun b hb2=>hb.block b (hok.lt hb2))⟩
theorem aGx:toD (.dc (.raw (.slice none 0 0)))=.dc (.slc []):=rfl
theorem aGy{ds:List DC}:toD (.ref ds)=.dc (.ptr ds):=rfl
theorem aGz{es:List (List DC)}:toD (.dc (.slc es))=.dc (.slc es):=rfl
theorem aGA{es:List DC}:toD (.dc (.ptr es))=.dc (.ptr es):=rfl
theorem aGB{k:IntKind}{n:Int}:toD (.dc (.raw (.int k n)))=.dc (.raw (.int k n)):=rfl
theorem aCb{n:Bool}:toD (.dc (.raw (.bool n)))=.dc (.raw (.bool n)):=rfl
theorem aGC{n:ByteArray}:toD (.dc (.raw (.string n)))=.dc (.raw (.string n)):=rfl
theorem aLD:toD (.dc (.raw (.pointer none)))=.dc (.raw (.pointer none)):=rfl
end
attribute [go_sem] aGx aGy aGz aGA aGB aCb aGC aLD
attribute [go_sem] vwM Y3 vqP Fs aLw vwN Y2 vpP fnV vp0 aB8 vpC vpA Nt vwA Vb kX rS aKk List.all_nil List.all_cons
end
section
section
variable {P:Program} {G:aF} {k:Nat} {st st':AS} {R:AS->Prop} {o:aM} {rest:List aM}
end
attribute [go_sem] Yu uO aLq Rw kI dI
end
section
def Re(i j x:Nat):Nat:=bif nq x i then j else bif nq x j then i else x
def H9{α:Type}(d:α)(l:List α)(i j:Nat):List α:=(l.set i (l.getD j d)).set j (l.getD i d)
def Dk(x:Nat × Nat)(st:AS):AS:=⟨st.sl.map (dB (Re x.1 x.2)),(H9 .dead st.hp x.1 x.2).map (dP (Re x.1 x.2))⟩
def prm:List (Nat × Nat)->AS->AS
  | [],st=>st
  | x::p,st=>prm p (Dk x st)
def pOK(n0 n:Nat)(p:List (Nat × Nat)):Prop:=∀ x∈p,n0<=x.1/\n0<=x.2/\x.1 < n/\x.2 < n
theorem aCc(i j x:Nat):Re i j x=if x=i then j else if x=j then i else x:=by
  unfold Re;rw[iA,iA];by_cases h:x=i
  · simp[h]
  · rw[if_neg h,show (x==i)=false by simpa using h,cond_false]
    by_cases h':x=j
    · simp[h']
    · rw[if_neg h',show (x==j)=false by simpa using h',cond_false]
theorem Kv(i j x:Nat):Re i j (Re i j x)=x:=by
  simp only[aCc]
  repeat' split
  all_goals omega
theorem aGE{i j x n0:Nat}(hi:n0<=i)(hj:n0<=j)(hx:x < n0):Re i j x=x:=by
  rw[aCc,if_neg (by omega),if_neg (by omega)]
theorem Fu{α:Type}(d:α)(l:List α)(i j:Nat):(H9 d l i j).length=l.length:=by simp[H9]
theorem Nw{α:Type}(d:α)(l:List α){i j:Nat}(hi:i < l.length)(hj:j < l.length)(x:Nat):(H9 d l i j)[x]?=l[Re i j x]?:=by
  have g:∀ y,y < l.length->l[y]?=some (l.getD y d):=fun y hy=>by rw[aWn,aWo hy];rfl
  unfold H9;rw[aCc];by_cases h2:x=i
  · rw[if_pos h2]
    subst h2;by_cases h1:j=x
    · subst h1
      rw[aWI (by simpa using hj),g j hj]
    · rw[aWz h1,aWI hi,g j hj]
  · rw[if_neg h2]
    by_cases h1:x=j
    · rw[if_pos h1]
      subst h1;rw[aWI (by simpa using hj),g i hi]
    · rw[if_neg h1,aWz (Ne.symm h1),aWz (Ne.symm h2)]
theorem Fv(x:Nat × Nat)(st:AS):(Dk x st).hp.length=st.hp.length:=by simp[Dk,Fu]
theorem Vc:∀ (p:List (Nat × Nat)) (st:AS),(prm p st).hp.length=st.hp.length
  | [],_=>rfl
  | x::p,st=>by rw[prm,Vc p,Fv]
theorem Vd:∀ (p q:List (Nat × Nat)) (st:AS),prm (p++q) st=prm q (prm p st)
  | [],_,_=>rfl
  | x::p,q,st=>by rw[aWR,prm,prm,Vd p q]
theorem Y4(x:Nat × Nat)(st:AS):aE (Dk x st)=Dk x (aE st):=by
  have e:∀ id,aN (st.hp.getD id .dead)=(st.hp.map aN).getD id .dead:=fun id=>(bH (hp:=st.hp) id).symm
  simp only[aE,Dk,H9,aWE,aWM,Function.comp_apply,<- e,mV];congr 3;refine aWC (fun o _=>?_)
  simp[mV]
theorem Nx:∀ (p:List (Nat × Nat)) (st:AS),aE (prm p st)=prm p (aE st)
  | [],_=>rfl
  | x::p,st=>by rw[prm,prm,Nx p,Y4]
theorem Ny(st:AS):(aE st).hp.length=st.hp.length:=by simp[aE]
section
variable {P:Program} {G:aF} {k:Nat} {F F0:Fz} {γ γ0:List OI} {w w0:World} {a:Act} {st:AS}
theorem aGF{x:Nat × Nat}{n0:Nat}(h1:n0<=x.1)(h2:n0<=x.2)(h3:x.1 < st.hp.length)(h4:x.2 < st.hp.length)(hk:k<=n0)(hE:gA k F0 γ0 w0 F γ w)(hi:dC F γ st.hp w)(hs:bT F γ st.sl a):
    ∃ γ',gA k F0 γ0 w0 F γ' w/\dC F γ' (Dk x st).hp w/\bT F γ' (Dk x st).sl a/\γ'.length=γ.length:=by
  obtain⟨i,j⟩:=x;simp only at h1 h2 h3 h4;have hl:=hi.len;have hg:∀ y,(H9 OI.dead γ i j)[y]?=γ[Re i j y]?:=Nw _ _ (by omega) (by omega);have hb:∀ y,bX (H9 OI.dead γ i j) y=bX γ (Re i j y):=fun y=>by unfold bX;rw[hg]
  have hgr:∀ (id:Nat) (o:OI),γ[id]?=some o->(H9 OI.dead γ i j)[Re i j id]?=some o:=fun id o h=>by rw[hg,Kv];exact h
  refine⟨H9 .dead γ i j, ?_, ?_, ?_,Fu ..⟩
  · refine⟨hE.sub,hE.os,hE.tape,hE.output,hE.size,hE.far,hE.new,fun y b h=>hE.blk (Re i j y) b (by rw[<- hb];exact h),fun y hy b h=>?_⟩
    rw[hg,aGE h1 h2 (by omega)];exact hE.box y hy b h
  · refine⟨hi.fz,by rw[Fu,Fv];exact hl,fun y z b hy hz=>?_,fun y b hy=>hi.disj (Re i j y) b (by rw[<- hb];exact hy),fun y o x hy hx=>?_⟩
    · have:=hi.nd (Re i j y) (Re i j z) b (by rw[<- hb];exact hy) (by rw[<- hb];exact hz)
      rw[<- Kv i j y,this,Kv]
    · simp only[Dk,aWl,Nw _ _ h3 h4] at hy
      rw[hg] at hx;cases ho:st.hp[Re i j y]? with
      | none=>rw[ho] at hy;cases hy
      | some o'=>
        rw[ho] at hy;injection hy with hy;subst hy
        exact (hi.ok _ _ _ ho hx).ren hgr
  · refine⟨hs.1,by simp[Dk];exact hs.2.1,fun y av v hy hv=>?_⟩
    simp only[Dk,aWl] at hy;cases ho:st.sl[y]? with
    | none=>rw[ho] at hy;cases hy
    | some o'=>
      rw[ho] at hy;injection hy with hy;subst hy
      exact (hs.2.2 y o' v ho hv).ren hgr
theorem aCd{n0:Nat}(hk:k<=n0):∀ (p:List (Nat × Nat)) (st:AS) (γ:List OI),pOK n0 st.hp.length p->gA k F0 γ0 w0 F γ w->dC F γ st.hp w->bT F γ st.sl a->
    ∃ γ',gA k F0 γ0 w0 F γ' w/\dC F γ' (prm p st).hp w/\bT F γ' (prm p st).sl a/\γ'.length=γ.length
  | [],st,γ,_,hE,hi,hs=>⟨γ,hE,hi,hs,rfl⟩
  | x::p,st,γ,hp,hE,hi,hs=>by
    obtain⟨h1,h2,h3,h4⟩:=hp x aWy;obtain⟨γ1,g1,g2,g3,g4⟩:=aGF h1 h2 h3 h4 hk hE hi hs;obtain⟨γ2,e1,e2,e3,e4⟩:=aCd hk p (Dk x st) γ1 (fun y hy=>by rw[Fv];exact hp y (aWG _ hy)) g1 g2 g3
    exact⟨γ2,e1,e2,e3,by rw[e4,g4]⟩
theorem AW.prm{x:dJ}{Q:Exit->AS->Prop}(h:AW P G k x (fun e s=>∃ p,pOK st.hp.length s.hp.length p/\Q e (prm p s)) st):AW P G k x Q st:=by
  intro c hc F γ a w hi hs hg hk QE hq;refine h c hc F γ a w hi hs hg hk QE (fun e a' w' F' γ' s' ⟨p,h1,h2⟩ q2 q3 q4 q5=>?_)
  obtain⟨γ2,e1,e2,e3,e4⟩:=aCd (by rw[<- hi.len];exact hk) p s' γ' h1 q2 q3 q4;exact hq e a' w' F' γ2 _ h2 e1 e2 e3 (by omega)
end
end
section
def aGG:aR->Bool
  | .bls _ _ _ _=>true
  | _=>false
def Ve:List aR->Bool
  | []=>false
  | c::cs=>aGG c||Ve cs
def aPx:TV->Bool
  | .one c=>aGG c
  | .agg cs=>Ve cs
def aCe:List TV->Bool
  | []=>false
  | c::cs=>aPx c||aCe cs
def Sc:AV->Bool
  | .one c=>aGG c
  | .agg cs=>Ve cs
  | .tup l=>aCe l
  | .junk=>false
def bxD(n size:Nat):Option (List DC)->aR
  | some ds=>if ds.length=n * size then .dc (.slc (eO size n ds)) else .junk
  | none=>.junk
def bxC(id:Nat)(cs:List aR):aR->aR
  | .bls j k n s=>bif nq j id then bxD n s (dcs ((cs.drop (k * s)).take (n * s))) else .bls j k n s
  | c=>c
def bxT(id:Nat)(cs:List aR):TV->TV
  | .one c=>.one (bxC id cs c)
  | .agg l=>.agg (l.map (bxC id cs))
def bxV(id:Nat)(cs:List aR):AV->AV
  | .one c=>.one (bxC id cs c)
  | .agg l=>.agg (l.map (bxC id cs))
  | .tup l=>.tup (l.map (bxT id cs))
  | .junk=>.junk
def bxO(id:Nat)(cs:List aR):aD->aD
  | .box l=>.box (l.map (bxC id cs))
  | o=>o
def Y5(id:Nat)(cs:List aR)(st:AS):AS:=⟨st.sl.map fun v=>bA (fun x=>nq x id) (bxV id cs v),(st.hp.map fun o=>cI (fun x=>nq x id) (bxO id cs o)).set id .dead⟩
def bx1(id:Nat)(st:AS):aD->Bool->AS
  | .box cs,true=>Y5 id cs st
  | _,_=>st
def zR(n:Nat):List Nat->AS->AS
  | [],st=>st
  | id::r,st=>zR n r (bx1 id st (aI st.hp id) (decide (n<=id)))
def bxW(n:Nat)(ids:List Nat)(st:AS):Bool->AS
  | true=>zR n ids st
  | false=>st
theorem aGH{cs:List aR}{ds:List DC}(h:dcs cs=some ds){j:Nat}{d:DC}(hd:ds[j]?=some d):cs[j]?=some (.dc d):=by
  rw[lL h];simp only[lQ,aWl,hd,aWi]
theorem Jf{size:Nat}:∀ (n:Nat) (ds:List DC),ds.length=n * size->∀ (i j:Nat) e d,(eO size n ds)[i]?=some e->e[j]?=some d->ds[i * size+j]?=some d/\i < n
  | 0,ds,h,i,j,e,d,h1,_=>by simp[eO] at h1
  | n+1,ds,h,0,j,e,d,h1,h2=>by
    simp only[eO,List.getElem?_cons_zero,Option.some.injEq] at h1;subst h1;rw[aWH] at h2;split at h2
    · exact⟨by rw[Nat.zero_mul,aWZ];exact h2,Nat.succ_pos _⟩
    · cases h2
  | n+1,ds,h,i+1,j,e,d,h1,h2=>by
    simp only[eO,aXN] at h1;have hl:(ds.drop size).length=n * size:=by rw[aWt,h,Nat.succ_mul];omega
    obtain⟨h3,h4⟩:=Jf n (ds.drop size) hl i j e d h1 h2;rw[aWK] at h3;exact⟨by rw[<- h3];congr 1;rw[Nat.succ_mul];omega,by omega⟩
section
variable {k:Nat} {as:AS} {F:Fz} {γ:List OI} {w:World}
theorem aPz{F':Fz}{γ':List OI}{id b:Nat}{cs:List aR}(hi:dC F γ as.hp w)(hb:aI as.hp id=.box cs)(hgm:γ[id]?=some (.box b))(hs:F.sub F')(hg:∀ (i:Nat) (o:OI),(nq i id)=false->γ[i]?=some o->γ'[i]?=some o)
    (hF:F' b=w.heap[b]?) {c:aR} {v:Value} (h:RC F γ c v):RC F' γ' (cE (fun x=>nq x id) (bxC id cs c)) v:=by
  have hx:=hi.ok id (.box cs) (.box b) (dU hb (by simp)) hgm;obtain⟨vs,T,⟨fz,hh,hnf⟩,hvs,hr⟩:=hx;by_cases hc:∃ lo n s,c=.bls id lo n s
  · obtain⟨lo,n,s,rfl⟩:=hc
    have hq:nq id id=true:=by rw[iA];simp
    simp only[bxC,hq,cond_true];cases hd:dcs ((cs.drop (lo * s)).take (n * s)) with
    | none=>exact .junk _ (by cases h;rfl)
    | some ds=>
      simp only[bxD];split
      · rename_i hl
        obtain⟨c1,c2,c3⟩:=jW s n ds hl;have e2:cE (fun x=>nq x id) (.dc (.slc (eO s n ds)))=.dc (.slc (eO s n ds)):=by simp[cE,aR.keep]
        rw[e2];refine .dc _ _ ?_;cases h with
        | bls _ _ _ _ b' cap c off hgm' ho hcap=>
          have hbb:b'=b:=by
            rcases hgm' with hgm' | hgm'
            · rw[hgm] at hgm';injection hgm' with hgm';cases hgm'
            · rw[hgm] at hgm';injection hgm' with hgm';injection hgm' with hgm';exact hgm'.symm
          subst hbb;have key:∀ (i j:Nat) e d,(eO s n ds)[i]?=some e->e[j]?=some d->∃ u,vs[off+(i * s+j)]?=some u/\RD F d u:=by
            intro i j e d h1 h2;obtain⟨h3,h4⟩:=Jf n ds hl i j e d h1 h2;have h5:=aGH hd h3;rw[aWH] at h5;split at h5
            · rw[aWK] at h5
              have ho':=ho (by omega);rw[<- ho'] at h5;have hlt:off+(i * s+j) < cs.length:=(List.getElem?_eq_some_iff.1 h5).1;have h6:vs[off+(i * s+j)]?=some (vs[off+(i * s+j)]'(by omega)):=aWJ (by omega);have h7:=hr _ _ _ h5 h6;refine⟨_,h6, ?_⟩;cases h7 with
              | dc _ _ h=>exact h
            · cases h5
          have:=RD.slc (F:=F') b' off c s (eO s n ds) (fun i j=>vs.toList.getD (off+(i * s+j)) undef) c2 (fun i j e d h1 h2=>by
              obtain⟨u,hu,hd⟩:=key i j e d h1 h2;simp only[aWn,aXa,hu,aWX];exact hd.mono hs) (fun i j e d h1 h2=>by
              obtain⟨u,hu,hd⟩:=key i j e d h1 h2;simp only[aWn,aXa,hu,aWX,Fz.cell?];rw[hF,hh];simpa using hu) (by rw[c3];exact hcap)
          rwa[c3] at this
      · exact .junk _ (by cases h;rfl)
  · have e1:bxC id cs c=c:=by
      cases c<;>try rfl
      rename_i j lo n s;simp only[bxC];cases hq:nq j id with
      | true=>
        rw[iA,beq_iff_eq] at hq;subst hq;exact absurd ⟨lo,n,s,rfl⟩ hc
      | false=>rfl
    rw[e1];exact h.kill hs hg
theorem Gh.bx{id:Nat}{cs:List aR}(hb:aI as.hp id=.box cs)(hkid:k<=id):Gh k as (Y5 id cs as):=by
  intro F γ a w hi hs hk;have hho:=dU hb (by simp);have hlt:id < γ.length:=by rw[hi.len];exact aG hho
  have hx:γ[id]?=some (γ[id]'hlt):=aWo hlt;generalize hxe:γ[id]'hlt=x at hx;have hok:=hi.ok id _ _ hho hx;cases x with
  | arr _ _=>exact hok.elim
  | dead=>exact hok.elim
  | box bl=>
  let F':Fz:=F.add w bl
  have hFb:F' bl=w.heap[bl]?:=by simp[F',Fz.add]
  have hFo:∀ b',bl≠b'->F' b'=F b':=by
    intro b' hne;simp only[F',Fz.add];rw[if_neg (fun e=>hne e.symm)]
  have hsub:F.sub F':=by
    intro b o h;rw[hFo b (fun e=>by rw[hi.disj id b (bJ hx (by rw[e];rfl))] at h;cases h)];exact h
  have hq:∀ i:Nat,(nq i id)=false->i≠id:=fun i h e=>by rw[iA,e] at h;simp at h
  have hg:∀ (i:Nat) (o:OI),(nq i id)=false->γ[i]?=some o->(γ.set id .dead)[i]?=some o:=fun i o h1 h2=>by
    rw[aWz (Ne.symm (hq i h1))];exact h2
  have hb2:∀ i b,bX (γ.set id .dead) i=some b->i≠id/\bX γ i=some b:=by
    intro i b h;obtain⟨y,hy,hyb⟩:=cQ h;by_cases hii:id=i
    · subst hii
      rw[aWI hlt] at hy;injection hy with hy;subst hy
      simp[OI.blk] at hyb
    · rw[aWz hii] at hy
      exact⟨Ne.symm hii,bJ hy hyb⟩
  have frz:=fun {c:aR} {v:Value} (h:RC F γ c v)=>aPz (F':=F') (γ':=γ.set id .dead) hi hb hx hsub hg hFb h
  have frzs:∀ {l:List aR} {vs:Array Value},(∀ (i:Nat) c v,l[i]?=some c->vs[i]?=some v->RC F γ c v)->∀ (i:Nat) c v,((l.map (bxC id cs)).map (cE (fun x=>nq x id)))[i]?=some c->vs[i]?=some v->RC F' (γ.set id .dead) c v:=by
    intro l vs h i c v hc hv;rw[aWE,aWl] at hc;cases hci:l[i]? with
    | none=>simp[hci] at hc
    | some c0=>
      simp only[hci,aWi,Option.some.injEq,Function.comp] at hc;subst hc;exact frz (h i c0 v hci hv)
  refine⟨F',γ.set id .dead,⟨hsub,rfl,rfl,rfl,aWj _,fun _ _ _=>rfl,fun b o h=>?_,fun i b h=>.inl ⟨i,(hb2 i b h).2⟩,fun i hik b h=>?_⟩,
    ⟨fun b o h=>?_,by simp[Y5,hi.len],fun i j b h1 h2=>hi.nd i j b (hb2 i b h1).2 (hb2 j b h2).2,fun i b h=>?_,fun i o y h1 h2=>?_⟩, ?_,by simpa using hk⟩
  · by_cases hxb:bl=b
    · exact .inr (.inr ⟨id,bJ hx (by rw[hxb];rfl)⟩)
    · rw[hFo b hxb] at h;exact .inl h
  · rw[aWz (by omega)];exact h
  · by_cases hxb:bl=b
    · subst hxb;rw[hFb] at h;exact h
    · rw[hFo b hxb] at h;exact hi.fz b o h
  · obtain⟨hne,hbb⟩:=hb2 i b h
    rw[hFo b (fun e=>hne (hi.nd _ _ _ hbb (bJ hx (by rw[e];rfl))))]
    exact hi.disj i b hbb
  · simp only[Y5] at h1
    by_cases hii:id=i
    · subst hii
      rw[aWI hlt] at h2;rw[aWI (by rw[aWf,<- hi.len];exact hlt)] at h1;injection h1 with h1;injection h2 with h2;subst h1;subst h2
      trivial
    · rw[aWz hii] at h1 h2
      rw[aWl] at h1;cases ho:as.hp[i]? with
      | none=>simp[ho] at h1
      | some o0=>
        simp only[ho,aWi,Option.some.injEq] at h1;subst h1;have h3:=hi.ok i o0 y ho h2;cases o0 with
        | box l=>
          cases y with
          | box b=>
            obtain⟨vs,T,g1,g2,g3⟩:=h3;exact⟨vs,T,g1,by simpa[bxO] using g2,frzs g3⟩
          | arr _ _=>exact h3.elim
          | dead=>exact h3.elim
        | arr c2 s2 es2=>
          have:=h3.kill (p:=(fun x=>nq x id)) (F':=F') (γ':=γ.set id .dead) (w':=w) hsub hg (fun _ _=>rfl)
          exact this
        | dead=>
          have:=h3.kill (p:=(fun x=>nq x id)) (F':=F') (γ':=γ.set id .dead) (w':=w) hsub hg (fun _ _=>rfl)
          exact this
  · refine⟨hs.1,by simpa[Y5] using hs.2.1,fun i av v h1 h2=>?_⟩
    simp only[Y5] at h1;rw[aWl] at h1;cases hsi:as.sl[i]? with
    | none=>simp[hsi] at h1
    | some av0=>
      simp only[hsi,aWi,Option.some.injEq] at h1;subst h1;have h3:=hs.2.2 i av0 v hsi h2;cases h3 with
      | one c v h=>exact .one _ _ (frz h)
      | agg l vs hsz h=>exact .agg _ _ (by simpa[bxV] using hsz) (frzs h)
      | tup l vs hsz h=>
        refine .tup _ _ (by simpa[bxV] using hsz) (fun i t v h1 h2=>?_)
        rw[aWE,aWl] at h1;obtain⟨t0,h4,rfl⟩:=Option.map_eq_some_iff.1 h1;cases h i t0 v h4 h2 with
        | one c v h=>exact .one _ _ (frz h)
        | agg l vs hsz h=>exact .agg _ _ (by simpa[bxT] using hsz) (frzs h)
      | junk v=>exact .junk v
theorem Y6{id:Nat}{cs:List aR}(o:aD):aN (bxO id cs o)=bxO id cs (aN o):=by cases o<;>rfl
theorem rT{n:Nat}(hk:k<=n):∀ (ids:List Nat) (s:AS),∃ s',Gh k s s'/\aE s'=zR n ids (aE s)
  | [],s=>⟨s,Gh.refl,rfl⟩
  | id::r,s=>by
    simp only[zR];have e:aI (aE s).hp id=aN (aI s.hp id):=bH (hp:=s.hp) id;rw[e];cases ho:aI s.hp id with
    | arr _ _ _=>exact rT hk r s
    | dead=>exact rT hk r s
    | box cs=>
      simp only[aN];by_cases hn:n<=id
      · rw[decide_eq_true hn]
        obtain⟨s',h1,h2⟩:=rT hk r (Y5 id cs s);refine⟨s',(Gh.bx ho (by omega)).trans h1, ?_⟩;rw[h2];congr 1;simp only[bx1,Y5,aE,aWM,aWE,aN];congr 2;exact aWC (fun o _=>by simp only[Function.comp_apply,nE,Y6])
      · rw[decide_eq_false hn]
        exact rT hk r s
theorem aLE{n:Nat}(hk:k<=n)(ids:List Nat)(s:AS)(b:Bool):∃ s',Gh k s s'/\aE s'=bxW n ids (aE s) b:=by
  cases b with
  | true=>exact rT hk ids s
  | false=>exact⟨s,Gh.refl,rfl⟩
theorem pJ(n:Nat):∀ (ids:List Nat) (st:AS),(zR n ids st).sl.length=st.sl.length/\(zR n ids st).hp.length=st.hp.length
  | [],st=>⟨rfl,rfl⟩
  | id::r,st=>by
    simp only[zR];cases aI st.hp id with
    | box cs=>
      cases decide (n<=id) with
      | true=>
        obtain⟨h1,h2⟩:=pJ n r (Y5 id cs st);exact⟨by rw[bx1,h1];simp[Y5],by rw[bx1,h2];simp[Y5]⟩
      | false=>exact pJ n r st
    | arr _ _ _=>exact pJ n r st
    | dead=>exact pJ n r st
theorem Vf(n:Nat)(ids:List Nat)(st:AS)(b:Bool):(bxW n ids st b).sl.length=st.sl.length/\(bxW n ids st b).hp.length=st.hp.length:=by
  cases b with
  | true=>exact pJ n ids st
  | false=>exact⟨rfl,rfl⟩
end
end
section
def bvC(id s len:Nat):aR->aR
  | .bld j n=>bif nq j id then (bif nq n len then .bls id 0 n s else .junk) else .bld j n
  | .ept j i z o=>bif nq j id then .ptr id (i * z+o) else .ept j i z o
  | .fn f caps=>cE (fun x=>nq x id) (.fn f caps)
  | .dc d=>.dc d
  | .ref cs=>.ref cs
  | .mpc es=>.mpc es
  | .junk=>.junk
  | .ptr j o=>.ptr j o
  | .bls j i z o=>.bls j i z o
def Nz(id s len:Nat):List aR->List aR
  | []=>[]
  | c::cs=>bvC id s len c::Nz id s len cs
def bvT(id s len:Nat):TV->TV
  | .one c=>.one (bvC id s len c)
  | .agg l=>.agg (Nz id s len l)
def bvV(id s len:Nat):AV->AV
  | .one c=>.one (bvC id s len c)
  | .agg l=>.agg (Nz id s len l)
  | .tup l=>.tup (l.map (bvT id s len))
  | .junk=>.junk
def bvS(id s len:Nat):List AV->List AV
  | []=>[]
  | v::vs=>bvV id s len v::bvS id s len vs
def bvO(id s len:Nat):aD->aD
  | .box l=>.box (Nz id s len l)
  | .arr c z es=>.arr c z es
  | .dead=>.dead
def bvH(id s len:Nat):List aD->List aD
  | []=>[]
  | o::os=>bvO id s len o::bvH id s len os
theorem zS(id s len:Nat):∀ l,Nz id s len l=l.map (bvC id s len)
  | []=>rfl
  | c::cs=>by rw[Nz,zS id s len cs];rfl
theorem Sd(id s len:Nat):∀ l,bvS id s len l=l.map (bvV id s len)
  | []=>rfl
  | c::cs=>by rw[bvS,Sd id s len cs];rfl
theorem Kw(id s len:Nat):∀ l,bvH id s len l=l.map (bvO id s len)
  | []=>rfl
  | c::cs=>by rw[bvH,Kw id s len cs];rfl
def bvB(id s:Nat)(es:List (List DC))(st:AS):AS:=⟨bvS id s es.length st.sl,(bvH id s es.length st.hp).set id (.box (lQ es.flatten))⟩
def bv1(id s:Nat)(es:List (List DC))(st:AS):Bool->AS
  | true=>bR [id] st
  | false=>bvB id s es st
def bvZ(id:Nat)(st:AS):aD->AS
  | .arr _ s es=>bv1 id s es st es.isEmpty
  | _=>st
def N0:List Nat->AS->AS
  | [],st=>st
  | id::r,st=>N0 r (bvZ id st (aI st.hp id))
theorem pK{α:Type}{s:Nat}:∀ (es:List (List α)),(∀ e∈es,e.length=s)->es.flatten.length=es.length * s/\∀ (m:Nat) d,es.flatten[m]?=some d->∃ i j e,es[i]?=some e/\e[j]?=some d/\m=i * s+j
  | [],_=>⟨by simp,fun m d h=>by simp at h⟩
  | e::es,hs=>by
    obtain⟨h1,h2⟩:=pK es (fun x hx=>hs x (aWG _ hx))
    have he:=hs e (aWy ..);refine⟨by rw[aXc,aWg,h1,he,aWh,Nat.succ_mul,Nat.add_comm],fun m d h=>?_⟩
    rw[aXc] at h;by_cases hm:m < e.length
    · rw[aWx hm] at h
      exact⟨0,m,e,rfl,h,by simp⟩
    · rw[aWB (Nat.le_of_not_lt hm)] at h
      obtain⟨i,j,x,h3,h4,h5⟩:=h2 _ _ h;exact⟨i+1,j,x,h3,h4,by rw[Nat.succ_mul];omega⟩
section
variable {k:Nat} {as:AS} {F:Fz} {γ:List OI} {w:World}
theorem Gh.bv{id c s:Nat}{es:List (List DC)}(hb:aI as.hp id=.arr c s es)(hne:es.isEmpty=false):Gh k as (bvB id s es as):=by
  intro F γ a w hi hs hk;have hho:=dU hb (by simp);have hlt:id < γ.length:=by rw[hi.len];exact aG hho
  have hx:γ[id]?=some (γ[id]'hlt):=aWo hlt;generalize hxe:γ[id]'hlt=x at hx;have hok:=hi.ok id _ _ hho hx;cases x with
  | box _=>exact hok.elim
  | dead=>exact hok.elim
  | arr b cap'=>
  cases b with
  | none=>
    obtain⟨_,_,h3⟩:=hok;subst h3;cases hne
  | some b=>
  obtain⟨hcap,hle,hes,ws,T,how,hws,hwr⟩:=hok;subst hcap;obtain⟨hfl,hfg⟩:=pK es hes;have hg:∀ (i:Nat) (o:OI),(nq i id)=false->γ[i]?=some o->(γ.set id (.box b))[i]?=some o:=fun i o h1 h2=>by
    rw[iA] at h1;rw[aWz (fun e=>by rw[e] at h1;simp at h1)];exact h2
  have hgs:(γ.set id (.box b))[id]?=some (.box b):=aWI hlt;have hblk:∀ i b',bX (γ.set id (.box b)) i=some b'->bX γ i=some b':=by
    intro i b' h;obtain⟨y,hy,hyb⟩:=cQ h;by_cases hii:id=i
    · subst hii
      rw[hgs] at hy;injection hy with hy;subst hy
      exact bJ hx hyb
    · rw[aWz hii] at hy
      exact bJ hy hyb
  have fz:∀ {c:aR} {v:Value},RC F γ c v->RC F (γ.set id (.box b)) (bvC id s es.length c) v:=by
    intro c v h;have hq:∀ i,nq i id=true->i=id:=fun i h=>by rw[iA] at h;simpa using h
    have key:c.keep (fun x=>nq x id)=true->RC F (γ.set id (.box b)) c v:=fun hk=>h.mono (fun _ _ h=>h) hg hk
    cases c with
    | dc d=>exact key rfl
    | ref cs=>exact key rfl
    | mpc e=>exact key rfl
    | junk=>exact key rfl
    | fn f caps=>exact RC.kill (fun _ _ h=>h) hg h
    | ptr j o=>
      refine key ?_;simp only[aR.keep,aXg];cases hj:nq j id with
      | false=>rfl
      | true=>
        cases h with | ptr _ _ b' hj'=>
        rw[hq j hj,hx] at hj';injection hj' with hj';cases hj'
    | bls j lo n z=>
      cases hj:nq j id with
      | false=>exact key (by simp[aR.keep,hj])
      | true=>
        cases h with | bls _ _ _ _ b' cap c off hgm ho hc=>
        rw[hq j hj] at hgm ⊢;refine .bls _ _ _ _ b' cap c off (.inr ?_) ho hc;rw[hgs];rcases hgm with hgm | hgm
        · rw[hx] at hgm;injection hgm with hgm;injection hgm with h1 h2;injection h1 with h1;rw[h1]
        · rw[hx] at hgm;injection hgm with hgm;cases hgm
    | ept j i z o=>
      simp only[bvC];cases hj:nq j id with
      | false=>exact key (by simp[aR.keep,hj])
      | true=>
        simp only[cond_true];cases h with | ept _ _ _ _ b' cap hgm=>
        rw[hq j hj,hx] at hgm;injection hgm with hgm;injection hgm with h1 h2;injection h1 with h1;subst h1
        exact .ptr _ _ _ hgs
    | bld j n=>
      simp only[bvC];cases hj:nq j id with
      | false=>exact key (by simp[aR.keep,hj])
      | true=>
        simp only[cond_true];cases hn:nq n es.length with
        | false=>exact .junk _ h.is1
        | true=>
          rw[iA] at hn;have hn':n=es.length:=by simpa using hn
          simp only[cond_true];cases h with
          | bldN _ cap hgm=>rw[hq j hj,hx] at hgm;injection hgm with hgm;cases hgm
          | bld _ _ b' cap hgm=>
            rw[hq j hj,hx] at hgm;injection hgm with hgm;injection hgm with h1 h2;injection h1 with h1;subst h1;subst h2
            exact .bls _ _ _ _ b cap' cap' 0 (.inr hgs) (fun _=>by simp) (by omega)
  have fzs:∀ {l:List aR} {vs:Array Value},(∀ (i:Nat) c v,l[i]?=some c->vs[i]?=some v->RC F γ c v)->∀ (i:Nat) c v,(Nz id s es.length l)[i]?=some c->vs[i]?=some v->RC F (γ.set id (.box b)) c v:=by
    intro l vs h i c v hc hv;rw[zS,aWl] at hc;obtain⟨c0,h1,rfl⟩:=Option.map_eq_some_iff.1 hc;exact fz (h i c0 v h1 hv)
  refine⟨F,γ.set id (.box b),⟨fun _ _ h=>h,rfl,rfl,rfl,aWj _,fun _ _ _=>rfl,fun _ _ h=>.inl h,fun i b' h=>.inl ⟨i,hblk i b' h⟩,fun i _ b' h=>?_⟩,
    ⟨hi.fz,by simp[bvB,Kw,hi.len],fun i j b' h1 h2=>hi.nd i j b' (hblk i b' h1) (hblk j b' h2),fun i b' h=>hi.disj i b' (hblk i b' h),fun i o y h1 h2=>?_⟩, ?_,by simpa using hk⟩
  · rw[aWz (fun e=>by rw[<- e,hx] at h;injection h with h;cases h)];exact h
  · simp only[bvB,Kw] at h1
    by_cases hii:id=i
    · subst hii
      rw[hgs] at h2;rw[aWI (by rw[aWf,<- hi.len];exact hlt)] at h1;injection h1 with h1;injection h2 with h2;subst h1;subst h2
      have hmul:es.length * s<=cap' * s:=aXf _ hle;refine⟨ws,T,how,by rw[hws];simp only[lQ,aWf,hfl];exact hmul,fun m c v hc hv=>?_⟩
      simp only[lQ,aWl] at hc;obtain⟨d,h3,rfl⟩:=Option.map_eq_some_iff.1 hc;obtain⟨i,j,e,h4,h5,rfl⟩:=hfg m d h3;exact .dc _ _ (hwr i j e d v h4 h5 hv)
    · rw[aWz hii] at h1 h2
      rw[aWl] at h1;obtain⟨o0,h3,rfl⟩:=Option.map_eq_some_iff.1 h1;have h4:=hi.ok i o0 y h3 h2;cases o0 with
      | box l=>
        cases y with
        | box b'=>
          obtain⟨vs,T',g1,g2,g3⟩:=h4;exact⟨vs,T',g1,by simpa[zS] using g2,fzs g3⟩
        | arr _ _=>exact h4.elim
        | dead=>exact h4.elim
      | arr c2 s2 es2=>
        cases y with
        | box b'=>exact h4.elim
        | arr b' c'=>cases b'<;>exact h4
        | dead=>exact h4.elim
      | dead=>
        cases y with
        | box b'=>exact h4.elim
        | arr b' c'=>cases b'<;>exact h4.elim
        | dead=>trivial
  · refine⟨hs.1,by simpa[bvB,Sd] using hs.2.1,fun i av v h1 h2=>?_⟩
    simp only[bvB,Sd] at h1;rw[aWl] at h1;obtain⟨av0,h3,rfl⟩:=Option.map_eq_some_iff.1 h1;have h4:=hs.2.2 i av0 v h3 h2;cases h4 with
    | one c v h=>exact .one _ _ (fz h)
    | agg l vs hsz h=>exact .agg _ _ (by simpa[zS] using hsz) (fzs h)
    | tup l vs hsz h=>
      refine .tup _ _ (by simpa using hsz) (fun i t v h1 h2=>?_)
      rw[aWl] at h1;obtain⟨t0,h5,rfl⟩:=Option.map_eq_some_iff.1 h1;cases h i t0 v h5 h2 with
      | one c v h=>exact .one _ _ (fz h)
      | agg l vs hsz h=>exact .agg _ _ (by simpa[zS] using hsz) (fzs h)
    | junk v=>exact .junk v
theorem Y7{id s n:Nat}(o:aD):aN (bvO id s n o)=bvO id s n (aN o):=by cases o<;>rfl
theorem rU:∀ (ids:List Nat) (s:AS),∃ s',Gh k s s'/\aE s'=N0 ids (aE s)
  | [],s=>⟨s,Gh.refl,rfl⟩
  | id::r,s=>by
    simp only[N0];have e:aI (aE s).hp id=aN (aI s.hp id):=bH (hp:=s.hp) id;rw[e];cases ho:aI s.hp id with
    | box cs=>exact rU r s
    | dead=>exact rU r s
    | arr c z es=>
      simp only[aN,bvZ];cases hn:es.isEmpty with
      | true=>
        obtain⟨s1,g1,g2⟩:=eL (k:=k) [id] s;obtain⟨s',h1,h2⟩:=rU r s1;refine⟨s',g1.trans h1, ?_⟩;rw[h2,g2];rfl
      | false=>
        obtain⟨s',h1,h2⟩:=rU r (bvB id z es s);refine⟨s',(Gh.bv ho hn).trans h1, ?_⟩;rw[h2];congr 1;simp only[bv1,bvB,aE,Kw,aWM,aWE,aN];congr 2;exact aWC (fun o _=>by simp only[Function.comp_apply,Y7])
end
end
section
inductive GH where
  | nil (d sz:Nat)
  | nilB (d j sz:Nat)
  | frz (d:Nat)
  | bv (d:Nat)
inductive HC where
  | skip | ret
  | exit (id:Nat)
  | region (ops:List aM)
  | regR (L:List Nat) (ops:List aM)
  | drawn (ops:List (Bool × aM))
  | drawnF (prs:List (Nat × Nat)) (ops:List aM)
  | drawnT (L:List Nat) (t:IT) (ops:List aM)
  | seq (a b:HC)
  | cond (c:aH) (a b:HC)
  | block (id:Nat) (a:HC)
  | loop (live:List Nat) (a:HC)
  | gh (g:GH) (a:HC)
  | trm (L:List Nat) (a:HC)
  | bad
def HC.er:HC->dJ
  | .skip=>.skip
  | .ret=>.ret
  | .exit id=>.exit id
  | .region ops=>.region ops
  | .regR _ ops=>.region ops
  | .drawn ops=>.drawn ops
  | .drawnF prs ops=>.drawnF prs ops
  | .drawnT _ t ops=>.drawnT t ops
  | .seq a b=>.seq a.er b.er
  | .cond c a b=>.cond c a.er b.er
  | .block id a=>.block id a.er
  | .loop _ a=>.loop a.er
  | .gh _ a=>a.er
  | .trm _ a=>a.er
  | .bad=>.bad
abbrev Oo(d:Nat)(ai:AI):aM:=⟨some d,ai,none⟩
abbrev On(ai:AI):aM:=⟨none,ai,none⟩
abbrev Og(g:Nat)(b:Bool)(d:Nat)(ai:AI):aM:=⟨some d,ai,some (g,b)⟩
abbrev Qo(x:aM):Bool × aM:=(true,x)
abbrev Qe(x:aM):Bool × aM:=(false,x)
abbrev Ki(n:Int):aH:=.k (.int .i64 n)
abbrev Zi(n:Int):Value:=.int .i64 n
def ghN(d sz:Nat)(st:AS):AV->AS
  | .one (.dc (.raw (.slice none 0 0)))=>⟨st.sl.set d (.one (.bld st.hp.length 0)),st.hp++[.arr 0 sz []]⟩
  | _=>st
def aGI(id j sz:Nat)(cs:List aR)(st:AS):Option aR->AS
  | some (.dc (.raw (.slice none 0 0)))=>⟨st.sl,st.hp.set id (.box (cs.set j (.bld st.hp.length 0)))++[.arr 0 sz []]⟩
  | _=>st
def aGJ(id j sz:Nat)(st:AS):aD->AS
  | .box cs=>aGI id j sz cs st cs[j]?
  | _=>st
def ghB(j sz:Nat)(st:AS):AV->AS
  | .one (.ptr id off)=>aGJ id (off+j) sz st (aI st.hp id)
  | _=>st
def aLF:aR->List Nat
  | .bld id _=>[id]
  | _=>[]
def aCg:List aR->List Nat
  | []=>[]
  | c::cs=>aLF c++aCg cs
def aCh:AV->List Nat
  | .one c=>aLF c
  | .agg cs=>aCg cs
  | _=>[]
def ghE:GH->AS->AS
  | .nil d sz,st=>ghN d sz st (st.sl.getD d .junk)
  | .nilB d j sz,st=>ghB j sz st (st.sl.getD d .junk)
  | .frz d,st=>bR (aCh (st.sl.getD d .junk)) st
  | .bv d,st=>N0 (aCh (st.sl.getD d .junk)) st
def fM(size:Nat):List (List DC)->Bool
  | []=>true
  | e::es=>nq e.length size&&fM size es
def klC(id:Nat):aR->aR
  | .dc d=>.dc d
  | .ref cs=>.ref cs
  | .mpc es=>.mpc es
  | .junk=>.junk
  | .ptr j o=>bif nq j id then .junk else .ptr j o
  | .bld j n=>bif nq j id then .junk else .bld j n
  | .ept j i s o=>bif nq j id then .junk else .ept j i s o
  | .bls j i s o=>bif nq j id then .junk else .bls j i s o
  | .fn f caps=>cE (·==id) (.fn f caps)
def Se(id:Nat):List aR->List aR
  | []=>[]
  | c::cs=>klC id c::Se id cs
def klV(id:Nat):AV->AV
  | .one c=>.one (klC id c)
  | .agg cs=>.agg (Se id cs)
  | .tup l=>.tup (l.map (qZ (·==id)))
  | .junk=>.junk
def klS(id:Nat):List AV->List AV
  | []=>[]
  | v::vs=>klV id v::klS id vs
def klO(id:Nat):aD->aD
  | .box cs=>.box (Se id cs)
  | .arr c s es=>.arr c s es
  | .dead=>.dead
def klH(id:Nat):List aD->List aD
  | []=>[]
  | o::os=>klO id o::klH id os
def apB(d:Option Nat)(size bytes:Nat)(st:AS)(id n:Nat):aD->Option (List (List DC))->Option AS
  | .arr _ sz es,some news=>if sz=size/\n<=es.length/\fM size news=true/\(n+news.length) * bytes<=140737488355328 then
      some ⟨aP (klS id st.sl) d (.one (.bld id (n+news.length))),(klH id st.hp).set id (.arr 0 size (es.take n++news))⟩ else none
  | _,_=>none
def apN(d:Option Nat)(size bytes:Nat)(st:AS):Option (List (List DC))->Option AS
  | some news=>if fM size news=true/\news.length * bytes<=140737488355328 then
      some ⟨aP st.sl d (.one (.bld st.hp.length news.length)),klH st.hp.length st.hp++[.arr 0 size news]⟩ else none
  | none=>none
def apZ(d:Option Nat)(size bytes:Nat)(st:AS):AV->AV->Option AS
  | .one (.bld id n),x=>apB d size bytes st id n (aI st.hp id) (qA st.hp x)
  | .one (.dc (.raw (.slice none 0 0))),x=>apN d size bytes st (qA st.hp x)
  | _,_=>none
def Sf:aR->Bool
  | .ptr _ _=>false
  | .ept _ _ _ _=>false
  | .bls _ _ _ _=>false
  | .fn _ caps=>caps.all Nt
  | _=>true
def aCi:AV->Bool
  | .one c=>Sf c
  | .agg cs=>cs.all Sf
  | .tup _=>false
  | .junk=>true
def qG(G:aF)(sl:List AV):List aH->Bool
  | []=>true
  | x::xs=>aCi (aJ G sl x)&&qG G sl xs
def Dl(G:aF)(st:AS):List aH->List AV
  | []=>[]
  | x::xs=>Dj (vwA st.hp (aJ G st.sl x))::Dl G st xs
def zT(G:aF)(st:AS):List aH->List AV
  | []=>[]
  | x::xs=>Dj (vpA st.hp (aJ G st.sl x))::zT G st xs
def jX(G:aF)(sl:List AV):List aH->List AV
  | []=>[]
  | x::xs=>Dj (aJ G sl x)::jX G sl xs
def kY(G:aF)(sl:List AV):List aH->List Nat
  | []=>[]
  | x::xs=>aCh (aJ G sl x)++kY G sl xs
def nwK(d:Option Nat)(st:AS):Option (AV × List aD)->Option AS
  | some (av,os)=>some ⟨aP st.sl d (dB (cG [] st.hp.length) av),st.hp++os.map (dP (cG [] st.hp.length))⟩
  | none=>none
def Sg(call:aO)(G:aF)(d:Option Nat)(f:FuncId)(xs:List aH)(st:AS):Option AS:=
  bif (jX G st.sl xs).all (cU fun _=>true) then nwK d st (call f (jX G st.sl xs) []) else none
def aLH:aD->Bool
  | .arr c _ _=>nq c 0
  | _=>true
def Y8:List aD->Bool
  | []=>true
  | o::os=>aLH o&&Y8 os
def dnK(d:Option Nat)(st:AS):Option (AV × List aD)->Option AS
  | some (av,os)=>bif Y8 os then some ⟨aP st.sl d (dB (cG [] st.hp.length) av),st.hp++os.map (dP (cG [] st.hp.length))⟩ else none
  | none=>none
def dnZ(call:aO)(G:aF)(d:Option Nat)(f:FuncId)(xs:List aH)(st:AS):Option AS:=
  bif (jX G st.sl xs).all (cU fun _=>true) then dnK d st (call f (jX G st.sl xs) []) else none
def Y9(call:aO)(G:aF)(d:Option Nat)(f:FuncId)(xs:List aH)(st:AS):Option (AV × List aD)->Option AS
  | some (av,[])=>bif kX av then some ⟨aP st.sl d av,st.hp⟩ else Sg call G d f xs (bR (kY G st.sl xs) st)
  | some (_,_::_)=>Sg call G d f xs (bR (kY G st.sl xs) st)
  | none=>none
def jY(call:aO):aO:=fun f a hp=>call f (a.map Dj) hp
def clZ(call:aO)(G:aF)(d:Option Nat)(f:FuncId)(xs:List aH)(st:AS):Option AS:=
  bif qG G st.sl xs then Y9 call G d f xs st (call f (Dl G st xs) [])
  else jV (jY call) d f (xs.map (aJ G (bR (kY G st.sl xs) st).sl)) (bR (kY G st.sl xs) st)
def cvK(call:aO)(G:aF)(d:Option Nat)(xs:List aH)(st:AS):AV->Option AS
  | .one (.fn f caps)=>jV (jY call) d f (xs.map (aJ G st.sl)++caps.map AV.one) st
  | _=>none
def cvZ(call:aO)(G:aF)(d:Option Nat)(x:aH)(xs:List aH)(st:AS):Option AS:=
  cvK call G d xs (bR (kY G st.sl xs) st) (aJ G (bR (kY G st.sl xs) st).sl x)
def isT(t:Nat):aH->Bool
  | .t n=>nq n t
  | _=>false
def aLI(t:Nat):List aH->Bool
  | []=>false
  | x::xs=>isT t x||aLI t xs
def aKn(t:Nat):AI->Bool
  | .app _ _ _ _ x=>isT t x
  | .call _ xs=>aLI t xs
  | _=>false
def aLJ(t:Nat):List aM->Bool
  | []=>false
  | o::l=>aKn t o.ai||aLJ t l
def aGM:Option Nat->List aM->Bool
  | some t,l=>aLJ t l
  | none,_=>false
def Fw(G:aF)(sl:List AV):List (Nat × aH)->List Nat
  | []=>[]
  | (_,x)::ps=>aCh (aJ G sl x)++Fw G sl ps
def bsP(st:AS)(d:Option Nat)(size len:Nat)(cs:List aR):Option (List DC)->Option AS
  | some ds=>if ds.length=len * size then some ⟨aP st.sl d (.one (.bld st.hp.length len)),st.hp++[.arr 0 size (eO size len ds)]⟩ else none
  | none=>if size=1 then some ⟨aP st.sl d (.one (.bls st.hp.length 0 len 1)),st.hp++[.box cs]⟩ else none
def bsO(G:aF)(st:AS)(d:Option Nat)(size len:Nat)(z:List Value)(ps:List (Nat × aH)):Option AS:=
  (gD (zs z (len * size)) (ps.map fun (j,x)=>(j * size,size,aJ G st.sl x))).bind fun cs=>bsP st d size len cs (dcs cs)
def bsZ(G:aF)(st:AS)(d:Option Nat)(size len:Nat)(z:List Value)(ps:List (Nat × aH)):Bool->Option AS
  | true=>bsX G (bR (Fw G st.sl ps) st) d size len z ps
  | false=>bsO G (bR (Fw G st.sl ps) st) d size len z ps
def mkK(d:Option Nat)(size bytes:Nat)(zero:List Value)(st:AS):Option Int->Option Int->Option AS
  | some (.ofNat n),some (.ofNat m)=>if n<=m/\m * bytes<=140737488355328 then some ⟨aP st.sl d (.one (.bld st.hp.length n)),st.hp++[.arr 0 size (List.replicate n (zero.map DC.raw))]⟩ else none
  | _,_=>none
def mkZ(G:aF)(st:AS)(d:Option Nat)(size bytes:Nat)(zero:List Value)(l c:aH):Option AS:=mkK d size bytes zero st (bE (aJ G st.sl l)) (bE (aJ G st.sl c))
def aPH(d:Option Nat)(st:AS)(id k n size:Nat)(cs:List aR):List Value->Option AS
 | [v]=>if size=1/\0 < n/\k+n<=cs.length then some ⟨aP st.sl d (.tup []),st.hp.set id (.box (cO cs k (List.replicate n (cZ v))))⟩ else none
 | _=>none
def Sh(d:Option Nat)(st:AS)(id k n size:Nat)(zero:List Value):aD->Option AS
 | .arr _ s es=>if s=size/\k+n<=es.length then some ⟨aP st.sl d (.tup []),st.hp.set id (.arr 0 size (Mw es k n (zero.map DC.raw)))⟩ else none
 | .box cs=>aPH d st id k n size cs zero
 | _=>none
def aLL(d:Option Nat)(size:Nat)(zero:List Value)(st:AS):AV->Option AS
  | .one (.bls id k n s)=>if s=size then Sh d st id k n size zero (aI st.hp id) else none
  | .one (.bld id n)=>Sh d st id 0 n size zero (aI st.hp id)
  | _=>none
def Za(G:aF)(st:AS)(d:Option Nat)(size:Nat)(zero:List Value)(x:aH):Option AS:=aLL d size zero st (aJ G st.sl x)
def aCj(d:Option Nat)(st:AS)(id lo n:Nat)(s:ByteArray):aD->Option AS
  | .box cs=>if lo+n<=cs.length then some ⟨aP st.sl d (dD (.int .i64 (min s.size n:Nat))),st.hp.set id (.box (cO cs lo (dR (s.data.toList.take n))))⟩ else none
  | .arr _ z es=>if z=1/\lo+n<=es.length then some ⟨aP st.sl d (dD (.int .i64 (min s.size n:Nat))),st.hp.set id (.arr 0 1 (M0 es lo (s.data.toList.take n)))⟩ else none
  | _=>none
def aLM(d:Option Nat)(st:AS):AV->Option ByteArray->Option AS
  | .one (.bls id lo n z),some s=>if z=1 then aCj d st id lo n s (aI st.hp id) else none
  | _,_=>none
def Zb(G:aF)(st:AS)(d:Option Nat)(x y:aH):Option AS:=aLM d st (aJ G st.sl x) (dA (aJ G st.sl y))
def aPI(d:Option Nat)(st:AS):Option ByteArray->Option AS
  | some s=>some ⟨aP st.sl d (.one (.dc (.slc (fK s)))),st.hp⟩
  | none=>none
def Zc(G:aF)(st:AS)(d:Option Nat)(x:aH):Option AS:=aPI d st (dA (aJ G st.sl x))
def aGN(d:Option Nat)(st:AS):Option ByteArray->Option AS
  | some s=>some ⟨aP st.sl d (.one (.bld st.hp.length s.size)),st.hp++[.arr 0 1 (fK s)]⟩
  | none=>none
def mbK(d:Option Nat)(size bytes:Nat)(st:AS):List Value->Option Int->Option Int->Option AS
  | [v],some (.ofNat n),some (.ofNat m)=>if size=1/\n<=m/\m * bytes<=140737488355328 then some ⟨aP st.sl d (.one (.bls st.hp.length 0 n 1)),st.hp++[.box (List.replicate m (cZ v))]⟩ else none
  | _,_,_=>none
def lF(call:aO)(G:aF)(st:AS)(l:List aM)(d:Option Nat):AI->Option AS
  | .call f xs=>clZ call G d f xs st
  | .callv x xs=>cvZ call G d x xs st
  | .app size bytes _ s x=>apZ d size bytes st (aJ G st.sl s) (aJ G st.sl x)
  | .bslc size len z ps=>bsZ G st d size len z ps (aGM d l)
  | .apps _ _=>none
  | .mk size bytes z x y=>mkZ G st d size bytes z x y
  | .clr size z x=>Za G st d size z x
  | .cpys x y=>Zb G st d x y
  | .cvsb x=>Zc G st d x
  | ai=>Ea G st d ai
def guZ(call:aO)(G:aF)(st:AS)(l:List aM)(d:Option Nat)(ai:AI):Option Bool->Option AS
  | some true=>lF call G st l d ai
  | some false=>some ⟨aP st.sl d (.tup []),st.hp⟩
  | none=>none
def Si(call:aO)(G:aF)(st:AS)(l:List aM)(d:Option Nat)(ai:AI):Option (Nat × Bool)->Option AS
  | none=>lF call G st l d ai
  | some (g,b)=>guZ call G st l d ai (gK b (aJ G st.sl (.t g)))
def evR(call:aO)(G:aF):List aM->Option AS->Option AS
  | _,none=>none
  | [],some st=>some st
  | o::l,some st=>evR call G l (Si call G st l o.dst o.ai o.guard)
def Kx:List Nat->Nat->Bool
  | [],_=>false
  | x::L,n=>nq n x||Kx L n
def jF(L:List Nat):AI->Option (Nat × Bool)->Bool
  | .call f _,none=>Kx L f
  | .mk _ _ _ _ _,none=>Kx L 0
  | .cvsb _,none=>Kx L 1
  | _,_=>false
def vpK(d:Option Nat)(st:AS):Option (AV × List aD)->Option AS
  | some (av,[])=>bif kX av then some ⟨aP st.sl d av,st.hp⟩ else none
  | some (_,_::_)=>none
  | none=>none
def aCk(call:aO)(G:aF)(st:AS)(d:Option Nat)(f:FuncId)(xs:List aH):Bool->Option AS
  | true=>vpK d st (call f (zT G st xs) [])
  | false=>jV (jY call) d f (xs.map (aJ G st.sl)) st
def N3(call:aO)(G:aF)(L:List Nat)(st:AS)(d:Option Nat):AI->Option AS
  | .call f xs=>aCk call G st d f xs (Kx L (f+100000))
  | .mk size bytes z x y=>mbK d size bytes st z (bE (aJ G st.sl x)) (bE (aJ G st.sl y))
  | .cvsb x=>aGN d st (dA (aJ G st.sl x))
  | _=>none
def Fx(call:aO)(G:aF)(L:List Nat)(st:AS)(l:List aM)(d:Option Nat)(ai:AI)(g:Option (Nat × Bool)):Bool->Option AS
  | true=>N3 call G L st d ai
  | false=>Si call G st l d ai g
def Dm(call:aO)(G:aF)(L:List Nat):List aM->Option AS->Option AS
  | _,none=>none
  | [],some st=>some st
  | o::l,some st=>Dm call G L l (Fx call G L st l o.dst o.ai o.guard (jF L o.ai o.guard))
open Classical in
noncomputable def C0(n0:Nat)(a b:Option AS):Option AS:=if ∃ s s' p,a=some s/\b=some s'/\pOK n0 s'.hp.length p/\prm p s'=s then a else none
noncomputable def C1(call:aO)(G:aF)(L:List Nat)(n0:Nat)(ops:List aM):IT->Option AS->Option AS
  | _,none=>none
  | .nil,some st=>some st
  | .st i t,some st=>C1 call G L n0 ops t (Fx call G L st ops (gE ops i).dst (gE ops i).ai (gE ops i).guard (jF L (gE ops i).ai (gE ops i).guard))
  | .br i t r,some st=>match Kk r with
    | true=>C1 call G L n0 ops t (Fx call G L st ops (gE ops i).dst (gE ops i).ai (gE ops i).guard (jF L (gE ops i).ai (gE ops i).guard))
    | false=>C0 n0 (C1 call G L n0 ops t (Fx call G L st ops (gE ops i).dst (gE ops i).ai (gE ops i).guard (jF L (gE ops i).ai (gE ops i).guard))) (C1 call G L n0 ops r (some st))
  | .stop,some _=>none
def qcF(d:Option Nat)(st:AS)(v:AV):Option AS:=bif cU (fun _=>true) v then some ⟨aP st.sl d v,st.hp⟩ else none
def qcK(d:Option Nat)(st:AS):Option (AV × List aD)->Option AS
  | some (av,[])=>bif cU (fun _=>true) av then some ⟨aP st.sl d av,st.hp⟩ else none
  | some (av,o::os)=>qcF d st (bA (fun id=>decide (0<=id)) ((bR (iL av) ⟨[av],o::os⟩).sl.getD 0 .junk))
  | none=>none
def Bb(call:aO)(G:aF)(st:AS)(d:Option Nat):AI->Option AS
  | .call f xs=>bif (jX G st.sl xs).all (cU fun _=>true) then qcK d st (call f (jX G st.sl xs) []) else none
  | ai=>fF st d (Yy G st.sl (Kf ai st.hp) ai)
def dvK(call:aO)(G:aF)(d:Option Nat)(f:FuncId)(xs:List aH)(st:AS):Option (AV × List aD)->Option AS
  | some (av,[])=>bif kX av then some ⟨aP st.sl d av,st.hp⟩ else dnZ call G d f xs st
  | some (_,_::_)=>dnZ call G d f xs st
  | none=>none
def Zd(call:aO)(G:aF)(st:AS)(d:Option Nat):AI->Option AS
  | .call f xs=>dvK call G d f xs st (call f (zT G st xs) [])
  | .callv x xs=>cvZ call G d x xs st
  | .app size bytes _ s x=>apZ d size bytes st (aJ G st.sl s) (aJ G st.sl x)
  | .bslc size len z ps=>bsO G st d size len z ps
  | .mk size bytes z x y=>mkZ G st d size bytes z x y
  | .clr size z x=>Za G st d size z x
  | .cpys x y=>Zb G st d x y
  | .cvsb x=>Zc G st d x
  | .alloc z=>Ea G st d (.alloc z)
  | .box x=>Ea G st d (.box x)
  | .store size x v=>Ea G st d (.store size x v)
  | _=>none
def Ze(call:aO)(G:aF)(st:AS)(d:Option Nat)(ai:AI):Bool->Option AS
  | true=>Bb call G st d ai
  | false=>Zd call G st d ai
def Zf(call:aO)(G:aF)(st:AS)(q:Bool)(d:Option Nat)(ai:AI):Option Bool->Option AS
  | some true=>Ze call G st d ai q
  | some false=>some ⟨aP st.sl d (.tup []),st.hp⟩
  | none=>none
def drO(call:aO)(G:aF)(st:AS)(q:Bool)(d:Option Nat)(ai:AI):Option (Nat × Bool)->Option AS
  | none=>Ze call G st d ai q
  | some (g,b)=>Zf call G st q d ai (gK b (aJ G st.sl (.t g)))
def Dn(call:aO)(G:aF):List (Bool × aM)->Option AS->Option AS
  | _,none=>none
  | [],some st=>some st
  | o::l,some st=>Dn call G l (drO call G st o.1 o.2.dst o.2.ai o.2.guard)
def Zg:AI->Bool
  | .alloc _=>true
  | _=>false
def nAl:List aM->Nat
  | []=>0
  | o::l=>bif Zg o.ai then nAl l+1 else nAl l
def zU:Nat->List aD
  | 0=>[]
  | n+1=>.dead::zU n
abbrev FP:=List Nat × List Nat
def Zh(G:aF)(sl:List AV):List aH->List Nat
  | []=>[]
  | x::xs=>Ml (aJ G sl x)++Zh G sl xs
def fvN(d:Option Nat)(r:Nat)(z:List Value)(st:AS):Option aD->Option (AS × FP)
  | some .dead=>some (⟨aP st.sl d (.one (.ptr r 0)),st.hp.set r (.box (z.map cZ))⟩,[r],[])
  | _=>none
def fvT(size id off:Nat)(vs:List aR)(st:AS):Option aD->Option (AS × FP)
  | some (.box cs)=>if vs.length=size/\off+size<=cs.length then some (⟨st.sl,st.hp.set id (.box (cO cs off vs))⟩,[id],[id]) else none
  | _=>none
def fvS(d:Option Nat)(size:Nat)(st:AS):AV->Option (List aR)->Option (AS × FP)
  | .one (.ptr id off),some vs=>match d with
    | none=>fvT size id off vs st st.hp[id]?
    | some _=>none
  | _,_=>none
def Rf(R:List Nat):Option AS->Option (AS × FP)
  | some s=>some (s,[],R)
  | none=>none
def aGO(d:Option Nat)(id lo n:Nat)(bs:ByteArray)(st:AS):Option aD->Option (AS × FP)
  | some (.box cs)=>if lo+n<=cs.length then some (⟨aP st.sl d (dD (.int .i64 (min bs.size n:Nat))),st.hp.set id (.box (cO cs lo (dR (bs.data.toList.take n))))⟩,[id],[id]) else none
  | _=>none
def fvY(d:Option Nat)(st:AS):AV->Option ByteArray->Option (AS × FP)
  | .one (.bls id lo n z),some bs=>if z=1 then aGO d id lo n bs st st.hp[id]? else none
  | _,_=>none
def aCl(d:Option Nat)(id:Nat)(st:AS):Option (AV × List aD)->Option (AS × FP)
  | some (.tup [],[.box cs])=>bif keepL (fun _=>true) cs then some (⟨aP st.sl d (.tup []),st.hp.set id (.box cs)⟩,[id],[id]) else none
  | _=>none
def fvB(call:aO)(d:Option Nat)(f:FuncId)(st:AS)(avs:List AV)(id:Nat):Option aD->Option (AS × FP)
  | some (.box cs)=>bif keepL (fun _=>true) cs&&avs.all (cU (jU [id])) then aCl d id st (jY call f (avs.map (dB (kV [id]))) [.box cs]) else none
  | _=>none
def fvC(call:aO)(G:aF)(st:AS)(d:Option Nat)(f:FuncId)(xs:List aH):List Nat->Option (AS × FP)
  | []=>Rf [] (Bb call G st d (.call f xs))
  | [id]=>fvB call d f st (xs.map (aJ G st.sl)) id st.hp[id]?
  | _=>none
def fvL:Nat->Option AS->Option (AS × FP)
  | 0,_=>none
  | _+1,s=>Rf [] s
def Ia(call:aO)(G:aF)(st:AS)(d:Option Nat)(r:Nat):AI->Option (AS × FP)
  | .alloc z=>fvN d r z st st.hp[r]?
  | .store size x v=>fvS d size st (aJ G st.sl x) (cellsOf (aJ G st.sl v))
  | .cpys x y=>fvY d st (aJ G st.sl x) (dA (aJ G st.sl y))
  | .call f xs=>fvC call G st d f xs ((xs.map (aJ G st.sl)).flatMap iL)
  | .bslc size len z ps=>fvL len (bsX G st d size len z ps)
  | ai=>bif ai.isPure then Rf (Zh G st.sl (aW ai)) (lF call G st [] d ai) else none
def fvG(call:aO)(G:aF)(st:AS)(d:Option Nat)(r:Nat)(ai:AI):Option Bool->Option (AS × FP)
  | some true=>Ia call G st d r ai
  | some false=>some (⟨aP st.sl d (.tup []),st.hp⟩,[],[])
  | none=>none
def fvO(call:aO)(G:aF)(st:AS)(d:Option Nat)(r:Nat)(ai:AI):Option (Nat × Bool)->Option (AS × FP)
  | none=>Ia call G st d r ai
  | some (g,b)=>fvG call G st d r ai (gK b (aJ G st.sl (.t g)))
def N4:List Nat->Nat->Bool
  | [],_=>false
  | x::L,n=>nq n x||N4 L n
def Do:List Nat->List Nat->Bool
  | [],_=>true
  | x::a,b=>!N4 b x&&Do a b
def dsM:FP->FP->Bool
  | (w,r),(w',r')=>Do w r'&&(Do w w'&&Do w' r)
def atF:List FP->Nat->FP
  | [],_=>([],[])
  | f::_,0=>f
  | _::fs,n+1=>atF fs n
def Ib:List (Nat × Nat)->List FP->Bool
  | [],_=>true
  | (p,q)::prs,fs=>dsM (atF fs p) (atF fs q)&&Ib prs fs
def Sj(call:aO)(G:aF)(prs:List (Nat × Nat)):List FP->Nat->List aM->Option AS->Option AS
  | _,_,_,none=>none
  | acc,_,[],some st=>bif Ib prs acc then some st else none
  | acc,r,o::l,some st=>match fvO call G st o.dst r o.ai o.guard with
    | some (s,f)=>Sj call G prs (acc++[f]) (bif Zg o.ai then r+1 else r) l (some s)
    | none=>none
def ctC(m:Nat):aR->aR
  | .dc d=>.dc d
  | .ref cs=>.ref cs
  | .mpc es=>.mpc es
  | .junk=>.junk
  | .ptr j o=>if m<=j then .junk else .ptr j o
  | .bld j n=>if m<=j then .junk else .bld j n
  | .ept j i s o=>if m<=j then .junk else .ept j i s o
  | .bls j i s o=>if m<=j then .junk else .bls j i s o
  | .fn f caps=>cE (fun id=>decide (m<=id)) (.fn f caps)
def Ic(m:Nat):List aR->List aR
  | []=>[]
  | c::cs=>ctC m c::Ic m cs
def ctV(m:Nat):AV->AV
  | .one c=>.one (ctC m c)
  | .agg cs=>.agg (Ic m cs)
  | .tup l=>.tup (l.map (qZ fun id=>decide (m<=id)))
  | .junk=>.junk
def ctO(m:Nat):aD->aD
  | .box cs=>.box (Ic m cs)
  | .arr c s es=>.arr c s es
  | .dead=>.dead
def ctH(m:Nat):Nat->List aD->List aD
  | 0,_=>[]
  | _+1,[]=>[]
  | n+1,o::os=>ctO m o::ctH m n os
def ctS(m:Nat):List Nat->List AV->List AV
  | _,[]=>[]
  | [],_::xs=>.junk::ctS m [] xs
  | 0::L,x::xs=>ctV m x::ctS m L xs
  | (n+1)::L,_::xs=>.junk::ctS m (n::L) xs
def jL(L:List Nat)(m:Nat)(st:AS):AS:=⟨ctS m L st.sl,ctH m m st.hp⟩
def H3(run:AS->Option (Exit × AS))(L:List Nat)(m:Nat):Nat->AS->Option (Exit × AS)
  | 0,_=>none
  | n+1,st=>match run st with
    | some (.normal,s)=>H3 run L m n (jL L m s)
    | r=>r
open Classical in
noncomputable def lim{α:Type}(f:Nat->Option α):Option α:=if h:∃ n r,f n=some r then f h.choose else none
noncomputable def uJ(run:AS->Option (Exit × AS))(L:List Nat)(m:Nat)(st:AS):Option (Exit × AS):=lim fun n=>H3 run L m n st
def nrm:Option AS->Option (Exit × AS)
  | some s=>some (.normal,s)
  | none=>none
def aGP(id:Nat)(s:AS):Exit->Option (Exit × AS)
  | .exit id'=>if id'=id then some (.normal,s) else some (.exit id',s)
  | e=>some (e,s)
def Fy(id:Nat):Option (Exit × AS)->Option (Exit × AS)
  | some (e,s)=>aGP id s e
  | none=>none
noncomputable def EC(call:aO)(G:aF):HC->AS->Option (Exit × AS)
  | .skip,st=>some (.normal,st)
  | .ret,st=>some (.ret,st)
  | .exit id,st=>some (.exit id,st)
  | .region ops,st=>nrm (evR call G ops (some st))
  | .regR L ops,st=>nrm (Dm call G L ops (some st))
  | .drawn ops,st=>nrm (Dn call G ops (some st))
  | .drawnF prs ops,st=>nrm (Sj call G prs [] st.hp.length ops (some ⟨st.sl,st.hp++zU (nAl ops)⟩))
  | .drawnT L t ops,st=>nrm (C1 call G L st.hp.length ops t (some st))
  | .seq a b,st=>match EC call G a st with
    | some (.normal,s)=>EC call G b s
    | r=>r
  | .cond c a b,st=>match cF (aJ G st.sl c) with
    | some true=>EC call G a st
    | some false=>EC call G b st
    | none=>none
  | .block id a,st=>Fy id (EC call G a st)
  | .loop L a,st=>uJ (EC call G a) L st.hp.length (jL L st.hp.length st)
  | .gh g a,st=>EC call G a (ghE g st)
  | .trm L a,st=>EC call G a (jL L st.hp.length st)
  | .bad,_=>none
structure HF where
  code:HC
  rs:List kE
  nt:Nat
  own:Bool
structure HT where
  tab:FuncId->Option HF
  base:aO
def aLP(own:Bool)(n:Nat)(hp:List aD)(v:AV):AV × List aD:=
  bif own then
    (bif cU (fun id=>decide (n<=id)) v&&(hp.take n).all (nD fun id=>decide (n<=id)) then (Dj v,hp.take n) else (Dj v,hp))
  else (Dj (bA (fun id=>decide (n<=id)) ((bR (iL v) (bxW n (iL v) ⟨[v],hp⟩ (Sc v))).sl.getD 0 .junk)),((bR (iL v) (bxW n (iL v) ⟨[v],hp⟩ (Sc v))).hp.take n).map (cI fun id=>decide (n<=id)))
def Sk(own:Bool)(n:Nat)(hp:List aD):Option AV->Option (AV × List aD)
  | some v=>some (aLP own n hp v)
  | none=>none
def Br(own:Bool)(rs:List kE)(n:Nat):Option (Exit × AS)->Option (AV × List aD)
  | some (e,s)=>if I5 e=true/\n<=s.hp.length then Sk own n s.hp (qV s rs) else none
  | none=>none
noncomputable def Sl(call:aO)(G:aF)(h:HF)(args:List AV)(hp:List aD):Option (AV × List aD):=
  Br h.own h.rs hp.length (EC call G h.code ⟨args++qS (h.nt - args.length),hp⟩)
noncomputable def callN(G:aF)(T:HT):Nat->aO
  | 0,_,_,_=>none
  | n+1,f,args,hp=>match T.tab f with
    | some h=>Sl (callN G T n) G h args hp
    | none=>T.base f args hp
noncomputable def EV(G:aF)(T:HT):aO:=fun f args hp=>lim fun n=>callN G T n f args hp
end
end Go.Proofs.YthepfneloomngaaGreatDoor
