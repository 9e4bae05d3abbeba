/- Codes with hints, and an evaluator of them whose steps are equations. Conditions: none. -/
import Derived.Test.YtcplecjhmnblpaaGreatDoorMb
namespace Go.Proofs.YtcplecjhmnblpaaGreatDoor
set_option linter.unusedSimpArgs false
set_option linter.unusedVariables false
section
def Jd:aR->Bool
  | .dc _=>true
  | .ref _=>true
  | .mpc _=>true
  | _=>false
def Pt(hp:List aC):aR->aR
  | .bld id n=>match aI hp id with
    | .arr _ _ es=>if n<=es.length then .dc (.slc (es.take n)) else .junk
    | _=>.junk
  | .dc d=>.dc d
  | .ref ds=>.ref ds
  | .mpc es=>.mpc es
  | .fn f caps=>bif caps.all Jd then .fn f caps else .junk
  | _=>.junk
def X4(hp:List aC):AV->AV
  | .one c=>.one (Pt hp c)
  | .agg cs=>.agg (cs.map (Pt hp))
  | .tup _=>.junk
  | .junk=>.junk
def Bc:List aR->Option (List DC)
  | []=>some []
  | .dc d::cs=>(Bc cs).map (d::·)
  | _=>none
def aHj:Option (List DC)->aR
  | some ds=>.ref ds
  | none=>.junk
def V7:aR->aR
  | .dc (.raw (.slice none 0 0))=>.dc (.slc [])
  | .ref ds=>.dc (.ptr ds)
  | c=>c
def vwN(hp:List aC)(c:aR):aR:=V7 (Pt hp c)
def Tn(hp:List aC):List aR->List aR
  | []=>[]
  | c::cs=>vwN hp c::Tn hp cs
def vpP(hp:List aC)(off:Nat):aC->aR
  | .box cs=>aHj (Bc (Tn hp (cs.drop off)))
  | _=>.junk
def vwM(hp:List aC):aR->aR
  | .ptr id off=>V7 (vpP hp off (aI hp id))
  | .bld id n=>vwN hp (.bld id n)
  | .dc d=>vwN hp (.dc d)
  | .ref ds=>.dc (.ptr ds)
  | .mpc _=>.junk
  | .fn _ _=>.junk
  | .ept _ _ _ _=>.junk
  | .bls _ _ _ _=>.junk
  | .junk=>.junk
def To(hp:List aC):List aR->List aR
  | []=>[]
  | c::cs=>vwM hp c::To hp cs
def vqP(hp:List aC)(off:Nat):aC->aR
  | .box cs=>aHj (Bc (To hp (cs.drop off)))
  | _=>.junk
def fnV(f:FuncId)(cs:List aR):aR:=bif cs.all Jd then .fn f cs else .junk
def V8(hp:List aC):aR->aR
  | .ptr id off=>vqP hp off (aI hp id)
  | .bld id n=>Pt hp (.bld id n)
  | .dc d=>.dc d
  | .ref ds=>.ref ds
  | .mpc es=>.mpc es
  | .fn f caps=>Pt hp (.fn f caps)
  | .ept _ _ _ _=>.junk
  | .bls _ _ _ _=>.junk
  | .junk=>.junk
def X5(hp:List aC):List aR->List aR
  | []=>[]
  | c::cs=>V8 hp c::X5 hp cs
def vpC(hp:List aC):aR->aR
  | .fn f caps=>fnV f (X5 hp caps)
  | .ptr id off=>V8 hp (.ptr id off)
  | .bld id n=>V8 hp (.bld id n)
  | .dc d=>.dc d
  | .ref ds=>.ref ds
  | .mpc es=>.mpc es
  | .ept _ _ _ _=>.junk
  | .bls _ _ _ _=>.junk
  | .junk=>.junk
def V9(hp:List aC):AV->AV
  | .one c=>.one (vpC hp c)
  | .agg cs=>.agg (cs.map (Pt hp))
  | .tup _=>.junk
  | .junk=>.junk
def rN:aR->Bool
  | .dc (.raw _)=>true
  | _=>false
def aGo:TV->Bool
  | .one c=>rN c
  | .agg cs=>cs.all rN
def lC:AV->Bool
  | .one c=>rN c
  | .agg cs=>cs.all rN
  | .tup l=>l.all aGo
  | .junk=>false
section
variable {P:Program} {G:aH} {k:Nat} {st st':AS} {R:AS->Prop} {o:aY} {rest:List aY} {F F':Fz} {γ γ':List OI} {w:World}
theorem vF(hi:dB F γ st.hp w):F.sub (gT w):=fun b o h=>hi.fz b o h
theorem pX(hi:dB F γ st.hp w){c:aR}{v:Value}(h:RC F γ c v):RC (gT w) [] (Pt st.hp c) v:=by
  have hs:=vF hi;cases h with
  | dc d v h=>exact .dc d v (h.mono hs)
  | ref cs b off g hr hc=>exact .ref cs b off g (fun j d h=>(hr j d h).mono hs) (fun j d h=>hs.cell (hc j d h))
  | mpc es r clk ents h he h1=>exact .mpc es r clk ents (hs _ _ h) he h1
  | bldN id cap h0=>
    simp only[Pt];split
    · rename_i cp sz es hb
      split
      · simp only[aRq];exact .dc _ _ (.nil _ _)
      · exact .junk _ rfl
    · exact .junk _ rfl
  | bld id n b cap h0=>
    simp only[Pt];split
    · rename_i cp sz es hb
      split
      · rename_i hn
        have:=Xr (F':=gT w) (γ':=γ) hi hb hs (fun i o _ h=>h) (fun b c h=>rfl) (.bld id n b cap h0)
        have e1:vC id es (.bld id n)=.dc (.slc (es.take n)):=by simp[vC,hn]
        rw[e1] at this;have e2:cF (·==id) (.dc (.slc (es.take n)))=.dc (.slc (es.take n)):=by simp[cF,aR.keep]
        rw[e2] at this;cases this with | dc _ _ h=>exact .dc _ _ h
      · exact .junk _ rfl
    · exact .junk _ rfl
  | ptr id off b h0=>exact .junk _ rfl
  | ept id i size off b cap h0=>exact .junk _ rfl
  | bls id lo n size b cap c off h0 ho hc=>exact .junk _ rfl
  | fn f caps g hr=>
    simp only[Pt];cases hc:caps.all Jd with
    | false=>exact .junk _ rfl
    | true=>
      refine .fn f caps g (fun i c h=>?_)
      have h1:=aRl.1 hc c (aQB h);have h2:=hr i c h;generalize g i=v at h2 ⊢;cases h2 with
      | dc d v h=>exact .dc d _ (h.mono hs)
      | ref cs b off g hr hc=>exact .ref cs b off g (fun j d h=>(hr j d h).mono hs) (fun j d h=>hs.cell (hc j d h))
      | mpc es r clk ents hm he hz=>exact .mpc es r clk ents (hs _ _ hm) he hz
      | _=>simp[Jd] at h1
  | junk v h=>exact .junk v h
theorem X6(hi:dB F γ st.hp w){a:AV}{v:Value}(h:RV F γ a v):RV (gT w) [] (X4 st.hp a) v:=by
  cases h with
  | one c v h=>exact .one _ _ (pX hi h)
  | agg cs vs hs h=>
    refine .agg _ _ (by simpa using hs) (fun i c v h1 h2=>?_)
    rw[aQh] at h1;obtain⟨c0,h3,rfl⟩:=Option.map_eq_some_iff.1 h1;exact pX hi (h i c0 v h3 h2)
  | tup l vs hs h=>exact .junk _
  | junk v=>exact .junk v
theorem F6(hp:List aC):∀ cs,Tn hp cs=cs.map (vwN hp)
  | []=>rfl
  | c::cs=>by rw[Tn,F6 hp cs];rfl
theorem F7(hp:List aC):∀ cs,X5 hp cs=cs.map (V8 hp)
  | []=>rfl
  | c::cs=>by rw[X5,F7 hp cs];rfl
theorem Be:∀ {cs:List aR} {ds:List DC} {j:Nat} {d:DC},Bc cs=some ds->ds[j]?=some d->cs[j]?=some (.dc d)
  | [],ds,j,d,h,hd=>by simp only[Bc,Option.some.injEq] at h;subst h;simp at hd
  | c::cs,ds,j,d,h,hd=>by
    cases c with
    | dc d0=>
      simp only[Bc] at h;obtain⟨ds0,h1,rfl⟩:=Option.map_eq_some_iff.1 h;cases j with
      | zero=>simp at hd;simp[hd]
      | succ j=>simp at hd;simpa using Be h1 hd
    | _=>simp[Bc] at h
theorem F8(hp:List aC):∀ cs,To hp cs=cs.map (vwM hp)
  | []=>rfl
  | c::cs=>by rw[To,F8 hp cs];rfl
theorem My{F:Fz}{γ:List OI}{c:aR}{v:Value}(h:RC F γ c v):RC F γ (V7 c) v:=by
  unfold V7;split
  · cases h with | dc _ _ h=>cases h with | raw _ h=>exact .dc _ _ (.nil _ _)
  · cases h with | ref _ b off g hr hc=>exact .dc _ _ (.ptr _ b off g hr hc)
  · exact h
theorem Je(hi:dB F γ st.hp w){id off b:Nat}{cs:List aR}{vw:aR->aR}{ds:List DC}(hb:aI st.hp id=.box cs)(h0:γ[id]?=some (.box b))(hv:∀ c v,RC F γ c v->RC (gT w) [] (vw c) v)
    (hd:Bc ((cs.drop off).map vw)=some ds):RC (gT w) [] (.ref ds) (.pointer (some ⟨b,off,none⟩)):=by
  obtain⟨vs,T,⟨fz,hw,hnf⟩,hsz,hok⟩:=hi.box hb h0;refine .ref ds b off (fun j=>vs.getD (off+j) (.bool false)) ?_ ?_
  · intro j d hj
    have h1:=Be hd hj;rw[aQh] at h1;obtain⟨c0,h2,h3⟩:=Option.map_eq_some_iff.1 h1;rw[aQJ] at h2;have hlt:off+j < vs.size:=Nat.lt_of_lt_of_le (aG h2) hsz;have h4:=hok (off+j) c0 _ h2 (aQI hlt);have h5:=hv _ _ h4;rw[h3] at h5;have e:vs.getD (off+j) (.bool false)=vs[off+j]:=by simp[Array.getD,hlt]
    show RD (gT w) d (vs.getD (off+j) (.bool false));rw[e];cases h5 with | dc _ _ h=>exact h
  · intro j d hj
    have h1:=Be hd hj;rw[aQh] at h1;obtain⟨c0,h2,h3⟩:=Option.map_eq_some_iff.1 h1;rw[aQJ] at h2;have hlt:off+j < vs.size:=Nat.lt_of_lt_of_le (aG h2) hsz;simp[Fz.cell?,gT,hw,Array.getD,hlt]
theorem Mz(hi:dB F γ st.hp w){c:aR}{v:Value}(h:RC F γ c v):RC (gT w) [] (vwN st.hp c) v:=My (pX hi h)
theorem aHn(hi:dB F γ st.hp w){id off:Nat}{v:Value}(h:RC F γ (.ptr id off) v):RC (gT w) [] (vpP st.hp off (aI st.hp id)) v:=by
  cases h with
  | ptr id off b h0=>
    cases hb:aI st.hp id with
    | box cs=>
      simp only[vpP];cases hd:Bc (Tn st.hp (cs.drop off)) with
      | none=>exact .junk _ rfl
      | some ds=>rw[F6] at hd;exact Je hi hb h0 (fun c v h=>Mz hi h) hd
    | _=>exact .junk _ rfl
theorem aHo(hi:dB F γ st.hp w){c:aR}{v:Value}(h:RC F γ c v):RC (gT w) [] (vwM st.hp c) v:=by
  cases hc:c with
  | ptr id off=>subst hc;exact My (aHn hi h)
  | bld id n=>subst hc;exact Mz hi h
  | dc d=>subst hc;exact Mz hi h
  | ref ds=>subst hc;exact My (c:=.ref ds) (pX hi h)
  | _=>exact .junk _ h.is1
theorem xC(hi:dB F γ st.hp w){c:aR}{v:Value}(h:RC F γ c v):RC (gT w) [] (V8 st.hp c) v:=by
  cases hc:c with
  | ptr id off=>
    subst hc;cases h with
    | ptr id off b h0=>
      simp only[V8];cases hb:aI st.hp id with
      | box cs=>
        simp only[vqP];cases hd:Bc (To st.hp (cs.drop off)) with
        | none=>exact .junk _ rfl
        | some ds=>rw[F8] at hd;exact Je hi hb h0 (fun c v h=>aHo hi h) hd
      | _=>exact .junk _ rfl
  | dc d=>subst hc;exact pX hi h
  | ref cs=>subst hc;exact pX hi h
  | mpc es=>subst hc;exact pX hi h
  | bld id n=>subst hc;exact pX hi h
  | fn f caps=>subst hc;exact pX hi h
  | ept=>exact .junk _ h.is1
  | bls=>exact .junk _ h.is1
  | junk=>exact .junk _ h.is1
theorem aHp(hi:dB F γ st.hp w){c:aR}{v:Value}(h:RC F γ c v):RC (gT w) [] (vpC st.hp c) v:=by
  cases hc:c with
  | fn f caps=>
    subst hc;cases h with
    | fn f caps g hr=>
      simp only[vpC,fnV,F7];cases hc:(caps.map (V8 st.hp)).all Jd with
      | false=>exact .junk _ rfl
      | true=>
        have e:caps.length=(caps.map (V8 st.hp)).length:=by simp
        simp only[cond_true,e];refine .fn f _ g (fun i c h=>?_)
        rw[aQh] at h;obtain⟨c0,h2,rfl⟩:=Option.map_eq_some_iff.1 h;exact xC hi (hr i c0 h2)
  | dc d=>subst hc;exact xC hi h
  | ref cs=>subst hc;exact xC hi h
  | mpc es=>subst hc;exact xC hi h
  | bld id n=>subst hc;exact xC hi h
  | ptr id off=>subst hc;exact xC hi h
  | ept=>exact .junk _ h.is1
  | bls=>exact .junk _ h.is1
  | junk=>exact .junk _ h.is1
theorem X7(hi:dB F γ st.hp w){a:AV}{v:Value}(h:RV F γ a v):RV (gT w) [] (V9 st.hp a) v:=by
  cases h with
  | one c v h=>exact .one _ _ (aHp hi h)
  | agg cs vs hs h=>exact X6 hi (.agg cs vs hs h)
  | tup l vs hs h=>exact .junk _
  | junk v=>exact .junk v
theorem F9{c:aR}{v:Value}(hc:rN c=true)(h:RC F γ c v):RC F' γ' c v:=by
  cases h with
  | dc d v h=>cases h with
    | raw v h=>exact .dc _ _ (.raw v h)
    | nil A c=>simp[rN] at hc
    | slc=>simp[rN] at hc
    | ptr=>simp[rN] at hc
  | _=>simp[rN] at hc
theorem Jf{cs:List aR}{vs:Array Value}(hc:cs.all rN=true)(h:∀ (i:Nat) c v,cs[i]?=some c->vs[i]?=some v->RC F γ c v):∀ (i:Nat) c v,cs[i]?=some c->vs[i]?=some v->RC F' γ' c v:=
  fun i c v h1 h2=>F9 (aRl.1 hc c (aQB h1)) (h i c v h1 h2)
theorem Ga{a:AV}{v:Value}(hc:lC a=true)(h:RV F γ a v):RV F' γ' a v:=by
  cases h with
  | one c v h=>exact .one _ _ (F9 hc h)
  | agg cs vs hs h=>exact .agg _ _ hs (Jf hc h)
  | tup l vs hs h=>
    refine .tup _ _ hs (fun i t v h1 h2=>?_)
    have ht:=aRl.1 hc t (aQB h1);cases h i t v h1 h2 with
    | one c v h=>exact .one _ _ (F9 ht h)
    | agg cs vs hs h=>exact .agg _ _ hs (Jf ht h)
  | junk v=>simp[lC] at hc
theorem WR.callV{f:FuncId}{args:List aJ}{cargs:List AV}{r:AV}(hgd:iQ G st o.guard)(ha:o.ai=.call f args)(hac:QC P G f cargs r)(hr:lC r=true)
    (hargs:args.map (fun x=>X4 st.hp (aK G st.sl x))=cargs) (h:WR P G k rest R ⟨aO st.sl o.dst r,st.hp⟩):WR P G k (o::rest) R st:=by
  refine WR.step hgd (fun F γ a w oper hc hd hi hs hg hk=>?_)
  rw[ha] at hc;obtain⟨c,hop,hcal,rfl,hok⟩:=uT hc;obtain⟨dst,op,type,pos,after,guard⟩:=oper;simp only at hop;subst hop;have hv:=uU (G:=G) hs hg c.args;have hv2:lZ (gT w) [] cargs (c.args.map a.eval):=by
    rw[<- hargs];refine⟨by rw[hv.1];simp,fun i av v h1 h2=>?_⟩
    rw[aQh] at h1;obtain⟨x,hx,rfl⟩:=Option.map_eq_some_iff.1 h1;exact X6 hi (hv.2 i _ v (by rw[aQh,hx];rfl) h2)
  refine .inr ⟨f,c.args.map a.eval, ?_,(hac (gT w) [] _ w (zP w) (hg.sub (vF hi)) hv2).mono ?_⟩
  · simp[execOp,resolve,hcal,Act.eval,Deferred.ofValue,invoke,kL hok]
  · rintro e w' ⟨v,av,objs',F2,γ2,rfl,⟨rfl,rfl⟩,_,hE,hI,hR⟩
    have hb:=sL hE;have hext:gP k F γ w F γ w':=⟨fun _ _ h=>h,hb.os,hb.tape,hb.output,hb.size,fun b hbl _=>hb.block b hbl,fun _ _ h=>.inl h,fun i b h=>.inl ⟨i,h⟩,fun _ _ _ h=>h⟩
    have hinv:dB F γ st.hp w':=⟨fun b ob h=>by rw[hb.block b (hi.fzlt h)];exact hi.fz b ob h,hi.len,hi.nd,hi.disj,fun i ob x h1 h2=>by
      have hok:=hi.ok i ob x h1 h2;exact hok.ext (fun _ _ h=>h) (fun _ _ h=>h) (fun b hb2=>hb.block b (hok.lt hb2))⟩
    exact⟨v,_,F,γ,rfl,h,hext,hinv,hs.put _ (Ga hr hR),hk⟩
theorem WR.callP{f:FuncId}{args:List aJ}{cargs:List AV}{r:AV}(hgd:iQ G st o.guard)(ha:o.ai=.call f args)(hac:QC P G f cargs r)(hr:lC r=true)
    (hargs:args.map (fun x=>V9 st.hp (aK G st.sl x))=cargs) (h:WR P G k rest R ⟨aO st.sl o.dst r,st.hp⟩):WR P G k (o::rest) R st:=by
  refine WR.step hgd (fun F γ a w oper hc hd hi hs hg hk=>?_)
  rw[ha] at hc;obtain⟨c,hop,hcal,rfl,hok⟩:=uT hc;obtain⟨dst,op,type,pos,after,guard⟩:=oper;simp only at hop;subst hop;have hv:=uU (G:=G) hs hg c.args;have hv2:lZ (gT w) [] cargs (c.args.map a.eval):=by
    rw[<- hargs];refine⟨by rw[hv.1];simp,fun i av v h1 h2=>?_⟩
    rw[aQh] at h1;obtain⟨x,hx,rfl⟩:=Option.map_eq_some_iff.1 h1;exact X7 hi (hv.2 i _ v (by rw[aQh,hx];rfl) h2)
  refine .inr ⟨f,c.args.map a.eval, ?_,(hac (gT w) [] _ w (zP w) (hg.sub (vF hi)) hv2).mono ?_⟩
  · simp[execOp,resolve,hcal,Act.eval,Deferred.ofValue,invoke,kL hok]
  · rintro e w' ⟨v,av,objs',F2,γ2,rfl,⟨rfl,rfl⟩,_,hE,hI,hR⟩
    have hb:=sL hE;have hext:gP k F γ w F γ w':=⟨fun _ _ h=>h,hb.os,hb.tape,hb.output,hb.size,fun b hbl _=>hb.block b hbl,fun _ _ h=>.inl h,fun i b h=>.inl ⟨i,h⟩,fun _ _ _ h=>h⟩
    have hinv:dB F γ st.hp w':=⟨fun b ob h=>by rw[hb.block b (hi.fzlt h)];exact hi.fz b ob h,hi.len,hi.nd,hi.disj,fun i ob x h1 h2=>by
      have hok:=hi.ok i ob x h1 h2;exact hok.ext (fun _ _ h=>h) (fun _ _ h=>h) (fun b hb2=>hb.block b (hok.lt hb2))⟩
    exact⟨v,_,F,γ,rfl,h,hext,hinv,hs.put _ (Ga hr hR),hk⟩
theorem uW.viewP{f:FuncId}{avs cargs:List AV}{hp:List aC}{r:AV}(hac:QC P G f cargs r)(hr:lC r=true)(hargs:avs.map (V9 hp)=cargs):uW P G k f avs hp (fun av os=>av=r/\os=[]):=by
  intro F γ w vs hi hg hk hv;have hi':dB F γ (⟨[],hp⟩:AS).hp w:=hi;have hv2:lZ (gT w) [] cargs vs:=by
    rw[<- hargs];refine⟨by rw[hv.1];simp,fun i av v h1 h2=>?_⟩
    rw[aQh] at h1;obtain⟨x,hx,rfl⟩:=Option.map_eq_some_iff.1 h1;exact X7 hi' (hv.2 i x v hx h2)
  refine (hac (gT w) [] _ w (zP w) (hg.sub (vF hi')) hv2).mono ?_;rintro e w' ⟨v,av,objs',F2,γ2,rfl,⟨rfl,rfl⟩,_,hE,hI,hR⟩;have hb:=sL hE;refine⟨v,_,_,F,γ,rfl,⟨rfl,rfl⟩,⟨fun _ _ h=>h,hb.os,hb.tape,hb.output,hb.size,fun b hbl _=>hb.block b hbl,fun _ _ h=>.inl h,fun i b h=>.inl ⟨i,h⟩,fun _ _ _ h=>h⟩, ?_,fun _ _ h=>h,Ga hr hR⟩
  rw[aQ6];exact⟨fun b ob h=>by rw[hb.block b (hi.fzlt h)];exact hi.fz b ob h,hi.len,hi.nd,hi.disj,fun i ob x h1 h2=>by
      have hok:=hi.ok i ob x h1 h2;exact hok.ext (fun _ _ h=>h) (fun _ _ h=>h) (fun b hb2=>hb.block b (hok.lt hb2))⟩
theorem aCT:V7 (.dc (.raw (.slice none 0 0)))=.dc (.slc []):=rfl
theorem aCU{ds:List DC}:V7 (.ref ds)=.dc (.ptr ds):=rfl
theorem aCV{es:List (List DC)}:V7 (.dc (.slc es))=.dc (.slc es):=rfl
theorem aCW{es:List DC}:V7 (.dc (.ptr es))=.dc (.ptr es):=rfl
theorem aCX{k:IntKind}{n:Int}:V7 (.dc (.raw (.int k n)))=.dc (.raw (.int k n)):=rfl
theorem X8{n:Bool}:V7 (.dc (.raw (.bool n)))=.dc (.raw (.bool n)):=rfl
theorem aCY{n:ByteArray}:V7 (.dc (.raw (.string n)))=.dc (.raw (.string n)):=rfl
theorem aHq:V7 (.dc (.raw (.pointer none)))=.dc (.raw (.pointer none)):=rfl
end
attribute [go_sem] aCT aCU aCV aCW aCX X8 aCY aHq
attribute [go_sem] vwM To vqP Bc aHj vwN Tn vpP fnV V8 X5 vpC V9 Jd X4 Pt lC rN aGo List.all_nil List.all_cons
end
section
section
variable {P:Program} {G:aH} {k:Nat} {st st':AS} {R:AS->Prop} {o:aY} {rest:List aY}
end
attribute [go_sem] Tg vC aHd Mn kJ dI
end
section
def L6(i j x:Nat):Nat:=bif nq x i then j else bif nq x j then i else x
def Dt{α:Type}(d:α)(l:List α)(i j:Nat):List α:=(l.set i (l.getD j d)).set j (l.getD i d)
def yW(x:Nat × Nat)(st:AS):AS:=⟨st.sl.map (cU (L6 x.1 x.2)),(Dt .dead st.hp x.1 x.2).map (fQ (L6 x.1 x.2))⟩
def prm:List (Nat × Nat)->AS->AS
  | [],st=>st
  | x::p,st=>prm p (yW x st)
def pOK(n0 n:Nat)(p:List (Nat × Nat)):Prop:=∀ x∈p,n0<=x.1/\n0<=x.2/\x.1 < n/\x.2 < n
theorem X9(i j x:Nat):L6 i j x=if x=i then j else if x=j then i else x:=by
  unfold L6;rw[iI,iI];by_cases h:x=i
  · simp[h]
  · rw[if_neg h,show (x==i)=false by simpa using h,cond_false]
    by_cases h':x=j
    · simp[h']
    · rw[if_neg h',show (x==j)=false by simpa using h',cond_false]
theorem Gb(i j x:Nat):L6 i j (L6 i j x)=x:=by
  simp only[X9]
  repeat' split
  all_goals omega
theorem aCZ{i j x n0:Nat}(hi:n0<=i)(hj:n0<=j)(hx:x < n0):L6 i j x=x:=by
  rw[X9,if_neg (by omega),if_neg (by omega)]
theorem Bf{α:Type}(d:α)(l:List α)(i j:Nat):(Dt d l i j).length=l.length:=by simp[Dt]
theorem Jg{α:Type}(d:α)(l:List α){i j:Nat}(hi:i < l.length)(hj:j < l.length)(x:Nat):(Dt d l i j)[x]?=l[L6 i j x]?:=by
  have g:∀ y,y < l.length->l[y]?=some (l.getD y d):=fun y hy=>by rw[aQl,aQi hy];rfl
  unfold Dt;rw[X9];by_cases h2:x=i
  · rw[if_pos h2]
    subst h2;by_cases h1:j=x
    · subst h1
      rw[aQF (by simpa using hj),g j hj]
    · rw[aQx h1,aQF hi,g j hj]
  · rw[if_neg h2]
    by_cases h1:x=j
    · rw[if_pos h1]
      subst h1;rw[aQF (by simpa using hj),g i hi]
    · rw[if_neg h1,aQx (Ne.symm h1),aQx (Ne.symm h2)]
theorem Bg(x:Nat × Nat)(st:AS):(yW x st).hp.length=st.hp.length:=by simp[yW,Bf]
theorem Pu:∀ (p:List (Nat × Nat)) (st:AS),(prm p st).hp.length=st.hp.length
  | [],_=>rfl
  | x::p,st=>by rw[prm,Pu p,Bg]
theorem Pv:∀ (p q:List (Nat × Nat)) (st:AS),prm (p++q) st=prm q (prm p st)
  | [],_,_=>rfl
  | x::p,q,st=>by rw[aQy,prm,prm,Pv p q]
theorem Tp(x:Nat × Nat)(st:AS):aD (yW x st)=yW x (aD st):=by
  have e:∀ id,aN (st.hp.getD id .dead)=(st.hp.map aN).getD id .dead:=fun id=>(bE (hp:=st.hp) id).symm
  simp only[aD,yW,Dt,aQC,aQH,Function.comp_apply,<- e,mR];congr 3;refine aQz (fun o _=>?_)
  simp[mR]
theorem Jh:∀ (p:List (Nat × Nat)) (st:AS),aD (prm p st)=prm p (aD st)
  | [],_=>rfl
  | x::p,st=>by rw[prm,prm,Jh p,Tp]
theorem Ji(st:AS):(aD st).hp.length=st.hp.length:=by simp[aD]
section
variable {P:Program} {G:aH} {k:Nat} {F F0:Fz} {γ γ0:List OI} {w w0:World} {a:Act} {st:AS}
theorem aC0{x:Nat × Nat}{n0:Nat}(h1:n0<=x.1)(h2:n0<=x.2)(h3:x.1 < st.hp.length)(h4:x.2 < st.hp.length)(hk:k<=n0)(hE:gP k F0 γ0 w0 F γ w)(hi:dB F γ st.hp w)(hs:bT F γ st.sl a):
    ∃ γ',gP k F0 γ0 w0 F γ' w/\dB F γ' (yW x st).hp w/\bT F γ' (yW x st).sl a/\γ'.length=γ.length:=by
  obtain⟨i,j⟩:=x;simp only at h1 h2 h3 h4;have hl:=hi.len;have hg:∀ y,(Dt OI.dead γ i j)[y]?=γ[L6 i j y]?:=Jg _ _ (by omega) (by omega);have hb:∀ y,cB (Dt OI.dead γ i j) y=cB γ (L6 i j y):=fun y=>by unfold cB;rw[hg]
  have hgr:∀ (id:Nat) (o:OI),γ[id]?=some o->(Dt OI.dead γ i j)[L6 i j id]?=some o:=fun id o h=>by rw[hg,Gb];exact h
  refine⟨Dt .dead γ i j, ?_, ?_, ?_,Bf ..⟩
  · refine⟨hE.sub,hE.os,hE.tape,hE.output,hE.size,hE.far,hE.new,fun y b h=>hE.blk (L6 i j y) b (by rw[<- hb];exact h),fun y hy b h=>?_⟩
    rw[hg,aCZ h1 h2 (by omega)];exact hE.box y hy b h
  · refine⟨hi.fz,by rw[Bf,Bg];exact hl,fun y z b hy hz=>?_,fun y b hy=>hi.disj (L6 i j y) b (by rw[<- hb];exact hy),fun y o x hy hx=>?_⟩
    · have:=hi.nd (L6 i j y) (L6 i j z) b (by rw[<- hb];exact hy) (by rw[<- hb];exact hz)
      rw[<- Gb i j y,this,Gb]
    · simp only[yW,aQh,Jg _ _ h3 h4] at hy
      rw[hg] at hx;cases ho:st.hp[L6 i j y]? with
      | none=>rw[ho] at hy;cases hy
      | some o'=>
        rw[ho] at hy;injection hy with hy;subst hy
        exact (hi.ok _ _ _ ho hx).ren hgr
  · refine⟨hs.1,by simp[yW];exact hs.2.1,fun y av v hy hv=>?_⟩
    simp only[yW,aQh] at hy;cases ho:st.sl[y]? with
    | none=>rw[ho] at hy;cases hy
    | some o'=>
      rw[ho] at hy;injection hy with hy;subst hy
      exact (hs.2.2 y o' v ho hv).ren hgr
theorem Ya{n0:Nat}(hk:k<=n0):∀ (p:List (Nat × Nat)) (st:AS) (γ:List OI),pOK n0 st.hp.length p->gP k F0 γ0 w0 F γ w->dB F γ st.hp w->bT F γ st.sl a->
    ∃ γ',gP k F0 γ0 w0 F γ' w/\dB F γ' (prm p st).hp w/\bT F γ' (prm p st).sl a/\γ'.length=γ.length
  | [],st,γ,_,hE,hi,hs=>⟨γ,hE,hi,hs,rfl⟩
  | x::p,st,γ,hp,hE,hi,hs=>by
    obtain⟨h1,h2,h3,h4⟩:=hp x aQt;obtain⟨γ1,g1,g2,g3,g4⟩:=aC0 h1 h2 h3 h4 hk hE hi hs;obtain⟨γ2,e1,e2,e3,e4⟩:=Ya hk p (yW x st) γ1 (fun y hy=>by rw[Bg];exact hp y (aQE _ hy)) g1 g2 g3
    exact⟨γ2,e1,e2,e3,by rw[e4,g4]⟩
theorem AW.prm{x:dP}{Q:Exit->AS->Prop}(h:AW P G k x (fun e s=>∃ p,pOK st.hp.length s.hp.length p/\Q e (prm p s)) st):AW P G k x Q st:=by
  intro c hc F γ a w hi hs hg hk QE hq;refine h c hc F γ a w hi hs hg hk QE (fun e a' w' F' γ' s' ⟨p,h1,h2⟩ q2 q3 q4 q5=>?_)
  obtain⟨γ2,e1,e2,e3,e4⟩:=Ya (by rw[<- hi.len];exact hk) p s' γ' h1 q2 q3 q4;exact hq e a' w' F' γ2 _ h2 e1 e2 e3 (by omega)
end
end
section
def aC1:aR->Bool
  | .bls _ _ _ _=>true
  | _=>false
def Pw:List aR->Bool
  | []=>false
  | c::cs=>aC1 c||Pw cs
def aKQ:TV->Bool
  | .one c=>aC1 c
  | .agg cs=>Pw cs
def Yb:List TV->Bool
  | []=>false
  | c::cs=>aKQ c||Yb cs
def M0:AV->Bool
  | .one c=>aC1 c
  | .agg cs=>Pw cs
  | .tup l=>Yb l
  | .junk=>false
def bxD(n size:Nat):Option (List DC)->aR
  | some ds=>if ds.length=n * size then .dc (.slc (fA size n ds)) else .junk
  | none=>.junk
def Yc(id:Nat)(cs:List aR):aR->aR
  | .bls j k n s=>bif nq j id then bxD n s (dcs ((cs.drop (k * s)).take (n * s))) else .bls j k n s
  | c=>c
def bxT(id:Nat)(cs:List aR):TV->TV
  | .one c=>.one (Yc id cs c)
  | .agg l=>.agg (l.map (Yc id cs))
def bxV(id:Nat)(cs:List aR):AV->AV
  | .one c=>.one (Yc id cs c)
  | .agg l=>.agg (l.map (Yc id cs))
  | .tup l=>.tup (l.map (bxT id cs))
  | .junk=>.junk
def bxO(id:Nat)(cs:List aR):aC->aC
  | .box l=>.box (l.map (Yc id cs))
  | o=>o
def Tq(id:Nat)(cs:List aR)(st:AS):AS:=⟨st.sl.map fun v=>aZ (fun x=>nq x id) (bxV id cs v),(st.hp.map fun o=>cJ (fun x=>nq x id) (bxO id cs o)).set id .dead⟩
def bx1(id:Nat)(st:AS):aC->Bool->AS
  | .box cs,true=>Tq id cs st
  | _,_=>st
def vG(n:Nat):List Nat->AS->AS
  | [],st=>st
  | id::r,st=>vG n r (bx1 id st (aI st.hp id) (decide (n<=id)))
def bxW(n:Nat)(ids:List Nat)(st:AS):Bool->AS
  | true=>vG n ids st
  | false=>st
theorem aC2{cs:List aR}{ds:List DC}(h:dcs cs=some ds){j:Nat}{d:DC}(hd:ds[j]?=some d):cs[j]?=some (.dc d):=by
  rw[lO h];simp only[jB,aQh,hd,aQg]
theorem Et{size:Nat}:∀ (n:Nat) (ds:List DC),ds.length=n * size->∀ (i j:Nat) e d,(fA size n ds)[i]?=some e->e[j]?=some d->ds[i * size+j]?=some d/\i < n
  | 0,ds,h,i,j,e,d,h1,_=>by simp[fA] at h1
  | n+1,ds,h,0,j,e,d,h1,h2=>by
    simp only[fA,List.getElem?_cons_zero,Option.some.injEq] at h1;subst h1;rw[aQG] at h2;split at h2
    · exact⟨by rw[Nat.zero_mul,aQQ];exact h2,Nat.succ_pos _⟩
    · cases h2
  | n+1,ds,h,i+1,j,e,d,h1,h2=>by
    simp only[fA,aRH] at h1;have hl:(ds.drop size).length=n * size:=by rw[aQr,h,Nat.succ_mul];omega
    obtain⟨h3,h4⟩:=Et n (ds.drop size) hl i j e d h1 h2;rw[aQJ] at h3;exact⟨by rw[<- h3];congr 1;rw[Nat.succ_mul];omega,by omega⟩
section
variable {k:Nat} {as:AS} {F:Fz} {γ:List OI} {w:World}
theorem aKT{F':Fz}{γ':List OI}{id b:Nat}{cs:List aR}(hi:dB F γ as.hp w)(hb:aI as.hp id=.box cs)(hgm:γ[id]?=some (.box b))(hs:F.sub F')(hg:∀ (i:Nat) (o:OI),(nq i id)=false->γ[i]?=some o->γ'[i]?=some o)
    (hF:F' b=w.heap[b]?) {c:aR} {v:Value} (h:RC F γ c v):RC F' γ' (cF (fun x=>nq x id) (Yc id cs c)) v:=by
  have hx:=hi.ok id (.box cs) (.box b) (dZ hb (by simp)) hgm;obtain⟨vs,T,⟨fz,hh,hnf⟩,hvs,hr⟩:=hx;by_cases hc:∃ lo n s,c=.bls id lo n s
  · obtain⟨lo,n,s,rfl⟩:=hc
    have hq:nq id id=true:=by rw[iI];simp
    simp only[Yc,hq,cond_true];cases hd:dcs ((cs.drop (lo * s)).take (n * s)) with
    | none=>exact .junk _ (by cases h;rfl)
    | some ds=>
      simp only[bxD];split
      · rename_i hl
        obtain⟨c1,c2,c3⟩:=jX s n ds hl;have e2:cF (fun x=>nq x id) (.dc (.slc (fA s n ds)))=.dc (.slc (fA s n ds)):=by simp[cF,aR.keep]
        rw[e2];refine .dc _ _ ?_;cases h with
        | bls _ _ _ _ b' cap c off hgm' ho hcap=>
          have hbb:b'=b:=by
            rcases hgm' with hgm' | hgm'
            · rw[hgm] at hgm';injection hgm' with hgm';cases hgm'
            · rw[hgm] at hgm';injection hgm' with hgm';injection hgm' with hgm';exact hgm'.symm
          subst hbb;have key:∀ (i j:Nat) e d,(fA s n ds)[i]?=some e->e[j]?=some d->∃ u,vs[off+(i * s+j)]?=some u/\RD F d u:=by
            intro i j e d h1 h2;obtain⟨h3,h4⟩:=Et n ds hl i j e d h1 h2;have h5:=aC2 hd h3;rw[aQG] at h5;split at h5
            · rw[aQJ] at h5
              have ho':=ho (by omega);rw[<- ho'] at h5;have hlt:off+(i * s+j) < cs.length:=(List.getElem?_eq_some_iff.1 h5).1;have h6:vs[off+(i * s+j)]?=some (vs[off+(i * s+j)]'(by omega)):=aQI (by omega);have h7:=hr _ _ _ h5 h6;refine⟨_,h6, ?_⟩;cases h7 with
              | dc _ _ h=>exact h
            · cases h5
          have:=RD.slc (F:=F') b' off c s (fA s n ds) (fun i j=>vs.toList.getD (off+(i * s+j)) undef) c2 (fun i j e d h1 h2=>by
              obtain⟨u,hu,hd⟩:=key i j e d h1 h2;simp only[aQl,aQ3,hu,aQP];exact hd.mono hs) (fun i j e d h1 h2=>by
              obtain⟨u,hu,hd⟩:=key i j e d h1 h2;simp only[aQl,aQ3,hu,aQP,Fz.cell?];rw[hF,hh];simpa using hu) (by rw[c3];exact hcap)
          rwa[c3] at this
      · exact .junk _ (by cases h;rfl)
  · have e1:Yc id cs c=c:=by
      cases c<;>try rfl
      rename_i j lo n s;simp only[Yc];cases hq:nq j id with
      | true=>
        rw[iI,beq_iff_eq] at hq;subst hq;exact absurd ⟨lo,n,s,rfl⟩ hc
      | false=>rfl
    rw[e1];exact h.kill hs hg
theorem Gh.bx{id:Nat}{cs:List aR}(hb:aI as.hp id=.box cs)(hkid:k<=id):Gh k as (Tq id cs as):=by
  intro F γ a w hi hs hk;have hho:=dZ hb (by simp);have hlt:id < γ.length:=by rw[hi.len];exact aG hho
  have hx:γ[id]?=some (γ[id]'hlt):=aQi hlt;generalize hxe:γ[id]'hlt=x at hx;have hok:=hi.ok id _ _ hho hx;cases x with
  | arr _ _=>exact hok.elim
  | dead=>exact hok.elim
  | box bl=>
  let F':Fz:=F.add w bl
  have hFb:F' bl=w.heap[bl]?:=by simp[F',Fz.add]
  have hFo:∀ b',bl≠b'->F' b'=F b':=by
    intro b' hne;simp only[F',Fz.add];rw[if_neg (fun e=>hne e.symm)]
  have hsub:F.sub F':=by
    intro b o h;rw[hFo b (fun e=>by rw[hi.disj id b (bL hx (by rw[e];rfl))] at h;cases h)];exact h
  have hq:∀ i:Nat,(nq i id)=false->i≠id:=fun i h e=>by rw[iI,e] at h;simp at h
  have hg:∀ (i:Nat) (o:OI),(nq i id)=false->γ[i]?=some o->(γ.set id .dead)[i]?=some o:=fun i o h1 h2=>by
    rw[aQx (Ne.symm (hq i h1))];exact h2
  have hb2:∀ i b,cB (γ.set id .dead) i=some b->i≠id/\cB γ i=some b:=by
    intro i b h;obtain⟨y,hy,hyb⟩:=cL h;by_cases hii:id=i
    · subst hii
      rw[aQF hlt] at hy;injection hy with hy;subst hy
      simp[OI.blk] at hyb
    · rw[aQx hii] at hy
      exact⟨Ne.symm hii,bL hy hyb⟩
  have frz:=fun {c:aR} {v:Value} (h:RC F γ c v)=>aKT (F':=F') (γ':=γ.set id .dead) hi hb hx hsub hg hFb h
  have frzs:∀ {l:List aR} {vs:Array Value},(∀ (i:Nat) c v,l[i]?=some c->vs[i]?=some v->RC F γ c v)->∀ (i:Nat) c v,((l.map (Yc id cs)).map (cF (fun x=>nq x id)))[i]?=some c->vs[i]?=some v->RC F' (γ.set id .dead) c v:=by
    intro l vs h i c v hc hv;rw[aQC,aQh] at hc;cases hci:l[i]? with
    | none=>simp[hci] at hc
    | some c0=>
      simp only[hci,aQg,Option.some.injEq,Function.comp] at hc;subst hc;exact frz (h i c0 v hci hv)
  refine⟨F',γ.set id .dead,⟨hsub,rfl,rfl,rfl,aQf _,fun _ _ _=>rfl,fun b o h=>?_,fun i b h=>.inl ⟨i,(hb2 i b h).2⟩,fun i hik b h=>?_⟩,
    ⟨fun b o h=>?_,by simp[Tq,hi.len],fun i j b h1 h2=>hi.nd i j b (hb2 i b h1).2 (hb2 j b h2).2,fun i b h=>?_,fun i o y h1 h2=>?_⟩, ?_,by simpa using hk⟩
  · by_cases hxb:bl=b
    · exact .inr (.inr ⟨id,bL hx (by rw[hxb];rfl)⟩)
    · rw[hFo b hxb] at h;exact .inl h
  · rw[aQx (by omega)];exact h
  · by_cases hxb:bl=b
    · subst hxb;rw[hFb] at h;exact h
    · rw[hFo b hxb] at h;exact hi.fz b o h
  · obtain⟨hne,hbb⟩:=hb2 i b h
    rw[hFo b (fun e=>hne (hi.nd _ _ _ hbb (bL hx (by rw[e];rfl))))]
    exact hi.disj i b hbb
  · simp only[Tq] at h1
    by_cases hii:id=i
    · subst hii
      rw[aQF hlt] at h2;rw[aQF (by rw[aQb,<- hi.len];exact hlt)] at h1;injection h1 with h1;injection h2 with h2;subst h1;subst h2
      trivial
    · rw[aQx hii] at h1 h2
      rw[aQh] at h1;cases ho:as.hp[i]? with
      | none=>simp[ho] at h1
      | some o0=>
        simp only[ho,aQg,Option.some.injEq] at h1;subst h1;have h3:=hi.ok i o0 y ho h2;cases o0 with
        | box l=>
          cases y with
          | box b=>
            obtain⟨vs,T,g1,g2,g3⟩:=h3;exact⟨vs,T,g1,by simpa[bxO] using g2,frzs g3⟩
          | arr _ _=>exact h3.elim
          | dead=>exact h3.elim
        | arr c2 s2 es2=>
          have:=h3.kill (p:=(fun x=>nq x id)) (F':=F') (γ':=γ.set id .dead) (w':=w) hsub hg (fun _ _=>rfl)
          exact this
        | dead=>
          have:=h3.kill (p:=(fun x=>nq x id)) (F':=F') (γ':=γ.set id .dead) (w':=w) hsub hg (fun _ _=>rfl)
          exact this
  · refine⟨hs.1,by simpa[Tq] using hs.2.1,fun i av v h1 h2=>?_⟩
    simp only[Tq] at h1;rw[aQh] at h1;cases hsi:as.sl[i]? with
    | none=>simp[hsi] at h1
    | some av0=>
      simp only[hsi,aQg,Option.some.injEq] at h1;subst h1;have h3:=hs.2.2 i av0 v hsi h2;cases h3 with
      | one c v h=>exact .one _ _ (frz h)
      | agg l vs hsz h=>exact .agg _ _ (by simpa[bxV] using hsz) (frzs h)
      | tup l vs hsz h=>
        refine .tup _ _ (by simpa[bxV] using hsz) (fun i t v h1 h2=>?_)
        rw[aQC,aQh] at h1;obtain⟨t0,h4,rfl⟩:=Option.map_eq_some_iff.1 h1;cases h i t0 v h4 h2 with
        | one c v h=>exact .one _ _ (frz h)
        | agg l vs hsz h=>exact .agg _ _ (by simpa[bxT] using hsz) (frzs h)
      | junk v=>exact .junk v
theorem Tr{id:Nat}{cs:List aR}(o:aC):aN (bxO id cs o)=bxO id cs (aN o):=by cases o<;>rfl
theorem rO{n:Nat}(hk:k<=n):∀ (ids:List Nat) (s:AS),∃ s',Gh k s s'/\aD s'=vG n ids (aD s)
  | [],s=>⟨s,Gh.refl,rfl⟩
  | id::r,s=>by
    simp only[vG];have e:aI (aD s).hp id=aN (aI s.hp id):=bE (hp:=s.hp) id;rw[e];cases ho:aI s.hp id with
    | arr _ _ _=>exact rO hk r s
    | dead=>exact rO hk r s
    | box cs=>
      simp only[aN];by_cases hn:n<=id
      · rw[decide_eq_true hn]
        obtain⟨s',h1,h2⟩:=rO hk r (Tq id cs s);refine⟨s',(Gh.bx ho (by omega)).trans h1, ?_⟩;rw[h2];congr 1;simp only[bx1,Tq,aD,aQH,aQC,aN];congr 2;exact aQz (fun o _=>by simp only[Function.comp_apply,nE,Tr])
      · rw[decide_eq_false hn]
        exact rO hk r s
theorem aHr{n:Nat}(hk:k<=n)(ids:List Nat)(s:AS)(b:Bool):∃ s',Gh k s s'/\aD s'=bxW n ids (aD s) b:=by
  cases b with
  | true=>exact rO hk ids s
  | false=>exact⟨s,Gh.refl,rfl⟩
theorem pC(n:Nat):∀ (ids:List Nat) (st:AS),(vG n ids st).sl.length=st.sl.length/\(vG n ids st).hp.length=st.hp.length
  | [],st=>⟨rfl,rfl⟩
  | id::r,st=>by
    simp only[vG];cases aI st.hp id with
    | box cs=>
      cases decide (n<=id) with
      | true=>
        obtain⟨h1,h2⟩:=pC n r (Tq id cs st);exact⟨by rw[bx1,h1];simp[Tq],by rw[bx1,h2];simp[Tq]⟩
      | false=>exact pC n r st
    | arr _ _ _=>exact pC n r st
    | dead=>exact pC n r st
theorem Px(n:Nat)(ids:List Nat)(st:AS)(b:Bool):(bxW n ids st b).sl.length=st.sl.length/\(bxW n ids st b).hp.length=st.hp.length:=by
  cases b with
  | true=>exact pC n ids st
  | false=>exact⟨rfl,rfl⟩
end
end
section
def bvC(id s len:Nat):aR->aR
  | .bld j n=>bif nq j id then (bif nq n len then .bls id 0 n s else .junk) else .bld j n
  | .ept j i z o=>bif nq j id then .ptr id (i * z+o) else .ept j i z o
  | .fn f caps=>cF (fun x=>nq x id) (.fn f caps)
  | .dc d=>.dc d
  | .ref cs=>.ref cs
  | .mpc es=>.mpc es
  | .junk=>.junk
  | .ptr j o=>.ptr j o
  | .bls j i z o=>.bls j i z o
def Jj(id s len:Nat):List aR->List aR
  | []=>[]
  | c::cs=>bvC id s len c::Jj id s len cs
def bvT(id s len:Nat):TV->TV
  | .one c=>.one (bvC id s len c)
  | .agg l=>.agg (Jj id s len l)
def bvV(id s len:Nat):AV->AV
  | .one c=>.one (bvC id s len c)
  | .agg l=>.agg (Jj id s len l)
  | .tup l=>.tup (l.map (bvT id s len))
  | .junk=>.junk
def bvS(id s len:Nat):List AV->List AV
  | []=>[]
  | v::vs=>bvV id s len v::bvS id s len vs
def bvO(id s len:Nat):aC->aC
  | .box l=>.box (Jj id s len l)
  | .arr c z es=>.arr c z es
  | .dead=>.dead
def bvH(id s len:Nat):List aC->List aC
  | []=>[]
  | o::os=>bvO id s len o::bvH id s len os
theorem vH(id s len:Nat):∀ l,Jj id s len l=l.map (bvC id s len)
  | []=>rfl
  | c::cs=>by rw[Jj,vH id s len cs];rfl
theorem M1(id s len:Nat):∀ l,bvS id s len l=l.map (bvV id s len)
  | []=>rfl
  | c::cs=>by rw[bvS,M1 id s len cs];rfl
theorem Gc(id s len:Nat):∀ l,bvH id s len l=l.map (bvO id s len)
  | []=>rfl
  | c::cs=>by rw[bvH,Gc id s len cs];rfl
def bvB(id s:Nat)(es:List (List DC))(st:AS):AS:=⟨bvS id s es.length st.sl,(bvH id s es.length st.hp).set id (.box (jB es.flatten))⟩
def bv1(id s:Nat)(es:List (List DC))(st:AS):Bool->AS
  | true=>bR [id] st
  | false=>bvB id s es st
def bvZ(id:Nat)(st:AS):aC->AS
  | .arr _ s es=>bv1 id s es st es.isEmpty
  | _=>st
def Jk:List Nat->AS->AS
  | [],st=>st
  | id::r,st=>Jk r (bvZ id st (aI st.hp id))
theorem pD{α:Type}{s:Nat}:∀ (es:List (List α)),(∀ e∈es,e.length=s)->es.flatten.length=es.length * s/\∀ (m:Nat) d,es.flatten[m]?=some d->∃ i j e,es[i]?=some e/\e[j]?=some d/\m=i * s+j
  | [],_=>⟨by simp,fun m d h=>by simp at h⟩
  | e::es,hs=>by
    obtain⟨h1,h2⟩:=pD es (fun x hx=>hs x (aQE _ hx))
    have he:=hs e (aQt ..);refine⟨by rw[aQ5,aQc,h1,he,aQd,Nat.succ_mul,Nat.add_comm],fun m d h=>?_⟩
    rw[aQ5] at h;by_cases hm:m < e.length
    · rw[aQu hm] at h
      exact⟨0,m,e,rfl,h,by simp⟩
    · rw[aQA (Nat.le_of_not_lt hm)] at h
      obtain⟨i,j,x,h3,h4,h5⟩:=h2 _ _ h;exact⟨i+1,j,x,h3,h4,by rw[Nat.succ_mul];omega⟩
section
variable {k:Nat} {as:AS} {F:Fz} {γ:List OI} {w:World}
theorem Gh.bv{id c s:Nat}{es:List (List DC)}(hb:aI as.hp id=.arr c s es)(hne:es.isEmpty=false):Gh k as (bvB id s es as):=by
  intro F γ a w hi hs hk;have hho:=dZ hb (by simp);have hlt:id < γ.length:=by rw[hi.len];exact aG hho
  have hx:γ[id]?=some (γ[id]'hlt):=aQi hlt;generalize hxe:γ[id]'hlt=x at hx;have hok:=hi.ok id _ _ hho hx;cases x with
  | box _=>exact hok.elim
  | dead=>exact hok.elim
  | arr b cap'=>
  cases b with
  | none=>
    obtain⟨_,_,h3⟩:=hok;subst h3;cases hne
  | some b=>
  obtain⟨hcap,hle,hes,ws,T,how,hws,hwr⟩:=hok;subst hcap;obtain⟨hfl,hfg⟩:=pD es hes;have hg:∀ (i:Nat) (o:OI),(nq i id)=false->γ[i]?=some o->(γ.set id (.box b))[i]?=some o:=fun i o h1 h2=>by
    rw[iI] at h1;rw[aQx (fun e=>by rw[e] at h1;simp at h1)];exact h2
  have hgs:(γ.set id (.box b))[id]?=some (.box b):=aQF hlt;have hblk:∀ i b',cB (γ.set id (.box b)) i=some b'->cB γ i=some b':=by
    intro i b' h;obtain⟨y,hy,hyb⟩:=cL h;by_cases hii:id=i
    · subst hii
      rw[hgs] at hy;injection hy with hy;subst hy
      exact bL hx hyb
    · rw[aQx hii] at hy
      exact bL hy hyb
  have fz:∀ {c:aR} {v:Value},RC F γ c v->RC F (γ.set id (.box b)) (bvC id s es.length c) v:=by
    intro c v h;have hq:∀ i,nq i id=true->i=id:=fun i h=>by rw[iI] at h;simpa using h
    have key:c.keep (fun x=>nq x id)=true->RC F (γ.set id (.box b)) c v:=fun hk=>h.mono (fun _ _ h=>h) hg hk
    cases c with
    | dc d=>exact key rfl
    | ref cs=>exact key rfl
    | mpc e=>exact key rfl
    | junk=>exact key rfl
    | fn f caps=>exact RC.kill (fun _ _ h=>h) hg h
    | ptr j o=>
      refine key ?_;simp only[aR.keep,aRh];cases hj:nq j id with
      | false=>rfl
      | true=>
        cases h with | ptr _ _ b' hj'=>
        rw[hq j hj,hx] at hj';injection hj' with hj';cases hj'
    | bls j lo n z=>
      cases hj:nq j id with
      | false=>exact key (by simp[aR.keep,hj])
      | true=>
        cases h with | bls _ _ _ _ b' cap c off hgm ho hc=>
        rw[hq j hj] at hgm ⊢;refine .bls _ _ _ _ b' cap c off (.inr ?_) ho hc;rw[hgs];rcases hgm with hgm | hgm
        · rw[hx] at hgm;injection hgm with hgm;injection hgm with h1 h2;injection h1 with h1;rw[h1]
        · rw[hx] at hgm;injection hgm with hgm;cases hgm
    | ept j i z o=>
      simp only[bvC];cases hj:nq j id with
      | false=>exact key (by simp[aR.keep,hj])
      | true=>
        simp only[cond_true];cases h with | ept _ _ _ _ b' cap hgm=>
        rw[hq j hj,hx] at hgm;injection hgm with hgm;injection hgm with h1 h2;injection h1 with h1;subst h1
        exact .ptr _ _ _ hgs
    | bld j n=>
      simp only[bvC];cases hj:nq j id with
      | false=>exact key (by simp[aR.keep,hj])
      | true=>
        simp only[cond_true];cases hn:nq n es.length with
        | false=>exact .junk _ h.is1
        | true=>
          rw[iI] at hn;have hn':n=es.length:=by simpa using hn
          simp only[cond_true];cases h with
          | bldN _ cap hgm=>rw[hq j hj,hx] at hgm;injection hgm with hgm;cases hgm
          | bld _ _ b' cap hgm=>
            rw[hq j hj,hx] at hgm;injection hgm with hgm;injection hgm with h1 h2;injection h1 with h1;subst h1;subst h2
            exact .bls _ _ _ _ b cap' cap' 0 (.inr hgs) (fun _=>by simp) (by omega)
  have fzs:∀ {l:List aR} {vs:Array Value},(∀ (i:Nat) c v,l[i]?=some c->vs[i]?=some v->RC F γ c v)->∀ (i:Nat) c v,(Jj id s es.length l)[i]?=some c->vs[i]?=some v->RC F (γ.set id (.box b)) c v:=by
    intro l vs h i c v hc hv;rw[vH,aQh] at hc;obtain⟨c0,h1,rfl⟩:=Option.map_eq_some_iff.1 hc;exact fz (h i c0 v h1 hv)
  refine⟨F,γ.set id (.box b),⟨fun _ _ h=>h,rfl,rfl,rfl,aQf _,fun _ _ _=>rfl,fun _ _ h=>.inl h,fun i b' h=>.inl ⟨i,hblk i b' h⟩,fun i _ b' h=>?_⟩,
    ⟨hi.fz,by simp[bvB,Gc,hi.len],fun i j b' h1 h2=>hi.nd i j b' (hblk i b' h1) (hblk j b' h2),fun i b' h=>hi.disj i b' (hblk i b' h),fun i o y h1 h2=>?_⟩, ?_,by simpa using hk⟩
  · rw[aQx (fun e=>by rw[<- e,hx] at h;injection h with h;cases h)];exact h
  · simp only[bvB,Gc] at h1
    by_cases hii:id=i
    · subst hii
      rw[hgs] at h2;rw[aQF (by rw[aQb,<- hi.len];exact hlt)] at h1;injection h1 with h1;injection h2 with h2;subst h1;subst h2
      have hmul:es.length * s<=cap' * s:=aQ8 _ hle;refine⟨ws,T,how,by rw[hws];simp only[jB,aQb,hfl];exact hmul,fun m c v hc hv=>?_⟩
      simp only[jB,aQh] at hc;obtain⟨d,h3,rfl⟩:=Option.map_eq_some_iff.1 hc;obtain⟨i,j,e,h4,h5,rfl⟩:=hfg m d h3;exact .dc _ _ (hwr i j e d v h4 h5 hv)
    · rw[aQx hii] at h1 h2
      rw[aQh] at h1;obtain⟨o0,h3,rfl⟩:=Option.map_eq_some_iff.1 h1;have h4:=hi.ok i o0 y h3 h2;cases o0 with
      | box l=>
        cases y with
        | box b'=>
          obtain⟨vs,T',g1,g2,g3⟩:=h4;exact⟨vs,T',g1,by simpa[vH] using g2,fzs g3⟩
        | arr _ _=>exact h4.elim
        | dead=>exact h4.elim
      | arr c2 s2 es2=>
        cases y with
        | box b'=>exact h4.elim
        | arr b' c'=>cases b'<;>exact h4
        | dead=>exact h4.elim
      | dead=>
        cases y with
        | box b'=>exact h4.elim
        | arr b' c'=>cases b'<;>exact h4.elim
        | dead=>trivial
  · refine⟨hs.1,by simpa[bvB,M1] using hs.2.1,fun i av v h1 h2=>?_⟩
    simp only[bvB,M1] at h1;rw[aQh] at h1;obtain⟨av0,h3,rfl⟩:=Option.map_eq_some_iff.1 h1;have h4:=hs.2.2 i av0 v h3 h2;cases h4 with
    | one c v h=>exact .one _ _ (fz h)
    | agg l vs hsz h=>exact .agg _ _ (by simpa[vH] using hsz) (fzs h)
    | tup l vs hsz h=>
      refine .tup _ _ (by simpa using hsz) (fun i t v h1 h2=>?_)
      rw[aQh] at h1;obtain⟨t0,h5,rfl⟩:=Option.map_eq_some_iff.1 h1;cases h i t0 v h5 h2 with
      | one c v h=>exact .one _ _ (fz h)
      | agg l vs hsz h=>exact .agg _ _ (by simpa[vH] using hsz) (fzs h)
    | junk v=>exact .junk v
theorem Ts{id s n:Nat}(o:aC):aN (bvO id s n o)=bvO id s n (aN o):=by cases o<;>rfl
theorem rP:∀ (ids:List Nat) (s:AS),∃ s',Gh k s s'/\aD s'=Jk ids (aD s)
  | [],s=>⟨s,Gh.refl,rfl⟩
  | id::r,s=>by
    simp only[Jk];have e:aI (aD s).hp id=aN (aI s.hp id):=bE (hp:=s.hp) id;rw[e];cases ho:aI s.hp id with
    | box cs=>exact rP r s
    | dead=>exact rP r s
    | arr c z es=>
      simp only[aN,bvZ];cases hn:es.isEmpty with
      | true=>
        obtain⟨s1,g1,g2⟩:=eX (k:=k) [id] s;obtain⟨s',h1,h2⟩:=rP r s1;refine⟨s',g1.trans h1, ?_⟩;rw[h2,g2];rfl
      | false=>
        obtain⟨s',h1,h2⟩:=rP r (bvB id z es s);refine⟨s',(Gh.bv ho hn).trans h1, ?_⟩;rw[h2];congr 1;simp only[bv1,bvB,aD,Gc,aQH,aQC,aN];congr 2;exact aQz (fun o _=>by simp only[Function.comp_apply,Ts])
end
end
section
inductive GH where
  | nil (d sz:Nat)
  | nilB (d j sz:Nat)
  | frz (d:Nat)
  | bv (d:Nat)
inductive HC where
  | skip | ret
  | exit (id:Nat)
  | region (ops:List aY)
  | regR (L:List Nat) (ops:List aY)
  | drawn (ops:List (Bool × aY))
  | drawnF (prs:List (Nat × Nat)) (ops:List aY)
  | drawnT (L:List Nat) (t:IT) (ops:List aY)
  | seq (a b:HC)
  | cond (c:aJ) (a b:HC)
  | block (id:Nat) (a:HC)
  | loop (live:List Nat) (a:HC)
  | gh (g:GH) (a:HC)
  | trm (L:List Nat) (a:HC)
  | bad
def HC.er:HC->dP
  | .skip=>.skip
  | .ret=>.ret
  | .exit id=>.exit id
  | .region ops=>.region ops
  | .regR _ ops=>.region ops
  | .drawn ops=>.drawn ops
  | .drawnF prs ops=>.drawnF prs ops
  | .drawnT _ t ops=>.drawnT t ops
  | .seq a b=>.seq a.er b.er
  | .cond c a b=>.cond c a.er b.er
  | .block id a=>.block id a.er
  | .loop _ a=>.loop a.er
  | .gh _ a=>a.er
  | .trm _ a=>a.er
  | .bad=>.bad
abbrev Oo(d:Nat)(ai:AI):aY:=⟨some d,ai,none⟩
abbrev On(ai:AI):aY:=⟨none,ai,none⟩
abbrev Og(g:Nat)(b:Bool)(d:Nat)(ai:AI):aY:=⟨some d,ai,some (g,b)⟩
abbrev Qo(x:aY):Bool × aY:=(true,x)
abbrev Qe(x:aY):Bool × aY:=(false,x)
abbrev Ki(n:Int):aJ:=.k (.int .i64 n)
abbrev Zi(n:Int):Value:=.int .i64 n
def ghN(d sz:Nat)(st:AS):AV->AS
  | .one (.dc (.raw (.slice none 0 0)))=>⟨st.sl.set d (.one (.bld st.hp.length 0)),st.hp++[.arr 0 sz []]⟩
  | _=>st
def aC3(id j sz:Nat)(cs:List aR)(st:AS):Option aR->AS
  | some (.dc (.raw (.slice none 0 0)))=>⟨st.sl,st.hp.set id (.box (cs.set j (.bld st.hp.length 0)))++[.arr 0 sz []]⟩
  | _=>st
def aC4(id j sz:Nat)(st:AS):aC->AS
  | .box cs=>aC3 id j sz cs st cs[j]?
  | _=>st
def ghB(j sz:Nat)(st:AS):AV->AS
  | .one (.ptr id off)=>aC4 id (off+j) sz st (aI st.hp id)
  | _=>st
def aHs:aR->List Nat
  | .bld id _=>[id]
  | _=>[]
def Yd:List aR->List Nat
  | []=>[]
  | c::cs=>aHs c++Yd cs
def Ye:AV->List Nat
  | .one c=>aHs c
  | .agg cs=>Yd cs
  | _=>[]
def ghE:GH->AS->AS
  | .nil d sz,st=>ghN d sz st (st.sl.getD d .junk)
  | .nilB d j sz,st=>ghB j sz st (st.sl.getD d .junk)
  | .frz d,st=>bR (Ye (st.sl.getD d .junk)) st
  | .bv d,st=>Jk (Ye (st.sl.getD d .junk)) st
def fZ(size:Nat):List (List DC)->Bool
  | []=>true
  | e::es=>nq e.length size&&fZ size es
def klC(id:Nat):aR->aR
  | .dc d=>.dc d
  | .ref cs=>.ref cs
  | .mpc es=>.mpc es
  | .junk=>.junk
  | .ptr j o=>bif nq j id then .junk else .ptr j o
  | .bld j n=>bif nq j id then .junk else .bld j n
  | .ept j i s o=>bif nq j id then .junk else .ept j i s o
  | .bls j i s o=>bif nq j id then .junk else .bls j i s o
  | .fn f caps=>cF (·==id) (.fn f caps)
def Jl(id:Nat):List aR->List aR
  | []=>[]
  | c::cs=>klC id c::Jl id cs
def klV(id:Nat):AV->AV
  | .one c=>.one (klC id c)
  | .agg cs=>.agg (Jl id cs)
  | .tup l=>.tup (l.map (qU (·==id)))
  | .junk=>.junk
def klS(id:Nat):List AV->List AV
  | []=>[]
  | v::vs=>klV id v::klS id vs
def klO(id:Nat):aC->aC
  | .box cs=>.box (Jl id cs)
  | .arr c s es=>.arr c s es
  | .dead=>.dead
def klH(id:Nat):List aC->List aC
  | []=>[]
  | o::os=>klO id o::klH id os
def apB(d:Option Nat)(size bytes:Nat)(st:AS)(id n:Nat):aC->Option (List (List DC))->Option AS
  | .arr _ sz es,some news=>if sz=size/\n<=es.length/\fZ size news=true/\(n+news.length) * bytes<=140737488355328 then
      some ⟨aO (klS id st.sl) d (.one (.bld id (n+news.length))),(klH id st.hp).set id (.arr 0 size (es.take n++news))⟩ else none
  | _,_=>none
def apN(d:Option Nat)(size bytes:Nat)(st:AS):Option (List (List DC))->Option AS
  | some news=>if fZ size news=true/\news.length * bytes<=140737488355328 then
      some ⟨aO st.sl d (.one (.bld st.hp.length news.length)),klH st.hp.length st.hp++[.arr 0 size news]⟩ else none
  | none=>none
def apZ(d:Option Nat)(size bytes:Nat)(st:AS):AV->AV->Option AS
  | .one (.bld id n),x=>apB d size bytes st id n (aI st.hp id) (rC st.hp x)
  | .one (.dc (.raw (.slice none 0 0))),x=>apN d size bytes st (rC st.hp x)
  | _,_=>none
def M2:aR->Bool
  | .ptr _ _=>false
  | .ept _ _ _ _=>false
  | .bls _ _ _ _=>false
  | .fn _ caps=>caps.all Jd
  | _=>true
def Yf:AV->Bool
  | .one c=>M2 c
  | .agg cs=>cs.all M2
  | .tup _=>false
  | .junk=>true
def pY(G:aH)(sl:List AV):List aJ->Bool
  | []=>true
  | x::xs=>Yf (aK G sl x)&&pY G sl xs
def yX(G:aH)(st:AS):List aJ->List AV
  | []=>[]
  | x::xs=>zR (X4 st.hp (aK G st.sl x))::yX G st xs
def vI(G:aH)(st:AS):List aJ->List AV
  | []=>[]
  | x::xs=>zR (V9 st.hp (aK G st.sl x))::vI G st xs
def jY(G:aH)(sl:List AV):List aJ->List AV
  | []=>[]
  | x::xs=>zR (aK G sl x)::jY G sl xs
def lD(G:aH)(sl:List AV):List aJ->List Nat
  | []=>[]
  | x::xs=>Ye (aK G sl x)++lD G sl xs
def nwK(d:Option Nat)(st:AS):Option (AV × List aC)->Option AS
  | some (av,os)=>some ⟨aO st.sl d (cU (cH [] st.hp.length) av),st.hp++os.map (fQ (cH [] st.hp.length))⟩
  | none=>none
def M3(call:aW)(G:aH)(d:Option Nat)(f:FuncId)(xs:List aJ)(st:AS):Option AS:=
  bif (jY G st.sl xs).all (cQ fun _=>true) then nwK d st (call f (jY G st.sl xs) []) else none
def aHt:aC->Bool
  | .arr c _ _=>nq c 0
  | _=>true
def Tt:List aC->Bool
  | []=>true
  | o::os=>aHt o&&Tt os
def dnK(d:Option Nat)(st:AS):Option (AV × List aC)->Option AS
  | some (av,os)=>bif Tt os then some ⟨aO st.sl d (cU (cH [] st.hp.length) av),st.hp++os.map (fQ (cH [] st.hp.length))⟩ else none
  | none=>none
def dnZ(call:aW)(G:aH)(d:Option Nat)(f:FuncId)(xs:List aJ)(st:AS):Option AS:=
  bif (jY G st.sl xs).all (cQ fun _=>true) then dnK d st (call f (jY G st.sl xs) []) else none
def Tu(call:aW)(G:aH)(d:Option Nat)(f:FuncId)(xs:List aJ)(st:AS):Option (AV × List aC)->Option AS
  | some (av,[])=>bif lC av then some ⟨aO st.sl d av,st.hp⟩ else M3 call G d f xs (bR (lD G st.sl xs) st)
  | some (_,_::_)=>M3 call G d f xs (bR (lD G st.sl xs) st)
  | none=>none
def jZ(call:aW):aW:=fun f a hp=>call f (a.map zR) hp
def clZ(call:aW)(G:aH)(d:Option Nat)(f:FuncId)(xs:List aJ)(st:AS):Option AS:=
  bif pY G st.sl xs then Tu call G d f xs st (call f (yX G st xs) [])
  else jW (jZ call) d f (xs.map (aK G (bR (lD G st.sl xs) st).sl)) (bR (lD G st.sl xs) st)
def cvK(call:aW)(G:aH)(d:Option Nat)(xs:List aJ)(st:AS):AV->Option AS
  | .one (.fn f caps)=>jW (jZ call) d f (xs.map (aK G st.sl)++caps.map AV.one) st
  | _=>none
def cvZ(call:aW)(G:aH)(d:Option Nat)(x:aJ)(xs:List aJ)(st:AS):Option AS:=
  cvK call G d xs (bR (lD G st.sl xs) st) (aK G (bR (lD G st.sl xs) st).sl x)
def isT(t:Nat):aJ->Bool
  | .t n=>nq n t
  | _=>false
def aHu(t:Nat):List aJ->Bool
  | []=>false
  | x::xs=>isT t x||aHu t xs
def aGs(t:Nat):AI->Bool
  | .app _ _ _ _ x=>isT t x
  | .call _ xs=>aHu t xs
  | _=>false
def aHv(t:Nat):List aY->Bool
  | []=>false
  | o::l=>aGs t o.ai||aHv t l
def aC8:Option Nat->List aY->Bool
  | some t,l=>aHv t l
  | none,_=>false
def Bh(G:aH)(sl:List AV):List (Nat × aJ)->List Nat
  | []=>[]
  | (_,x)::ps=>Ye (aK G sl x)++Bh G sl ps
def bsO(G:aH)(st:AS)(d:Option Nat)(size len:Nat)(z:List Value)(ps:List (Nat × aJ)):Option AS:=
  (iB (zs z (len * size)) (ps.map fun (j,x)=>(j * size,size,aK G st.sl x))).bind fun cs=>(dcs cs).bind fun ds=>
      if ds.length=len * size then some ⟨aO st.sl d (.one (.bld st.hp.length len)),st.hp++[.arr 0 size (fA size len ds)]⟩ else none
def bsZ(G:aH)(st:AS)(d:Option Nat)(size len:Nat)(z:List Value)(ps:List (Nat × aJ)):Bool->Option AS
  | true=>bsX G (bR (Bh G st.sl ps) st) d size len z ps
  | false=>bsO G (bR (Bh G st.sl ps) st) d size len z ps
def mkK(d:Option Nat)(size bytes:Nat)(zero:List Value)(st:AS):Option Int->Option Int->Option AS
  | some (.ofNat n),some (.ofNat m)=>if n<=m/\m * bytes<=140737488355328 then some ⟨aO st.sl d (.one (.bld st.hp.length n)),st.hp++[.arr 0 size (List.replicate n (zero.map DC.raw))]⟩ else none
  | _,_=>none
def mkZ(G:aH)(st:AS)(d:Option Nat)(size bytes:Nat)(zero:List Value)(l c:aJ):Option AS:=mkK d size bytes zero st (bP (aK G st.sl l)) (bP (aK G st.sl c))
def aKZ(d:Option Nat)(st:AS)(id k n size:Nat)(cs:List aR):List Value->Option AS
 | [v]=>if size=1/\0 < n/\k+n<=cs.length then some ⟨aO st.sl d (.tup []),st.hp.set id (.box (cN cs k (List.replicate n (cI v))))⟩ else none
 | _=>none
def M4(d:Option Nat)(st:AS)(id k n size:Nat)(zero:List Value):aC->Option AS
 | .arr _ s es=>if s=size/\k+n<=es.length then some ⟨aO st.sl d (.tup []),st.hp.set id (.arr 0 size (Ik es k n (zero.map DC.raw)))⟩ else none
 | .box cs=>aKZ d st id k n size cs zero
 | _=>none
def aHx(d:Option Nat)(size:Nat)(zero:List Value)(st:AS):AV->Option AS
  | .one (.bls id k n s)=>if s=size then M4 d st id k n size zero (aI st.hp id) else none
  | .one (.bld id n)=>M4 d st id 0 n size zero (aI st.hp id)
  | _=>none
def Tv(G:aH)(st:AS)(d:Option Nat)(size:Nat)(zero:List Value)(x:aJ):Option AS:=aHx d size zero st (aK G st.sl x)
def Yg(d:Option Nat)(st:AS)(id lo n:Nat)(s:ByteArray):aC->Option AS
  | .box cs=>if lo+n<=cs.length then some ⟨aO st.sl d (cX (.int .i64 (min s.size n:Nat))),st.hp.set id (.box (cN cs lo (dS (s.data.toList.take n))))⟩ else none
  | .arr _ z es=>if z=1/\lo+n<=es.length then some ⟨aO st.sl d (cX (.int .i64 (min s.size n:Nat))),st.hp.set id (.arr 0 1 (Ip es lo (s.data.toList.take n)))⟩ else none
  | _=>none
def aHy(d:Option Nat)(st:AS):AV->Option ByteArray->Option AS
  | .one (.bls id lo n z),some s=>if z=1 then Yg d st id lo n s (aI st.hp id) else none
  | _,_=>none
def Tw(G:aH)(st:AS)(d:Option Nat)(x y:aJ):Option AS:=aHy d st (aK G st.sl x) (cS (aK G st.sl y))
def aK0(d:Option Nat)(st:AS):Option ByteArray->Option AS
  | some s=>some ⟨aO st.sl d (.one (.dc (.slc (gE s)))),st.hp⟩
  | none=>none
def Tx(G:aH)(st:AS)(d:Option Nat)(x:aJ):Option AS:=aK0 d st (cS (aK G st.sl x))
def aC9(d:Option Nat)(st:AS):Option ByteArray->Option AS
  | some s=>some ⟨aO st.sl d (.one (.bld st.hp.length s.size)),st.hp++[.arr 0 1 (gE s)]⟩
  | none=>none
def mbK(d:Option Nat)(size bytes:Nat)(st:AS):List Value->Option Int->Option Int->Option AS
  | [v],some (.ofNat n),some (.ofNat m)=>if size=1/\n<=m/\m * bytes<=140737488355328 then some ⟨aO st.sl d (.one (.bls st.hp.length 0 n 1)),st.hp++[.box (List.replicate m (cI v))]⟩ else none
  | _,_,_=>none
def lP(call:aW)(G:aH)(st:AS)(l:List aY)(d:Option Nat):AI->Option AS
  | .call f xs=>clZ call G d f xs st
  | .callv x xs=>cvZ call G d x xs st
  | .app size bytes _ s x=>apZ d size bytes st (aK G st.sl s) (aK G st.sl x)
  | .bslc size len z ps=>bsZ G st d size len z ps (aC8 d l)
  | .apps _ _=>none
  | .mk size bytes z x y=>mkZ G st d size bytes z x y
  | .clr size z x=>Tv G st d size z x
  | .cpys x y=>Tw G st d x y
  | .cvsb x=>Tx G st d x
  | ai=>zQ G st d ai
def guZ(call:aW)(G:aH)(st:AS)(l:List aY)(d:Option Nat)(ai:AI):Option Bool->Option AS
  | some true=>lP call G st l d ai
  | some false=>some ⟨aO st.sl d (.tup []),st.hp⟩
  | none=>none
def M5(call:aW)(G:aH)(st:AS)(l:List aY)(d:Option Nat)(ai:AI):Option (Nat × Bool)->Option AS
  | none=>lP call G st l d ai
  | some (g,b)=>guZ call G st l d ai (gK b (aK G st.sl (.t g)))
def Wa(call:aW)(G:aH):List aY->Option AS->Option AS
  | _,none=>none
  | [],some st=>some st
  | o::l,some st=>Wa call G l (M5 call G st l o.dst o.ai o.guard)
def Gd:List Nat->Nat->Bool
  | [],_=>false
  | x::L,n=>nq n x||Gd L n
def kR(L:List Nat):AI->Option (Nat × Bool)->Bool
  | .call f _,none=>Gd L f
  | .mk _ _ _ _ _,none=>Gd L 0
  | .cvsb _,none=>Gd L 1
  | _,_=>false
def vpK(d:Option Nat)(st:AS):Option (AV × List aC)->Option AS
  | some (av,[])=>bif lC av then some ⟨aO st.sl d av,st.hp⟩ else none
  | some (_,_::_)=>none
  | none=>none
def Yh(call:aW)(G:aH)(st:AS)(d:Option Nat)(f:FuncId)(xs:List aJ):Bool->Option AS
  | true=>vpK d st (call f (vI G st xs) [])
  | false=>jW (jZ call) d f (xs.map (aK G st.sl)) st
def Jm(call:aW)(G:aH)(L:List Nat)(st:AS)(d:Option Nat):AI->Option AS
  | .call f xs=>Yh call G st d f xs (Gd L (f+100000))
  | .mk size bytes z x y=>mbK d size bytes st z (bP (aK G st.sl x)) (bP (aK G st.sl y))
  | .cvsb x=>aC9 d st (cS (aK G st.sl x))
  | _=>none
def Eu(call:aW)(G:aH)(L:List Nat)(st:AS)(l:List aY)(d:Option Nat)(ai:AI)(g:Option (Nat × Bool)):Bool->Option AS
  | true=>Jm call G L st d ai
  | false=>M5 call G st l d ai g
def yY(call:aW)(G:aH)(L:List Nat):List aY->Option AS->Option AS
  | _,none=>none
  | [],some st=>some st
  | o::l,some st=>yY call G L l (Eu call G L st l o.dst o.ai o.guard (kR L o.ai o.guard))
open Classical in
noncomputable def Jn(n0:Nat)(a b:Option AS):Option AS:=if ∃ s s' p,a=some s/\b=some s'/\pOK n0 s'.hp.length p/\prm p s'=s then a else none
noncomputable def Jo(call:aW)(G:aH)(L:List Nat)(n0:Nat)(ops:List aY):IT->Option AS->Option AS
  | _,none=>none
  | .nil,some st=>some st
  | .st i t,some st=>Jo call G L n0 ops t (Eu call G L st ops (iT ops i).dst (iT ops i).ai (iT ops i).guard (kR L (iT ops i).ai (iT ops i).guard))
  | .br i t r,some st=>match Fw r with
    | true=>Jo call G L n0 ops t (Eu call G L st ops (iT ops i).dst (iT ops i).ai (iT ops i).guard (kR L (iT ops i).ai (iT ops i).guard))
    | false=>Jn n0 (Jo call G L n0 ops t (Eu call G L st ops (iT ops i).dst (iT ops i).ai (iT ops i).guard (kR L (iT ops i).ai (iT ops i).guard))) (Jo call G L n0 ops r (some st))
  | .stop,some _=>none
def qcF(d:Option Nat)(st:AS)(v:AV):Option AS:=bif cQ (fun _=>true) v then some ⟨aO st.sl d v,st.hp⟩ else none
def qcK(d:Option Nat)(st:AS):Option (AV × List aC)->Option AS
  | some (av,[])=>bif cQ (fun _=>true) av then some ⟨aO st.sl d av,st.hp⟩ else none
  | some (av,o::os)=>qcF d st (aZ (fun id=>decide (0<=id)) ((bR (iU av) ⟨[av],o::os⟩).sl.getD 0 .junk))
  | none=>none
def wU(call:aW)(G:aH)(st:AS)(d:Option Nat):AI->Option AS
  | .call f xs=>bif (jY G st.sl xs).all (cQ fun _=>true) then qcK d st (call f (jY G st.sl xs) []) else none
  | ai=>gI st d (V6 G st.sl (Fs ai st.hp) ai)
def dvK(call:aW)(G:aH)(d:Option Nat)(f:FuncId)(xs:List aJ)(st:AS):Option (AV × List aC)->Option AS
  | some (av,[])=>bif lC av then some ⟨aO st.sl d av,st.hp⟩ else dnZ call G d f xs st
  | some (_,_::_)=>dnZ call G d f xs st
  | none=>none
def Yi(call:aW)(G:aH)(st:AS)(d:Option Nat):AI->Option AS
  | .call f xs=>dvK call G d f xs st (call f (vI G st xs) [])
  | .callv x xs=>cvZ call G d x xs st
  | .app size bytes _ s x=>apZ d size bytes st (aK G st.sl s) (aK G st.sl x)
  | .bslc size len z ps=>bsO G st d size len z ps
  | .mk size bytes z x y=>mkZ G st d size bytes z x y
  | .clr size z x=>Tv G st d size z x
  | .cpys x y=>Tw G st d x y
  | .cvsb x=>Tx G st d x
  | .alloc z=>zQ G st d (.alloc z)
  | .box x=>zQ G st d (.box x)
  | .store size x v=>zQ G st d (.store size x v)
  | _=>none
def Tz(call:aW)(G:aH)(st:AS)(d:Option Nat)(ai:AI):Bool->Option AS
  | true=>wU call G st d ai
  | false=>Yi call G st d ai
def T0(call:aW)(G:aH)(st:AS)(q:Bool)(d:Option Nat)(ai:AI):Option Bool->Option AS
  | some true=>Tz call G st d ai q
  | some false=>some ⟨aO st.sl d (.tup []),st.hp⟩
  | none=>none
def drO(call:aW)(G:aH)(st:AS)(q:Bool)(d:Option Nat)(ai:AI):Option (Nat × Bool)->Option AS
  | none=>Tz call G st d ai q
  | some (g,b)=>T0 call G st q d ai (gK b (aK G st.sl (.t g)))
def yZ(call:aW)(G:aH):List (Bool × aY)->Option AS->Option AS
  | _,none=>none
  | [],some st=>some st
  | o::l,some st=>yZ call G l (drO call G st o.1 o.2.dst o.2.ai o.2.guard)
def T1:AI->Bool
  | .alloc _=>true
  | _=>false
def Wb:List aY->Nat
  | []=>0
  | o::l=>bif T1 o.ai then Wb l+1 else Wb l
def yM:Nat->List aC
  | 0=>[]
  | n+1=>.dead::yM n
abbrev FP:=List Nat × List Nat
def T3(G:aH)(sl:List AV):List aJ->List Nat
  | []=>[]
  | x::xs=>H2 (aK G sl x)++T3 G sl xs
def fvN(d:Option Nat)(r:Nat)(z:List Value)(st:AS):Option aC->Option (AS × FP)
  | some .dead=>some (⟨aO st.sl d (.one (.ptr r 0)),st.hp.set r (.box (z.map cI))⟩,[r],[])
  | _=>none
def fvT(size id off:Nat)(vs:List aR)(st:AS):Option aC->Option (AS × FP)
  | some (.box cs)=>if vs.length=size/\off+size<=cs.length then some (⟨st.sl,st.hp.set id (.box (cN cs off vs))⟩,[id],[id]) else none
  | _=>none
def fvS(d:Option Nat)(size:Nat)(st:AS):AV->Option (List aR)->Option (AS × FP)
  | .one (.ptr id off),some vs=>match d with
    | none=>fvT size id off vs st st.hp[id]?
    | some _=>none
  | _,_=>none
def L7(R:List Nat):Option AS->Option (AS × FP)
  | some s=>some (s,[],R)
  | none=>none
def aDa(d:Option Nat)(id lo n:Nat)(bs:ByteArray)(st:AS):Option aC->Option (AS × FP)
  | some (.box cs)=>if lo+n<=cs.length then some (⟨aO st.sl d (cX (.int .i64 (min bs.size n:Nat))),st.hp.set id (.box (cN cs lo (dS (bs.data.toList.take n))))⟩,[id],[id]) else none
  | _=>none
def fvY(d:Option Nat)(st:AS):AV->Option ByteArray->Option (AS × FP)
  | .one (.bls id lo n z),some bs=>if z=1 then aDa d id lo n bs st st.hp[id]? else none
  | _,_=>none
def Yj(d:Option Nat)(id:Nat)(st:AS):Option (AV × List aC)->Option (AS × FP)
  | some (.tup [],[.box cs])=>bif keepL (fun _=>true) cs then some (⟨aO st.sl d (.tup []),st.hp.set id (.box cs)⟩,[id],[id]) else none
  | _=>none
def fvB(call:aW)(d:Option Nat)(f:FuncId)(st:AS)(avs:List AV)(id:Nat):Option aC->Option (AS × FP)
  | some (.box cs)=>bif keepL (fun _=>true) cs&&avs.all (cQ (jV [id])) then Yj d id st (jZ call f (avs.map (cU (lA [id]))) [.box cs]) else none
  | _=>none
def fvC(call:aW)(G:aH)(st:AS)(d:Option Nat)(f:FuncId)(xs:List aJ):List Nat->Option (AS × FP)
  | []=>L7 [] (wU call G st d (.call f xs))
  | [id]=>fvB call d f st (xs.map (aK G st.sl)) id st.hp[id]?
  | _=>none
def fvL:Nat->Option AS->Option (AS × FP)
  | 0,_=>none
  | _+1,s=>L7 [] s
def Ge(call:aW)(G:aH)(st:AS)(d:Option Nat)(r:Nat):AI->Option (AS × FP)
  | .alloc z=>fvN d r z st st.hp[r]?
  | .store size x v=>fvS d size st (aK G st.sl x) (cellsOf (aK G st.sl v))
  | .cpys x y=>fvY d st (aK G st.sl x) (cS (aK G st.sl y))
  | .call f xs=>fvC call G st d f xs ((xs.map (aK G st.sl)).flatMap iU)
  | .bslc size len z ps=>fvL len (bsX G st d size len z ps)
  | ai=>bif ai.isPure then L7 (T3 G st.sl (aX ai)) (lP call G st [] d ai) else none
def fvG(call:aW)(G:aH)(st:AS)(d:Option Nat)(r:Nat)(ai:AI):Option Bool->Option (AS × FP)
  | some true=>Ge call G st d r ai
  | some false=>some (⟨aO st.sl d (.tup []),st.hp⟩,[],[])
  | none=>none
def Yk(call:aW)(G:aH)(st:AS)(d:Option Nat)(r:Nat)(ai:AI):Option (Nat × Bool)->Option (AS × FP)
  | none=>Ge call G st d r ai
  | some (g,b)=>fvG call G st d r ai (gK b (aK G st.sl (.t g)))
def aDb:List Nat->Nat->Bool
  | [],_=>false
  | x::L,n=>nq n x||aDb L n
def Du:List Nat->List Nat->Bool
  | [],_=>true
  | x::a,b=>!aDb b x&&Du a b
def dsM:FP->FP->Bool
  | (w,r),(w',r')=>Du w r'&&(Du w w'&&Du w' r)
def atF:List FP->Nat->FP
  | [],_=>([],[])
  | f::_,0=>f
  | _::fs,n+1=>atF fs n
def Dv:List (Nat × Nat)->List FP->Bool
  | [],_=>true
  | (p,q)::prs,fs=>dsM (atF fs p) (atF fs q)&&Dv prs fs
def M6(call:aW)(G:aH)(prs:List (Nat × Nat)):List FP->Nat->List aY->Option AS->Option AS
  | _,_,_,none=>none
  | acc,_,[],some st=>bif Dv prs acc then some st else none
  | acc,r,o::l,some st=>match Yk call G st o.dst r o.ai o.guard with
    | some (s,f)=>M6 call G prs (acc++[f]) (bif T1 o.ai then r+1 else r) l (some s)
    | none=>none
def ctC(m:Nat):aR->aR
  | .dc d=>.dc d
  | .ref cs=>.ref cs
  | .mpc es=>.mpc es
  | .junk=>.junk
  | .ptr j o=>if m<=j then .junk else .ptr j o
  | .bld j n=>if m<=j then .junk else .bld j n
  | .ept j i s o=>if m<=j then .junk else .ept j i s o
  | .bls j i s o=>if m<=j then .junk else .bls j i s o
  | .fn f caps=>cF (fun id=>decide (m<=id)) (.fn f caps)
def zA(m:Nat):List aR->List aR
  | []=>[]
  | c::cs=>ctC m c::zA m cs
def ctV(m:Nat):AV->AV
  | .one c=>.one (ctC m c)
  | .agg cs=>.agg (zA m cs)
  | .tup l=>.tup (l.map (qU fun id=>decide (m<=id)))
  | .junk=>.junk
def ctO(m:Nat):aC->aC
  | .box cs=>.box (zA m cs)
  | .arr c s es=>.arr c s es
  | .dead=>.dead
def Wc(m:Nat):Nat->List aC->List aC
  | 0,_=>[]
  | _+1,[]=>[]
  | n+1,o::os=>ctO m o::Wc m n os
def ctS(m:Nat):List Nat->List AV->List AV
  | _,[]=>[]
  | [],_::xs=>.junk::ctS m [] xs
  | 0::L,x::xs=>ctV m x::ctS m L xs
  | (n+1)::L,_::xs=>.junk::ctS m (n::L) xs
def jL(L:List Nat)(m:Nat)(st:AS):AS:=⟨ctS m L st.sl,Wc m m st.hp⟩
def Dl(run:AS->Option (Exit × AS))(L:List Nat)(m:Nat):Nat->AS->Option (Exit × AS)
  | 0,_=>none
  | n+1,st=>match run st with
    | some (.normal,s)=>Dl run L m n (jL L m s)
    | r=>r
open Classical in
noncomputable def lim{α:Type}(f:Nat->Option α):Option α:=if h:∃ n r,f n=some r then f h.choose else none
noncomputable def tO(run:AS->Option (Exit × AS))(L:List Nat)(m:Nat)(st:AS):Option (Exit × AS):=lim fun n=>Dl run L m n st
def Yl:Option AS->Option (Exit × AS)
  | some s=>some (.normal,s)
  | none=>none
def aDc(id:Nat)(s:AS):Exit->Option (Exit × AS)
  | .exit id'=>if id'=id then some (.normal,s) else some (.exit id',s)
  | e=>some (e,s)
def rQ(id:Nat):Option (Exit × AS)->Option (Exit × AS)
  | some (e,s)=>aDc id s e
  | none=>none
noncomputable def EC(call:aW)(G:aH):HC->AS->Option (Exit × AS)
  | .skip,st=>some (.normal,st)
  | .ret,st=>some (.ret,st)
  | .exit id,st=>some (.exit id,st)
  | .region ops,st=>Yl (Wa call G ops (some st))
  | .regR L ops,st=>Yl (yY call G L ops (some st))
  | .drawn ops,st=>Yl (yZ call G ops (some st))
  | .drawnF prs ops,st=>Yl (M6 call G prs [] st.hp.length ops (some ⟨st.sl,st.hp++yM (Wb ops)⟩))
  | .drawnT L t ops,st=>Yl (Jo call G L st.hp.length ops t (some st))
  | .seq a b,st=>match EC call G a st with
    | some (.normal,s)=>EC call G b s
    | r=>r
  | .cond c a b,st=>match cG (aK G st.sl c) with
    | some true=>EC call G a st
    | some false=>EC call G b st
    | none=>none
  | .block id a,st=>rQ id (EC call G a st)
  | .loop L a,st=>tO (EC call G a) L st.hp.length (jL L st.hp.length st)
  | .gh g a,st=>EC call G a (ghE g st)
  | .trm L a,st=>EC call G a (jL L st.hp.length st)
  | .bad,_=>none
structure HF where
  code:HC
  rs:List kQ
  nt:Nat
  own:Bool
structure HT where
  tab:FuncId->Option HF
  base:aW
def aHB(own:Bool)(n:Nat)(hp:List aC)(v:AV):AV × List aC:=
  bif own then
    (bif cQ (fun id=>decide (n<=id)) v&&(hp.take n).all (nD fun id=>decide (n<=id)) then (zR v,hp.take n) else (zR v,hp))
  else (zR (aZ (fun id=>decide (n<=id)) ((bR (iU v) (bxW n (iU v) ⟨[v],hp⟩ (M0 v))).sl.getD 0 .junk)),((bR (iU v) (bxW n (iU v) ⟨[v],hp⟩ (M0 v))).hp.take n).map (cJ fun id=>decide (n<=id)))
def M7(own:Bool)(n:Nat)(hp:List aC):Option AV->Option (AV × List aC)
  | some v=>some (aHB own n hp v)
  | none=>none
def oO(own:Bool)(rs:List kQ)(n:Nat):Option (Exit × AS)->Option (AV × List aC)
  | some (e,s)=>if Ek e=true/\n<=s.hp.length then M7 own n s.hp (qM s rs) else none
  | none=>none
noncomputable def M8(call:aW)(G:aH)(h:HF)(args:List AV)(hp:List aC):Option (AV × List aC):=
  oO h.own h.rs hp.length (EC call G h.code ⟨args++tN (h.nt - args.length),hp⟩)
noncomputable def callN(G:aH)(T:HT):Nat->aW
  | 0,_,_,_=>none
  | n+1,f,args,hp=>match T.tab f with
    | some h=>M8 (callN G T n) G h args hp
    | none=>T.base f args hp
noncomputable def EV(G:aH)(T:HT):aW:=fun f args hp=>lim fun n=>callN G T n f args hp
end
end Go.Proofs.YtcplecjhmnblpaaGreatDoor
