/- Codes with hints, and an evaluator of them whose steps are equations. Conditions: none. -/
import Derived.Test.YtmmafhopnkkeeaaGreatDoorMb
namespace Go.Proofs.YtmmafhopnkkeeaaGreatDoor
set_option linter.unusedSimpArgs false
set_option linter.unusedVariables false
section
def capD:Cel→Bool
  | .dc _=>true
  | .ref _=>true
  | .mpc _=>true
  | _=>false
def vwC (hp:List AObj):Cel→Cel
  | .bld id n=>match hpGet hp id with
    | .arr _ _ es=>if n≤es.length then .dc (.slc (es.take n)) else .junk
    | _=>.junk
  | .dc d=>.dc d
  | .ref ds=>.ref ds
  | .mpc es=>.mpc es
  | .fn f caps=>bif caps.all capD then .fn f caps else .junk
  | _=>.junk
def vwA (hp:List AObj):AV→AV
  | .one c=>.one (vwC hp c)
  | .agg cs=>.agg (cs.map (vwC hp))
  | .tup _=>.junk
  | .junk=>.junk
def dcsV:List Cel→Option (List DC)
  | []=>some []
  | .dc d::cs=>(dcsV cs).map (d::·)
  | _=>none
def refV:Option (List DC)→Cel
  | some ds=>.ref ds
  | none=>.junk
def toD:Cel→Cel
  | .dc (.raw (.slice none 0 0))=>.dc (.slc [])
  | .ref ds=>.dc (.ptr ds)
  | c=>c
def vwN (hp:List AObj) (c:Cel):Cel:=toD (vwC hp c)
def vwNs (hp:List AObj):List Cel→List Cel
  | []=>[]
  | c::cs=>vwN hp c::vwNs hp cs
def vpP (hp:List AObj) (off:Nat):AObj→Cel
  | .box cs=>refV (dcsV (vwNs hp (cs.drop off)))
  | _=>.junk
def vwM (hp:List AObj):Cel→Cel
  | .ptr id off=>toD (vpP hp off (hpGet hp id))
  | .bld id n=>vwN hp (.bld id n)
  | .dc d=>vwN hp (.dc d)
  | .ref ds=>.dc (.ptr ds)
  | .mpc _=>.junk
  | .fn _ _=>.junk
  | .ept _ _ _ _=>.junk
  | .bls _ _ _ _=>.junk
  | .junk=>.junk
def vwMs (hp:List AObj):List Cel→List Cel
  | []=>[]
  | c::cs=>vwM hp c::vwMs hp cs
def vqP (hp:List AObj) (off:Nat):AObj→Cel
  | .box cs=>refV (dcsV (vwMs hp (cs.drop off)))
  | _=>.junk
def fnV (f:FuncId) (cs:List Cel):Cel:=bif cs.all capD then .fn f cs else .junk
def vp0 (hp:List AObj):Cel→Cel
  | .ptr id off=>vqP hp off (hpGet hp id)
  | .bld id n=>vwC hp (.bld id n)
  | .dc d=>.dc d
  | .ref ds=>.ref ds
  | .mpc es=>.mpc es
  | .fn f caps=>vwC hp (.fn f caps)
  | .ept _ _ _ _=>.junk
  | .bls _ _ _ _=>.junk
  | .junk=>.junk
def vp0s (hp:List AObj):List Cel→List Cel
  | []=>[]
  | c::cs=>vp0 hp c::vp0s hp cs
def vpC (hp:List AObj):Cel→Cel
  | .fn f caps=>fnV f (vp0s hp caps)
  | .ptr id off=>vp0 hp (.ptr id off)
  | .bld id n=>vp0 hp (.bld id n)
  | .dc d=>.dc d
  | .ref ds=>.ref ds
  | .mpc es=>.mpc es
  | .ept _ _ _ _=>.junk
  | .bls _ _ _ _=>.junk
  | .junk=>.junk
def vpA (hp:List AObj):AV→AV
  | .one c=>.one (vpC hp c)
  | .agg cs=>.agg (cs.map (vwC hp))
  | .tup _=>.junk
  | .junk=>.junk
def rawC?:Cel→Bool
  | .dc (.raw _)=>true
  | _=>false
def rawT?:TV→Bool
  | .one c=>rawC? c
  | .agg cs=>cs.all rawC?
def rawA?:AV→Bool
  | .one c=>rawC? c
  | .agg cs=>cs.all rawC?
  | .tup l=>l.all rawT?
  | .junk=>false
section
variable {P:Program} {G:Glob} {k:Nat} {st st':AS} {R:AS→Prop} {o:AOp} {rest:List AOp} {F F':Fz} {γ γ':List OI} {w:World}
theorem allF_sub (hi:Inv F γ st.hp w):F.sub (allF w):=fun b o h=>hi.fz b o h
theorem vwC_ok (hi:Inv F γ st.hp w) {c:Cel} {v:Value} (h:RC F γ c v):RC (allF w) [] (vwC st.hp c) v:=by
  have hs:=allF_sub hi
  cases h with
  | dc d v h=>exact .dc d v (h.mono hs)
  | ref cs b off g hr hc=>exact .ref cs b off g (fun j d h=>(hr j d h).mono hs) (fun j d h=>hs.cell (hc j d h))
  | mpc es r clk ents h he h1=>exact .mpc es r clk ents (hs _ _ h) he h1
  | bldN id cap h0=>
    simp only [vwC]
    split
    · rename_i cp sz es hb
      split
      · simp only [List.take_zero];exact .dc _ _ (.nil _ _)
      · exact .junk _ rfl
    · exact .junk _ rfl
  | bld id n b cap h0=>
    simp only [vwC]
    split
    · rename_i cp sz es hb
      split
      · rename_i hn
        have:=frz_ok (F':=allF w) (γ':=γ) hi hb hs (fun i o _ h=>h) (fun b c h=>rfl) (.bld id n b cap h0)
        have e1:frzC id es (.bld id n)=.dc (.slc (es.take n)):=by simp [frzC,hn]
        rw [e1] at this
        have e2:killC (·==id) (.dc (.slc (es.take n)))=.dc (.slc (es.take n)):=by simp [killC,Cel.keep]
        rw [e2] at this
        cases this with | dc _ _ h=>exact .dc _ _ h
      · exact .junk _ rfl
    · exact .junk _ rfl
  | ptr id off b h0=>exact .junk _ rfl
  | ept id i size off b cap h0=>exact .junk _ rfl
  | bls id lo n size b cap c off h0 ho hc=>exact .junk _ rfl
  | fn f caps g hr=>
    simp only [vwC]
    cases hc:caps.all capD with
    | false=>exact .junk _ rfl
    | true=>
      refine .fn f caps g (fun i c h=>?_)
      have h1:=List.all_eq_true.1 hc c (List.mem_of_getElem? h)
      have h2:=hr i c h
      generalize g i=v at h2 ⊢
      cases h2 with
      | dc d v h=>exact .dc d _ (h.mono hs)
      | ref cs b off g hr hc=>exact .ref cs b off g (fun j d h=>(hr j d h).mono hs) (fun j d h=>hs.cell (hc j d h))
      | mpc es r clk ents hm he hz=>exact .mpc es r clk ents (hs _ _ hm) he hz
      | _=>simp [capD] at h1
  | junk v h=>exact .junk v h
theorem vwA_ok (hi:Inv F γ st.hp w) {a:AV} {v:Value} (h:RV F γ a v):RV (allF w) [] (vwA st.hp a) v:=by
  cases h with
  | one c v h=>exact .one _ _ (vwC_ok hi h)
  | agg cs vs hs h=>
    refine .agg _ _ (by simpa using hs) (fun i c v h1 h2=>?_)
    rw [List.getElem?_map] at h1
    obtain ⟨c0,h3,rfl⟩:=Option.map_eq_some_iff.1 h1
    exact vwC_ok hi (h i c0 v h3 h2)
  | tup l vs hs h=>exact .junk _
  | junk v=>exact .junk v
theorem vwNs_eq (hp:List AObj):∀ cs,vwNs hp cs=cs.map (vwN hp)
  | []=>rfl
  | c::cs=>by rw [vwNs,vwNs_eq hp cs];rfl
theorem vp0s_eq (hp:List AObj):∀ cs,vp0s hp cs=cs.map (vp0 hp)
  | []=>rfl
  | c::cs=>by rw [vp0s,vp0s_eq hp cs];rfl
theorem dcsV_get:∀ {cs:List Cel} {ds:List DC} {j:Nat} {d:DC},dcsV cs=some ds→ds[j]?=some d→cs[j]?=some (.dc d)
  | [],ds,j,d,h,hd=>by simp only [dcsV,Option.some.injEq] at h;subst h;simp at hd
  | c::cs,ds,j,d,h,hd=>by
    cases c with
    | dc d0=>
      simp only [dcsV] at h
      obtain ⟨ds0,h1,rfl⟩:=Option.map_eq_some_iff.1 h
      cases j with
      | zero=>simp at hd;simp [hd]
      | succ j=>simp at hd;simpa using dcsV_get h1 hd
    | _=>simp [dcsV] at h
theorem vwMs_eq (hp:List AObj):∀ cs,vwMs hp cs=cs.map (vwM hp)
  | []=>rfl
  | c::cs=>by rw [vwMs,vwMs_eq hp cs];rfl
theorem toD_ok {F:Fz} {γ:List OI} {c:Cel} {v:Value} (h:RC F γ c v):RC F γ (toD c) v:=by
  unfold toD
  split
  · cases h with | dc _ _ h=>cases h with | raw _ h=>exact .dc _ _ (.nil _ _)
  · cases h with | ref _ b off g hr hc=>exact .dc _ _ (.ptr _ b off g hr hc)
  · exact h
theorem box_view (hi:Inv F γ st.hp w) {id off b:Nat} {cs:List Cel} {vw:Cel→Cel} {ds:List DC} (hb:hpGet st.hp id=.box cs) (h0:γ[id]?=some (.box b)) (hv:∀ c v,RC F γ c v→RC (allF w) [] (vw c) v)
    (hd:dcsV ((cs.drop off).map vw)=some ds):RC (allF w) [] (.ref ds) (.pointer (some ⟨b,off,none⟩)):=by
  obtain ⟨vs,T,⟨fz,hw,hnf⟩,hsz,hok⟩:=hi.box hb h0
  refine .ref ds b off (fun j=>vs.getD (off+j) (.bool false)) ?_ ?_
  · intro j d hj
    have h1:=dcsV_get hd hj
    rw [List.getElem?_map] at h1
    obtain ⟨c0,h2,h3⟩:=Option.map_eq_some_iff.1 h1
    rw [List.getElem?_drop] at h2
    have hlt:off+j < vs.size:=Nat.lt_of_lt_of_le (lt_of_get h2) hsz
    have h4:=hok (off+j) c0 _ h2 (Array.getElem?_eq_getElem hlt)
    have h5:=hv _ _ h4
    rw [h3] at h5
    have e:vs.getD (off+j) (.bool false)=vs[off+j]:=by simp [Array.getD,hlt]
    show RD (allF w) d (vs.getD (off+j) (.bool false))
    rw [e]
    cases h5 with | dc _ _ h=>exact h
  · intro j d hj
    have h1:=dcsV_get hd hj
    rw [List.getElem?_map] at h1
    obtain ⟨c0,h2,h3⟩:=Option.map_eq_some_iff.1 h1
    rw [List.getElem?_drop] at h2
    have hlt:off+j < vs.size:=Nat.lt_of_lt_of_le (lt_of_get h2) hsz
    simp [Fz.cell?,allF,hw,Array.getD,hlt]
theorem vwN_ok (hi:Inv F γ st.hp w) {c:Cel} {v:Value} (h:RC F γ c v):RC (allF w) [] (vwN st.hp c) v:=toD_ok (vwC_ok hi h)
theorem vpP_ok (hi:Inv F γ st.hp w) {id off:Nat} {v:Value} (h:RC F γ (.ptr id off) v):RC (allF w) [] (vpP st.hp off (hpGet st.hp id)) v:=by
  cases h with
  | ptr id off b h0=>
    cases hb:hpGet st.hp id with
    | box cs=>
      simp only [vpP]
      cases hd:dcsV (vwNs st.hp (cs.drop off)) with
      | none=>exact .junk _ rfl
      | some ds=>rw [vwNs_eq] at hd;exact box_view hi hb h0 (fun c v h=>vwN_ok hi h) hd
    | _=>exact .junk _ rfl
theorem vwM_ok (hi:Inv F γ st.hp w) {c:Cel} {v:Value} (h:RC F γ c v):RC (allF w) [] (vwM st.hp c) v:=by
  cases hc:c with
  | ptr id off=>subst hc;exact toD_ok (vpP_ok hi h)
  | bld id n=>subst hc;exact vwN_ok hi h
  | dc d=>subst hc;exact vwN_ok hi h
  | ref ds=>subst hc;exact toD_ok (c:=.ref ds) (vwC_ok hi h)
  | _=>exact .junk _ h.is1
theorem vp0_ok (hi:Inv F γ st.hp w) {c:Cel} {v:Value} (h:RC F γ c v):RC (allF w) [] (vp0 st.hp c) v:=by
  cases hc:c with
  | ptr id off=>
    subst hc
    cases h with
    | ptr id off b h0=>
      simp only [vp0]
      cases hb:hpGet st.hp id with
      | box cs=>
        simp only [vqP]
        cases hd:dcsV (vwMs st.hp (cs.drop off)) with
        | none=>exact .junk _ rfl
        | some ds=>rw [vwMs_eq] at hd;exact box_view hi hb h0 (fun c v h=>vwM_ok hi h) hd
      | _=>exact .junk _ rfl
  | dc d=>subst hc;exact vwC_ok hi h
  | ref cs=>subst hc;exact vwC_ok hi h
  | mpc es=>subst hc;exact vwC_ok hi h
  | bld id n=>subst hc;exact vwC_ok hi h
  | fn f caps=>subst hc;exact vwC_ok hi h
  | ept=>exact .junk _ h.is1
  | bls=>exact .junk _ h.is1
  | junk=>exact .junk _ h.is1
theorem vpC_ok (hi:Inv F γ st.hp w) {c:Cel} {v:Value} (h:RC F γ c v):RC (allF w) [] (vpC st.hp c) v:=by
  cases hc:c with
  | fn f caps=>
    subst hc
    cases h with
    | fn f caps g hr=>
      simp only [vpC,fnV,vp0s_eq]
      cases hc:(caps.map (vp0 st.hp)).all capD with
      | false=>exact .junk _ rfl
      | true=>
        have e:caps.length=(caps.map (vp0 st.hp)).length:=by simp
        simp only [cond_true,e]
        refine .fn f _ g (fun i c h=>?_)
        rw [List.getElem?_map] at h
        obtain ⟨c0,h2,rfl⟩:=Option.map_eq_some_iff.1 h
        exact vp0_ok hi (hr i c0 h2)
  | dc d=>subst hc;exact vp0_ok hi h
  | ref cs=>subst hc;exact vp0_ok hi h
  | mpc es=>subst hc;exact vp0_ok hi h
  | bld id n=>subst hc;exact vp0_ok hi h
  | ptr id off=>subst hc;exact vp0_ok hi h
  | ept=>exact .junk _ h.is1
  | bls=>exact .junk _ h.is1
  | junk=>exact .junk _ h.is1
theorem vpA_ok (hi:Inv F γ st.hp w) {a:AV} {v:Value} (h:RV F γ a v):RV (allF w) [] (vpA st.hp a) v:=by
  cases h with
  | one c v h=>exact .one _ _ (vpC_ok hi h)
  | agg cs vs hs h=>exact vwA_ok hi (.agg cs vs hs h)
  | tup l vs hs h=>exact .junk _
  | junk v=>exact .junk v
theorem rawC_ok {c:Cel} {v:Value} (hc:rawC? c=true) (h:RC F γ c v):RC F' γ' c v:=by
  cases h with
  | dc d v h=>cases h with
    | raw v h=>exact .dc _ _ (.raw v h)
    | nil A c=>simp [rawC?] at hc
    | slc=>simp [rawC?] at hc
    | ptr=>simp [rawC?] at hc
  | _=>simp [rawC?] at hc
theorem rawCs_ok {cs:List Cel} {vs:Array Value} (hc:cs.all rawC?=true) (h:∀ (i:Nat) c v,cs[i]?=some c→vs[i]?=some v→RC F γ c v):∀ (i:Nat) c v,cs[i]?=some c→vs[i]?=some v→RC F' γ' c v:=
  fun i c v h1 h2=>rawC_ok (List.all_eq_true.1 hc c (List.mem_of_getElem? h1)) (h i c v h1 h2)
theorem rawA_ok {a:AV} {v:Value} (hc:rawA? a=true) (h:RV F γ a v):RV F' γ' a v:=by
  cases h with
  | one c v h=>exact .one _ _ (rawC_ok hc h)
  | agg cs vs hs h=>exact .agg _ _ hs (rawCs_ok hc h)
  | tup l vs hs h=>
    refine .tup _ _ hs (fun i t v h1 h2=>?_)
    have ht:=List.all_eq_true.1 hc t (List.mem_of_getElem? h1)
    cases h i t v h1 h2 with
    | one c v h=>exact .one _ _ (rawC_ok ht h)
    | agg cs vs hs h=>exact .agg _ _ hs (rawCs_ok ht h)
  | junk v=>simp [rawA?] at hc
theorem WR.callV {f:FuncId} {args:List AArg} {cargs:List AV} {r:AV} (hgd:gOK G st o.guard) (ha:o.ai=.call f args) (hac:QC P G f cargs r) (hr:rawA? r=true)
    (hargs:args.map (fun x=>vwA st.hp (evA G st.sl x))=cargs) (h:WR P G k rest R ⟨putS st.sl o.dst r,st.hp⟩):WR P G k (o::rest) R st:=by
  refine WR.step hgd (fun F γ a w oper hc hd hi hs hg hk=>?_)
  rw [ha] at hc
  obtain ⟨c,hop,hcal,rfl,hok⟩:=call_inv hc
  obtain ⟨dst,op,type,pos,after,guard⟩:=oper
  simp only at hop
  subst hop
  have hv:=args_ok (G:=G) hs hg c.args
  have hv2:argsOK (allF w) [] cargs (c.args.map a.eval):=by
    rw [← hargs]
    refine ⟨by rw [hv.1];simp,fun i av v h1 h2=>?_⟩
    rw [List.getElem?_map] at h1
    obtain ⟨x,hx,rfl⟩:=Option.map_eq_some_iff.1 h1
    exact vwA_ok hi (hv.2 i _ v (by rw [List.getElem?_map,hx];rfl) h2)
  refine .inr ⟨f,c.args.map a.eval, ?_,(hac (allF w) [] _ w (inv_all w) (hg.sub (allF_sub hi)) hv2).mono ?_⟩
  · simp [execOp,resolve,hcal,Act.eval,Deferred.ofValue,invoke,run_callFunc hok]
  · rintro e w' ⟨v,av,objs',F2,γ2,rfl,⟨rfl,rfl⟩,_,hE,hI,hR⟩
    have hb:=below_ext hE
    have hext:Ext k F γ w F γ w':=⟨fun _ _ h=>h,hb.os,hb.tape,hb.output,hb.size,fun b hbl _=>hb.block b hbl,fun _ _ h=>.inl h,fun i b h=>.inl ⟨i,h⟩,fun _ _ _ h=>h⟩
    have hinv:Inv F γ st.hp w':=⟨fun b ob h=>by rw [hb.block b (hi.fzlt h)];exact hi.fz b ob h,hi.len,hi.nd,hi.disj,fun i ob x h1 h2=>by
      have hok:=hi.ok i ob x h1 h2
      exact hok.ext (fun _ _ h=>h) (fun _ _ h=>h) (fun b hb2=>hb.block b (hok.lt hb2))⟩
    exact ⟨v,_,F,γ,rfl,h,hext,hinv,hs.put _ (rawA_ok hr hR),hk⟩
theorem WR.callP {f:FuncId} {args:List AArg} {cargs:List AV} {r:AV} (hgd:gOK G st o.guard) (ha:o.ai=.call f args) (hac:QC P G f cargs r) (hr:rawA? r=true)
    (hargs:args.map (fun x=>vpA st.hp (evA G st.sl x))=cargs) (h:WR P G k rest R ⟨putS st.sl o.dst r,st.hp⟩):WR P G k (o::rest) R st:=by
  refine WR.step hgd (fun F γ a w oper hc hd hi hs hg hk=>?_)
  rw [ha] at hc
  obtain ⟨c,hop,hcal,rfl,hok⟩:=call_inv hc
  obtain ⟨dst,op,type,pos,after,guard⟩:=oper
  simp only at hop
  subst hop
  have hv:=args_ok (G:=G) hs hg c.args
  have hv2:argsOK (allF w) [] cargs (c.args.map a.eval):=by
    rw [← hargs]
    refine ⟨by rw [hv.1];simp,fun i av v h1 h2=>?_⟩
    rw [List.getElem?_map] at h1
    obtain ⟨x,hx,rfl⟩:=Option.map_eq_some_iff.1 h1
    exact vpA_ok hi (hv.2 i _ v (by rw [List.getElem?_map,hx];rfl) h2)
  refine .inr ⟨f,c.args.map a.eval, ?_,(hac (allF w) [] _ w (inv_all w) (hg.sub (allF_sub hi)) hv2).mono ?_⟩
  · simp [execOp,resolve,hcal,Act.eval,Deferred.ofValue,invoke,run_callFunc hok]
  · rintro e w' ⟨v,av,objs',F2,γ2,rfl,⟨rfl,rfl⟩,_,hE,hI,hR⟩
    have hb:=below_ext hE
    have hext:Ext k F γ w F γ w':=⟨fun _ _ h=>h,hb.os,hb.tape,hb.output,hb.size,fun b hbl _=>hb.block b hbl,fun _ _ h=>.inl h,fun i b h=>.inl ⟨i,h⟩,fun _ _ _ h=>h⟩
    have hinv:Inv F γ st.hp w':=⟨fun b ob h=>by rw [hb.block b (hi.fzlt h)];exact hi.fz b ob h,hi.len,hi.nd,hi.disj,fun i ob x h1 h2=>by
      have hok:=hi.ok i ob x h1 h2
      exact hok.ext (fun _ _ h=>h) (fun _ _ h=>h) (fun b hb2=>hb.block b (hok.lt hb2))⟩
    exact ⟨v,_,F,γ,rfl,h,hext,hinv,hs.put _ (rawA_ok hr hR),hk⟩
theorem CallA.viewP {f:FuncId} {avs cargs:List AV} {hp:List AObj} {r:AV} (hac:QC P G f cargs r) (hr:rawA? r=true) (hargs:avs.map (vpA hp)=cargs):CallA P G k f avs hp (fun av os=>av=r∧os=[]):=by
  intro F γ w vs hi hg hk hv
  have hi':Inv F γ (⟨[],hp⟩:AS).hp w:=hi
  have hv2:argsOK (allF w) [] cargs vs:=by
    rw [← hargs]
    refine ⟨by rw [hv.1];simp,fun i av v h1 h2=>?_⟩
    rw [List.getElem?_map] at h1
    obtain ⟨x,hx,rfl⟩:=Option.map_eq_some_iff.1 h1
    exact vpA_ok hi' (hv.2 i x v hx h2)
  refine (hac (allF w) [] _ w (inv_all w) (hg.sub (allF_sub hi')) hv2).mono ?_
  rintro e w' ⟨v,av,objs',F2,γ2,rfl,⟨rfl,rfl⟩,_,hE,hI,hR⟩
  have hb:=below_ext hE
  refine ⟨v,_,_,F,γ,rfl,⟨rfl,rfl⟩,⟨fun _ _ h=>h,hb.os,hb.tape,hb.output,hb.size,fun b hbl _=>hb.block b hbl,fun _ _ h=>.inl h,fun i b h=>.inl ⟨i,h⟩,fun _ _ _ h=>h⟩, ?_,fun _ _ h=>h,rawA_ok hr hR⟩
  rw [List.append_nil]
  exact ⟨fun b ob h=>by rw [hb.block b (hi.fzlt h)];exact hi.fz b ob h,hi.len,hi.nd,hi.disj,fun i ob x h1 h2=>by
      have hok:=hi.ok i ob x h1 h2
      exact hok.ext (fun _ _ h=>h) (fun _ _ h=>h) (fun b hb2=>hb.block b (hok.lt hb2))⟩
theorem toD_nil:toD (.dc (.raw (.slice none 0 0)))=.dc (.slc []):=rfl
theorem toD_ref {ds:List DC}:toD (.ref ds)=.dc (.ptr ds):=rfl
theorem toD_slc {es:List (List DC)}:toD (.dc (.slc es))=.dc (.slc es):=rfl
theorem toD_ptr {es:List DC}:toD (.dc (.ptr es))=.dc (.ptr es):=rfl
theorem toD_int {k:IntKind} {n:Int}:toD (.dc (.raw (.int k n)))=.dc (.raw (.int k n)):=rfl
theorem toD_bool {n:Bool}:toD (.dc (.raw (.bool n)))=.dc (.raw (.bool n)):=rfl
theorem toD_str {n:ByteArray}:toD (.dc (.raw (.string n)))=.dc (.raw (.string n)):=rfl
theorem toD_pn:toD (.dc (.raw (.pointer none)))=.dc (.raw (.pointer none)):=rfl
end
attribute [go_sem] toD_nil toD_ref toD_slc toD_ptr toD_int toD_bool toD_str toD_pn
attribute [go_sem] vwM vwMs vqP dcsV refV vwN vwNs vpP fnV vp0 vp0s vpC vpA capD vwA vwC rawA? rawC? rawT? List.all_nil List.all_cons
end
section
section
variable {P:Program} {G:Glob} {k:Nat} {st st':AS} {R:AS→Prop} {o:AOp} {rest:List AOp}
end
attribute [go_sem] frzV frzC frzT frzO slLV bound
end
section
def swp (i j x:Nat):Nat:=bif nq x i then j else bif nq x j then i else x
def swpL {α:Type} (d:α) (l:List α) (i j:Nat):List α:=(l.set i (l.getD j d)).set j (l.getD i d)
def prm1 (x:Nat × Nat) (st:AS):AS:=⟨st.sl.map (renV (swp x.1 x.2)),(swpL .dead st.hp x.1 x.2).map (renO (swp x.1 x.2))⟩
def prm:List (Nat × Nat)→AS→AS
  | [],st=>st
  | x::p,st=>prm p (prm1 x st)
def pOK (n0 n:Nat) (p:List (Nat × Nat)):Prop:=∀ x∈p,n0≤x.1∧n0≤x.2∧x.1 < n∧x.2 < n
theorem swp_e (i j x:Nat):swp i j x=if x=i then j else if x=j then i else x:=by
  unfold swp
  rw [nq_eq,nq_eq]
  by_cases h:x=i
  · simp [h]
  · rw [if_neg h,show (x==i)=false by simpa using h,cond_false]
    by_cases h':x=j
    · simp [h']
    · rw [if_neg h',show (x==j)=false by simpa using h',cond_false]
theorem swp_swp (i j x:Nat):swp i j (swp i j x)=x:=by
  simp only [swp_e]
  repeat' split
  all_goals omega
theorem swp_fix {i j x n0:Nat} (hi:n0≤i) (hj:n0≤j) (hx:x < n0):swp i j x=x:=by
  rw [swp_e,if_neg (by omega),if_neg (by omega)]
theorem swpL_len {α:Type} (d:α) (l:List α) (i j:Nat):(swpL d l i j).length=l.length:=by simp [swpL]
theorem swpL_get {α:Type} (d:α) (l:List α) {i j:Nat} (hi:i < l.length) (hj:j < l.length) (x:Nat):(swpL d l i j)[x]?=l[swp i j x]?:=by
  have g:∀ y,y < l.length→l[y]?=some (l.getD y d):=fun y hy=>by rw [List.getD_eq_getElem?_getD,List.getElem?_eq_getElem hy];rfl
  unfold swpL
  rw [swp_e]
  by_cases h2:x=i
  · rw [if_pos h2]
    subst h2
    by_cases h1:j=x
    · subst h1
      rw [List.getElem?_set_self (by simpa using hj),g j hj]
    · rw [List.getElem?_set_ne h1,List.getElem?_set_self hi,g j hj]
  · rw [if_neg h2]
    by_cases h1:x=j
    · rw [if_pos h1]
      subst h1
      rw [List.getElem?_set_self (by simpa using hj),g i hi]
    · rw [if_neg h1,List.getElem?_set_ne (Ne.symm h1),List.getElem?_set_ne (Ne.symm h2)]
theorem prm1_len (x:Nat × Nat) (st:AS):(prm1 x st).hp.length=st.hp.length:=by simp [prm1,swpL_len]
theorem prm_len:∀ (p:List (Nat × Nat)) (st:AS),(prm p st).hp.length=st.hp.length
  | [],_=>rfl
  | x::p,st=>by rw [prm,prm_len p,prm1_len]
theorem prm_app:∀ (p q:List (Nat × Nat)) (st:AS),prm (p++q) st=prm q (prm p st)
  | [],_,_=>rfl
  | x::p,q,st=>by rw [List.cons_append,prm,prm,prm_app p q]
theorem norm_prm1 (x:Nat × Nat) (st:AS):norm (prm1 x st)=prm1 x (norm st):=by
  have e:∀ id,nocap (st.hp.getD id .dead)=(st.hp.map nocap).getD id .dead:=fun id=>(hpGet_norm (hp:=st.hp) id).symm
  simp only [norm,prm1,swpL,List.map_map,List.map_set,Function.comp_apply,← e,nocap_ren]
  congr 3
  refine List.map_congr_left (fun o _=>?_)
  simp [nocap_ren]
theorem norm_prm:∀ (p:List (Nat × Nat)) (st:AS),norm (prm p st)=prm p (norm st)
  | [],_=>rfl
  | x::p,st=>by rw [prm,prm,norm_prm p,norm_prm1]
theorem norm_len (st:AS):(norm st).hp.length=st.hp.length:=by simp [norm]
section
variable {P:Program} {G:Glob} {k:Nat} {F F0:Fz} {γ γ0:List OI} {w w0:World} {a:Act} {st:AS}
theorem prm1_ok {x:Nat × Nat} {n0:Nat} (h1:n0≤x.1) (h2:n0≤x.2) (h3:x.1 < st.hp.length) (h4:x.2 < st.hp.length) (hk:k≤n0) (hE:Ext k F0 γ0 w0 F γ w) (hi:Inv F γ st.hp w) (hs:Slots F γ st.sl a):
    ∃ γ',Ext k F0 γ0 w0 F γ' w∧Inv F γ' (prm1 x st).hp w∧Slots F γ' (prm1 x st).sl a∧γ'.length=γ.length:=by
  obtain ⟨i,j⟩:=x
  simp only at h1 h2 h3 h4
  have hl:=hi.len
  have hg:∀ y,(swpL OI.dead γ i j)[y]?=γ[swp i j y]?:=swpL_get _ _ (by omega) (by omega)
  have hb:∀ y,blkAt (swpL OI.dead γ i j) y=blkAt γ (swp i j y):=fun y=>by unfold blkAt;rw [hg]
  have hgr:∀ (id:Nat) (o:OI),γ[id]?=some o→(swpL OI.dead γ i j)[swp i j id]?=some o:=fun id o h=>by rw [hg,swp_swp];exact h
  refine ⟨swpL .dead γ i j, ?_, ?_, ?_,swpL_len ..⟩
  · refine ⟨hE.sub,hE.os,hE.tape,hE.output,hE.size,hE.far,hE.new,fun y b h=>hE.blk (swp i j y) b (by rw [← hb];exact h),fun y hy b h=>?_⟩
    rw [hg,swp_fix h1 h2 (by omega)]
    exact hE.box y hy b h
  · refine ⟨hi.fz,by rw [swpL_len,prm1_len];exact hl,fun y z b hy hz=>?_,fun y b hy=>hi.disj (swp i j y) b (by rw [← hb];exact hy),fun y o x hy hx=>?_⟩
    · have:=hi.nd (swp i j y) (swp i j z) b (by rw [← hb];exact hy) (by rw [← hb];exact hz)
      rw [← swp_swp i j y,this,swp_swp]
    · simp only [prm1,List.getElem?_map,swpL_get _ _ h3 h4] at hy
      rw [hg] at hx
      cases ho:st.hp[swp i j y]? with
      | none=>rw [ho] at hy;cases hy
      | some o'=>
        rw [ho] at hy
        injection hy with hy;subst hy
        exact (hi.ok _ _ _ ho hx).ren hgr
  · refine ⟨hs.1,by simp [prm1];exact hs.2.1,fun y av v hy hv=>?_⟩
    simp only [prm1,List.getElem?_map] at hy
    cases ho:st.sl[y]? with
    | none=>rw [ho] at hy;cases hy
    | some o'=>
      rw [ho] at hy
      injection hy with hy;subst hy
      exact (hs.2.2 y o' v ho hv).ren hgr
theorem prm_ok {n0:Nat} (hk:k≤n0):∀ (p:List (Nat × Nat)) (st:AS) (γ:List OI),pOK n0 st.hp.length p→Ext k F0 γ0 w0 F γ w→Inv F γ st.hp w→Slots F γ st.sl a→
    ∃ γ',Ext k F0 γ0 w0 F γ' w∧Inv F γ' (prm p st).hp w∧Slots F γ' (prm p st).sl a∧γ'.length=γ.length
  | [],st,γ,_,hE,hi,hs=>⟨γ,hE,hi,hs,rfl⟩
  | x::p,st,γ,hp,hE,hi,hs=>by
    obtain ⟨h1,h2,h3,h4⟩:=hp x List.mem_cons_self
    obtain ⟨γ1,g1,g2,g3,g4⟩:=prm1_ok h1 h2 h3 h4 hk hE hi hs
    obtain ⟨γ2,e1,e2,e3,e4⟩:=prm_ok hk p (prm1 x st) γ1 (fun y hy=>by rw [prm1_len];exact hp y (List.mem_cons_of_mem _ hy)) g1 g2 g3
    exact ⟨γ2,e1,e2,e3,by rw [e4,g4]⟩
theorem AW.prm {x:ACode} {Q:Exit→AS→Prop} (h:AW P G k x (fun e s=>∃ p,pOK st.hp.length s.hp.length p∧Q e (prm p s)) st):AW P G k x Q st:=by
  intro c hc F γ a w hi hs hg hk QE hq
  refine h c hc F γ a w hi hs hg hk QE (fun e a' w' F' γ' s' ⟨p,h1,h2⟩ q2 q3 q4 q5=>?_)
  obtain ⟨γ2,e1,e2,e3,e4⟩:=prm_ok (by rw [← hi.len];exact hk) p s' γ' h1 q2 q3 q4
  exact hq e a' w' F' γ2 _ h2 e1 e2 e3 (by omega)
end
end
section
def blsC:Cel→Bool
  | .bls _ _ _ _=>true
  | _=>false
def blsCs:List Cel→Bool
  | []=>false
  | c::cs=>blsC c||blsCs cs
def blsT:TV→Bool
  | .one c=>blsC c
  | .agg cs=>blsCs cs
def blsTs:List TV→Bool
  | []=>false
  | c::cs=>blsT c||blsTs cs
def blsV:AV→Bool
  | .one c=>blsC c
  | .agg cs=>blsCs cs
  | .tup l=>blsTs l
  | .junk=>false
def bxD (n size:Nat):Option (List DC)→Cel
  | some ds=>if ds.length=n * size then .dc (.slc (chunk size n ds)) else .junk
  | none=>.junk
def bxC (id:Nat) (cs:List Cel):Cel→Cel
  | .bls j k n s=>bif nq j id then bxD n s (dcs ((cs.drop (k * s)).take (n * s))) else .bls j k n s
  | c=>c
def bxT (id:Nat) (cs:List Cel):TV→TV
  | .one c=>.one (bxC id cs c)
  | .agg l=>.agg (l.map (bxC id cs))
def bxV (id:Nat) (cs:List Cel):AV→AV
  | .one c=>.one (bxC id cs c)
  | .agg l=>.agg (l.map (bxC id cs))
  | .tup l=>.tup (l.map (bxT id cs))
  | .junk=>.junk
def bxO (id:Nat) (cs:List Cel):AObj→AObj
  | .box l=>.box (l.map (bxC id cs))
  | o=>o
def bxB (id:Nat) (cs:List Cel) (st:AS):AS:=⟨st.sl.map fun v=>killV (fun x=>nq x id) (bxV id cs v),(st.hp.map fun o=>killO (fun x=>nq x id) (bxO id cs o)).set id .dead⟩
def bx1 (id:Nat) (st:AS):AObj→Bool→AS
  | .box cs,true=>bxB id cs st
  | _,_=>st
def bxIds (n:Nat):List Nat→AS→AS
  | [],st=>st
  | id::r,st=>bxIds n r (bx1 id st (hpGet st.hp id) (decide (n≤id)))
def bxW (n:Nat) (ids:List Nat) (st:AS):Bool→AS
  | true=>bxIds n ids st
  | false=>st
theorem dcs_get {cs:List Cel} {ds:List DC} (h:dcs cs=some ds) {j:Nat} {d:DC} (hd:ds[j]?=some d):cs[j]?=some (.dc d):=by
  rw [dcs_dcC h]
  simp only [dcC,List.getElem?_map,hd,Option.map_some]
theorem chunk_get {size:Nat}:∀ (n:Nat) (ds:List DC),ds.length=n * size→∀ (i j:Nat) e d,(chunk size n ds)[i]?=some e→e[j]?=some d→ds[i * size+j]?=some d∧i < n
  | 0,ds,h,i,j,e,d,h1,_=>by simp [chunk] at h1
  | n+1,ds,h,0,j,e,d,h1,h2=>by
    simp only [chunk,List.getElem?_cons_zero,Option.some.injEq] at h1
    subst h1
    rw [List.getElem?_take] at h2
    split at h2
    · exact ⟨by rw [Nat.zero_mul,Nat.zero_add];exact h2,Nat.succ_pos _⟩
    · cases h2
  | n+1,ds,h,i+1,j,e,d,h1,h2=>by
    simp only [chunk,List.getElem?_cons_succ] at h1
    have hl:(ds.drop size).length=n * size:=by rw [List.length_drop,h,Nat.succ_mul];omega
    obtain ⟨h3,h4⟩:=chunk_get n (ds.drop size) hl i j e d h1 h2
    rw [List.getElem?_drop] at h3
    exact ⟨by rw [← h3];congr 1;rw [Nat.succ_mul];omega,by omega⟩
section
variable {k:Nat} {as:AS} {F:Fz} {γ:List OI} {w:World}
theorem bx_ok {F':Fz} {γ':List OI} {id b:Nat} {cs:List Cel} (hi:Inv F γ as.hp w) (hb:hpGet as.hp id=.box cs) (hgm:γ[id]?=some (.box b)) (hs:F.sub F') (hg:∀ (i:Nat) (o:OI),(nq i id)=false→γ[i]?=some o→γ'[i]?=some o)
    (hF:F' b=w.heap[b]?) {c:Cel} {v:Value} (h:RC F γ c v):RC F' γ' (killC (fun x=>nq x id) (bxC id cs c)) v:=by
  have hx:=hi.ok id (.box cs) (.box b) (hpGet_some hb (by simp)) hgm
  obtain ⟨vs,T,⟨fz,hh,hnf⟩,hvs,hr⟩:=hx
  by_cases hc:∃ lo n s,c=.bls id lo n s
  · obtain ⟨lo,n,s,rfl⟩:=hc
    have hq:nq id id=true:=by rw [nq_eq];simp
    simp only [bxC,hq,cond_true]
    cases hd:dcs ((cs.drop (lo * s)).take (n * s)) with
    | none=>exact .junk _ (by cases h;rfl)
    | some ds=>
      simp only [bxD]
      split
      · rename_i hl
        obtain ⟨c1,c2,c3⟩:=chunk_flat s n ds hl
        have e2:killC (fun x=>nq x id) (.dc (.slc (chunk s n ds)))=.dc (.slc (chunk s n ds)):=by simp [killC,Cel.keep]
        rw [e2]
        refine .dc _ _ ?_
        cases h with
        | bls _ _ _ _ b' cap c off hgm' ho hcap=>
          have hbb:b'=b:=by
            rcases hgm' with hgm' | hgm'
            · rw [hgm] at hgm';injection hgm' with hgm';cases hgm'
            · rw [hgm] at hgm';injection hgm' with hgm';injection hgm' with hgm';exact hgm'.symm
          subst hbb
          have key:∀ (i j:Nat) e d,(chunk s n ds)[i]?=some e→e[j]?=some d→∃ u,vs[off+(i * s+j)]?=some u∧RD F d u:=by
            intro i j e d h1 h2
            obtain ⟨h3,h4⟩:=chunk_get n ds hl i j e d h1 h2
            have h5:=dcs_get hd h3
            rw [List.getElem?_take] at h5
            split at h5
            · rw [List.getElem?_drop] at h5
              have ho':=ho (by omega)
              rw [← ho'] at h5
              have hlt:off+(i * s+j) < cs.length:=(List.getElem?_eq_some_iff.1 h5).1
              have h6:vs[off+(i * s+j)]?=some (vs[off+(i * s+j)]'(by omega)):=Array.getElem?_eq_getElem (by omega)
              have h7:=hr _ _ _ h5 h6
              refine ⟨_,h6, ?_⟩
              cases h7 with
              | dc _ _ h=>exact h
            · cases h5
          have:=RD.slc (F:=F') b' off c s (chunk s n ds) (fun i j=>vs.toList.getD (off+(i * s+j)) undef) c2 (fun i j e d h1 h2=>by
              obtain ⟨u,hu,hd⟩:=key i j e d h1 h2
              simp only [List.getD_eq_getElem?_getD,Array.getElem?_toList,hu,Option.getD_some]
              exact hd.mono hs) (fun i j e d h1 h2=>by
              obtain ⟨u,hu,hd⟩:=key i j e d h1 h2
              simp only [List.getD_eq_getElem?_getD,Array.getElem?_toList,hu,Option.getD_some,Fz.cell?]
              rw [hF,hh]
              simpa using hu) (by rw [c3];exact hcap)
          rwa [c3] at this
      · exact .junk _ (by cases h;rfl)
  · have e1:bxC id cs c=c:=by
      cases c<;>try rfl
      rename_i j lo n s
      simp only [bxC]
      cases hq:nq j id with
      | true=>
        rw [nq_eq,beq_iff_eq] at hq
        subst hq
        exact absurd ⟨lo,n,s,rfl⟩ hc
      | false=>rfl
    rw [e1]
    exact h.kill hs hg
theorem Gh.bx {id:Nat} {cs:List Cel} (hb:hpGet as.hp id=.box cs) (hkid:k≤id):Gh k as (bxB id cs as):=by
  intro F γ a w hi hs hk
  have hho:=hpGet_some hb (by simp)
  have hlt:id < γ.length:=by rw [hi.len];exact lt_of_get hho
  have hx:γ[id]?=some (γ[id]'hlt):=List.getElem?_eq_getElem hlt
  generalize hxe:γ[id]'hlt=x at hx
  have hok:=hi.ok id _ _ hho hx
  cases x with
  | arr _ _=>exact hok.elim
  | dead=>exact hok.elim
  | box bl=>
  let F':Fz:=F.add w bl
  have hFb:F' bl=w.heap[bl]?:=by simp [F',Fz.add]
  have hFo:∀ b',bl≠b'→F' b'=F b':=by
    intro b' hne
    simp only [F',Fz.add];rw [if_neg (fun e=>hne e.symm)]
  have hsub:F.sub F':=by
    intro b o h
    rw [hFo b (fun e=>by rw [hi.disj id b (blkAt_of hx (by rw [e];rfl))] at h;cases h)];exact h
  have hq:∀ i:Nat,(nq i id)=false→i≠id:=fun i h e=>by rw [nq_eq,e] at h;simp at h
  have hg:∀ (i:Nat) (o:OI),(nq i id)=false→γ[i]?=some o→(γ.set id .dead)[i]?=some o:=fun i o h1 h2=>by
    rw [List.getElem?_set_ne (Ne.symm (hq i h1))];exact h2
  have hb2:∀ i b,blkAt (γ.set id .dead) i=some b→i≠id∧blkAt γ i=some b:=by
    intro i b h
    obtain ⟨y,hy,hyb⟩:=blkAt_some h
    by_cases hii:id=i
    · subst hii
      rw [List.getElem?_set_self hlt] at hy
      injection hy with hy;subst hy
      simp [OI.blk] at hyb
    · rw [List.getElem?_set_ne hii] at hy
      exact ⟨Ne.symm hii,blkAt_of hy hyb⟩
  have frz:=fun {c:Cel} {v:Value} (h:RC F γ c v)=>bx_ok (F':=F') (γ':=γ.set id .dead) hi hb hx hsub hg hFb h
  have frzs:∀ {l:List Cel} {vs:Array Value},(∀ (i:Nat) c v,l[i]?=some c→vs[i]?=some v→RC F γ c v)→∀ (i:Nat) c v,((l.map (bxC id cs)).map (killC (fun x=>nq x id)))[i]?=some c→vs[i]?=some v→RC F' (γ.set id .dead) c v:=by
    intro l vs h i c v hc hv
    rw [List.map_map,List.getElem?_map] at hc
    cases hci:l[i]? with
    | none=>simp [hci] at hc
    | some c0=>
      simp only [hci,Option.map_some,Option.some.injEq,Function.comp] at hc;subst hc
      exact frz (h i c0 v hci hv)
  refine ⟨F',γ.set id .dead,⟨hsub,rfl,rfl,rfl,Nat.le_refl _,fun _ _ _=>rfl,fun b o h=>?_,fun i b h=>.inl ⟨i,(hb2 i b h).2⟩,fun i hik b h=>?_⟩,
    ⟨fun b o h=>?_,by simp [bxB,hi.len],fun i j b h1 h2=>hi.nd i j b (hb2 i b h1).2 (hb2 j b h2).2,fun i b h=>?_,fun i o y h1 h2=>?_⟩, ?_,by simpa using hk⟩
  · by_cases hxb:bl=b
    · exact .inr (.inr ⟨id,blkAt_of hx (by rw [hxb];rfl)⟩)
    · rw [hFo b hxb] at h;exact .inl h
  · rw [List.getElem?_set_ne (by omega)];exact h
  · by_cases hxb:bl=b
    · subst hxb;rw [hFb] at h;exact h
    · rw [hFo b hxb] at h;exact hi.fz b o h
  · obtain ⟨hne,hbb⟩:=hb2 i b h
    rw [hFo b (fun e=>hne (hi.nd _ _ _ hbb (blkAt_of hx (by rw [e];rfl))))]
    exact hi.disj i b hbb
  · simp only [bxB] at h1
    by_cases hii:id=i
    · subst hii
      rw [List.getElem?_set_self hlt] at h2
      rw [List.getElem?_set_self (by rw [List.length_map,← hi.len];exact hlt)] at h1
      injection h1 with h1;injection h2 with h2;subst h1;subst h2
      trivial
    · rw [List.getElem?_set_ne hii] at h1 h2
      rw [List.getElem?_map] at h1
      cases ho:as.hp[i]? with
      | none=>simp [ho] at h1
      | some o0=>
        simp only [ho,Option.map_some,Option.some.injEq] at h1;subst h1
        have h3:=hi.ok i o0 y ho h2
        cases o0 with
        | box l=>
          cases y with
          | box b=>
            obtain ⟨vs,T,g1,g2,g3⟩:=h3
            exact ⟨vs,T,g1,by simpa [bxO] using g2,frzs g3⟩
          | arr _ _=>exact h3.elim
          | dead=>exact h3.elim
        | arr c2 s2 es2=>
          have:=h3.kill (p:=(fun x=>nq x id)) (F':=F') (γ':=γ.set id .dead) (w':=w) hsub hg (fun _ _=>rfl)
          exact this
        | dead=>
          have:=h3.kill (p:=(fun x=>nq x id)) (F':=F') (γ':=γ.set id .dead) (w':=w) hsub hg (fun _ _=>rfl)
          exact this
  · refine ⟨hs.1,by simpa [bxB] using hs.2.1,fun i av v h1 h2=>?_⟩
    simp only [bxB] at h1
    rw [List.getElem?_map] at h1
    cases hsi:as.sl[i]? with
    | none=>simp [hsi] at h1
    | some av0=>
      simp only [hsi,Option.map_some,Option.some.injEq] at h1;subst h1
      have h3:=hs.2.2 i av0 v hsi h2
      cases h3 with
      | one c v h=>exact .one _ _ (frz h)
      | agg l vs hsz h=>exact .agg _ _ (by simpa [bxV] using hsz) (frzs h)
      | tup l vs hsz h=>
        refine .tup _ _ (by simpa [bxV] using hsz) (fun i t v h1 h2=>?_)
        rw [List.map_map,List.getElem?_map] at h1
        obtain ⟨t0,h4,rfl⟩:=Option.map_eq_some_iff.1 h1
        cases h i t0 v h4 h2 with
        | one c v h=>exact .one _ _ (frz h)
        | agg l vs hsz h=>exact .agg _ _ (by simpa [bxT] using hsz) (frzs h)
      | junk v=>exact .junk v
theorem bxO_nocap {id:Nat} {cs:List Cel} (o:AObj):nocap (bxO id cs o)=bxO id cs (nocap o):=by cases o<;>rfl
theorem bxIds_ok {n:Nat} (hk:k≤n):∀ (ids:List Nat) (s:AS),∃ s',Gh k s s'∧norm s'=bxIds n ids (norm s)
  | [],s=>⟨s,Gh.refl,rfl⟩
  | id::r,s=>by
    simp only [bxIds]
    have e:hpGet (norm s).hp id=nocap (hpGet s.hp id):=hpGet_norm (hp:=s.hp) id
    rw [e]
    cases ho:hpGet s.hp id with
    | arr _ _ _=>exact bxIds_ok hk r s
    | dead=>exact bxIds_ok hk r s
    | box cs=>
      simp only [nocap]
      by_cases hn:n≤id
      · rw [decide_eq_true hn]
        obtain ⟨s',h1,h2⟩:=bxIds_ok hk r (bxB id cs s)
        refine ⟨s',(Gh.bx ho (by omega)).trans h1, ?_⟩
        rw [h2]
        congr 1
        simp only [bx1,bxB,norm,List.map_set,List.map_map,nocap]
        congr 2
        exact List.map_congr_left (fun o _=>by simp only [Function.comp_apply,nocap_kill,bxO_nocap])
      · rw [decide_eq_false hn]
        exact bxIds_ok hk r s
theorem bxW_ok {n:Nat} (hk:k≤n) (ids:List Nat) (s:AS) (b:Bool):∃ s',Gh k s s'∧norm s'=bxW n ids (norm s) b:=by
  cases b with
  | true=>exact bxIds_ok hk ids s
  | false=>exact ⟨s,Gh.refl,rfl⟩
theorem bxIds_len (n:Nat):∀ (ids:List Nat) (st:AS),(bxIds n ids st).sl.length=st.sl.length∧(bxIds n ids st).hp.length=st.hp.length
  | [],st=>⟨rfl,rfl⟩
  | id::r,st=>by
    simp only [bxIds]
    cases hpGet st.hp id with
    | box cs=>
      cases decide (n≤id) with
      | true=>
        obtain ⟨h1,h2⟩:=bxIds_len n r (bxB id cs st)
        exact ⟨by rw [bx1,h1];simp [bxB],by rw [bx1,h2];simp [bxB]⟩
      | false=>exact bxIds_len n r st
    | arr _ _ _=>exact bxIds_len n r st
    | dead=>exact bxIds_len n r st
theorem bxW_len (n:Nat) (ids:List Nat) (st:AS) (b:Bool):(bxW n ids st b).sl.length=st.sl.length∧(bxW n ids st b).hp.length=st.hp.length:=by
  cases b with
  | true=>exact bxIds_len n ids st
  | false=>exact ⟨rfl,rfl⟩
end
end
section
def bvC (id s len:Nat):Cel→Cel
  | .bld j n=>bif nq j id then (bif nq n len then .bls id 0 n s else .junk) else .bld j n
  | .ept j i z o=>bif nq j id then .ptr id (i * z+o) else .ept j i z o
  | .fn f caps=>killC (fun x=>nq x id) (.fn f caps)
  | .dc d=>.dc d
  | .ref cs=>.ref cs
  | .mpc es=>.mpc es
  | .junk=>.junk
  | .ptr j o=>.ptr j o
  | .bls j i z o=>.bls j i z o
def bvCs (id s len:Nat):List Cel→List Cel
  | []=>[]
  | c::cs=>bvC id s len c::bvCs id s len cs
def bvT (id s len:Nat):TV→TV
  | .one c=>.one (bvC id s len c)
  | .agg l=>.agg (bvCs id s len l)
def bvV (id s len:Nat):AV→AV
  | .one c=>.one (bvC id s len c)
  | .agg l=>.agg (bvCs id s len l)
  | .tup l=>.tup (l.map (bvT id s len))
  | .junk=>.junk
def bvS (id s len:Nat):List AV→List AV
  | []=>[]
  | v::vs=>bvV id s len v::bvS id s len vs
def bvO (id s len:Nat):AObj→AObj
  | .box l=>.box (bvCs id s len l)
  | .arr c z es=>.arr c z es
  | .dead=>.dead
def bvH (id s len:Nat):List AObj→List AObj
  | []=>[]
  | o::os=>bvO id s len o::bvH id s len os
theorem bvCs_eq (id s len:Nat):∀ l,bvCs id s len l=l.map (bvC id s len)
  | []=>rfl
  | c::cs=>by rw [bvCs,bvCs_eq id s len cs];rfl
theorem bvS_eq (id s len:Nat):∀ l,bvS id s len l=l.map (bvV id s len)
  | []=>rfl
  | c::cs=>by rw [bvS,bvS_eq id s len cs];rfl
theorem bvH_eq (id s len:Nat):∀ l,bvH id s len l=l.map (bvO id s len)
  | []=>rfl
  | c::cs=>by rw [bvH,bvH_eq id s len cs];rfl
def bvB (id s:Nat) (es:List (List DC)) (st:AS):AS:=⟨bvS id s es.length st.sl,(bvH id s es.length st.hp).set id (.box (dcC es.flatten))⟩
def bv1 (id s:Nat) (es:List (List DC)) (st:AS):Bool→AS
  | true=>frzIds [id] st
  | false=>bvB id s es st
def bvZ (id:Nat) (st:AS):AObj→AS
  | .arr _ s es=>bv1 id s es st es.isEmpty
  | _=>st
def bvIds:List Nat→AS→AS
  | [],st=>st
  | id::r,st=>bvIds r (bvZ id st (hpGet st.hp id))
theorem flat_get {α:Type} {s:Nat}:∀ (es:List (List α)),(∀ e∈es,e.length=s)→es.flatten.length=es.length * s∧∀ (m:Nat) d,es.flatten[m]?=some d→∃ i j e,es[i]?=some e∧e[j]?=some d∧m=i * s+j
  | [],_=>⟨by simp,fun m d h=>by simp at h⟩
  | e::es,hs=>by
    obtain ⟨h1,h2⟩:=flat_get es (fun x hx=>hs x (List.mem_cons_of_mem _ hx))
    have he:=hs e (List.mem_cons_self ..)
    refine ⟨by rw [List.flatten_cons,List.length_append,h1,he,List.length_cons,Nat.succ_mul,Nat.add_comm],fun m d h=>?_⟩
    rw [List.flatten_cons] at h
    by_cases hm:m < e.length
    · rw [List.getElem?_append_left hm] at h
      exact ⟨0,m,e,rfl,h,by simp⟩
    · rw [List.getElem?_append_right (Nat.le_of_not_lt hm)] at h
      obtain ⟨i,j,x,h3,h4,h5⟩:=h2 _ _ h
      exact ⟨i+1,j,x,h3,h4,by rw [Nat.succ_mul];omega⟩
section
variable {k:Nat} {as:AS} {F:Fz} {γ:List OI} {w:World}
theorem Gh.bv {id c s:Nat} {es:List (List DC)} (hb:hpGet as.hp id=.arr c s es) (hne:es.isEmpty=false):Gh k as (bvB id s es as):=by
  intro F γ a w hi hs hk
  have hho:=hpGet_some hb (by simp)
  have hlt:id < γ.length:=by rw [hi.len];exact lt_of_get hho
  have hx:γ[id]?=some (γ[id]'hlt):=List.getElem?_eq_getElem hlt
  generalize hxe:γ[id]'hlt=x at hx
  have hok:=hi.ok id _ _ hho hx
  cases x with
  | box _=>exact hok.elim
  | dead=>exact hok.elim
  | arr b cap'=>
  cases b with
  | none=>
    obtain ⟨_,_,h3⟩:=hok
    subst h3
    cases hne
  | some b=>
  obtain ⟨hcap,hle,hes,ws,T,how,hws,hwr⟩:=hok
  subst hcap
  obtain ⟨hfl,hfg⟩:=flat_get es hes
  have hg:∀ (i:Nat) (o:OI),(nq i id)=false→γ[i]?=some o→(γ.set id (.box b))[i]?=some o:=fun i o h1 h2=>by
    rw [nq_eq] at h1
    rw [List.getElem?_set_ne (fun e=>by rw [e] at h1;simp at h1)];exact h2
  have hgs:(γ.set id (.box b))[id]?=some (.box b):=List.getElem?_set_self hlt
  have hblk:∀ i b',blkAt (γ.set id (.box b)) i=some b'→blkAt γ i=some b':=by
    intro i b' h
    obtain ⟨y,hy,hyb⟩:=blkAt_some h
    by_cases hii:id=i
    · subst hii
      rw [hgs] at hy
      injection hy with hy;subst hy
      exact blkAt_of hx hyb
    · rw [List.getElem?_set_ne hii] at hy
      exact blkAt_of hy hyb
  have fz:∀ {c:Cel} {v:Value},RC F γ c v→RC F (γ.set id (.box b)) (bvC id s es.length c) v:=by
    intro c v h
    have hq:∀ i,nq i id=true→i=id:=fun i h=>by rw [nq_eq] at h;simpa using h
    have key:c.keep (fun x=>nq x id)=true→RC F (γ.set id (.box b)) c v:=fun hk=>h.mono (fun _ _ h=>h) hg hk
    cases c with
    | dc d=>exact key rfl
    | ref cs=>exact key rfl
    | mpc e=>exact key rfl
    | junk=>exact key rfl
    | fn f caps=>exact RC.kill (fun _ _ h=>h) hg h
    | ptr j o=>
      refine key ?_
      simp only [Cel.keep,Bool.not_eq_true']
      cases hj:nq j id with
      | false=>rfl
      | true=>
        cases h with | ptr _ _ b' hj'=>
        rw [hq j hj,hx] at hj'
        injection hj' with hj';cases hj'
    | bls j lo n z=>
      cases hj:nq j id with
      | false=>exact key (by simp [Cel.keep,hj])
      | true=>
        cases h with | bls _ _ _ _ b' cap c off hgm ho hc=>
        rw [hq j hj] at hgm ⊢
        refine .bls _ _ _ _ b' cap c off (.inr ?_) ho hc
        rw [hgs]
        rcases hgm with hgm | hgm
        · rw [hx] at hgm;injection hgm with hgm;injection hgm with h1 h2;injection h1 with h1;rw [h1]
        · rw [hx] at hgm;injection hgm with hgm;cases hgm
    | ept j i z o=>
      simp only [bvC]
      cases hj:nq j id with
      | false=>exact key (by simp [Cel.keep,hj])
      | true=>
        simp only [cond_true]
        cases h with | ept _ _ _ _ b' cap hgm=>
        rw [hq j hj,hx] at hgm
        injection hgm with hgm;injection hgm with h1 h2;injection h1 with h1;subst h1
        exact .ptr _ _ _ hgs
    | bld j n=>
      simp only [bvC]
      cases hj:nq j id with
      | false=>exact key (by simp [Cel.keep,hj])
      | true=>
        simp only [cond_true]
        cases hn:nq n es.length with
        | false=>exact .junk _ h.is1
        | true=>
          rw [nq_eq] at hn
          have hn':n=es.length:=by simpa using hn
          simp only [cond_true]
          cases h with
          | bldN _ cap hgm=>rw [hq j hj,hx] at hgm;injection hgm with hgm;cases hgm
          | bld _ _ b' cap hgm=>
            rw [hq j hj,hx] at hgm
            injection hgm with hgm;injection hgm with h1 h2;injection h1 with h1;subst h1;subst h2
            exact .bls _ _ _ _ b cap' cap' 0 (.inr hgs) (fun _=>by simp) (by omega)
  have fzs:∀ {l:List Cel} {vs:Array Value},(∀ (i:Nat) c v,l[i]?=some c→vs[i]?=some v→RC F γ c v)→∀ (i:Nat) c v,(bvCs id s es.length l)[i]?=some c→vs[i]?=some v→RC F (γ.set id (.box b)) c v:=by
    intro l vs h i c v hc hv
    rw [bvCs_eq,List.getElem?_map] at hc
    obtain ⟨c0,h1,rfl⟩:=Option.map_eq_some_iff.1 hc
    exact fz (h i c0 v h1 hv)
  refine ⟨F,γ.set id (.box b),⟨fun _ _ h=>h,rfl,rfl,rfl,Nat.le_refl _,fun _ _ _=>rfl,fun _ _ h=>.inl h,fun i b' h=>.inl ⟨i,hblk i b' h⟩,fun i _ b' h=>?_⟩,
    ⟨hi.fz,by simp [bvB,bvH_eq,hi.len],fun i j b' h1 h2=>hi.nd i j b' (hblk i b' h1) (hblk j b' h2),fun i b' h=>hi.disj i b' (hblk i b' h),fun i o y h1 h2=>?_⟩, ?_,by simpa using hk⟩
  · rw [List.getElem?_set_ne (fun e=>by rw [← e,hx] at h;injection h with h;cases h)];exact h
  · simp only [bvB,bvH_eq] at h1
    by_cases hii:id=i
    · subst hii
      rw [hgs] at h2
      rw [List.getElem?_set_self (by rw [List.length_map,← hi.len];exact hlt)] at h1
      injection h1 with h1;injection h2 with h2;subst h1;subst h2
      have hmul:es.length * s≤cap' * s:=Nat.mul_le_mul_right _ hle
      refine ⟨ws,T,how,by rw [hws];simp only [dcC,List.length_map,hfl];exact hmul,fun m c v hc hv=>?_⟩
      simp only [dcC,List.getElem?_map] at hc
      obtain ⟨d,h3,rfl⟩:=Option.map_eq_some_iff.1 hc
      obtain ⟨i,j,e,h4,h5,rfl⟩:=hfg m d h3
      exact .dc _ _ (hwr i j e d v h4 h5 hv)
    · rw [List.getElem?_set_ne hii] at h1 h2
      rw [List.getElem?_map] at h1
      obtain ⟨o0,h3,rfl⟩:=Option.map_eq_some_iff.1 h1
      have h4:=hi.ok i o0 y h3 h2
      cases o0 with
      | box l=>
        cases y with
        | box b'=>
          obtain ⟨vs,T',g1,g2,g3⟩:=h4
          exact ⟨vs,T',g1,by simpa [bvCs_eq] using g2,fzs g3⟩
        | arr _ _=>exact h4.elim
        | dead=>exact h4.elim
      | arr c2 s2 es2=>
        cases y with
        | box b'=>exact h4.elim
        | arr b' c'=>cases b'<;>exact h4
        | dead=>exact h4.elim
      | dead=>
        cases y with
        | box b'=>exact h4.elim
        | arr b' c'=>cases b'<;>exact h4.elim
        | dead=>trivial
  · refine ⟨hs.1,by simpa [bvB,bvS_eq] using hs.2.1,fun i av v h1 h2=>?_⟩
    simp only [bvB,bvS_eq] at h1
    rw [List.getElem?_map] at h1
    obtain ⟨av0,h3,rfl⟩:=Option.map_eq_some_iff.1 h1
    have h4:=hs.2.2 i av0 v h3 h2
    cases h4 with
    | one c v h=>exact .one _ _ (fz h)
    | agg l vs hsz h=>exact .agg _ _ (by simpa [bvCs_eq] using hsz) (fzs h)
    | tup l vs hsz h=>
      refine .tup _ _ (by simpa using hsz) (fun i t v h1 h2=>?_)
      rw [List.getElem?_map] at h1
      obtain ⟨t0,h5,rfl⟩:=Option.map_eq_some_iff.1 h1
      cases h i t0 v h5 h2 with
      | one c v h=>exact .one _ _ (fz h)
      | agg l vs hsz h=>exact .agg _ _ (by simpa [bvCs_eq] using hsz) (fzs h)
    | junk v=>exact .junk v
theorem bvO_nocap {id s n:Nat} (o:AObj):nocap (bvO id s n o)=bvO id s n (nocap o):=by cases o<;>rfl
theorem bvIds_ok:∀ (ids:List Nat) (s:AS),∃ s',Gh k s s'∧norm s'=bvIds ids (norm s)
  | [],s=>⟨s,Gh.refl,rfl⟩
  | id::r,s=>by
    simp only [bvIds]
    have e:hpGet (norm s).hp id=nocap (hpGet s.hp id):=hpGet_norm (hp:=s.hp) id
    rw [e]
    cases ho:hpGet s.hp id with
    | box cs=>exact bvIds_ok r s
    | dead=>exact bvIds_ok r s
    | arr c z es=>
      simp only [nocap,bvZ]
      cases hn:es.isEmpty with
      | true=>
        obtain ⟨s1,g1,g2⟩:=frzIds_ok (k:=k) [id] s
        obtain ⟨s',h1,h2⟩:=bvIds_ok r s1
        refine ⟨s',g1.trans h1, ?_⟩
        rw [h2,g2]
        rfl
      | false=>
        obtain ⟨s',h1,h2⟩:=bvIds_ok r (bvB id z es s)
        refine ⟨s',(Gh.bv ho hn).trans h1, ?_⟩
        rw [h2]
        congr 1
        simp only [bv1,bvB,norm,bvH_eq,List.map_set,List.map_map,nocap]
        congr 2
        exact List.map_congr_left (fun o _=>by simp only [Function.comp_apply,bvO_nocap])
end
end
section
inductive GH where
  | nil (d sz:Nat)
  | nilB (d j sz:Nat)
  | frz (d:Nat)
  | bv (d:Nat)
inductive HC where
  | skip | ret
  | exit (id:Nat)
  | region (ops:List AOp)
  | regR (L:List Nat) (ops:List AOp)
  | drawn (ops:List (Bool × AOp))
  | drawnF (prs:List (Nat × Nat)) (ops:List AOp)
  | drawnT (L:List Nat) (t:IT) (ops:List AOp)
  | seq (a b:HC)
  | cond (c:AArg) (a b:HC)
  | block (id:Nat) (a:HC)
  | loop (live:List Nat) (a:HC)
  | gh (g:GH) (a:HC)
  | trm (L:List Nat) (a:HC)
  | bad
def HC.er:HC→ACode
  | .skip=>.skip
  | .ret=>.ret
  | .exit id=>.exit id
  | .region ops=>.region ops
  | .regR _ ops=>.region ops
  | .drawn ops=>.drawn ops
  | .drawnF prs ops=>.drawnF prs ops
  | .drawnT _ t ops=>.drawnT t ops
  | .seq a b=>.seq a.er b.er
  | .cond c a b=>.cond c a.er b.er
  | .block id a=>.block id a.er
  | .loop _ a=>.loop a.er
  | .gh _ a=>a.er
  | .trm _ a=>a.er
  | .bad=>.bad
abbrev Oo (d:Nat) (ai:AI):AOp:=⟨some d,ai,none⟩
abbrev On (ai:AI):AOp:=⟨none,ai,none⟩
abbrev Og (g:Nat) (b:Bool) (d:Nat) (ai:AI):AOp:=⟨some d,ai,some (g,b)⟩
abbrev Qo (x:AOp):Bool × AOp:=(true,x)
abbrev Qe (x:AOp):Bool × AOp:=(false,x)
abbrev Ki (n:Int):AArg:=.k (.int .i64 n)
abbrev Zi (n:Int):Value:=.int .i64 n
def ghN (d sz:Nat) (st:AS):AV→AS
  | .one (.dc (.raw (.slice none 0 0)))=>⟨st.sl.set d (.one (.bld st.hp.length 0)),st.hp++[.arr 0 sz []]⟩
  | _=>st
def ghB2 (id j sz:Nat) (cs:List Cel) (st:AS):Option Cel→AS
  | some (.dc (.raw (.slice none 0 0)))=>⟨st.sl,st.hp.set id (.box (cs.set j (.bld st.hp.length 0)))++[.arr 0 sz []]⟩
  | _=>st
def ghB1 (id j sz:Nat) (st:AS):AObj→AS
  | .box cs=>ghB2 id j sz cs st cs[j]?
  | _=>st
def ghB (j sz:Nat) (st:AS):AV→AS
  | .one (.ptr id off)=>ghB1 id (off+j) sz st (hpGet st.hp id)
  | _=>st
def bldC:Cel→List Nat
  | .bld id _=>[id]
  | _=>[]
def bldCs:List Cel→List Nat
  | []=>[]
  | c::cs=>bldC c++bldCs cs
def bldV:AV→List Nat
  | .one c=>bldC c
  | .agg cs=>bldCs cs
  | _=>[]
def ghE:GH→AS→AS
  | .nil d sz,st=>ghN d sz st (st.sl.getD d .junk)
  | .nilB d j sz,st=>ghB j sz st (st.sl.getD d .junk)
  | .frz d,st=>frzIds (bldV (st.sl.getD d .junk)) st
  | .bv d,st=>bvIds (bldV (st.sl.getD d .junk)) st
def allLen (size:Nat):List (List DC)→Bool
  | []=>true
  | e::es=>nq e.length size&&allLen size es
def klC (id:Nat):Cel→Cel
  | .dc d=>.dc d
  | .ref cs=>.ref cs
  | .mpc es=>.mpc es
  | .junk=>.junk
  | .ptr j o=>bif nq j id then .junk else .ptr j o
  | .bld j n=>bif nq j id then .junk else .bld j n
  | .ept j i s o=>bif nq j id then .junk else .ept j i s o
  | .bls j i s o=>bif nq j id then .junk else .bls j i s o
  | .fn f caps=>killC (·==id) (.fn f caps)
def klCs (id:Nat):List Cel→List Cel
  | []=>[]
  | c::cs=>klC id c::klCs id cs
def klV (id:Nat):AV→AV
  | .one c=>.one (klC id c)
  | .agg cs=>.agg (klCs id cs)
  | .tup l=>.tup (l.map (killT (·==id)))
  | .junk=>.junk
def klS (id:Nat):List AV→List AV
  | []=>[]
  | v::vs=>klV id v::klS id vs
def klO (id:Nat):AObj→AObj
  | .box cs=>.box (klCs id cs)
  | .arr c s es=>.arr c s es
  | .dead=>.dead
def klH (id:Nat):List AObj→List AObj
  | []=>[]
  | o::os=>klO id o::klH id os
def apB (d:Option Nat) (size bytes:Nat) (st:AS) (id n:Nat):AObj→Option (List (List DC))→Option AS
  | .arr _ sz es,some news=>if sz=size∧n≤es.length∧allLen size news=true∧(n+news.length) * bytes≤140737488355328 then
      some ⟨putS (klS id st.sl) d (.one (.bld id (n+news.length))),(klH id st.hp).set id (.arr 0 size (es.take n++news))⟩ else none
  | _,_=>none
def apN (d:Option Nat) (size bytes:Nat) (st:AS):Option (List (List DC))→Option AS
  | some news=>if allLen size news=true∧news.length * bytes≤140737488355328 then
      some ⟨putS st.sl d (.one (.bld st.hp.length news.length)),klH st.hp.length st.hp++[.arr 0 size news]⟩ else none
  | none=>none
def apZ (d:Option Nat) (size bytes:Nat) (st:AS):AV→AV→Option AS
  | .one (.bld id n),x=>apB d size bytes st id n (hpGet st.hp id) (srcV st.hp x)
  | .one (.dc (.raw (.slice none 0 0))),x=>apN d size bytes st (srcV st.hp x)
  | _,_=>none
def plainC:Cel→Bool
  | .ptr _ _=>false
  | .ept _ _ _ _=>false
  | .bls _ _ _ _=>false
  | .fn _ caps=>caps.all capD
  | _=>true
def plainV:AV→Bool
  | .one c=>plainC c
  | .agg cs=>cs.all plainC
  | .tup _=>false
  | .junk=>true
def plainAs (G:Glob) (sl:List AV):List AArg→Bool
  | []=>true
  | x::xs=>plainV (evA G sl x)&&plainAs G sl xs
def vwAs (G:Glob) (st:AS):List AArg→List AV
  | []=>[]
  | x::xs=>nzV (vwA st.hp (evA G st.sl x))::vwAs G st xs
def vpAs (G:Glob) (st:AS):List AArg→List AV
  | []=>[]
  | x::xs=>nzV (vpA st.hp (evA G st.sl x))::vpAs G st xs
def nzAs (G:Glob) (sl:List AV):List AArg→List AV
  | []=>[]
  | x::xs=>nzV (evA G sl x)::nzAs G sl xs
def bldAs (G:Glob) (sl:List AV):List AArg→List Nat
  | []=>[]
  | x::xs=>bldV (evA G sl x)++bldAs G sl xs
def nwK (d:Option Nat) (st:AS):Option (AV × List AObj)→Option AS
  | some (av,os)=>some ⟨putS st.sl d (renV (jmap [] st.hp.length) av),st.hp++os.map (renO (jmap [] st.hp.length))⟩
  | none=>none
def dtK (call:CallT) (G:Glob) (d:Option Nat) (f:FuncId) (xs:List AArg) (st:AS):Option AS:=
  bif (nzAs G st.sl xs).all (keepV fun _=>true) then nwK d st (call f (nzAs G st.sl xs) []) else none
def nrmB:AObj→Bool
  | .arr c _ _=>nq c 0
  | _=>true
def nrmL:List AObj→Bool
  | []=>true
  | o::os=>nrmB o&&nrmL os
def dnK (d:Option Nat) (st:AS):Option (AV × List AObj)→Option AS
  | some (av,os)=>bif nrmL os then some ⟨putS st.sl d (renV (jmap [] st.hp.length) av),st.hp++os.map (renO (jmap [] st.hp.length))⟩ else none
  | none=>none
def dnZ (call:CallT) (G:Glob) (d:Option Nat) (f:FuncId) (xs:List AArg) (st:AS):Option AS:=
  bif (nzAs G st.sl xs).all (keepV fun _=>true) then dnK d st (call f (nzAs G st.sl xs) []) else none
def vwK (call:CallT) (G:Glob) (d:Option Nat) (f:FuncId) (xs:List AArg) (st:AS):Option (AV × List AObj)→Option AS
  | some (av,[])=>bif rawA? av then some ⟨putS st.sl d av,st.hp⟩ else dtK call G d f xs (frzIds (bldAs G st.sl xs) st)
  | some (_,_::_)=>dtK call G d f xs (frzIds (bldAs G st.sl xs) st)
  | none=>none
def nzCall (call:CallT):CallT:=fun f a hp=>call f (a.map nzV) hp
def clZ (call:CallT) (G:Glob) (d:Option Nat) (f:FuncId) (xs:List AArg) (st:AS):Option AS:=
  bif plainAs G st.sl xs then vwK call G d f xs st (call f (vwAs G st xs) [])
  else evCall (nzCall call) d f (xs.map (evA G (frzIds (bldAs G st.sl xs) st).sl)) (frzIds (bldAs G st.sl xs) st)
def cvK (call:CallT) (G:Glob) (d:Option Nat) (xs:List AArg) (st:AS):AV→Option AS
  | .one (.fn f caps)=>evCall (nzCall call) d f (xs.map (evA G st.sl)++caps.map AV.one) st
  | _=>none
def cvZ (call:CallT) (G:Glob) (d:Option Nat) (x:AArg) (xs:List AArg) (st:AS):Option AS:=
  cvK call G d xs (frzIds (bldAs G st.sl xs) st) (evA G (frzIds (bldAs G st.sl xs) st).sl x)
def isT (t:Nat):AArg→Bool
  | .t n=>nq n t
  | _=>false
def anyT (t:Nat):List AArg→Bool
  | []=>false
  | x::xs=>isT t x||anyT t xs
def usesL (t:Nat):AI→Bool
  | .app _ _ _ _ x=>isT t x
  | .call _ xs=>anyT t xs
  | _=>false
def litL (t:Nat):List AOp→Bool
  | []=>false
  | o::l=>usesL t o.ai||litL t l
def litU:Option Nat→List AOp→Bool
  | some t,l=>litL t l
  | none,_=>false
def bldPs (G:Glob) (sl:List AV):List (Nat × AArg)→List Nat
  | []=>[]
  | (_,x)::ps=>bldV (evA G sl x)++bldPs G sl ps
def bsP (st:AS) (d:Option Nat) (size len:Nat) (cs:List Cel):Option (List DC)→Option AS
  | some ds=>if ds.length=len * size then some ⟨putS st.sl d (.one (.bld st.hp.length len)),st.hp++[.arr 0 size (chunk size len ds)]⟩ else none
  | none=>if size=1 then some ⟨putS st.sl d (.one (.bls st.hp.length 0 len 1)),st.hp++[.box cs]⟩ else none
def bsO (G:Glob) (st:AS) (d:Option Nat) (size len:Nat) (z:List Value) (ps:List (Nat × AArg)):Option AS:=
  (fillV (zs z (len * size)) (ps.map fun (j,x)=>(j * size,size,evA G st.sl x))).bind fun cs=>bsP st d size len cs (dcs cs)
def bsZ (G:Glob) (st:AS) (d:Option Nat) (size len:Nat) (z:List Value) (ps:List (Nat × AArg)):Bool→Option AS
  | true=>bsX G (frzIds (bldPs G st.sl ps) st) d size len z ps
  | false=>bsO G (frzIds (bldPs G st.sl ps) st) d size len z ps
def mkK (d:Option Nat) (size bytes:Nat) (zero:List Value) (st:AS):Option Int→Option Int→Option AS
  | some (.ofNat n),some (.ofNat m)=>if n≤m∧m * bytes≤140737488355328 then some ⟨putS st.sl d (.one (.bld st.hp.length n)),st.hp++[.arr 0 size (List.replicate n (zero.map DC.raw))]⟩ else none
  | _,_=>none
def mkZ (G:Glob) (st:AS) (d:Option Nat) (size bytes:Nat) (zero:List Value) (l c:AArg):Option AS:=mkK d size bytes zero st (asInt? (evA G st.sl l)) (asInt? (evA G st.sl c))
def clrQ (d:Option Nat) (st:AS) (id k n size:Nat) (cs:List Cel):List Value→Option AS
 | [v]=>if size=1∧0 < n∧k+n≤cs.length then some ⟨putS st.sl d (.tup []),st.hp.set id (.box (putAt cs k (List.replicate n (rawC v))))⟩ else none
 | _=>none
def clrK (d:Option Nat) (st:AS) (id k n size:Nat) (zero:List Value):AObj→Option AS
 | .arr _ s es=>if s=size∧k+n≤es.length then some ⟨putS st.sl d (.tup []),st.hp.set id (.arr 0 size (clrE es k n (zero.map DC.raw)))⟩ else none
 | .box cs=>clrQ d st id k n size cs zero
 | _=>none
def clrV (d:Option Nat) (size:Nat) (zero:List Value) (st:AS):AV→Option AS
  | .one (.bls id k n s)=>if s=size then clrK d st id k n size zero (hpGet st.hp id) else none
  | .one (.bld id n)=>clrK d st id 0 n size zero (hpGet st.hp id)
  | _=>none
def clrZ (G:Glob) (st:AS) (d:Option Nat) (size:Nat) (zero:List Value) (x:AArg):Option AS:=clrV d size zero st (evA G st.sl x)
def cpyK (d:Option Nat) (st:AS) (id lo n:Nat) (s:ByteArray):AObj→Option AS
  | .box cs=>if lo+n≤cs.length then some ⟨putS st.sl d (rawV (.int .i64 (min s.size n:Nat))),st.hp.set id (.box (putAt cs lo (bytesCel (s.data.toList.take n))))⟩ else none
  | .arr _ z es=>if z=1∧lo+n≤es.length then some ⟨putS st.sl d (rawV (.int .i64 (min s.size n:Nat))),st.hp.set id (.arr 0 1 (cpyE es lo (s.data.toList.take n)))⟩ else none
  | _=>none
def cpyV (d:Option Nat) (st:AS):AV→Option ByteArray→Option AS
  | .one (.bls id lo n z),some s=>if z=1 then cpyK d st id lo n s (hpGet st.hp id) else none
  | _,_=>none
def cpyZ (G:Glob) (st:AS) (d:Option Nat) (x y:AArg):Option AS:=cpyV d st (evA G st.sl x) (asStr? (evA G st.sl y))
def cvsK (d:Option Nat) (st:AS):Option ByteArray→Option AS
  | some s=>some ⟨putS st.sl d (.one (.dc (.slc (bytesD s)))),st.hp⟩
  | none=>none
def cvsZ (G:Glob) (st:AS) (d:Option Nat) (x:AArg):Option AS:=cvsK d st (asStr? (evA G st.sl x))
def cvaK (d:Option Nat) (st:AS):Option ByteArray→Option AS
  | some s=>some ⟨putS st.sl d (.one (.bld st.hp.length s.size)),st.hp++[.arr 0 1 (bytesD s)]⟩
  | none=>none
def mbK (d:Option Nat) (size bytes:Nat) (st:AS):List Value→Option Int→Option Int→Option AS
  | [v],some (.ofNat n),some (.ofNat m)=>if size=1∧n≤m∧m * bytes≤140737488355328 then some ⟨putS st.sl d (.one (.bls st.hp.length 0 n 1)),st.hp++[.box (List.replicate m (rawC v))]⟩ else none
  | _,_,_=>none
def stZ (call:CallT) (G:Glob) (st:AS) (l:List AOp) (d:Option Nat):AI→Option AS
  | .call f xs=>clZ call G d f xs st
  | .callv x xs=>cvZ call G d x xs st
  | .app size bytes _ s x=>apZ d size bytes st (evA G st.sl s) (evA G st.sl x)
  | .bslc size len z ps=>bsZ G st d size len z ps (litU d l)
  | .apps _ _=>none
  | .mk size bytes z x y=>mkZ G st d size bytes z x y
  | .clr size z x=>clrZ G st d size z x
  | .cpys x y=>cpyZ G st d x y
  | .cvsb x=>cvsZ G st d x
  | ai=>exY G st d ai
def guZ (call:CallT) (G:Glob) (st:AS) (l:List AOp) (d:Option Nat) (ai:AI):Option Bool→Option AS
  | some true=>stZ call G st l d ai
  | some false=>some ⟨putS st.sl d (.tup []),st.hp⟩
  | none=>none
def stO (call:CallT) (G:Glob) (st:AS) (l:List AOp) (d:Option Nat) (ai:AI):Option (Nat × Bool)→Option AS
  | none=>stZ call G st l d ai
  | some (g,b)=>guZ call G st l d ai (gK b (evA G st.sl (.t g)))
def evR (call:CallT) (G:Glob):List AOp→Option AS→Option AS
  | _,none=>none
  | [],some st=>some st
  | o::l,some st=>evR call G l (stO call G st l o.dst o.ai o.guard)
def hasN:List Nat→Nat→Bool
  | [],_=>false
  | x::L,n=>nq n x||hasN L n
def isRef (L:List Nat):AI→Option (Nat × Bool)→Bool
  | .call f _,none=>hasN L f
  | .mk _ _ _ _ _,none=>hasN L 0
  | .cvsb _,none=>hasN L 1
  | _,_=>false
def vpK (d:Option Nat) (st:AS):Option (AV × List AObj)→Option AS
  | some (av,[])=>bif rawA? av then some ⟨putS st.sl d av,st.hp⟩ else none
  | some (_,_::_)=>none
  | none=>none
def refB (call:CallT) (G:Glob) (st:AS) (d:Option Nat) (f:FuncId) (xs:List AArg):Bool→Option AS
  | true=>vpK d st (call f (vpAs G st xs) [])
  | false=>evCall (nzCall call) d f (xs.map (evA G st.sl)) st
def refZ (call:CallT) (G:Glob) (L:List Nat) (st:AS) (d:Option Nat):AI→Option AS
  | .call f xs=>refB call G st d f xs (hasN L (f+100000))
  | .mk size bytes z x y=>mbK d size bytes st z (asInt? (evA G st.sl x)) (asInt? (evA G st.sl y))
  | .cvsb x=>cvaK d st (asStr? (evA G st.sl x))
  | _=>none
def stR (call:CallT) (G:Glob) (L:List Nat) (st:AS) (l:List AOp) (d:Option Nat) (ai:AI) (g:Option (Nat × Bool)):Bool→Option AS
  | true=>refZ call G L st d ai
  | false=>stO call G st l d ai g
def evRR (call:CallT) (G:Glob) (L:List Nat):List AOp→Option AS→Option AS
  | _,none=>none
  | [],some st=>some st
  | o::l,some st=>evRR call G L l (stR call G L st l o.dst o.ai o.guard (isRef L o.ai o.guard))
open Classical in
noncomputable def meetE (n0:Nat) (a b:Option AS):Option AS:=if ∃ s s' p,a=some s∧b=some s'∧pOK n0 s'.hp.length p∧prm p s'=s then a else none
noncomputable def evT (call:CallT) (G:Glob) (L:List Nat) (n0:Nat) (ops:List AOp):IT→Option AS→Option AS
  | _,none=>none
  | .nil,some st=>some st
  | .st i t,some st=>evT call G L n0 ops t (stR call G L st ops (atO ops i).dst (atO ops i).ai (atO ops i).guard (isRef L (atO ops i).ai (atO ops i).guard))
  | .br i t r,some st=>match isStop r with
    | true=>evT call G L n0 ops t (stR call G L st ops (atO ops i).dst (atO ops i).ai (atO ops i).guard (isRef L (atO ops i).ai (atO ops i).guard))
    | false=>meetE n0 (evT call G L n0 ops t (stR call G L st ops (atO ops i).dst (atO ops i).ai (atO ops i).guard (isRef L (atO ops i).ai (atO ops i).guard))) (evT call G L n0 ops r (some st))
  | .stop,some _=>none
def qcF (d:Option Nat) (st:AS) (v:AV):Option AS:=bif keepV (fun _=>true) v then some ⟨putS st.sl d v,st.hp⟩ else none
def qcK (d:Option Nat) (st:AS):Option (AV × List AObj)→Option AS
  | some (av,[])=>bif keepV (fun _=>true) av then some ⟨putS st.sl d av,st.hp⟩ else none
  | some (av,o::os)=>qcF d st (killV (fun id=>decide (0≤id)) ((frzIds (idsV av) ⟨[av],o::os⟩).sl.getD 0 .junk))
  | none=>none
def qtZ (call:CallT) (G:Glob) (st:AS) (d:Option Nat):AI→Option AS
  | .call f xs=>bif (nzAs G st.sl xs).all (keepV fun _=>true) then qcK d st (call f (nzAs G st.sl xs) []) else none
  | ai=>putX st d (evX G st.sl (qhp ai st.hp) ai)
def dvK (call:CallT) (G:Glob) (d:Option Nat) (f:FuncId) (xs:List AArg) (st:AS):Option (AV × List AObj)→Option AS
  | some (av,[])=>bif rawA? av then some ⟨putS st.sl d av,st.hp⟩ else dnZ call G d f xs st
  | some (_,_::_)=>dnZ call G d f xs st
  | none=>none
def ldZ (call:CallT) (G:Glob) (st:AS) (d:Option Nat):AI→Option AS
  | .call f xs=>dvK call G d f xs st (call f (vpAs G st xs) [])
  | .callv x xs=>cvZ call G d x xs st
  | .app size bytes _ s x=>apZ d size bytes st (evA G st.sl s) (evA G st.sl x)
  | .bslc size len z ps=>bsO G st d size len z ps
  | .mk size bytes z x y=>mkZ G st d size bytes z x y
  | .clr size z x=>clrZ G st d size z x
  | .cpys x y=>cpyZ G st d x y
  | .cvsb x=>cvsZ G st d x
  | .alloc z=>exY G st d (.alloc z)
  | .box x=>exY G st d (.box x)
  | .store size x v=>exY G st d (.store size x v)
  | _=>none
def drZ (call:CallT) (G:Glob) (st:AS) (d:Option Nat) (ai:AI):Bool→Option AS
  | true=>qtZ call G st d ai
  | false=>ldZ call G st d ai
def guD' (call:CallT) (G:Glob) (st:AS) (q:Bool) (d:Option Nat) (ai:AI):Option Bool→Option AS
  | some true=>drZ call G st d ai q
  | some false=>some ⟨putS st.sl d (.tup []),st.hp⟩
  | none=>none
def drO (call:CallT) (G:Glob) (st:AS) (q:Bool) (d:Option Nat) (ai:AI):Option (Nat × Bool)→Option AS
  | none=>drZ call G st d ai q
  | some (g,b)=>guD' call G st q d ai (gK b (evA G st.sl (.t g)))
def evDr (call:CallT) (G:Glob):List (Bool × AOp)→Option AS→Option AS
  | _,none=>none
  | [],some st=>some st
  | o::l,some st=>evDr call G l (drO call G st o.1 o.2.dst o.2.ai o.2.guard)
def isAl:AI→Bool
  | .alloc _=>true
  | _=>false
def nAl:List AOp→Nat
  | []=>0
  | o::l=>bif isAl o.ai then nAl l+1 else nAl l
def deads:Nat→List AObj
  | 0=>[]
  | n+1=>.dead::deads n
abbrev FP:=List Nat × List Nat
def fpA (G:Glob) (sl:List AV):List AArg→List Nat
  | []=>[]
  | x::xs=>fpV (evA G sl x)++fpA G sl xs
def fvN (d:Option Nat) (r:Nat) (z:List Value) (st:AS):Option AObj→Option (AS × FP)
  | some .dead=>some (⟨putS st.sl d (.one (.ptr r 0)),st.hp.set r (.box (z.map rawC))⟩,[r],[])
  | _=>none
def fvT (size id off:Nat) (vs:List Cel) (st:AS):Option AObj→Option (AS × FP)
  | some (.box cs)=>if vs.length=size∧off+size≤cs.length then some (⟨st.sl,st.hp.set id (.box (putAt cs off vs))⟩,[id],[id]) else none
  | _=>none
def fvS (d:Option Nat) (size:Nat) (st:AS):AV→Option (List Cel)→Option (AS × FP)
  | .one (.ptr id off),some vs=>match d with
    | none=>fvT size id off vs st st.hp[id]?
    | some _=>none
  | _,_=>none
def fvP (R:List Nat):Option AS→Option (AS × FP)
  | some s=>some (s,[],R)
  | none=>none
def fvY2 (d:Option Nat) (id lo n:Nat) (bs:ByteArray) (st:AS):Option AObj→Option (AS × FP)
  | some (.box cs)=>if lo+n≤cs.length then some (⟨putS st.sl d (rawV (.int .i64 (min bs.size n:Nat))),st.hp.set id (.box (putAt cs lo (bytesCel (bs.data.toList.take n))))⟩,[id],[id]) else none
  | _=>none
def fvY (d:Option Nat) (st:AS):AV→Option ByteArray→Option (AS × FP)
  | .one (.bls id lo n z),some bs=>if z=1 then fvY2 d id lo n bs st st.hp[id]? else none
  | _,_=>none
def fvB2 (d:Option Nat) (id:Nat) (st:AS):Option (AV × List AObj)→Option (AS × FP)
  | some (.tup [],[.box cs])=>bif keepL (fun _=>true) cs then some (⟨putS st.sl d (.tup []),st.hp.set id (.box cs)⟩,[id],[id]) else none
  | _=>none
def fvB (call:CallT) (d:Option Nat) (f:FuncId) (st:AS) (avs:List AV) (id:Nat):Option AObj→Option (AS × FP)
  | some (.box cs)=>bif keepL (fun _=>true) cs&&avs.all (keepV (outJ [id])) then fvB2 d id st (nzCall call f (avs.map (renV (idxN [id]))) [.box cs]) else none
  | _=>none
def fvC (call:CallT) (G:Glob) (st:AS) (d:Option Nat) (f:FuncId) (xs:List AArg):List Nat→Option (AS × FP)
  | []=>fvP [] (qtZ call G st d (.call f xs))
  | [id]=>fvB call d f st (xs.map (evA G st.sl)) id st.hp[id]?
  | _=>none
def fvL:Nat→Option AS→Option (AS × FP)
  | 0,_=>none
  | _+1,s=>fvP [] s
def fvA (call:CallT) (G:Glob) (st:AS) (d:Option Nat) (r:Nat):AI→Option (AS × FP)
  | .alloc z=>fvN d r z st st.hp[r]?
  | .store size x v=>fvS d size st (evA G st.sl x) (cellsOf (evA G st.sl v))
  | .cpys x y=>fvY d st (evA G st.sl x) (asStr? (evA G st.sl y))
  | .call f xs=>fvC call G st d f xs ((xs.map (evA G st.sl)).flatMap idsV)
  | .bslc size len z ps=>fvL len (bsX G st d size len z ps)
  | ai=>bif ai.isPure then fvP (fpA G st.sl (argsAI ai)) (stZ call G st [] d ai) else none
def fvG (call:CallT) (G:Glob) (st:AS) (d:Option Nat) (r:Nat) (ai:AI):Option Bool→Option (AS × FP)
  | some true=>fvA call G st d r ai
  | some false=>some (⟨putS st.sl d (.tup []),st.hp⟩,[],[])
  | none=>none
def fvO (call:CallT) (G:Glob) (st:AS) (d:Option Nat) (r:Nat) (ai:AI):Option (Nat × Bool)→Option (AS × FP)
  | none=>fvA call G st d r ai
  | some (g,b)=>fvG call G st d r ai (gK b (evA G st.sl (.t g)))
def hasM:List Nat→Nat→Bool
  | [],_=>false
  | x::L,n=>nq n x||hasM L n
def disM:List Nat→List Nat→Bool
  | [],_=>true
  | x::a,b=>!hasM b x&&disM a b
def dsM:FP→FP→Bool
  | (w,r),(w',r')=>disM w r'&&(disM w w'&&disM w' r)
def atF:List FP→Nat→FP
  | [],_=>([],[])
  | f::_,0=>f
  | _::fs,n+1=>atF fs n
def chkF:List (Nat × Nat)→List FP→Bool
  | [],_=>true
  | (p,q)::prs,fs=>dsM (atF fs p) (atF fs q)&&chkF prs fs
def fvR (call:CallT) (G:Glob) (prs:List (Nat × Nat)):List FP→Nat→List AOp→Option AS→Option AS
  | _,_,_,none=>none
  | acc,_,[],some st=>bif chkF prs acc then some st else none
  | acc,r,o::l,some st=>match fvO call G st o.dst r o.ai o.guard with
    | some (s,f)=>fvR call G prs (acc++[f]) (bif isAl o.ai then r+1 else r) l (some s)
    | none=>none
def ctC (m:Nat):Cel→Cel
  | .dc d=>.dc d
  | .ref cs=>.ref cs
  | .mpc es=>.mpc es
  | .junk=>.junk
  | .ptr j o=>if m≤j then .junk else .ptr j o
  | .bld j n=>if m≤j then .junk else .bld j n
  | .ept j i s o=>if m≤j then .junk else .ept j i s o
  | .bls j i s o=>if m≤j then .junk else .bls j i s o
  | .fn f caps=>killC (fun id=>decide (m≤id)) (.fn f caps)
def ctCs (m:Nat):List Cel→List Cel
  | []=>[]
  | c::cs=>ctC m c::ctCs m cs
def ctV (m:Nat):AV→AV
  | .one c=>.one (ctC m c)
  | .agg cs=>.agg (ctCs m cs)
  | .tup l=>.tup (l.map (killT fun id=>decide (m≤id)))
  | .junk=>.junk
def ctO (m:Nat):AObj→AObj
  | .box cs=>.box (ctCs m cs)
  | .arr c s es=>.arr c s es
  | .dead=>.dead
def ctH (m:Nat):Nat→List AObj→List AObj
  | 0,_=>[]
  | _+1,[]=>[]
  | n+1,o::os=>ctO m o::ctH m n os
def ctS (m:Nat):List Nat→List AV→List AV
  | _,[]=>[]
  | [],_::xs=>.junk::ctS m [] xs
  | 0::L,x::xs=>ctV m x::ctS m L xs
  | (n+1)::L,_::xs=>.junk::ctS m (n::L) xs
def trimA (L:List Nat) (m:Nat) (st:AS):AS:=⟨ctS m L st.sl,ctH m m st.hp⟩
def lpN (run:AS→Option (Exit × AS)) (L:List Nat) (m:Nat):Nat→AS→Option (Exit × AS)
  | 0,_=>none
  | n+1,st=>match run st with
    | some (.normal,s)=>lpN run L m n (trimA L m s)
    | r=>r
open Classical in
noncomputable def lim {α:Type} (f:Nat→Option α):Option α:=if h:∃ n r,f n=some r then f h.choose else none
noncomputable def loopE (run:AS→Option (Exit × AS)) (L:List Nat) (m:Nat) (st:AS):Option (Exit × AS):=lim fun n=>lpN run L m n st
def nrm:Option AS→Option (Exit × AS)
  | some s=>some (.normal,s)
  | none=>none
def blkE (id:Nat) (s:AS):Exit→Option (Exit × AS)
  | .exit id'=>if id'=id then some (.normal,s) else some (.exit id',s)
  | e=>some (e,s)
def blkK (id:Nat):Option (Exit × AS)→Option (Exit × AS)
  | some (e,s)=>blkE id s e
  | none=>none
noncomputable def EC (call:CallT) (G:Glob):HC→AS→Option (Exit × AS)
  | .skip,st=>some (.normal,st)
  | .ret,st=>some (.ret,st)
  | .exit id,st=>some (.exit id,st)
  | .region ops,st=>nrm (evR call G ops (some st))
  | .regR L ops,st=>nrm (evRR call G L ops (some st))
  | .drawn ops,st=>nrm (evDr call G ops (some st))
  | .drawnF prs ops,st=>nrm (fvR call G prs [] st.hp.length ops (some ⟨st.sl,st.hp++deads (nAl ops)⟩))
  | .drawnT L t ops,st=>nrm (evT call G L st.hp.length ops t (some st))
  | .seq a b,st=>match EC call G a st with
    | some (.normal,s)=>EC call G b s
    | r=>r
  | .cond c a b,st=>match asBool? (evA G st.sl c) with
    | some true=>EC call G a st
    | some false=>EC call G b st
    | none=>none
  | .block id a,st=>blkK id (EC call G a st)
  | .loop L a,st=>loopE (EC call G a) L st.hp.length (trimA L st.hp.length st)
  | .gh g a,st=>EC call G a (ghE g st)
  | .trm L a,st=>EC call G a (trimA L st.hp.length st)
  | .bad,_=>none
structure HF where
  code:HC
  rs:List RetV
  nt:Nat
  own:Bool
structure HT where
  tab:FuncId→Option HF
  base:CallT
def retW (own:Bool) (n:Nat) (hp:List AObj) (v:AV):AV × List AObj:=
  bif own then
    (bif keepV (fun id=>decide (n≤id)) v&&(hp.take n).all (keepO fun id=>decide (n≤id)) then (nzV v,hp.take n) else (nzV v,hp))
  else (nzV (killV (fun id=>decide (n≤id)) ((frzIds (idsV v) (bxW n (idsV v) ⟨[v],hp⟩ (blsV v))).sl.getD 0 .junk)),((frzIds (idsV v) (bxW n (idsV v) ⟨[v],hp⟩ (blsV v))).hp.take n).map (killO fun id=>decide (n≤id)))
def retK (own:Bool) (n:Nat) (hp:List AObj):Option AV→Option (AV × List AObj)
  | some v=>some (retW own n hp v)
  | none=>none
def retZ (own:Bool) (rs:List RetV) (n:Nat):Option (Exit × AS)→Option (AV × List AObj)
  | some (e,s)=>if isEnd e=true∧n≤s.hp.length then retK own n s.hp (retV s rs) else none
  | none=>none
noncomputable def funE (call:CallT) (G:Glob) (h:HF) (args:List AV) (hp:List AObj):Option (AV × List AObj):=
  retZ h.own h.rs hp.length (EC call G h.code ⟨args++junks (h.nt - args.length),hp⟩)
noncomputable def callN (G:Glob) (T:HT):Nat→CallT
  | 0,_,_,_=>none
  | n+1,f,args,hp=>match T.tab f with
    | some h=>funE (callN G T n) G h args hp
    | none=>T.base f args hp
noncomputable def EV (G:Glob) (T:HT):CallT:=fun f args hp=>lim fun n=>callN G T n f args hp
end
end Go.Proofs.YtmmafhopnkkeeaaGreatDoor
