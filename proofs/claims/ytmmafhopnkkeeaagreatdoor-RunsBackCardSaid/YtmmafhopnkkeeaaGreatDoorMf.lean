/- Arguments of some types, opened. Conditions: none. -/
import Derived.Test.YtmmafhopnkkeeaaGreatDoorMb
import Derived.OpenShut
namespace Go.Proofs.YtmmafhopnkkeeaaGreatDoor
section
open Go.ChangeShapes Go.WideShapes Go.ChangeAt Go.RowKit
def okT (P:Program):Nat→TypeId→List DC→Prop
 | 0,_,_=>False
 | n+1,t,ds=>
  match P.underlying t with
  | some .bool=>∃ b,ds=[.raw (.bool b)]
  | some (.int k)=>∃ i,ds=[.raw (.int k i)]∧k.min≤i∧i≤k.max
  | some .string=>∃ s:ByteArray,ds=[.raw (.string s)]∧s.size≤maxLen
  | some (.slice e)=>∃ es:List (List DC),ds=[.slc es]∧es.length≤maxLen∧∀ d∈es,okT P n e d
  | some (.struct fs)=>ds.length=P.cellsOf t∧∀ (i:Nat) f,fs[i]?=some f→okT P n f.type ((ds.drop f.offset).take (P.cellsOf f.type))
  | some (.array m e)=>ds.length=P.cellsOf t∧∀ i,i < m→okT P n e ((ds.drop (i * P.cellsOf e)).take (P.cellsOf e))
  | _=>False
def conB:List (Nat × Nat)→Nat→Nat→Bool
 | [],off,tot=>decide (off=tot)
 | p::l,off,tot=>decide (p.1=off)&&conB l (off+p.2) tot
def datT (P:Program):Nat→TypeId→Bool
 | 0,_=>false
 | n+1,t=>
  match P.underlying t with
  | some .bool=>true
  | some (.int _)=>true
  | some .string=>true
  | some (.slice e)=>datT P n e&&decide (0 < P.cellsOf e)
  | some (.struct fs)=>fs.toList.all (fun f=>datT P n f.type)&&conB (fs.toList.map fun f=>(f.offset,P.cellsOf f.type)) 0 (P.cellsOf t)
  | some (.array m e)=>datT P n e&&decide (P.cellsOf t=m * P.cellsOf e)
  | _=>false
def RDs (F:Fz) (ds:List DC) (cs:List Value):Prop:=ds.length=cs.length∧∀ (i:Nat) d v,ds[i]?=some d→cs[i]?=some v→RD F d v
theorem conB_le:∀ (l:List (Nat × Nat)) (off tot:Nat),conB l off tot=true→off≤tot
 | [],off,tot,h=>by simp [conB] at h;omega
 | p::l,off,tot,h=>by
  simp only [conB,Bool.and_eq_true,decide_eq_true_eq] at h
  have:=conB_le l _ _ h.2;omega
theorem glue {F:Fz} {cs:List Value}:∀ (l:List (Nat × Nat × (List DC→Prop))) (off:Nat),conB (l.map fun p=>(p.1,p.2.1)) off cs.length=true→(∀ p∈l,∃ ds,RDs F ds ((cs.drop p.1).take p.2.1)∧p.2.2 ds)→
  ∃ ds,RDs F ds (cs.drop off)∧∀ p∈l,off≤p.1∧p.2.2 ((ds.drop (p.1 - off)).take p.2.1)
 | [],off,h,_=>by
  simp only [List.map_nil,conB,decide_eq_true_eq] at h
  exact ⟨[],⟨by simp [h],fun i d v h1=>by simp at h1⟩,fun p hp=>by cases hp⟩
 | p::l,off,h,hp=>by
  simp only [List.map_cons,conB,Bool.and_eq_true,decide_eq_true_eq] at h
  obtain ⟨h0,h1⟩:=h
  have hle:=conB_le _ _ _ h1
  obtain ⟨ds1,a1,a2⟩:=hp p List.mem_cons_self
  obtain ⟨ds2,b1,b2⟩:=glue l (off+p.2.1) h1 (fun q hq=>hp q (List.mem_cons_of_mem _ hq))
  have hl1:ds1.length=p.2.1:=by rw [a1.1,List.length_take,List.length_drop];omega
  have hcat:cs.drop off=(cs.drop p.1).take p.2.1++cs.drop (off+p.2.1):=by
   rw [h0,← List.drop_drop,List.take_append_drop]
  refine ⟨ds1++ds2,⟨by rw [hcat,List.length_append,List.length_append,a1.1,b1.1],fun i d v h3 h4=>?_⟩,fun q hq=>?_⟩
  ·rw [hcat] at h4
   by_cases hi:i < ds1.length
   ·rw [List.getElem?_append_left hi] at h3
    rw [List.getElem?_append_left (by rw [← a1.1];exact hi)] at h4
    exact a1.2 i d v h3 h4
   ·rw [List.getElem?_append_right (by omega)] at h3
    rw [List.getElem?_append_right (by rw [← a1.1];omega),← a1.1] at h4
    exact b1.2 _ d v h3 h4
  ·rcases List.mem_cons.1 hq with rfl | hq
   ·refine ⟨by omega, ?_⟩
    rw [h0,Nat.sub_self,List.drop_zero,List.take_append_of_le_length (by omega),List.take_of_length_le (by omega)]
    exact a2
   ·obtain ⟨c1,c2⟩:=b2 q hq
    refine ⟨by omega, ?_⟩
    have:(ds1++ds2).drop (q.1 - off)=ds2.drop (q.1 - (off+p.2.1)):=by
     rw [List.drop_append,List.drop_of_length_le (by omega),List.nil_append,hl1]
     congr 1;omega
    rw [this];exact c2
theorem choose_list {α:Type} {Pr:Nat→α→Prop}:∀ n,(∀ i,i < n→∃ x,Pr i x)→∃ l:List α,l.length=n∧∀ (i:Nat) x,l[i]?=some x→Pr i x
 | 0,_=>⟨[],rfl,fun i x h=>by simp at h⟩
 | n+1,h=>by
  obtain ⟨l,hl,hp⟩:=choose_list n (fun i hi=>h i (by omega))
  obtain ⟨x,hx⟩:=h n (by omega)
  refine ⟨l++[x],by simp [hl],fun i y hy=>?_⟩
  rcases append_one hy with h1 | ⟨h1,rfl⟩
  ·exact hp i y h1
  ·rw [h1,hl];exact hx
section
variable {H:Type} {enc:TypeId × Value→H} {P:Program} {w:World} {base:Nat} {spare:Nat→Bool} {held:Bool}
theorem cell_spot {a:Addr} {v:Value} (h:w.cell? a=some v):a.spot=none:=by
 unfold World.cell? at h
 split at h
 ·split at h
  ·cases h
  ·rename_i h1;cases hs:a.spot with
   | none=>rfl
   | some x=>simp [hs] at h1
 ·cases h
theorem add_at {a:Addr} (h:a.spot=none) (i:Nat):a.add i=⟨a.block,a.off+i,none⟩:=by
 unfold Addr.add
 split
 ·rename_i h0;subst h0;cases a;simp_all
 ·rfl
theorem cell_all {a:Addr} {v:Value} (h:w.cell? a=some v):(allF w).cell? a=some v:=by
 unfold World.cell? at h
 unfold Fz.cell? allF
 exact h
theorem trod_data:∀ (n:Nat) (t:TypeId) (cs:List Value) (x:DataW H × List MemPlace) (m:Nat),datT P m t=true→DataW.trod enc P w base spare held n t cs=some x→∃ ds,RDs (allF w) ds cs∧okT P m t ds
 | 0,t,cs,x,m,hd,h=>by simp [DataW.trod] at h
 | n+1,t,cs,x,0,hd,h=>by simp [datT] at hd
 | n+1,t,cs,x,m+1,hd,h=>by
  rw [datT] at hd
  cases hu:P.underlying t with
  | none=>simp [hu] at hd
  | some u=>
   simp only [hu] at hd
   cases u<;>try (simp at hd;done)
   case bool=>
    obtain ⟨b,rfl,rfl⟩:=DataW.trod_bool hu h
    exact ⟨[.raw (.bool b)],⟨rfl,fun i d v h1 h2=>by
     cases i with
     | zero=>simp at h1 h2;subst h1;subst h2;exact .raw _ rfl
     | succ i=>simp at h1⟩,by rw [okT,hu];exact ⟨b,rfl⟩⟩
   case int k=>
    obtain ⟨i,rfl,rfl,hw⟩:=DataW.trod_int hu h
    refine ⟨[.raw (.int k i)],⟨rfl,fun j d v h1 h2=>?_⟩,by rw [okT,hu];exact ⟨i,rfl,by simpa [Lit.wf] using hw⟩⟩
    cases j with
    | zero=>simp at h1 h2;subst h1;subst h2;exact .raw _ rfl
    | succ j=>simp at h1
   case string=>
    obtain ⟨s,rfl,rfl,hw⟩:=DataW.trod_string hu h
    refine ⟨[.raw (.string s)],⟨rfl,fun j d v h1 h2=>?_⟩,by rw [okT,hu];exact ⟨s,rfl,hw⟩⟩
    cases j with
    | zero=>simp at h1 h2;subst h1;subst h2;exact .raw _ rfl
    | succ j=>simp at h1
   case slice e=>
    simp only [Bool.and_eq_true,decide_eq_true_eq] at hd
    rcases DataW.trod_slice hu h with ⟨rfl,_⟩ | ⟨a,len,cap,elems,rest,n',hn,rfl,_,hb,hl,hcm,hel,hat,_,_⟩
    ·refine ⟨[.slc []],⟨rfl,fun j d v h1 h2=>?_⟩,by rw [okT,hu];exact ⟨[],rfl,Nat.zero_le _,by simp⟩⟩
     cases j with
     | zero=>simp at h1 h2;subst h1;subst h2;exact .nil _ _
     | succ j=>simp at h1
    ·have hn':n'=n:=by omega
     subst hn'
     have key:∀ i,i < len→∃ e':List DC × List Value,w.cells? base (a.add (i * P.cellsOf e)) (P.cellsOf e)=some e'.2∧RDs (allF w) e'.1 e'.2∧okT P m e e'.1:=by
      intro i hi
      have h1:=hat i hi
      have hi2:i < elems.length:=by omega
      rw [List.getElem?_eq_getElem hi2] at h1
      obtain ⟨cs',h2,h3⟩:=Option.bind_eq_some_iff.1 h1
      obtain ⟨ds,h4,h5⟩:=trod_data n' e cs' _ m hd.1 h3
      exact ⟨(ds,cs'),h2,h4,h5⟩
     obtain ⟨L,hL,hLp⟩:=choose_list len key
     refine ⟨[.slc (L.map (·.1))],⟨rfl,fun j d v h1 h2=>?_⟩, ?_⟩
     ·cases j with
      | succ j=>simp at h1
      | zero=>
       simp at h1 h2;subst h1;subst h2
       by_cases h0:len=0
       ·have:L=[]:=List.eq_nil_of_length_eq_zero (by omega)
        subst this;rw [h0];exact .nil _ _
       ·have hcells:∀ (i j:Nat) e' d,L[i]?=some e'→e'.1[j]?=some d→∃ u,e'.2[j]?=some u∧w.cell? ((a.add (i * P.cellsOf e)).add j)=some u∧j < P.cellsOf e:=by
         intro i j e' d g1 g2
         obtain ⟨g3,g4,_⟩:=hLp i e' g1
         obtain ⟨_,g5,g6⟩:=World.cells?_some g3
         have hj:j < e'.2.length:=by rw [← g4.1];exact lt_of_get g2
         exact ⟨_,List.getElem?_eq_getElem hj,by rw [g6 j (by omega),List.getElem?_eq_getElem hj],by omega⟩
        have hsp:a.spot=none:=by
         have hL0:0 < L.length:=by omega
         obtain ⟨g3,g4,_⟩:=hLp 0 _ (List.getElem?_eq_getElem hL0)
         obtain ⟨_,g5,g6⟩:=World.cells?_some g3
         have hj:0 < (L[0]).2.length:=by rw [g5];exact hd.2
         have g7:=g6 0 hd.2
         rw [List.getElem?_eq_getElem hj] at g7
         have:=cell_spot g7
         simp only [Nat.zero_mul] at this
         simpa [Addr.add] using this
        have haddr:∀ i j,(a.add (i * P.cellsOf e)).add j=⟨a.block,a.off+(i * P.cellsOf e+j),none⟩:=by
         intro i j
         rw [add_at hsp,add_at rfl,Nat.add_assoc]
        have ha:(some a:Option Addr)=some ⟨a.block,a.off,none⟩:=by cases a;simp_all
        rw [ha]
        have hmap:(L.map (·.1)).length=len:=by simp [hL]
        have hgoal:=RD.slc (F:=allF w) a.block a.off cap (P.cellsOf e) (L.map (·.1)) (fun i j=>((L.getD i ([],[])).2).getD j undef) (fun e' he'=>by
          obtain ⟨p,hp,rfl⟩:=List.mem_map.1 he'
          obtain ⟨i,hi⟩:=List.mem_iff_getElem?.1 hp
          obtain ⟨g3,g4,_⟩:=hLp i p hi
          rw [g4.1,(World.cells?_some g3).2.1]) (fun i j e' d g1 g2=>by
          rw [List.getElem?_map] at g1
          obtain ⟨p,hp,rfl⟩:=Option.map_eq_some_iff.1 g1
          obtain ⟨u,hu1,hu2,hu3⟩:=hcells i j p d hp g2
          simp only [List.getD_eq_getElem?_getD,hp,Option.getD_some,hu1]
          exact (hLp i p hp).2.1.2 j d u g2 hu1) (fun i j e' d g1 g2=>by
          rw [List.getElem?_map] at g1
          obtain ⟨p,hp,rfl⟩:=Option.map_eq_some_iff.1 g1
          obtain ⟨u,hu1,hu2,hu3⟩:=hcells i j p d hp g2
          simp only [List.getD_eq_getElem?_getD,hp,Option.getD_some,hu1]
          rw [haddr] at hu2
          exact cell_all hu2) (by rw [hmap];exact hl)
        rw [hmap] at hgoal
        exact hgoal
     ·rw [okT,hu]
      refine ⟨_,rfl,by simp [hL];omega,fun d hdm=>?_⟩
      obtain ⟨p,hp,rfl⟩:=List.mem_map.1 hdm
      obtain ⟨i,hi⟩:=List.mem_iff_getElem?.1 hp
      exact (hLp i p hi).2.2
   case struct fs=>
    simp only [Bool.and_eq_true,List.all_eq_true] at hd
    obtain ⟨xs,n',hn,_,hlen,hxl,hf⟩:=DataW.trod_struct hu h
    have hn':n'=n:=by omega
    subst hn'
    obtain ⟨ds,h1,h2⟩:=glue (F:=allF w) (cs:=cs) (fs.toList.map fun f=>(f.offset,P.cellsOf f.type,okT P m f.type)) 0 (by
     rw [hlen,List.map_map];exact hd.2) (fun p hp=>by
     obtain ⟨f,hfm,rfl⟩:=List.mem_map.1 hp
     obtain ⟨i,hi⟩:=List.mem_iff_getElem?.1 hfm
     have hi':fs[i]?=some f:=by simpa using hi
     have h3:=hf i f hi'
     have hix:i < xs.length:=by rw [hxl];exact (Array.getElem?_eq_some_iff.1 hi').1
     rw [List.getElem?_eq_getElem hix] at h3
     exact trod_data n' f.type _ _ m (hd.1 f hfm) h3)
    simp only [List.drop_zero] at h1
    refine ⟨ds,h1, ?_⟩
    rw [okT,hu]
    refine ⟨by rw [h1.1,hlen],fun i f hi=>?_⟩
    have:=(h2 _ (List.mem_map.2 ⟨f,by exact List.mem_iff_getElem?.2 ⟨i,by simpa using hi⟩,rfl⟩)).2
    simpa using this
   case array m' e=>
    simp only [Bool.and_eq_true,decide_eq_true_eq] at hd
    obtain ⟨xs,n',hn,_,hlen,hxl,hf⟩:=DataW.trod_array hu h
    have hn':n'=n:=by omega
    subst hn'
    have hcon:∀ (k s:Nat),conB ((List.range' s k).map fun i=>(i * P.cellsOf e,P.cellsOf e)) (s * P.cellsOf e) ((s+k) * P.cellsOf e)=true:=by
     intro k
     induction k with
     | zero=>intro s;simp [conB]
     | succ k ih=>
      intro s
      have:=ih (s+1)
      rw [List.range'_succ,List.map_cons,conB]
      simp only [decide_true,Bool.true_and]
      rw [← Nat.succ_mul,show s+(k+1)=s+1+k by omega]
      exact this
    obtain ⟨ds,h1,h2⟩:=glue (F:=allF w) (cs:=cs) ((List.range m').map fun i=>(i * P.cellsOf e,P.cellsOf e,okT P m e)) 0 (by
     rw [hlen,List.map_map,hd.2,List.range_eq_range']
     have:=hcon m' 0
     simpa [Function.comp_def] using this) (fun p hp=>by
     obtain ⟨i,him,rfl⟩:=List.mem_map.1 hp
     have hi:=List.mem_range.1 him
     have h3:=hf i hi
     rw [List.getElem?_eq_getElem (by omega)] at h3
     exact trod_data n' e _ _ m hd.1 h3)
    simp only [List.drop_zero] at h1
    refine ⟨ds,h1, ?_⟩
    rw [okT,hu]
    refine ⟨by rw [h1.1,hlen],fun i hi=>?_⟩
    have:=(h2 _ (List.mem_map.2 ⟨i,List.mem_range.2 hi,rfl⟩)).2
    simpa using this
def aggT (P:Program) (t:TypeId):Bool:=
 match P.underlying t with
 | some (.struct _)=>true
 | some (.array _ _)=>true
 | _=>false
def okA (P:Program) (m:Nat) (t:TypeId):AV→Prop
 | .one (.dc d)=>aggT P t=false∧okT P m t [d]
 | .agg cs=>aggT P t=true∧∃ ds,cs=dcC ds∧okT P m t ds
 | _=>False
theorem arg_data {r:Reach} {b0 m:Nat} {t:TypeId} {v:Value} {d:DataW H} {ps:List MemPlace} (hval:Value.okWide P w r b0 t v) (hd:DataW.Trod enc P w base spare held t v d ps) (hdat:datT P m t=true):
  ∃ av,RV (allF w) [] av v∧okA P m t av:=by
 obtain ⟨n,h⟩:=hd
 obtain ⟨ds,h1,h2⟩:=trod_data n t _ _ m hdat h
 have one:∀ x:Value,v=x→aggT P t=false→(∀ cs,x≠.agg cs)→∃ av,RV (allF w) [] av v∧okA P m t av:=by
  intro x hx h3 h4
  subst hx
  have hc:v.cells.toList=[v]:=by cases v<;>first | rfl | (exact absurd rfl (h4 _))
  rw [hc] at h1
  match ds,h1,h2 with
  | [d0],h1,h2=>exact ⟨.one (.dc d0),.one _ _ (.dc _ _ (h1.2 0 d0 v rfl rfl)),h3,h2⟩
  | [],h1,_=>simp [RDs] at h1
  | _::_::_,h1,_=>simp [RDs] at h1
 have many:∀ cs,v=.agg cs→aggT P t=true→∃ av,RV (allF w) [] av v∧okA P m t av:=by
  intro cs hv h0
  subst hv
  have hc:(Value.agg cs).cells.toList=cs.toList:=rfl
  rw [hc] at h1
  refine ⟨.agg (dcC ds),.agg _ _ (by rw [dcC,List.length_map,h1.1,Array.length_toList]) (fun i c u h3 h4=>?_),h0,ds,rfl,h2⟩
  rw [dcC,List.getElem?_map] at h3
  obtain ⟨d0,h5,rfl⟩:=Option.map_eq_some_iff.1 h3
  exact .dc _ _ (h1.2 i d0 u h5 (by simpa using h4))
 cases m with
 | zero=>simp [datT] at hdat
 | succ m=>
  rw [datT] at hdat
  cases hu:P.underlying t with
  | none=>simp [hu] at hdat
  | some u=>
   simp only [hu] at hdat
   cases u<;>try (simp at hdat;done)
   case bool=>obtain ⟨b,hv⟩:=okWide_bool hu hval;exact one _ hv (by rw [aggT,hu]) (fun cs h=>by cases h)
   case int k=>obtain ⟨b,hv⟩:=okWide_int hu hval;exact one _ hv (by rw [aggT,hu]) (fun cs h=>by cases h)
   case string=>obtain ⟨b,hv⟩:=okWide_string hu hval;exact one _ hv (by rw [aggT,hu]) (fun cs h=>by cases h)
   case slice e=>obtain ⟨a,l,c,hv⟩:=okWide_slice hu hval;exact one _ hv (by rw [aggT,hu]) (fun cs h=>by cases h)
   case struct fs=>obtain ⟨cs,hv,_⟩:=okWide_struct hu hval;exact many cs hv (by rw [aggT,hu])
   case array k e=>
    unfold Value.okWide at hval
    rw [hu] at hval
    obtain ⟨cs,hv,_⟩:=hval
    exact many cs hv (by rw [aggT,hu])
def okAs (P:Program) (m:Nat):List TypeId→List AV→Prop
 | [],[]=>True
 | t::ts,a::avs=>okA P m t a∧okAs P m ts avs
 | _,_=>False
theorem args_data {r:Reach} {b0 m:Nat}:∀ {ts:List TypeId} {vs:List Value} {ds:List (DataW H)} {ps:List MemPlace},DataW.TrodAll enc P w base spare held ts vs ds ps→
  (∀ (j:Nat) t v,ts[j]?=some t→vs[j]?=some v→Value.okWide P w r b0 t v)→(∀ t∈ts,datT P m t=true)→∃ avs:List AV,vs.length=avs.length∧(∀ (i:Nat) av v,avs[i]?=some av→vs[i]?=some v→RV (allF w) [] av v)∧okAs P m ts avs∧ds.length=ts.length
 | [],vs,ds,ps,h,_,_=>by
  obtain ⟨rfl,rfl,rfl⟩:=trodAll_nil h
  exact ⟨[],rfl,fun i av v h=>by simp at h,trivial,rfl⟩
 | t::ts,vs,ds,ps,h,hval,hdat=>by
  obtain ⟨v,vs',d,ds',p,q,rfl,rfl,rfl,h1,h2⟩:=trodAll_cons h
  obtain ⟨av,a1,a2⟩:=arg_data (hval 0 t v rfl rfl) h1 (hdat t List.mem_cons_self)
  obtain ⟨avs,b1,b2,b3,b4⟩:=args_data h2 (fun j t v h3 h4=>hval (j+1) t v (by simpa using h3) (by simpa using h4)) (fun t ht=>hdat t (List.mem_cons_of_mem _ ht))
  refine ⟨av::avs,by simp [b1],fun i x y h3 h4=>?_,⟨a2,b3⟩,by simp [b4]⟩
  cases i with
  | zero=>simp at h3 h4;subst h3;subst h4;exact a1
  | succ i=>exact b2 i x y (by simpa using h3) (by simpa using h4)
end
end
section
section
variable {P:Program} {m:Nat} {t:TypeId} {av:AV}
theorem okA_one (ha:aggT P t=false) (h:okA P m t av):∃ d,av=.one (.dc d)∧okT P m t [d]:=by
 cases av with
 | one c=>cases c with
  | dc d=>exact ⟨d,rfl,h.2⟩
  | _=>exact h.elim
 | agg cs=>rw [h.1] at ha;cases ha
 | tup l=>exact h.elim
 | junk=>exact h.elim
theorem okA_string (hu:P.underlying t=some .string) (h:okA P (m+1) t av):∃ s:ByteArray,av=.one (.dc (.raw (.string s)))∧s.size≤maxLen:=by
 obtain ⟨d,rfl,h2⟩:=okA_one (by rw [aggT,hu]) h
 rw [okT,hu] at h2
 obtain ⟨i,h3,h4⟩:=h2
 simp only [List.cons.injEq,and_true] at h3
 exact ⟨i,by rw [h3],h4⟩
theorem i64_bounds {i:Int} (h:IntKind.i64.min≤i∧i≤IntKind.i64.max):-9223372036854775808≤i∧i≤9223372036854775807:=by
 have e1:IntKind.i64.min=-9223372036854775808:=by decide
 have e2:IntKind.i64.max=9223372036854775807:=by decide
 omega
theorem okT_int1 {k:IntKind} {ds:List DC} (hu:P.underlying t=some (.int k)) (h:okT P (m+1) t ds):∃ i,ds=[.raw (.int k i)]∧k.min≤i∧i≤k.max:=by
 rw [okT,hu] at h;exact h
theorem okT_two {f0 f1:Field} {ds:List DC} (hu:P.underlying t=some (.struct #[f0,f1])) (h0:P.underlying f0.type=some (.int .i64)) (h1:P.underlying f1.type=some (.int .i64)) (o0:f0.offset=0) (o1:f1.offset=1)
  (c0:P.cellsOf f0.type=1) (c1:P.cellsOf f1.type=1) (hc:P.cellsOf t=2) (h:okT P (m+2) t ds):
  ∃ a b:Int,ds=[ci a,ci b]∧(-9223372036854775808≤a∧a≤9223372036854775807)∧(-9223372036854775808≤b∧b≤9223372036854775807):=by
 rw [okT,hu] at h
 obtain ⟨hl,hf⟩:=h
 rw [hc] at hl
 obtain ⟨a,ha,ha2⟩:=okT_int1 h0 (hf 0 f0 rfl)
 obtain ⟨b,hb,hb2⟩:=okT_int1 h1 (hf 1 f1 rfl)
 match ds,hl with
 | [x,y],_=>
  rw [o0,c0] at ha
  rw [o1,c1] at hb
  simp at ha hb
  exact ⟨a,b,by rw [ha,hb],i64_bounds ha2,i64_bounds hb2⟩
end
end
end Go.Proofs.YtmmafhopnkkeeaaGreatDoor
