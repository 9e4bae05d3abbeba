/- Small rules for sums and tests. Conditions: none. -/
import Derived.Test.YtmmafhopnkkeeaaGreatDoorLt
import Derived.ProofKit
namespace Go.Proofs.YtmmafhopnkkeeaaGreatDoor
section
section
variable {P:Program} {G:Glob} {k:Nat} {hp:List AObj} {s:AS} {K Q:AS→Prop}
theorem hpGet_norm (id:Nat):hpGet (hp.map nocap) id=nocap (hpGet hp id):=by
 unfold hpGet
 simp only [List.getD_eq_getElem?_getD,List.getElem?_map]
 cases hp[id]?<;>rfl
theorem loadV_norm {g:Bool} {n:Nat} {x:AV}:loadV (hp.map nocap) g n x=loadV hp g n x:=by
 unfold loadV
 split
 ·simp only [hpGet_norm];cases hpGet hp _<;>rfl
 ·simp only [hpGet_norm];cases hpGet hp _<;>rfl
 ·rfl
 ·rfl
theorem cvbsV_norm {x:AV}:cvbsV (hp.map nocap) x=cvbsV hp x:=by
 unfold cvbsV
 split
 ·rfl
 ·rfl
 ·simp only [hpGet_norm];cases hpGet hp _<;>rfl
 ·simp only [hpGet_norm];cases hpGet hp _<;>rfl
 ·rfl
theorem ixLV_norm {n:Nat} {x:AV} {i:Int}:ixLV (hp.map nocap) n x i=ixLV hp n x i:=by
 unfold ixLV
 split
 ·rfl
 ·simp only [hpGet_norm];cases hpGet hp _<;>rfl
 ·simp only [hpGet_norm];cases hpGet hp _<;>rfl
 ·rfl
theorem slLV_norm {n:Nat} {x:AV} {l r:Option AV}:slLV (hp.map nocap) n x l r=slLV hp n x l r:=by
 unfold slLV
 split
 ·rfl
 ·rfl
 ·simp only [hpGet_norm];cases hpGet hp _<;>cases l<;>rfl
 ·simp only [hpGet_norm];cases hpGet hp _<;>rfl
 ·rfl
theorem srcV_norm {x:AV}:srcV (hp.map nocap) x=srcV hp x:=by
 unfold srcV
 split
 ·rfl
 ·rfl
 ·simp only [hpGet_norm];cases hpGet hp _<;>rfl
 ·rfl
theorem evP_norm {ai:AI}:evP G (norm s) ai=evP G s ai:=by
 cases ai<;>simp only [evP,norm,loadV_norm,cvbsV_norm,ixLV_norm,slLV_norm]
theorem evF_eq {st:AS} {ai:AI}:evF G st ai=evP G st ai:=by
 unfold evF
 split
 ·split
  ·rename_i h1 h2
   simp only [evP,h1,h2,binV,wrapF_eq];rfl
  ·rfl
 ·split
  ·rename_i h1 h2
   simp only [evP,h1,h2,binV,wrapF_eq];rfl
  ·rfl
 ·rfl
theorem toDCs_ok:∀ (cs:List Cel) (ds:List DC),toDCs cs=some ds→cs=dcC ds
 | [],ds,h=>by simp [toDCs] at h;subst h;rfl
 | c::cs,ds,h=>by
  cases c with
  | dc d=>
   simp only [toDCs] at h
   obtain ⟨ds',h1,rfl⟩:=Option.map_eq_some_iff.1 h
   rw [toDCs_ok cs ds' h1];rfl
  | _=>simp [toDCs] at h
theorem chunks_ok {size:Nat}:∀ (n:Nat) (l:List DC),l.length=n * size→(chunks size n l).flatten=l∧(chunks size n l).length=n∧∀ e∈chunks size n l,e.length=size
 | 0,l,h=>by
  have:l=[]:=List.eq_nil_of_length_eq_zero (by simpa using h)
  subst this
  exact ⟨rfl,rfl,fun e he=>by cases he⟩
 | n+1,l,h=>by
  have hm:(n+1) * size=n * size+size:=Nat.succ_mul n size
  obtain ⟨h1,h2,h3⟩:=chunks_ok (size:=size) n (l.drop size) (by simp;omega)
  refine ⟨?_,by simp [chunks,h2],fun e he=>?_⟩
  ·simp only [chunks,List.flatten_cons,h1,List.take_append_drop]
  ·simp only [chunks,List.mem_cons] at he
   rcases he with rfl | he
   ·simp;omega
   ·exact h3 e he
theorem nocap_kill {p:Nat→Bool} (o:AObj):nocap (killO p o)=killO p (nocap o):=by cases o<;>rfl
theorem map_kill {p:Nat→Bool} (l:List AObj):(l.map (killO p)).map nocap=(l.map nocap).map (killO p):=by
 simp only [List.map_map];exact List.map_congr_left (fun o _=>nocap_kill o)
theorem nocap_ren {ρ:Nat→Nat} (o:AObj):nocap (renO ρ o)=renO ρ (nocap o):=by cases o<;>rfl
theorem nocap_box {cs:List Cel} {o:AObj} (h:nocap o=.box cs):o=.box cs:=by cases o<;>simp_all [nocap]
theorem nocap_arr {c z:Nat} {es:List (List DC)} {o:AObj} (h:nocap o=.arr c z es):∃ cap,o=.arr cap z es∧c=0:=by
 cases o<;>simp_all [nocap]
theorem evI_eff {dst:Option Nat} {ai:AI} {st':AS} (h:evI G dst ai (norm s)=some st') (hK:∀ s',norm s'=st'→K s'):EffI P G k dst ai K s.sl s.hp:=by
 cases ai with
 | alloc z=>
  simp only [evI,Option.some.injEq] at h
  exact hK _ (by rw [← h];simp [norm,nocap])
 | box x=>
  simp only [evI] at h
  obtain ⟨cs,h1,h2⟩:=Option.map_eq_some_iff.1 h
  exact ⟨cs,h1,hK _ (by rw [← h2];simp [norm,nocap])⟩
 | bslc size len zero parts=>
  simp only [evI] at h
  obtain ⟨cells,h1,h⟩:=Option.bind_eq_some_iff.1 h
  obtain ⟨ds,h2,h⟩:=Option.bind_eq_some_iff.1 h
  split at h
  ·rename_i hl
   injection h with h
   obtain ⟨g1,g2,g3⟩:=chunks_ok len ds hl
   refine .inl ⟨chunks size len ds, ?_,g3,g2,hK _ (by rw [← h];simp [norm,nocap])⟩
   rw [g1,← toDCs_ok _ _ h2]
   exact h1
  ·cases h
 | store size x v=>
  simp only [evI] at h
  split at h
  ·rename_i hd
   subst hd
   refine ⟨rfl, ?_⟩
   obtain ⟨vs,h1,h⟩:=Option.bind_eq_some_iff.1 h
   unfold evStore at h
   split at h
   ·rename_i id off hx
    left
    split at h
    ·rename_i cs hb
     split at h
     ·rename_i hc
      injection h with h
      rw [norm,hpGet_norm] at hb
      exact ⟨id,off,cs,vs,hx,h1,nocap_box hb,hc.1,hc.2,hK _ (by rw [← h];simp [norm,nocap,List.map_set])⟩
     ·cases h
    ·cases h
   ·rename_i id i z off hx
    right
    split at h
    ·rename_i c z' es hb
     obtain ⟨ds,h2,h⟩:=Option.bind_eq_some_iff.1 h
     obtain ⟨e,h3,h⟩:=Option.bind_eq_some_iff.1 h
     split at h
     ·rename_i hc
      injection h with h
      rw [norm,hpGet_norm] at hb
      obtain ⟨cap,hb,_⟩:=nocap_arr hb
      obtain ⟨rfl,hc2,hc3⟩:=hc
      refine ⟨id,i,z',off,cap,es,e,ds,hx, ?_,hb,h3,hc2,hc3,hK _ (by rw [← h];simp [norm,nocap,List.map_set])⟩
      rw [← toDCs_ok _ _ h2];exact h1
     ·cases h
    ·cases h
   ·cases h
  ·cases h
 | app size bytes zero a x=>
  simp only [evI] at h
  unfold evApp at h
  split at h
  ·rename_i id n hx
   right
   split at h
   ·rename_i c z es hb
    obtain ⟨news,h2,h⟩:=Option.bind_eq_some_iff.1 h
    split at h
    ·rename_i hc
     injection h with h
     rw [norm,hpGet_norm] at hb
     obtain ⟨cap,hb,_⟩:=nocap_arr hb
     obtain ⟨rfl,hc2,hc3,hc4⟩:=hc
     rw [norm,srcV_norm] at h2
     exact ⟨id,n,cap,es,news,hx,hb,hc2,h2,by simpa using hc3,hc4,fun cap' _=>hK _ (by rw [← h];simp only [norm,List.map_set,map_kill];rfl)⟩
    ·cases h
   ·cases h
  ·rename_i hx
   left
   obtain ⟨news,h2,h⟩:=Option.bind_eq_some_iff.1 h
   split at h
   ·rename_i hc
    injection h with h
    rw [norm,srcV_norm] at h2
    exact ⟨hx,news,h2,by simpa using hc.1,hc.2,fun cap' _=>hK _ (by rw [← h];simp only [norm,List.map_append,map_kill,List.length_map];rfl)⟩
   ·cases h
  ·cases h
 | _=>cases h
theorem frzO_nocap {id:Nat} {es:List (List DC)} (o:AObj):nocap (frzO id es o)=frzO id es (nocap o):=by cases o<;>rfl
theorem frzIds_ok:∀ (ids:List Nat) (s:AS),∃ s',Gh k s s'∧norm s'=frzIds ids (norm s)
 | [],s=>⟨s,Gh.refl,rfl⟩
 | id::r,s=>by
  simp only [frzIds]
  split
  ·rename_i c z es hb
   rw [norm,hpGet_norm] at hb
   obtain ⟨cap,hb,_⟩:=nocap_arr hb
   obtain ⟨s',h1,h2⟩:=frzIds_ok r ⟨s.sl.map fun v=>killV (·==id) (frzV id es v),(s.hp.map fun o=>killO (·==id) (frzO id es o)).set id .dead⟩
   refine ⟨s',(Gh.freeze hb).trans h1, ?_⟩
   rw [h2]
   congr 1
   simp only [norm,List.map_set,List.map_map,nocap]
   congr 2
   exact List.map_congr_left (fun o _=>by simp only [Function.comp_apply,nocap_kill,frzO_nocap])
  ·exact frzIds_ok r s
mutual
theorem rtC {J:List Nat} {n:Nat}:(c:Cel)→c.keep (outJ J)=true→renC (jmap J n) (renC (idxN J) c)=c
 | .ptr id o,h=>by simp only [renC,rtN (n:=n) (by simpa [Cel.keep,outJ] using h)]
 | .bld id o,h=>by simp only [renC,rtN (n:=n) (by simpa [Cel.keep,outJ] using h)]
 | .ept id i z o,h=>by simp only [renC,rtN (n:=n) (by simpa [Cel.keep,outJ] using h)]
 | .bls id i z o,h=>by simp only [renC,rtN (n:=n) (by simpa [Cel.keep,outJ] using h)]
 | .fn f caps,h=>by simp only [renC,rtL caps (by simpa [Cel.keep] using h)]
 | .dc d,h=>rfl
 | .ref cs,h=>rfl
 | .mpc es,h=>rfl
 | .junk,h=>rfl
theorem rtL {J:List Nat} {n:Nat}:(cs:List Cel)→keepL (outJ J) cs=true→renL (jmap J n) (renL (idxN J) cs)=cs
 | [],h=>rfl
 | c::cs,h=>by
  simp only [keepL,Bool.and_eq_true] at h
  simp only [renL,rtC c h.1,rtL cs h.2]
theorem rtN {J:List Nat} {n id:Nat} (h:id∈J):jmap J n (idxN J id)=id:=by
 have:∀ J:List Nat,id∈J→J[idxN J id]?=some id:=by
  intro J
  induction J with
  | nil=>intro h;cases h
  | cons j J ih=>
   intro h
   simp only [idxN]
   split
   ·rename_i e;simp [e]
   ·rename_i hne
    rw [List.getElem?_cons_succ]
    exact ih (by rcases List.mem_cons.1 h with h | h;exact absurd h hne;exact h)
 simp only [jmap,this J h]
end
theorem renL_map {ρ:Nat→Nat}:∀ (cs:List Cel),renL ρ cs=cs.map (renC ρ)
 | []=>rfl
 | c::cs=>by simp [renL,renL_map cs]
theorem rtM {J:List Nat} {n:Nat} (cs:List Cel) (h:keepL (outJ J) cs=true):(cs.map (renC (idxN J))).map (renC (jmap J n))=cs:=by
 rw [← renL_map,← renL_map];exact rtL cs h
theorem rtT {J:List Nat} {n:Nat} (t:TV) (h:keepT (outJ J) t=true):renT (jmap J n) (renT (idxN J) t)=t:=by
 cases t with
 | one c=>simp only [renT,rtC c h]
 | agg cs=>simp only [renT,rtM cs h]
theorem rtV {J:List Nat} {n:Nat} (v:AV) (h:keepV (outJ J) v=true):renV (jmap J n) (renV (idxN J) v)=v:=by
 cases v with
 | one c=>simp only [renV,rtC c h]
 | agg cs=>simp only [renV,rtM cs h]
 | tup l=>
  simp only [renV,List.map_map]
  congr 1
  conv=>rhs;rw [← List.map_id l]
  exact List.map_congr_left (fun t ht=>rtT t (List.all_eq_true.1 h t ht))
 | junk=>rfl
theorem rtO {J:List Nat} {n:Nat} (o:AObj) (h:keepO (outJ J) o=true):renO (jmap J n) (renO (idxN J) o)=o:=by
 cases o with
 | box cs=>simp only [renO,rtM cs h]
 | _=>rfl
theorem setJ_map {α β:Type} {f:α→β}:∀ (J:List Nat) (xs l:List α),(setJ J xs l).map f=setJ J (xs.map f) (l.map f)
 | [],_,l=>by simp [setJ]
 | j::J,[],l=>by simp [setJ]
 | j::J,x::xs,l=>by simp only [setJ,List.map_cons];rw [setJ_map J xs];simp [List.map_set]
theorem isBox_nocap (o:AObj):isBoxO (nocap o)=isBoxO o:=by cases o<;>rfl
theorem after_norm {J:List Nat} {dst:Option Nat} {av:AV} {o0:List AObj}:norm (afterC J s dst av o0)=afterC J (norm s) dst av (o0.map nocap):=by
 have e1:∀ ρ,nocap ∘ renO ρ=renO ρ ∘ nocap:=fun ρ=>funext fun o=>nocap_ren o
 have e2:∀ p,nocap ∘ killO p=killO p ∘ nocap:=fun p=>funext fun o=>nocap_kill o
 simp only [afterC,norm,List.map_append,setJ_map,List.length_map,hpGet_norm,isBox_nocap,List.map_map,List.map_drop,e1,e2]
def CallOK (P:Program) (G:Glob) (call:CallT):Prop:=∀ f args hp av o',call f args hp=some (av,o')→∀ hp0,hp0.map nocap=hp→okF P f=true∧AC P G f args hp0 fun a o=>a=av∧o.map nocap=o'
theorem keepO_nocap {p:Nat→Bool} (o:AObj):keepO p (nocap o)=keepO p o:=by cases o<;>rfl
theorem evCall_ok {call:CallT} (hcall:CallOK P G call) {dst:Option Nat} {f:FuncId} {avs:List AV} {st':AS} (h:evCall call dst f avs (norm s)=some st'):
  ∃ (J:List Nat) (objs:List AObj) (av:AV) (o':List AObj),okF P f=true∧AC P G f (avs.map (renV (idxN J))) objs (fun a o=>a=av∧o.map nocap=o')∧J.Nodup∧objs.length=J.length∧
   (∀ (t j:Nat) o,J[t]?=some j→objs[t]?=some o→s.hp[j]?=some (renO (jmap J s.hp.length) o))∧avs=(avs.map (renV (idxN J))).map (renV (jmap J s.hp.length))∧
   ∀ a o,a=av∧o.map nocap=o'→norm (afterC J s dst a o)=st':=by
 unfold evCall at h
 simp only at h
 generalize reach (norm s).hp 2000 (avs.flatMap idsV) []=J at h
 split at h
 ·rename_i hok
  obtain ⟨⟨av,o'⟩,h1,h2⟩:=Option.map_eq_some_iff.1 h
  simp only [okJ,Bool.and_eq_true] at hok
  obtain ⟨⟨hnd,hobj⟩,hav⟩:=hok
  have hJ:=fun j hj=>List.all_eq_true.1 hobj j hj
  simp only [Bool.and_eq_true,decide_eq_true_eq,norm,List.length_map,hpGet_norm,keepO_nocap] at hJ
  obtain ⟨g1,g2⟩:=hcall _ _ _ _ _ h1 (J.map fun j=>renO (idxN J) (hpGet s.hp j)) (by
   rw [List.map_map]
   exact List.map_congr_left (fun j _=>by simp only [Function.comp_apply,nocap_ren,norm,hpGet_norm]))
  refine ⟨J,_,av,o',g1,g2,(pairs_ok _ hnd).imp (fun h e=>by simp [e] at h),by simp,fun t j o ht ho=>?_, ?_,fun a o hao=>?_⟩
  ·rw [List.getElem?_map,ht] at ho
   simp at ho
   subst ho
   have hm:=hJ j (List.mem_of_getElem? ht)
   rw [rtO _ hm.2,hpGet,List.getD_eq_getElem?_getD,List.getElem?_eq_getElem hm.1]
   rfl
  ·rw [List.map_map]
   conv=>lhs;rw [← List.map_id avs]
   exact List.map_congr_left (fun v hv=>(rtV v (List.all_eq_true.1 hav v hv)).symm)
  ·obtain ⟨rfl,rfl⟩:=hao
   rw [after_norm];exact h2
 ·cases h
theorem wants_ok {gd:Option (Nat × Bool)} {b:Bool} (h:wants G (norm s) gd=some b):(b=true→gOK G s gd)∧(b=false→gNo G s gd):=by
 cases gd with
 | none=>simp [wants] at h;subst h;exact ⟨fun _=>trivial,fun h=>by cases h⟩
 | some q=>
  obtain ⟨g,c⟩:=q
  simp only [wants,norm] at h
  split at h
  ·rename_i hv
   injection h with h;subst h
   exact ⟨fun h=>by (cases h),fun _=>.inr hv⟩
  ·obtain ⟨d,h1,h2⟩:=Option.map_eq_some_iff.1 h
   refine ⟨fun hb=>?_,fun hb=>.inl ?_⟩
   ·subst hb;simp at h2;subst h2;exact h1
   ·subst hb;simp at h2;rw [h1];cases c<;>cases d<;>simp_all
theorem WR.cons {o:AOp} {rest:List AOp} (h:WR P G k [o] (fun s=>WR P G k rest Q s) s):WR P G k (o::rest) Q s:=by
 intro opsA l hc F γ a w hi hs hg hk QE hq
 obtain ⟨oper,l',rfl,h1,h2,h3,h4⟩:=compile_cons hc
 have hc1:compileOps P opsA [oper]=some [o]:=by
  simp [compileOps,compileOpr,h1,h2,h3]
 have:=h opsA [oper] hc1 F γ a w hi hs hg hk (fun e a w=>match e with | .normal=>wpList P opsA QE l' a w | e=>QE e a w)
  (fun a' w' F' γ' s' hR hE hI hS hk'=>hR opsA l' h4 F' γ' a' w' hI hS (hg.sub hE.sub) hk' QE (fun a'' w'' F'' γ'' s'' q1 q2 q3 q4 q5=>hq a'' w'' F'' γ'' s'' q1 (hE.trans q2) q3 q4 q5))
 simp only [wpList] at this ⊢
 split
 ·rename_i hw
  rw [if_pos hw] at this
  rcases this with h1 | ⟨h1,a',w',h2⟩
  ·exact .inl (wpQ (fun e a w hne h=>by cases e<;>first | exact absurd rfl hne | exact h) h1)
  ·exact .inr ⟨h1,a',w',h2⟩
 ·rename_i hw
  rw [if_neg hw] at this
  exact this
theorem evOp_ok {call:CallT} (hcall:CallOK P G call) {o:AOp} {st':AS} (hg:gOK G s o.guard) (h:evOp call G o (norm s)=some st') (hK:∀ s',norm s'=st'→K s'):WR P G k [o] K s:=by
 refine WR.guard hg rfl ?_
 unfold evOp at h
 split at h
 ·rename_i f args hai
  rw [hai]
  obtain ⟨s1,hgh,hn⟩:=frzIds_ok (k:=k) (args.flatMap fun x=>bldsOf (evA G (norm s).sl x)) s
  simp only at h
  rw [← hn] at h
  obtain ⟨J,objs,av,o',g1,g2,g3,g4,g5,g6,g7⟩:=evCall_ok hcall h
  refine WR.ghost hgh (WR.call (o:=⟨o.dst,.call f args,none⟩) trivial rfl g2 g3 g4 g5 g6 (fun a o hao=>WR.nil (hK _ (g7 a o hao))))
 ·rename_i x args hai
  rw [hai]
  obtain ⟨s1,hgh,hn⟩:=frzIds_ok (k:=k) (args.flatMap fun x=>bldsOf (evA G (norm s).sl x)) s
  simp only at h
  rw [← hn] at h
  split at h
  ·rename_i f caps hx
   obtain ⟨J,objs,av,o',g1,g2,g3,g4,g5,g6,g7⟩:=evCall_ok hcall h
   exact WR.ghost hgh (WR.callv (o:=⟨o.dst,.callv x args,none⟩) trivial rfl hx g1 g2 g3 g4 g5 g6 (fun a o hao=>WR.nil (hK _ (g7 a o hao))))
  ·cases h
 ·rename_i size len zero ps hai
  obtain ⟨s1,hgh,hn⟩:=frzIds_ok (k:=k) (ps.flatMap fun p=>bldsOf (evA G (norm s).sl p.2)) s
  rw [← hn] at h
  exact WR.ghost hgh (EffI.run (o:=⟨o.dst,o.ai,none⟩) trivial (evI_eff h hK))
 ·exact EffI.run (o:=⟨o.dst,o.ai,none⟩) trivial (evI_eff h hK)
theorem evOps_ok {call:CallT} (hcall:CallOK P G call):∀ (ops:List AOp) (s:AS) (st':AS),evOps call G ops (norm s)=some st'→WR P G k ops (fun s'=>norm s'=st') s
 | [],s,st',h=>by simp [evOps] at h;exact WR.nil h
 | o::l,s,st',h=>by
  simp only [evOps] at h
  obtain ⟨b,hb,h⟩:=Option.bind_eq_some_iff.1 h
  have hw:=wants_ok hb
  split at h
  ·rename_i hbt
   split at h
   ·obtain ⟨v,hv,h⟩:=Option.bind_eq_some_iff.1 h
    rw [fP_eq] at h
    rw [evF_eq,evP_norm] at hv
    exact WR.pur (hw.1 hbt) hv (evOps_ok hcall l ⟨putS s.sl o.dst v,s.hp⟩ st' h)
   ·obtain ⟨s1,h1,h⟩:=Option.bind_eq_some_iff.1 h
    rw [fS_eq] at h
    exact WR.cons (evOp_ok hcall (hw.1 hbt) h1 (fun s' hs'=>evOps_ok hcall l s' st' (by rw [hs'];exact h)))
  ·rename_i hbf
   rw [fP_eq] at h
   exact WR.skip (hw.2 (by simpa using hbf)) (evOps_ok hcall l ⟨putS s.sl o.dst (.tup []),s.hp⟩ st' h)
mutual
theorem rnC {ρ:Nat→Nat}:(c:Cel)→c.keep (fun _=>true)=true→renC ρ c=c
 | .ptr id o,h=>by simp [Cel.keep] at h
 | .bld id o,h=>by simp [Cel.keep] at h
 | .ept id i z o,h=>by simp [Cel.keep] at h
 | .bls id i z o,h=>by simp [Cel.keep] at h
 | .fn f caps,h=>by simp only [renC,rnL caps (by simpa [Cel.keep] using h)]
 | .dc d,h=>rfl
 | .ref cs,h=>rfl
 | .mpc es,h=>rfl
 | .junk,h=>rfl
theorem rnL {ρ:Nat→Nat}:(cs:List Cel)→keepL (fun _=>true) cs=true→renL ρ cs=cs
 | [],h=>rfl
 | c::cs,h=>by
  simp only [keepL,Bool.and_eq_true] at h
  simp only [renL,rnC c h.1,rnL cs h.2]
end
theorem rnT {ρ:Nat→Nat} (t:TV) (h:keepT (fun _=>true) t=true):renT ρ t=t:=by
 cases t with
 | one c=>simp only [renT,rnC c h]
 | agg cs=>simp only [renT,← renL_map,rnL cs h]
theorem rnV {ρ:Nat→Nat} (v:AV) (h:keepV (fun _=>true) v=true):renV ρ v=v:=by
 cases v with
 | one c=>simp only [renV,rnC c h]
 | agg cs=>simp only [renV,← renL_map,rnL cs h]
 | tup l=>
  simp only [renV]
  congr 1
  conv=>rhs;rw [← List.map_id l]
  exact List.map_congr_left (fun t ht=>rnT t (List.all_eq_true.1 h t ht))
 | junk=>rfl
theorem keepL_all {p:Nat→Bool}:∀ (cs:List Cel),keepL p cs=true→cs.map (killC p)=cs
 | [],_=>rfl
 | c::cs,h=>by
  simp only [keepL,Bool.and_eq_true] at h
  rw [List.map_cons,keepL_all cs h.2]
  simp [killC,h.1]
theorem killV_keep {p:Nat→Bool} {v:AV} (h:keepV p v=true):killV p v=v:=by
 cases v with
 | one c=>simp only [keepV] at h;simp [killV,killC,h]
 | agg cs=>simp only [killV,keepL_all cs h]
 | tup l=>
  simp only [killV]
  congr 1
  conv=>rhs;rw [← List.map_id l]
  exact List.map_congr_left (fun t ht=>by
   have:=List.all_eq_true.1 h t ht
   cases t with
   | one c=>simp only [keepT] at this;simp [killT,killC,this]
   | agg cs=>simp only [killT,keepL_all cs this,id_eq])
 | junk=>rfl
theorem killO_keep {p:Nat→Bool} {o:AObj} (h:keepO p o=true):killO p o=o:=by
 cases o with
 | box cs=>simp only [killO,keepL_all cs h]
 | _=>rfl
theorem AC.gh {f:FuncId} {args:List AV} {objs:List AObj} {R R':AV→List AObj→Prop} (h:AC P G f args objs R)
  (hq:∀ av o,R av o→objs.length≤o.length→∃ av' o',Gh objs.length ⟨[av],o⟩ ⟨[av'],o'⟩∧objs.length≤o'.length∧R' av' o'):AC P G f args objs R':=by
 intro F γ vs w hi hg hv
 refine (h F γ vs w hi hg hv).mono ?_
 rintro e w' ⟨r,av,o,F',γ',rfl,hQ,hl,hE,hI,hR⟩
 obtain ⟨av',o',hgh,hl',hq'⟩:=hq av o hQ hl
 obtain ⟨F'',γ'',hE2,hI2,hS2,hk2⟩:=hgh F' γ' { tmps:=#[r],defers:=[] } w' hI ⟨rfl,rfl,fun i a v h1 h2=>by
  cases i with
  | zero=>simp at h1 h2;subst h1;subst h2;exact hR
  | succ i=>simp at h1⟩ (by rw [hI.len];exact hl)
 exact ⟨r,av',o',F'',γ'',rfl,hq',hl',hE.trans hE2,hI2,hS2.2.2 0 av' r rfl rfl⟩
theorem frzIds_len:∀ (ids:List Nat) (st:AS),(frzIds ids st).sl.length=st.sl.length
 | [],st=>rfl
 | id::r,st=>by
  simp only [frzIds]
  split
  ·rw [frzIds_len r];simp
  ·exact frzIds_len r st
theorem evQ_ok {call:CallT} (hcall:CallOK P G call) {o:AOp} {v:AV} (h:evQ call G o (norm s)=some v):
  ∃ f args cargs r,o.ai=.call f args∧QC P G f cargs r∧∀ n,args.map (evA G s.sl)=cargs.map (renV (jmap [] n))∧v=renV (jmap [] n) r:=by
 unfold evQ at h
 split at h
 ·rename_i f args hai
  split at h
  ·rename_i hka
   obtain ⟨⟨av,o'⟩,h1,h⟩:=Option.bind_eq_some_iff.1 h
   simp only at h
   split at h
   ·rename_i hkv
    injection h with h
    obtain ⟨_,g2⟩:=hcall _ _ _ _ _ h1 [] rfl
    refine ⟨f,args,args.map (evA G s.sl),v,hai,g2.gh (fun a o ⟨h3,h4⟩ _=>?_),fun n=>⟨?_, ?_⟩⟩
    ·subst h3
     obtain ⟨s1,hgh,hn⟩:=frzIds_ok (k:=0) (idsV a) ⟨[a],o⟩
     have hn':norm s1=frzIds (idsV a) ⟨[a],o'⟩:=by rw [hn];simp only [norm,h4]
     have hlen:s1.sl.length=1:=by
      have:=congrArg (fun q=>q.sl.length) hn'
      simp only [norm,frzIds_len] at this
      simpa using this
     obtain ⟨y,hy⟩:=List.length_eq_one_iff.1 hlen
     have hgd:=Gh.drop (k:=0) (as:=s1) 0 (Nat.le_refl _)
     refine ⟨v,[], ?_,Nat.zero_le _,rfl,rfl⟩
     have hv:v=killV (fun id=>decide (0≤id)) y:=by
      rw [← h,← hn']
      simp [norm,hy]
     have:=hgh.trans hgd
     rw [hy] at this
     simpa [hv] using this
    ·conv=>lhs;rw [← List.map_id (args.map (evA G s.sl))]
     exact List.map_congr_left (fun x hx=>(rnV x (List.all_eq_true.1 hka x hx)).symm)
    ·exact (rnV v (by rw [← h];exact hkv)).symm
   ·cases h
  ·cases h
 ·cases h
theorem evD_ok {call:CallT} (hcall:CallOK P G call):∀ (ops:List (Bool × AOp)) (s:AS) (st':AS),evD call G ops (norm s)=some st'→AWL P G k (fun s'=>norm s'=st') ops s
 | [],s,st',h=>by simp [evD] at h;exact h
 | (true,o)::l,s,st',h=>by
  simp only [evD] at h
  obtain ⟨c,hc,h⟩:=Option.bind_eq_some_iff.1 h
  have hw:=wants_ok hc
  cases c with
  | true=>
   simp only [if_true] at h
   obtain ⟨v,hv,h⟩:=Option.bind_eq_some_iff.1 h
   rw [fP_eq] at h
   refine ⟨v,.inr ⟨hw.1 rfl, ?_⟩,evD_ok hcall l ⟨putS s.sl o.dst v,s.hp⟩ st' h⟩
   split at hv
   ·have e:(⟨(norm s).sl,qhp o.ai (norm s).hp⟩:AS)=norm ⟨s.sl,qhp o.ai s.hp⟩:=by cases o.ai<;>rfl
    rw [evF_eq,e,evP_norm] at hv;exact .inl hv
   ·exact .inr (evQ_ok hcall hv)
  | false=>
   simp only [Bool.false_eq_true,if_false,fP_eq] at h
   exact WD.skip (hw.2 rfl) (evD_ok hcall l ⟨putS s.sl o.dst (.tup []),s.hp⟩ st' h)
 | (false,o)::l,s,st',h=>by
  simp only [evD] at h
  obtain ⟨c,hc,h⟩:=Option.bind_eq_some_iff.1 h
  have hw:=wants_ok hc
  cases c with
  | true=>
   simp only [if_true,Bool.false_eq_true,if_false] at h
   obtain ⟨s1,h1,h⟩:=Option.bind_eq_some_iff.1 h
   rw [fS_eq] at h
   have hK:∀ s',norm s'=s1→AWL P G k (fun s'=>norm s'=st') l s':=fun s' hs'=>evD_ok hcall l s' st' (by rw [hs'];exact h)
   split at h1
   ·rename_i f args hai
    obtain ⟨v,hv,h2⟩:=Option.map_eq_some_iff.1 h1
    obtain ⟨f',args',cargs,r,g1,g2,g3⟩:=evQ_ok hcall hv
    refine .inr ⟨hw.1 rfl, ?_⟩
    rw [g1]
    refine ⟨_,CallA.of g2 (g3 _).1,⟨_,_,r,[],⟨rfl,rfl⟩,rfl,rfl⟩, ?_⟩
    rintro av os ⟨av0,os0,⟨rfl,rfl⟩,rfl,rfl⟩
    rw [← (g3 s.hp.length).2]
    refine hK _ ?_
    rw [← h2]
    simp [norm]
   ·rename_i x args hai
    exact WD.any (hw.1 rfl) (by rw [hai];trivial) (evOp_ok hcall (o:=⟨o.dst,o.ai,none⟩) trivial h1 hK)
   ·exact .inr ⟨hw.1 rfl,evI_eff h1 hK⟩
  | false=>
   simp only [Bool.false_eq_true,if_false,fP_eq] at h
   exact WD.skip (hw.2 rfl) (evD_ok hcall l ⟨putS s.sl o.dst (.tup []),s.hp⟩ st' h)
theorem AWL.mono {R R':AS→Prop} (hr:∀ s,R s→R' s):∀ (ops:List (Bool × AOp)) (s:AS),AWL P G k R ops s→AWL P G k R' ops s
 | [],s,h=>hr s h
 | (true,o)::l,s,h=>by obtain ⟨v,hv,h⟩:=h;exact ⟨v,hv,AWL.mono hr l _ h⟩
 | (false,o)::l,s,h=>Eff.mono (fun s' h'=>AWL.mono hr l s' h') h
theorem retV_norm {rs:List RetV}:retV (norm s) rs=retV s rs:=by
 have h1:∀ r,retOne (norm s) r=retOne s r:=by
  intro r
  cases r<;>simp only [retOne,norm,loadV_norm]
 have h2:retOne (norm s)=retOne s:=funext h1
 unfold retV
 split<;>simp only [h2]
def TOK (P:Program) (T:Tbl):Prop:=∀ f c rs nt,T f=some (c,rs,nt)→okF P f=true∧∃ fn,P.funcs[f]?=some fn∧fn.ntmps=nt∧fn.body.bind (compileC P)=some c∧fn.results.toList.mapM (retOf P)=some rs
theorem callF_ok {T:Tbl} {run:ACode→AS→Option (Exit × AS)} (hT:TOK P T) (hrun:∀ c s e st',run c (norm s)=some (e,st')→∀ k,AW P G k c (fun e' s'=>e'=e∧norm s'=st') s):CallOK P G (callF T run):=by
 intro f args hp av o' h hp0 hhp
 subst hhp
 unfold callF at h
 split at h
 ·rename_i c rs nt hTf
  obtain ⟨ho,fn,g1,g2,g3,g4⟩:=hT f c rs nt hTf
  refine ⟨ho, ?_⟩
  obtain ⟨⟨e,s1⟩,h1,h⟩:=Option.bind_eq_some_iff.1 h
  simp only at h
  split at h
  ·rename_i hend
   simp only [Bool.and_eq_true,decide_eq_true_eq,List.length_map] at hend
   obtain ⟨v,h2,h⟩:=Option.map_eq_some_iff.1 h
   have hA:AC P G f args hp0 (fun a o=>a=v∧o.map nocap=s1.hp):=by
    refine AC.of_code g1 g2 g3 g4 ((hrun c ⟨args++List.replicate (nt - args.length) .junk,hp0⟩ e s1 (by simpa [norm] using h1) hp0.length).mono ?_)
    rintro e' s' ⟨rfl,rfl⟩
    refine ⟨?_,by simpa [norm] using hend.2,v,by rw [← retV_norm];exact h2,rfl,rfl⟩
    cases e'<;>simp [isEnd] at hend ⊢
   split at h
   ·rename_i hkeep
    injection h with h3 h4
    subst h3
    simp only [Bool.and_eq_true,List.length_map] at hkeep
    refine hA.gh (fun a o ⟨q1,q2⟩ hl=>?_)
    subst q1
    refine ⟨a,o.take hp0.length, ?_,by simp only [List.length_take];omega,rfl, ?_⟩
    ·have:=Gh.drop (k:=hp0.length) (as:=⟨[a],o⟩) hp0.length (Nat.le_refl _)
     have e1:(o.take hp0.length).map (killO fun id=>decide (hp0.length≤id))=o.take hp0.length:=by
      conv=>rhs;rw [← List.map_id (o.take hp0.length)]
      refine List.map_congr_left (fun x hx=>killO_keep ?_)
      have:=List.all_eq_true.1 hkeep.2 (nocap x) (by rw [← q2,← List.map_take];exact List.mem_map.2 ⟨x,hx,rfl⟩)
      rwa [keepO_nocap] at this
     simpa [killV_keep hkeep.1,e1] using this
    ·rw [← h4,List.map_take,q2,List.length_map]
   ·injection h with h3 h4
    subst h3;subst h4
    exact hA
  ·cases h
 ·cases h
theorem evC_ok {T:Tbl} (hT:TOK P T):∀ (n:Nat) (c:ACode) (s:AS) (e:Exit) (st':AS),evC G T n c (norm s)=some (e,st')→∀ k,AW P G k c (fun e' s'=>e'=e∧norm s'=st') s:=by
 intro n
 induction n using Nat.strongRecOn with
 | ind n0 ihs=>
  intro c s e st' h k
  cases n0 with
  | zero=>simp [evC] at h
  | succ n=>
  have ih:=ihs n (Nat.lt_succ_self n)
  have hcall:CallOK P G (callF T (evC G T n)):=callF_ok hT ih
  cases c with
  | bad=>simp only [evC] at h;cases h
  | drawnF prs ops=>simp only [evC] at h;cases h
  | drawnT t ops=>simp only [evC] at h;cases h
  | skip=>simp only [evC,Option.some.injEq,Prod.mk.injEq] at h;obtain ⟨rfl,rfl⟩:=h;exact AW.skip ⟨rfl,rfl⟩
  | ret=>simp only [evC,Option.some.injEq,Prod.mk.injEq] at h;obtain ⟨rfl,rfl⟩:=h;exact AW.ret ⟨rfl,rfl⟩
  | exit id=>simp only [evC,Option.some.injEq,Prod.mk.injEq] at h;obtain ⟨rfl,rfl⟩:=h;exact AW.exit ⟨rfl,rfl⟩
  | region ops=>
   simp only [evC] at h
   obtain ⟨s1,h1,h2⟩:=Option.map_eq_some_iff.1 h
   injection h2 with h2 h3
   subst h2;subst h3
   exact AW.region ((evOps_ok hcall ops s s1 h1).mono (fun s' h=>⟨rfl,h⟩))
  | drawn ops=>
   simp only [evC] at h
   obtain ⟨s1,h1,h2⟩:=Option.map_eq_some_iff.1 h
   injection h2 with h2 h3
   subst h2;subst h3
   exact AW.drawn (AWL.mono (fun s' h=>⟨rfl,h⟩) _ _ (evD_ok hcall ops s s1 h1))
  | seq a b=>
   simp only [evC] at h
   obtain ⟨⟨e1,s1⟩,h1,h2⟩:=Option.bind_eq_some_iff.1 h
   refine AW.seq ((ih a s e1 s1 h1 k).mono ?_)
   rintro e' s' ⟨rfl,rfl⟩
   cases e' with
   | normal=>exact ih b s' e st' h2 k
   | _=>simp only [Option.some.injEq,Prod.mk.injEq] at h2;obtain ⟨rfl,rfl⟩:=h2;exact ⟨rfl,rfl⟩
  | cond c a b=>
   simp only [evC] at h
   obtain ⟨t,h1,h2⟩:=Option.bind_eq_some_iff.1 h
   refine AW.cond h1 (fun ht=>?_) (fun ht=>?_)
   ·subst ht;exact ih a s e st' h2 k
   ·subst ht;exact ih b s e st' h2 k
  | block id a=>
   simp only [evC] at h
   obtain ⟨⟨e1,s1⟩,h1,h2⟩:=Option.map_eq_some_iff.1 h
   refine AW.block ((ih a s e1 s1 h1 k).mono ?_)
   rintro e' s' ⟨rfl,rfl⟩
   cases e' with
   | exit id'=>
    simp only at h2 ⊢
    split at h2
    ·rename_i heq
     injection h2 with h2 h3
     subst h2;subst h3
     rw [if_pos heq];exact ⟨rfl,rfl⟩
    ·rename_i heq
     injection h2 with h2 h3
     subst h2;subst h3
     rw [if_neg heq];exact ⟨rfl,rfl⟩
   | _=>simp only [Prod.mk.injEq] at h2;obtain ⟨rfl,rfl⟩:=h2;exact ⟨rfl,rfl⟩
  | loop a=>
   refine AW.loop (α:=Nat) (fun m s'=>m≤n+1∧evC G T m (.loop a) (norm s')=some (e,st')) id (n+1) ⟨Nat.le_refl _,h⟩ (fun m s' hm=>?_)
   obtain ⟨hm,hI⟩:=hm
   cases m with
   | zero=>simp [evC] at hI
   | succ m=>
    simp only [evC] at hI
    obtain ⟨⟨e1,s1⟩,h1,h2⟩:=Option.bind_eq_some_iff.1 hI
    refine (ihs m (by omega) a s' e1 s1 h1 k).mono ?_
    rintro e' s'' ⟨rfl,rfl⟩
    cases e' with
    | normal=>exact ⟨m,⟨by omega,h2⟩,by simp⟩
    | _=>simp only [Option.some.injEq,Prod.mk.injEq] at h2;obtain ⟨rfl,rfl⟩:=h2;exact ⟨rfl,rfl⟩
end
end
section
def eqVal:Value→Value→Bool
 | .int k n,.int k' n'=>decide (k=k')&&decide (n=n')
 | .bool b,.bool b'=>b==b'
 | .string ⟨⟨l⟩⟩,.string ⟨⟨l'⟩⟩=>decide (l=l')
 | _,_=>false
def eqL {α:Type} (q:α→α→Bool):List α→List α→Bool
 | [],[]=>true
 | x::l,y::l'=>q x y&&eqL q l l'
 | _,_=>false
def eqD0:DC→DC→Bool
 | .raw v,.raw v'=>eqVal v v'
 | _,_=>false
def eqD1:DC→DC→Bool
 | .raw v,.raw v'=>eqVal v v'
 | .slc es,.slc es'=>eqL (eqL eqD0) es es'
 | _,_=>false
def eqAV:AV→AV→Bool
 | .one (.dc d),.one (.dc d')=>match d,d' with
  | .raw v,.raw v'=>eqVal v v'
  | .slc es,.slc es'=>eqL (eqL eqD1) es es'
  | _,_=>false
 | _,_=>false
def eqAVs:List AV→List AV→Bool
 | [],[]=>true
 | x::l,x'::l'=>eqAV x x'&&eqAVs l l'
 | _,_=>false
theorem eqVal_ok {v v':Value} (h:eqVal v v'=true):v=v':=by
 unfold eqVal at h
 split at h<;>simp_all
theorem eqL_ok {α:Type} {q:α→α→Bool} (hq:∀ x y,q x y=true→x=y):∀ (l l':List α),eqL q l l'=true→l=l'
 | [],[],_=>rfl
 | x::l,y::l',h=>by
  simp only [eqL,Bool.and_eq_true] at h
  rw [hq x y h.1,eqL_ok hq l l' h.2]
 | [],_::_,h=>by simp [eqL] at h
 | _::_,[],h=>by simp [eqL] at h
theorem eqD0_ok (d d':DC) (h:eqD0 d d'=true):d=d':=by
 cases d<;>cases d'<;>simp only [eqD0,Bool.false_eq_true] at h
 rw [eqVal_ok h]
theorem eqD1_ok (d d':DC) (h:eqD1 d d'=true):d=d':=by
 cases d<;>cases d'<;>simp only [eqD1,Bool.false_eq_true] at h
 ·rw [eqVal_ok h]
 ·rw [eqL_ok (eqL_ok eqD0_ok) _ _ h]
theorem eqAV_ok {v v':AV} (h:eqAV v v'=true):v=v':=by
 unfold eqAV at h
 split at h
 ·split at h
  ·rw [eqVal_ok h]
  ·rw [eqL_ok (eqL_ok eqD1_ok) _ _ h]
  ·cases h
 ·cases h
theorem eqAVs_ok:∀ (l l':List AV),eqAVs l l'=true→l=l'
 | [],[],_=>rfl
 | x::l,x'::l',h=>by
  simp only [eqAVs,Bool.and_eq_true] at h
  rw [eqAV_ok h.1,eqAVs_ok l l' h.2]
 | [],_::_,h=>by simp [eqAVs] at h
 | _::_,[],h=>by simp [eqAVs] at h
def quietCall (call:CallT) (f:FuncId) (args:List AV):Option AV:=
 (call f args []).bind fun r=>
  let v:=killV (fun id=>decide (0≤id)) ((frzIds (idsV r.1) ⟨[r.1],r.2⟩).sl.getD 0 .junk)
  if keepV (fun _=>true) v then some v else none
abbrev Memo:=List (FuncId × List AV × AV)
def memoF (m:Memo):CallT:=fun f args hp=>if hp.isEmpty then (m.find? fun e=>e.1==f&&eqAVs e.2.1 args).map fun e=>(e.2.2,[]) else none
def evM (call:CallT) (G:Glob):Nat→ACode→AS→Option (Exit × AS)
 | 0,_,_=>none
 | n+1,c,st=>
  match c with
  | .skip=>some (.normal,st)
  | .ret=>some (.ret,st)
  | .exit id=>some (.exit id,st)
  | .bad=>none
  | .drawnF _ _=>none
  | .drawnT _ _=>none
  | .region ops=>(evOps call G ops st).map fun s=>(.normal,s)
  | .drawn ops=>(evD call G ops st).map fun s=>(.normal,s)
  | .seq a b=>(evM call G n a st).bind fun r=>match r.1 with
   | .normal=>evM call G n b r.2
   | e=>some (e,r.2)
  | .cond c a b=>(asBool? (evA G st.sl c)).bind fun t=>if t then evM call G n a st else evM call G n b st
  | .block id a=>(evM call G n a st).map fun r=>match r.1 with
   | .exit id'=>if id'=id then (.normal,r.2) else (.exit id',r.2)
   | e=>(e,r.2)
  | .loop a=>(evM call G n a st).bind fun r=>match r.1 with
   | .normal=>evM call G n (.loop a) r.2
   | e=>some (e,r.2)
section
variable {P:Program} {G:Glob} {k:Nat}
theorem QC.quiet {call:CallT} (hcall:CallOK P G call) {f:FuncId} {args:List AV} {v:AV} (h:quietCall call f args=some v):QC P G f args v:=by
 unfold quietCall at h
 obtain ⟨⟨av,o'⟩,h1,h⟩:=Option.bind_eq_some_iff.1 h
 simp only at h
 split at h
 ·rename_i hkv
  injection h with h
  obtain ⟨_,g2⟩:=hcall _ _ _ _ _ h1 [] rfl
  refine g2.gh (fun a o ⟨h3,h4⟩ _=>?_)
  subst h3
  obtain ⟨s1,hgh,hn⟩:=frzIds_ok (k:=0) (idsV a) ⟨[a],o⟩
  have hn':norm s1=frzIds (idsV a) ⟨[a],o'⟩:=by rw [hn];simp only [norm,h4]
  have hlen:s1.sl.length=1:=by
   have:=congrArg (fun q=>q.sl.length) hn'
   simp only [norm,frzIds_len] at this
   simpa using this
  obtain ⟨y,hy⟩:=List.length_eq_one_iff.1 hlen
  have hgd:=Gh.drop (k:=0) (as:=s1) 0 (Nat.le_refl _)
  refine ⟨v,[], ?_,Nat.zero_le _,rfl,rfl⟩
  have hv:v=killV (fun id=>decide (0≤id)) y:=by
   rw [← h,← hn']
   simp [norm,hy]
  have:=hgh.trans hgd
  rw [hy] at this
  simpa [hv] using this
 ·cases h
theorem QC.run {T:Tbl} (hT:TOK P T) (n:Nat) {f:FuncId} {args:List AV} {v:AV} (h:quietCall (callF T (evC G T n)) f args=some v):QC P G f args v:=
 QC.quiet (callF_ok hT (evC_ok hT n)) h
theorem memo_ok {m:Memo} (h:∀ e∈m,okF P e.1=true∧QC P G e.1 e.2.1 e.2.2):CallOK P G (memoF m):=by
 intro f args hp av o' hf hp0 hhp
 unfold memoF at hf
 split at hf
 ·rename_i he
  obtain ⟨e,h1,h2⟩:=Option.map_eq_some_iff.1 hf
  injection h2 with h2 h3
  have hm:=h e (List.mem_of_find?_eq_some h1)
  have hq:=List.find?_some h1
  simp only [Bool.and_eq_true,beq_iff_eq] at hq
  obtain ⟨hq1,hq2⟩:=hq
  have hq2:=eqAVs_ok _ _ hq2
  subst hq1;subst hq2;subst h2;subst h3
  have hnil:hp0=[]:=by
   rw [← hhp] at he
   simpa using he
  subst hnil
  refine ⟨hm.1, ?_⟩
  have:=hm.2
  refine AC.gh this (fun a o ho _=>⟨a,o,Gh.refl,Nat.zero_le _,ho.1,by rw [ho.2];rfl⟩)
 ·cases hf
theorem evM_ok {call:CallT} (hcall:CallOK P G call):∀ (n:Nat) (c:ACode) (s:AS) (e:Exit) (st':AS),evM call G n c (norm s)=some (e,st')→∀ k,AW P G k c (fun e' s'=>e'=e∧norm s'=st') s:=by
 intro n
 induction n using Nat.strongRecOn with
 | ind n0 ihs=>
  intro c s e st' h k
  cases n0 with
  | zero=>simp [evM] at h
  | succ n=>
  have ih:=ihs n (Nat.lt_succ_self n)
  cases c with
  | bad=>simp only [evM] at h;cases h
  | drawnF prs ops=>simp only [evM] at h;cases h
  | drawnT t ops=>simp only [evM] at h;cases h
  | skip=>simp only [evM,Option.some.injEq,Prod.mk.injEq] at h;obtain ⟨rfl,rfl⟩:=h;exact AW.skip ⟨rfl,rfl⟩
  | ret=>simp only [evM,Option.some.injEq,Prod.mk.injEq] at h;obtain ⟨rfl,rfl⟩:=h;exact AW.ret ⟨rfl,rfl⟩
  | exit id=>simp only [evM,Option.some.injEq,Prod.mk.injEq] at h;obtain ⟨rfl,rfl⟩:=h;exact AW.exit ⟨rfl,rfl⟩
  | region ops=>
   simp only [evM] at h
   obtain ⟨s1,h1,h2⟩:=Option.map_eq_some_iff.1 h
   injection h2 with h2 h3
   subst h2;subst h3
   exact AW.region ((evOps_ok hcall ops s s1 h1).mono (fun s' h=>⟨rfl,h⟩))
  | drawn ops=>
   simp only [evM] at h
   obtain ⟨s1,h1,h2⟩:=Option.map_eq_some_iff.1 h
   injection h2 with h2 h3
   subst h2;subst h3
   exact AW.drawn (AWL.mono (fun s' h=>⟨rfl,h⟩) _ _ (evD_ok hcall ops s s1 h1))
  | seq a b=>
   simp only [evM] at h
   obtain ⟨⟨e1,s1⟩,h1,h2⟩:=Option.bind_eq_some_iff.1 h
   refine AW.seq ((ih a s e1 s1 h1 k).mono ?_)
   rintro e' s' ⟨rfl,rfl⟩
   cases e' with
   | normal=>exact ih b s' e st' h2 k
   | _=>simp only [Option.some.injEq,Prod.mk.injEq] at h2;obtain ⟨rfl,rfl⟩:=h2;exact ⟨rfl,rfl⟩
  | cond c a b=>
   simp only [evM] at h
   obtain ⟨t,h1,h2⟩:=Option.bind_eq_some_iff.1 h
   refine AW.cond h1 (fun ht=>?_) (fun ht=>?_)
   ·subst ht;exact ih a s e st' h2 k
   ·subst ht;exact ih b s e st' h2 k
  | block id a=>
   simp only [evM] at h
   obtain ⟨⟨e1,s1⟩,h1,h2⟩:=Option.map_eq_some_iff.1 h
   refine AW.block ((ih a s e1 s1 h1 k).mono ?_)
   rintro e' s' ⟨rfl,rfl⟩
   cases e' with
   | exit id'=>
    simp only at h2 ⊢
    split at h2
    ·rename_i heq
     injection h2 with h2 h3
     subst h2;subst h3
     rw [if_pos heq];exact ⟨rfl,rfl⟩
    ·rename_i heq
     injection h2 with h2 h3
     subst h2;subst h3
     rw [if_neg heq];exact ⟨rfl,rfl⟩
   | _=>simp only [Prod.mk.injEq] at h2;obtain ⟨rfl,rfl⟩:=h2;exact ⟨rfl,rfl⟩
  | loop a=>
   refine AW.loop (α:=Nat) (fun m s'=>m≤n+1∧evM call G m (.loop a) (norm s')=some (e,st')) id (n+1) ⟨Nat.le_refl _,h⟩ (fun m s' hm=>?_)
   obtain ⟨hm,hI⟩:=hm
   cases m with
   | zero=>simp [evM] at hI
   | succ m=>
    simp only [evM] at hI
    obtain ⟨⟨e1,s1⟩,h1,h2⟩:=Option.bind_eq_some_iff.1 hI
    refine (ihs m (by omega) a s' e1 s1 h1 k).mono ?_
    rintro e' s'' ⟨rfl,rfl⟩
    cases e' with
    | normal=>exact ⟨m,⟨by omega,h2⟩,by simp⟩
    | _=>simp only [Option.some.injEq,Prod.mk.injEq] at h2;obtain ⟨rfl,rfl⟩:=h2;exact ⟨rfl,rfl⟩
def oneT (f:FuncId) (c:ACode) (rs:List RetV) (nt:Nat):Tbl:=fun g=>if g=f then some (c,rs,nt) else none
theorem QC.memo {m:Memo} (hm:∀ e∈m,okF P e.1=true∧QC P G e.1 e.2.1 e.2.2) (n:Nat) {T:Tbl} (hT:TOK P T) {f:FuncId} {c:ACode} {rs:List RetV} {nt:Nat} (hf:T f=some (c,rs,nt)) {args:List AV} {v:AV}
  (h:quietCall (callF (oneT f c rs nt) (evM (memoF m) G n)) f args=some v):QC P G f args v:=by
 refine QC.quiet (callF_ok (T:=oneT f c rs nt) (fun g c' rs' nt' hg=>?_) (evM_ok (memo_ok hm) n)) h
 unfold oneT at hg
 split at hg
 ·rename_i he
  subst he
  injection hg with hg;injection hg with h1 hg;injection hg with h2 h3
  subst h1;subst h2;subst h3
  exact hT _ _ _ _ hf
 ·cases hg
end
end
section
open Go.ChangeShapes Go.WideShapes Go.ChangeAt Go.RowKit
section
variable {H:Type} {enc:TypeId × Value→H} {P:Program} {G:Glob}
def allF (W:World):Fz:=fun b=>W.heap[b]?
theorem inv_all (W:World):Inv (allF W) [] [] W:=⟨fun _ _ h=>h,rfl,fun i _ _ h=>by simp [blkAt] at h,fun i _ h=>by simp [blkAt] at h,fun i _ _ h=>by simp at h⟩
theorem below_ext {W W':World} {k:Nat} {F':Fz} {γ':List OI} (h:Ext k (allF W) [] W F' γ' W'):Below W.heap.size W W':=
 ⟨h.os,h.tape,h.output,h.size,fun b hb=>h.far b hb (fun i h=>by simp [blkAt] at h)⟩
theorem law_calls {f:FuncId} {avs:List AV} {args:Array Value} {W:World} (hq:QC P G f avs (vb true)) (hg:GlobOK (allF W) G) (ha:argsOK (allF W) [] avs args):
  Calls P f args W fun e W'=>e=.returned (.bool true)∧Below W.heap.size W W':=by
 refine (hq (allF W) [] args W (inv_all W) hg ha).mono ?_
 rintro e W' ⟨r,av,o,F',γ',rfl,⟨rfl,rfl⟩,_,hE,hI,hR⟩
 exact ⟨by rw [rv_raw hR],below_ext hE⟩
theorem trodAll_stays (hl:laidOutB P=true) {W W':World} {sp':Nat→Bool}:∀ {ts:List TypeId} {vs:List Value} {ds:List (DataW H)} {ps:List MemPlace},(∀ t∈ts,P.readableRec t=true∧t < P.types.size)→
  DataW.TrodAll enc P W 0 (fun _=>true) true ts vs ds ps→(∀ x∈ps,W.sameAt W' x)→(∀ x∈ps,sp' x.block=true)→DataW.TrodAll enc P W' 0 sp' true ts vs ds ps
 | [],vs,ds,ps,_,h,_,_=>by
  obtain ⟨rfl,rfl,rfl⟩:=trodAll_nil h
  exact h
 | t::ts,vs,ds,ps,ht,h,hs,hp=>by
  obtain ⟨v,vs',d,ds',p,q,rfl,rfl,rfl,h1,h2⟩:=trodAll_cons h
  exact ⟨p,q,WideElems.Trod_stays hl (ht t List.mem_cons_self).1 (ht t List.mem_cons_self).2 h1 (fun x hx=>hs x (List.mem_append_left _ hx)) (fun x hx=>hp x (List.mem_append_left _ hx)),
   trodAll_stays hl (fun t h=>ht t (List.mem_cons_of_mem _ h)) h2 (fun x hx=>hs x (List.mem_append_right _ hx)) (fun x hx=>hp x (List.mem_append_right _ hx)),rfl⟩
theorem post_true {f:Func} {s:ChangeSpec} {apart fresh handsOn again:Bool} {W W':World} {args:Array Value} {ds gs:List (DataW H)} {before:List MemPlace} {tb:TypeId}
  (hl:laidOutB P=true) (hts:∀ t∈f.params.toList,P.readableRec t=true∧t < P.types.size) (hvs:s.vars=[]) (hrt:f.resultTypes=#[tb]) (htb:P.underlying tb=some .bool)
  (hW:DataW.Whole enc P f.params.toList s.vars apart W args.toList ds gs before) (hs:s.fn H (ds++gs)={ results:=[.lit (.bool true)],args:=ds }) (hb:Below W.heap.size W W'):s.post enc P f apart fresh handsOn again W args (.bool true) W':=by
 have hlt:=fun p hp=>hW.lt (p:=p) hp
 have hW':=hW
 obtain ⟨p,q,hA,hV,hps,hz,hn⟩:=hW
 rw [hvs] at hV
 obtain ⟨rfl,rfl⟩:=trodVars_none hV
 have hpb:before=p:=by simpa using hps
 subst hpb
 have hsame:∀ x∈before,W.sameAt W' x:=fun x hx=>hb.same (hlt x hx)
 have hargs:∀ sp:Nat→Bool,(∀ p∈before,sp p.block=true)→DataW.TrodAll enc P W' 0 sp true f.params.toList args.toList (s.fn H (ds++[])).args before:=fun sp hsp=>by
  rw [hs];exact trodAll_stays hl hts hA hsame hsp
 have hres:∀ (b:Nat) (sp:Nat→Bool) (hd:Bool),DataW.TrodAll enc P W' b sp hd f.resultTypes.toList ((Value.bool true).resultList f.resultTypes.size) (s.fn H (ds++[])).results []:=fun b sp hd=>by
  rw [hs,hrt];exact trodAll_mk1 (shut_bool htb true)
 have hold:∀ p∈before,(fun b=>decide (b < W.heap.size)) p.block=true:=fun p hp=>by simpa using hlt p hp
 have hvars:∀ sp:Nat→Bool,DataW.TrodVars enc P W' sp s.vars (s.fn H (ds++[])).vars []:=fun sp=>by
  rw [hs,hvs];first | rfl | trivial | exact ⟨rfl,rfl⟩
 refine ⟨ds,[],before,[],before,[],hW',hres _ _ _,hargs _ hold,hvars _,hb.frame _,fun _=>?_⟩
 refine ⟨?_,_,_,([]++before)++[],⟨[]++before,[],trodAll_append (hargs _ (fun _ _=>rfl)) (hres _ _ _),hvars _,rfl, ?_, ?_⟩, ?_⟩
 ·exact ok_one hrt rfl (by simp [Value.okWide,htb,Cell.okWide,Cell.ok])
 ·intro b off hp
  have h1:=hz b off (by simpa using hp)
  have h2:=hsame (.cell b off) (by simpa using hp)
  have h3:=hb.block b (hlt (.cell b off) (by simpa using hp))
  simp only [World.frozen?] at h1 ⊢
  rw [h3];exact h1
 ·intro ha
  simpa using hn ha
 ·intro p hp _
  simpa using hp
end
end
section
variable {G:Glob}
theorem frz_sl:∀ (ids:List Nat) (s t:AS),s.sl=t.sl→s.hp=t.hp.map nocap→(frzIds ids s).sl=(frzIds ids t).sl
 | [],s,t,h,_=>h
 | id::r,s,t,h,hh=>by
  simp only [frzIds,hh,hpGet_norm]
  cases hpGet t.hp id with
  | arr c z es=>
   simp only [nocap]
   refine frz_sl r _ _ (by simp only [h]) ?_
   simp only [List.map_set,List.map_map,nocap]
   congr 1
   exact List.map_congr_left (fun o _=>by simp only [Function.comp_apply,nocap_kill,frzO_nocap])
  | box cs=>exact frz_sl r _ _ h hh
  | dead=>exact frz_sl r _ _ h hh
theorem QC.frz {P:Program} {f:FuncId} {args:List AV} {v:AV} {R:AV→List AObj→Prop} (h:AC P G f args [] R)
  (hR:∀ av o,R av o→killV (fun id=>decide (0≤id)) ((frzIds (idsV av) ⟨[av],o⟩).sl.getD 0 .junk)=v):QC P G f args v:=by
 refine h.gh (fun a o ho _=>?_)
 obtain ⟨s1,hgh,hn⟩:=frzIds_ok (k:=0) (idsV a) ⟨[a],o⟩
 have hnn:(frzIds (idsV a) (norm ⟨[a],o⟩)).sl=(frzIds (idsV a) ⟨[a],o⟩).sl:=frz_sl (idsV a) _ _ rfl rfl
 have hsl:s1.sl=(frzIds (idsV a) ⟨[a],o⟩).sl:=by rw [← hnn,← hn];rfl
 have hlen:s1.sl.length=1:=by rw [hsl,frzIds_len];rfl
 obtain ⟨y,hy⟩:=List.length_eq_one_iff.1 hlen
 have hgd:=Gh.drop (k:=0) (as:=s1) 0 (Nat.le_refl _)
 refine ⟨v,[], ?_,Nat.zero_le _,rfl,rfl⟩
 have hv:v=killV (fun id=>decide (0≤id)) y:=by rw [← hR a o ho,← hsl,hy];rfl
 have:=hgh.trans hgd
 rw [hy] at this
 simpa [hv] using this
theorem QC.drop {P:Program} {f:FuncId} {args:List AV} {v:AV} (h:AC P G f args [] fun av _=>av=v) (hk:killV (fun id=>decide (0≤id)) v=v):QC P G f args v:=by
 refine h.gh (fun a o ho _=>?_)
 subst ho
 refine ⟨a,[], ?_,Nat.zero_le _,rfl,rfl⟩
 have:=Gh.drop (k:=0) (as:=⟨[a],o⟩) 0 (Nat.le_refl _)
 simp only [List.map_cons,List.map_nil,hk,List.take_zero] at this
 exact this
theorem AC.drop {P:Program} {f:FuncId} {args:List AV} {objs:List AObj} {Q:AV→List AObj→Prop}
  (h:AC P G f args objs fun av o=>Q (killV (fun id=>decide (objs.length≤id)) av) ((o.take objs.length).map (killO fun id=>decide (objs.length≤id)))):AC P G f args objs Q:=by
 refine h.gh (fun a o ho hl=>⟨_,_,(show Gh objs.length ⟨[a],o⟩ _ from Gh.drop objs.length (Nat.le_refl _)),by simp only [List.length_map,List.length_take];omega,ho⟩)
end
section
section
variable {P:Program} {G:Glob} {k:Nat} {st st':AS} {R:AS→Prop}
structure Flat (o:AObj):Prop where
 ren:∀ ρ,renO ρ o=o
 kill:∀ p,killO p o=o
theorem Flat.arr (cap size:Nat) (es:List (List DC)):Flat (.arr cap size es):=⟨fun _=>rfl,fun _=>rfl⟩
theorem Flat.dcs (ds:List DC):Flat (.box (dcC ds)):=by
 constructor<;>intro p<;>simp only [renO,killO,dcC,List.map_map]<;>congr 1
theorem after_boxO {dst:Option Nat} {av:AV} {o:AObj} {j:Nat} (h:isBoxO (hpGet st.hp j)=true):
  afterC [j] st dst av [o]=⟨putS st.sl dst (renV (jmap [j] st.hp.length) av),st.hp.set j (renO (jmap [j] st.hp.length) o)⟩:=by
 have hp:∀ id,(([j]:List Nat).contains id&&!isBoxO (hpGet st.hp id))=false:=by
  intro id
  by_cases h0:id=j
  ·subst h0;simp [h]
  ·simp [h0]
 simp only [afterC,mapV_none hp,mapO_none hp,setJ,List.map_cons,List.map_nil,List.drop_succ_cons,List.drop_nil,List.append_nil,List.length_cons,List.length_nil]
theorem WR.callB {o:AOp} {rest:List AOp} {f:FuncId} {args:List AArg} {cargs:List AV} {j:Nat} {o0 o1:AObj} {r r':AV} (hgd:gOK G st o.guard) (ha:o.ai=.call f args)
  (hac:AC P G f cargs [o0] fun av os=>av=r∧os=[o1]) (hf0:Flat o0) (hf1:Flat o1) (hj:hpGet st.hp j=o0) (hb:isBoxO o0=true)
  (hargs:args.map (evA G st.sl)=cargs.map (renV (jmap [j] st.hp.length))) (hr:renV (jmap [j] st.hp.length) r=r')
  (hs:(⟨putS st.sl o.dst r',st.hp.set j o1⟩:AS)=st') (h:WR P G k rest R st'):WR P G k (o::rest) R st:=by
 have hnd:o0≠.dead:=by intro e;rw [e] at hb;cases hb
 refine WR.call (J:=[j]) hgd ha hac (by simp) rfl (fun t i x ht hx=>?_) hargs (fun av os hq=>?_)
 ·cases t with
  | zero=>simp at ht hx;subst ht;subst hx;rw [hf0.ren];exact hpGet_some hj hnd
  | succ t=>simp at ht
 ·obtain ⟨rfl,rfl⟩:=hq
  rw [after_boxO (by rw [hj];exact hb),hf1.ren,hr,hs]
  exact h
theorem Gh.nilB {id j:Nat} {cs:List Cel} (size:Nat) (hb:hpGet st.hp id=.box cs) (hj:cs[j]?=some (rawC (.slice none 0 0))):Gh k st ⟨st.sl,st.hp.set id (.box (cs.set j (.bld st.hp.length 0)))++[.arr 0 size []]⟩:=by
 intro F γ a w hi hs hk
 have hho:=hpGet_some hb (by simp)
 have hlt:id < st.hp.length:=lt_of_get hho
 obtain ⟨hi2,he⟩:=Inv.nilp (k:=k) size hi
 have hext:∀ (i:Nat) (o:OI),γ[i]?=some o→(γ++[OI.arr none 0])[i]?=some o:=fun _ _ h=>get_append_left h
 refine ⟨F,γ++[OI.arr none 0],he,⟨hi2.fz,by simp [hi.len],hi2.nd,hi2.disj,fun i o x h1 h2=>?_⟩,hs.ext (fun _ _ h=>h) hext,by simp;omega⟩
 by_cases hii:id=i
 ·subst hii
  rw [List.getElem?_append_left (by simpa using hlt),List.getElem?_set_self hlt] at h1
  injection h1 with h1;subst h1
  have hok:=hi2.ok id _ x (by rw [List.getElem?_append_left hlt];exact hho) h2
  cases x with
  | box b=>
   obtain ⟨vs,T,hh,hsz,hr⟩:=hok
   refine ⟨vs,T,hh,by simpa using hsz,fun m c v hc hv=>?_⟩
   by_cases hm:j=m
   ·subst hm
    rw [List.getElem?_set_self (lt_of_get hj)] at hc
    injection hc with hc;subst hc
    have h3:=hr j _ v hj hv
    cases h3 with | dc _ _ h3=>
    cases h3
    exact .bldN _ 0 (by rw [← hi.len];simp)
   ·rw [List.getElem?_set_ne hm] at hc
    exact hr m c v hc hv
  | arr b c=>exact hok.elim
  | dead=>exact hok.elim
 ·refine hi2.ok i o x ?_ h2
  by_cases hl:i < st.hp.length
  ·rw [List.getElem?_append_left (by simpa using hl),List.getElem?_set_ne hii] at h1
   rw [List.getElem?_append_left hl];exact h1
  ·rw [List.getElem?_append_right (by simpa using Nat.le_of_not_lt hl)] at h1
   rw [List.getElem?_append_right (Nat.le_of_not_lt hl)]
   simpa using h1
end
end
section
def stX (G:Glob) (st:AS) (size:Nat) (x v:AArg):Option AS:=
 match evA G st.sl x with
 | .one (.ptr id off)=>
  match cellsOf (evA G st.sl v) with
  | some vs=>
   match hpGet st.hp id with
   | .box cs=>if vs.length=size∧off+size≤cs.length then some ⟨st.sl,st.hp.set id (.box (putAt cs off vs))⟩ else none
   | _=>none
  | none=>none
 | .one (.ept id i s off)=>
  match (cellsOf (evA G st.sl v)).bind dcs with
  | some ds=>
   match hpGet st.hp id with
   | .arr cap s' es=>
    match es[i]? with
    | some e=>if s=s'∧ds.length=size∧off+size≤e.length then some ⟨st.sl,st.hp.set id (.arr cap s' (es.set i (e.take off++ds++e.drop (off+size))))⟩ else none
    | none=>none
   | _=>none
  | none=>none
 | _=>none
def zs (z:List Value):Nat→List Cel
 | 0=>[]
 | n+1=>zs z n++[rawC (z.getD (n % z.length) undef)]
def chunk (size:Nat):Nat→List DC→List (List DC)
 | 0,_=>[]
 | n+1,ds=>ds.take size::chunk size n (ds.drop size)
def bsX (G:Glob) (st:AS) (dst:Option Nat) (size len:Nat) (z:List Value) (ps:List (Nat × AArg)):Option AS:=
 match len with
 | 0=>if ps.isEmpty then some ⟨putS st.sl dst (.one (.bld st.hp.length 0)),st.hp++[.arr 0 size []]⟩ else none
 | len+1=>(fillV (zs z ((len+1) * size)) (ps.map fun (j,x)=>(j * size,size,evA G st.sl x))).bind fun cs=>(dcs cs).bind fun ds=>
   if ds.length=(len+1) * size then some ⟨putS st.sl dst (vl (chunk size (len+1) ds)),st.hp⟩ else none
def exX (G:Glob) (st:AS) (o:AOp):Option AS:=
 match o.ai with
 | .alloc z=>some ⟨putS st.sl o.dst (.one (.ptr st.hp.length 0)),st.hp++[.box (z.map rawC)]⟩
 | .box x=>(cellsOf (evA G st.sl x)).map fun cs=>⟨putS st.sl o.dst (.one (.ptr st.hp.length 0)),st.hp++[.box cs]⟩
 | .store size x v=>match o.dst with | none=>stX G st size x v | some _=>none
 | .bslc size len z ps=>bsX G st o.dst size len z ps
 | ai=>(evP G st ai).map fun v=>⟨putS st.sl o.dst v,st.hp⟩
def putX (st:AS) (d:Option Nat):Option AV→Option AS
 | some v=>some ⟨putS st.sl d v,st.hp⟩
 | none=>none
def boxX (st:AS) (d:Option Nat):Option (List Cel)→Option AS
 | some cs=>some ⟨putS st.sl d (.one (.ptr st.hp.length 0)),st.hp++[.box cs]⟩
 | none=>none
def stD (G:Glob) (st:AS) (size:Nat) (x v:AArg):Option Nat→Option AS
 | none=>stX G st size x v
 | some _=>none
def ixAo (n size:Nat) (x:AV):Option Int→Option AV
 | some i=>ixAV n size x i
 | none=>none
def ixLo (hp:List AObj) (size:Nat) (x:AV):Option Int→Option AV
 | some i=>ixLV hp size x i
 | none=>none
def ixSo (x:AV):Option Int→Option AV
 | some i=>ixSV x i
 | none=>none
def ixVo (n:Nat) (x:AV):Option Int→Option AV
 | some i=>ixVV n x i
 | none=>none
def convo (k:IntKind):Option Int→Option AV
 | some n=>some (rawV (.int k (k.wrap n)))
 | none=>none
def lenSo:Option ByteArray→Option AV
 | some s=>some (rawV (.int .i64 s.size))
 | none=>none
def aggo:Option (List Cel)→Option AV
 | some cs=>some (.agg cs)
 | none=>none
def evX (G:Glob) (sl:List AV) (hp:List AObj):AI→Option AV
 | .mov x=>some (evA G sl x)
 | .pick c a b=>pickV (evA G sl c) (evA G sl a) (evA G sl b)
 | .load g s x=>loadV hp g s (evA G sl x)
 | .bin op x y=>binV op (evA G sl x) (evA G sl y)
 | .un op x=>unV op (evA G sl x)
 | .conv k x=>convo k (asInt? (evA G sl x))
 | .addo o x=>addoV o (evA G sl x)
 | .ixA n s x i=>ixAo n s (evA G sl x) (asInt? (evA G sl i))
 | .ixL s x i=>ixLo hp s (evA G sl x) (asInt? (evA G sl i))
 | .ixS x i=>ixSo (evA G sl x) (asInt? (evA G sl i))
 | .ixV n x i=>ixVo n (evA G sl x) (asInt? (evA G sl i))
 | .s2p n x=>s2pV n (evA G sl x)
 | .build z ps=>aggo (fillV (z.map rawC) (ps.map fun (o,s,x)=>(o,s,evA G sl x)))
 | .ext x n=>extV (evA G sl x) n
 | .lenS x=>lenSo (asStr? (evA G sl x))
 | .lenL x=>lenLV (evA G sl x)
 | ai=>evP G ⟨sl,hp⟩ ai
def exY (G:Glob) (st:AS) (d:Option Nat):AI→Option AS
 | .alloc z=>some ⟨putS st.sl d (.one (.ptr st.hp.length 0)),st.hp++[.box (z.map rawC)]⟩
 | .box x=>boxX st d (cellsOf (evA G st.sl x))
 | .store size x v=>stD G st size x v d
 | .bslc size len z ps=>bsX G st d size len z ps
 | ai=>putX st d (evX G st.sl st.hp ai)
theorem evX_eq (G:Glob) (sl:List AV) (hp:List AObj) (ai:AI):evX G sl hp ai=evP G ⟨sl,hp⟩ ai:=by
 cases ai<;>first | rfl | skip
 case conv k x=>simp only [evX,evP];cases asInt? (evA G sl x)<;>rfl
 case ixA n s x i=>simp only [evX,evP];cases asInt? (evA G sl i)<;>rfl
 case ixL s x i=>simp only [evX,evP];cases asInt? (evA G sl i)<;>rfl
 case ixS x i=>simp only [evX,evP];cases asInt? (evA G sl i)<;>rfl
 case ixV n x i=>simp only [evX,evP];cases asInt? (evA G sl i)<;>rfl
 case build z ps=>simp only [evX,evP];cases fillV (z.map rawC) (ps.map fun (o,s,x)=>(o,s,evA G sl x))<;>rfl
 case lenS x=>simp only [evX,evP];cases asStr? (evA G sl x)<;>rfl
theorem exY_eq (G:Glob) (st:AS) (o:AOp):exY G st o.dst o.ai=exX G st o:=by
 obtain ⟨d,ai,g⟩:=o
 have key:putX st d (evX G st.sl st.hp ai)=(evP G st ai).map fun v=>⟨putS st.sl d v,st.hp⟩:=by
  rw [evX_eq];cases evP G st ai<;>rfl
 cases ai<;>first | rfl | exact key | skip
 case box x=>simp only [exY,exX];cases cellsOf (evA G st.sl x)<;>rfl
def AI.isCall:AI→Bool
 | .call _ _=>true
 | .callv _ _=>true
 | .app _ _ _ _ _=>true
 | .apps _ _=>true
 | .mk _ _ _ _ _=>true
 | .clr _ _ _=>true
 | .cpys _ _=>true
 | .cvsb _=>true
 | _=>false
def runX (G:Glob):List AOp→AS→Option (List AOp × AS)
 | [],st=>some ([],st)
 | o::l,st=>if o.guard=none∧o.ai.isCall=false then (exX G st o).bind fun st'=>runX G l st' else some (o::l,st)
def unG:Option (Nat × Bool)→AI→Bool
 | none,ai=>!ai.isCall
 | some _,_=>false
def runY (G:Glob):List AOp→Option AS→Option (List AOp × AS)
 | _,none=>none
 | [],some st=>some ([],st)
 | o::l,some st=>bif unG o.guard o.ai then runY G l (exY G st o.dst o.ai) else some (o::l,st)
theorem runY_none (G:Glob) (l:List AOp):runY G l none=none:=by cases l<;>rfl
theorem runY_eq (G:Glob):∀ (l:List AOp) (st:AS),runY G l (some st)=runX G l st
 | [],st=>rfl
 | o::l,st=>by
  simp only [runY,runX,exY_eq]
  obtain ⟨d,ai,g⟩:=o
  cases g with
  | some g=>simp [unG]
  | none=>
   cases hc:ai.isCall with
   | true=>simp [unG,hc]
   | false=>
    simp only [unG,hc,Bool.not_false,cond_true,true_and,if_true]
    cases exX G st ⟨d,ai,none⟩ with
    | none=>simp [runY_none]
    | some st'=>simp [runY_eq G l st']
def runGX (G:Glob) (g:Nat) (b:Bool):List AOp→AS→Option (List AOp × AS)
 | [],st=>some ([],st)
 | o::l,st=>if o.guard=some (g,b)∧o.ai.isCall=false∧o.dst≠some g then (exX G st o).bind fun st'=>runGX G g b l st' else some (o::l,st)
theorem dcs_dcC:∀ {cs:List Cel} {ds:List DC},dcs cs=some ds→cs=dcC ds
 | [],ds,h=>by simp [dcs] at h;subst h;rfl
 | .dc d::cs,ds,h=>by
  simp only [dcs] at h
  cases hc:dcs cs with
  | none=>simp_all
  | some ds'=>
   simp only [hc,Option.map_some,Option.some.injEq] at h
   subst h
   rw [dcs_dcC hc];rfl
 | .ptr _ _::cs,ds,h=>by simp [dcs] at h
 | .bld _ _::cs,ds,h=>by simp [dcs] at h
 | .ept _ _ _ _::cs,ds,h=>by simp [dcs] at h
 | .bls _ _ _ _::cs,ds,h=>by simp [dcs] at h
 | .ref _::cs,ds,h=>by simp [dcs] at h
 | .mpc _::cs,ds,h=>by simp [dcs] at h
 | .fn _ _::cs,ds,h=>by simp [dcs] at h
 | .junk::cs,ds,h=>by simp [dcs] at h
theorem zs_eq (z:List Value):∀ n,zs z n=(List.range n).map fun i=>rawC (z.getD (i % z.length) undef)
 | 0=>rfl
 | n+1=>by rw [zs,zs_eq z n,List.range_succ,List.map_append];rfl
theorem chunk_flat (size:Nat):∀ (n:Nat) (ds:List DC),ds.length=n * size→(chunk size n ds).flatten=ds∧(∀ e∈chunk size n ds,e.length=size)∧(chunk size n ds).length=n
 | 0,ds,h=>by grind[chunk]
 | n+1,ds,h=>by
  have hh:ds.length=n * size+size:=by grind
  obtain ⟨h1,h2,h3⟩:=chunk_flat size n (ds.drop size) (by grind)
  refine ⟨by simp [chunk,h1],fun e he=>?_,by simp [chunk,h3]⟩
  simp only [chunk,List.mem_cons] at he
  grind
section
variable {P:Program} {G:Glob} {k:Nat} {st st':AS} {R:AS→Prop}
theorem WR.bsX {o:AOp} {rest:List AOp} {size len:Nat} {z:List Value} {ps:List (Nat × AArg)} (hgd:gOK G st o.guard) (ha:o.ai=.bslc size len z ps)
  (h:Go.Proofs.YtmmafhopnkkeeaaGreatDoor.bsX G st o.dst size len z ps=some st') (hw:WR P G k rest R st'):WR P G k (o::rest) R st:=by
 unfold Go.Proofs.YtmmafhopnkkeeaaGreatDoor.bsX at h
 cases len with
 | zero=>
  simp only at h
  split at h
  ·rename_i he
   injection h with h;subst h
   have hps:ps=[]:=by simp_all
   subst hps
   exact WR.bslc (es:=[]) hgd ha (by simp [fillV,dcC]) (by simp) rfl hw
  ·cases h
 | succ len=>
  simp only at h
  cases hf:fillV (zs z ((len+1) * size)) (ps.map fun (j,x)=>(j * size,size,evA G st.sl x)) with
  | none=>simp_all
  | some cs=>
   simp only [hf,Option.bind_some] at h
   cases hd:dcs cs with
   | none=>simp_all
   | some ds=>
    simp only [hd,Option.bind_some] at h
    grind[chunk_flat,zs_eq,WR.bslcF,chunk,dcs_dcC]
theorem WR.stX {o:AOp} {rest:List AOp} {size:Nat} {x v:AArg} (hgd:gOK G st o.guard) (ha:o.ai=.store size x v) (hd0:o.dst=none)
  (h:Go.Proofs.YtmmafhopnkkeeaaGreatDoor.stX G st size x v=some st') (hw:WR P G k rest R st'):WR P G k (o::rest) R st:=by
 unfold Go.Proofs.YtmmafhopnkkeeaaGreatDoor.stX at h
 split at h
 ·grind[id,WR.store]
 ·rename_i id i s off hx
  split at h
  ·rename_i ds hv
   split at h
   ·rename_i cap s' es hb
    split at h
    ·rename_i e he
     split at h
     ·rename_i hc
      injection h with h;subst h
      obtain ⟨rfl,hc1,hc2⟩:=hc
      obtain ⟨cs,hcs,hdc⟩:=Option.bind_eq_some_iff.1 hv
      exact WR.storeE hgd ha hd0 hx (by grind[dcs_dcC]) hb he hc1 hc2 rfl hw
     ·cases h
    ·cases h
   ·cases h
  ·cases h
 ·cases h
theorem WR.exX {o:AOp} {rest:List AOp} (hgd:gOK G st o.guard) (hc:o.ai.isCall=false) (h:Go.Proofs.YtmmafhopnkkeeaaGreatDoor.exX G st o=some st') (hw:WR P G k rest R st'):WR P G k (o::rest) R st:=by
 obtain ⟨dst,ai,gd⟩:=o
 cases ai<;>first | (simp [AI.isCall] at hc;done) | skip
 case alloc z=>simp only [Go.Proofs.YtmmafhopnkkeeaaGreatDoor.exX,Option.some.injEq] at h;subst h;exact WR.alloc hgd rfl hw
 case box x=>
  simp only [Go.Proofs.YtmmafhopnkkeeaaGreatDoor.exX] at h
  obtain ⟨cs,h1,rfl⟩:=Option.map_eq_some_iff.1 h
  exact WR.box hgd rfl h1 hw
 case store size x v=>
  simp only [Go.Proofs.YtmmafhopnkkeeaaGreatDoor.exX] at h
  cases dst with
  | none=>exact WR.stX hgd rfl rfl h hw
  | some d=>cases h
 case bslc size len z ps=>exact WR.bsX hgd rfl h hw
 all_goals
  simp only [Go.Proofs.YtmmafhopnkkeeaaGreatDoor.exX] at h
  obtain ⟨v,h1,rfl⟩:=Option.map_eq_some_iff.1 h
  exact WR.pur hgd h1 hw
theorem exX_get {o:AOp} {g:Nat} (hc:o.ai.isCall=false) (hd:o.dst≠some g) (h:exX G st o=some st'):evA G st'.sl (.t g)=evA G st.sl (.t g):=by
 obtain ⟨dst,ai,gd⟩:=o
 cases ai<;>first | (simp [AI.isCall] at hc;done) | skip
 case alloc z=>grind[exX,Option.some.injEq,evA_put]
 case box x=>
  simp only [exX] at h
  obtain ⟨cs,h1,rfl⟩:=Option.map_eq_some_iff.1 h
  exact evA_put hd
 case store size x v=>
  simp only [exX] at h
  cases dst with
  | some d=>cases h
  | none=>
   simp only [stX] at h
   grind
 case bslc size len z ps=>
  simp only [exX,bsX] at h
  grind[evA_put,Option.bind_eq_some_iff]
 all_goals
  simp only [exX] at h
  obtain ⟨v,h1,rfl⟩:=Option.map_eq_some_iff.1 h
  exact evA_put hd
theorem WR.rX:∀ (ops:List AOp) (st:AS) (rest:List AOp) (st':AS),runX G ops st=some (rest,st')→WR P G k rest R st'→WR P G k ops R st
 | [],st,rest,st',h,hw=>by simp [runX] at h;obtain ⟨rfl,rfl⟩:=h;exact hw
 | o::ops,st,rest,st',h,hw=>by
  simp only [runX] at h
  split at h
  ·rename_i hc
   obtain ⟨s1,h1,h2⟩:=Option.bind_eq_some_iff.1 h
   exact WR.exX (by rw [hc.1];trivial) hc.2 h1 (WR.rX ops s1 rest st' h2 hw)
  ·simp_all
theorem WR.rGX {g:Nat} {b:Bool}:∀ (ops:List AOp) (st:AS) (rest:List AOp) (st':AS),asBool? (evA G st.sl (.t g))=some b→runGX G g b ops st=some (rest,st')→WR P G k rest R st'→WR P G k ops R st
 | [],st,rest,st',hb,h,hw=>by simp [runGX] at h;obtain ⟨rfl,rfl⟩:=h;exact hw
 | o::ops,st,rest,st',hb,h,hw=>by
  simp only [runGX] at h
  split at h
  ·rename_i hc
   obtain ⟨s1,h1,h2⟩:=Option.bind_eq_some_iff.1 h
   exact WR.exX (by rw [hc.1];exact hb) hc.2.1 h1 (WR.rGX ops s1 rest st' (by grind[exX_get]) h2 hw)
  ·simp_all
def nq:Nat→Nat→Bool
 | 0,0=>true
 | 0,_+1=>false
 | _+1,0=>false
 | n+1,m+1=>nq n m
theorem nq_eq:∀ a b:Nat,nq a b=(a==b)
 | 0,0=>rfl
 | 0,b+1=>by simp [nq]
 | a+1,0=>by simp [nq]
 | a+1,b+1=>by simp_all[nq,nq_eq,Bool.eq_iff_iff]
def neqO:Option Nat→Nat→Bool
 | none,_=>true
 | some d,g=>!(nq d g)
def eqb:Bool→Bool→Bool
 | true,true=>true
 | false,false=>true
 | _,_=>false
theorem neqO_eq (d:Option Nat) (g:Nat):neqO d g=decide (d≠some g):=by
 cases d with
 | none=>simp [neqO]
 | some d=>grind[neqO,nq_eq]
theorem eqb_eq (a b:Bool):eqb a b=(a==b):=by cases a<;>cases b<;>rfl
def guG (g:Nat) (b:Bool):Option (Nat × Bool)→Option Nat→AI→Bool
 | some (g',b'),d,ai=>nq g g'&&(eqb b b'&&!ai.isCall&&neqO d g)
 | none,_,_=>false
def runYG (G:Glob) (g:Nat) (b:Bool):List AOp→Option AS→Option (List AOp × AS)
 | _,none=>none
 | [],some st=>some ([],st)
 | o::l,some st=>bif guG g b o.guard o.dst o.ai then runYG G g b l (exY G st o.dst o.ai) else some (o::l,st)
theorem runYG_none (G:Glob) (g:Nat) (b:Bool) (l:List AOp):runYG G g b l none=none:=by cases l<;>rfl
theorem runYG_eq (G:Glob) (g:Nat) (b:Bool):∀ (l:List AOp) (st:AS),runYG G g b l (some st)=runGX G g b l st
 | [],st=>rfl
 | o::l,st=>by
  obtain ⟨d,ai,gd⟩:=o
  simp only [runYG,runGX]
  have e:exY G st d ai=exX G st ⟨d,ai,gd⟩:=exY_eq G st ⟨d,ai,gd⟩
  rw [e]
  have hg:guG g b gd d ai=decide (gd=some (g,b)∧ai.isCall=false∧d≠some g):=by
   cases gd with
   | none=>simp [guG]
   | some q=>
    obtain ⟨g',b'⟩:=q
    simp only [guG,neqO_eq,eqb_eq,nq_eq]
    rw [Bool.eq_iff_iff]
    simp only [Bool.and_eq_true,beq_iff_eq,Bool.not_eq_true',decide_eq_true_eq,Option.some.injEq,Prod.mk.injEq]
    constructor
    ·simp_all
    ·simp_all
  rw [hg]
  by_cases hc:gd=some (g,b)∧ai.isCall=false∧d≠some g
  ·simp only [decide_eq_true hc,cond_true,if_pos hc]
   cases exX G st ⟨d,ai,gd⟩ with
   | none=>simp [runYG_none]
   | some st'=>simp [runYG_eq G g b l st']
  ·grind
theorem WR.x1 {o:AOp} {ops rest:List AOp} (_:o.guard=none) (_:o.ai.isCall=false) (h:runY G (o::ops) (some st)=some (rest,st')) (hw:WR P G k rest R st'):WR P G k (o::ops) R st:=WR.rX _ _ _ _ (by grind[runY_eq]) hw
theorem WR.xg {o:AOp} {ops rest:List AOp} {g:Nat} {b:Bool} (_:o.guard=some (g,b)) (_:o.ai.isCall=false) (hb:asBool? (evA G st.sl (.t g))=some b) (h:runYG G g b (o::ops) (some st)=some (rest,st')) (hw:WR P G k rest R st'):WR P G k (o::ops) R st:=WR.rGX _ _ _ _ hb (by grind[runYG_eq]) hw
def offD:AI→Bool
 | .alloc _=>true
 | .box _=>true
 | .store _ _ _=>true
 | _=>false
def okXD:Bool→AI→Bool
 | true,ai=>pureD ai
 | false,ai=>offD ai
def runXD (G:Glob):List (Bool × AOp)→AS→Option (List (Bool × AOp) × AS)
 | [],st=>some ([],st)
 | (b,o)::l,st=>if o.guard=none∧okXD b o.ai=true then (exX G st o).bind fun st'=>runXD G l st' else some ((b,o)::l,st)
def runYD (G:Glob):List (Bool × AOp)→Option AS→Option (List (Bool × AOp) × AS)
 | _,none=>none
 | [],some st=>some ([],st)
 | o::l,some st=>bif unGD o.2.guard o.1 o.2.ai then runYD G l (exY G st o.2.dst o.2.ai) else some (o::l,st)
where unGD:Option (Nat × Bool)→Bool→AI→Bool
 | none,b,ai=>okXD b ai
 | some _,_,_=>false
theorem runYD_none (G:Glob) (l:List (Bool × AOp)):runYD G l none=none:=by cases l<;>rfl
theorem runYD_eq (G:Glob):∀ (l:List (Bool × AOp)) (st:AS),runYD G l (some st)=runXD G l st
 | [],st=>rfl
 | o::l,st=>by
  obtain ⟨b,d,ai,g⟩:=o
  simp only [runYD,runXD]
  have e:exY G st d ai=exX G st ⟨d,ai,g⟩:=exY_eq G st ⟨d,ai,g⟩
  rw [e]
  cases g with
  | some g=>simp [runYD.unGD]
  | none=>
   cases hc:okXD b ai with
   | false=>simp [runYD.unGD,hc]
   | true=>
    simp only [runYD.unGD,hc,cond_true,true_and,if_true]
    cases exX G st ⟨d,ai,none⟩ with
    | none=>simp [runYD_none]
    | some st'=>simp [runYD_eq G l st']
theorem exX_pure {o:AOp} (h:o.ai.isPure=true):exX G st o=(evP G st o.ai).map fun v=>⟨putS st.sl o.dst v,st.hp⟩:=by
 obtain ⟨dst,ai,gd⟩:=o
 cases ai<;>first | (simp [AI.isPure] at h;done) | rfl
theorem WD.rX:∀ (ops:List (Bool × AOp)) (st:AS) (rest:List (Bool × AOp)) (st':AS),runXD G ops st=some (rest,st')→AWL P G k R rest st'→AWL P G k R ops st
 | [],st,rest,st',h,hw=>by simp [runXD] at h;obtain ⟨rfl,rfl⟩:=h;exact hw
 | (b,o)::ops,st,rest,st',h,hw=>by
  simp only [runXD] at h
  split at h
  ·rename_i hc
   obtain ⟨s1,h1,h2⟩:=Option.bind_eq_some_iff.1 h
   have hr:=WD.rX ops s1 rest st' h2 hw
   obtain ⟨hg,hp⟩:=hc
   cases b with
   | true=>
    simp only [okXD] at hp
    rw [exX_pure (pureD_pure hp)] at h1
    obtain ⟨v,hv,rfl⟩:=Option.map_eq_some_iff.1 h1
    exact ⟨v,.inr ⟨by rw [hg];trivial,.inl (by rw [pureD_qhp hp];exact hv)⟩,hr⟩
   | false=>
    simp only [okXD] at hp
    obtain ⟨dst,ai,gd⟩:=o
    simp only at hg;subst hg
    cases ai<;>first | (grind[offD]) | skip
    case alloc z=>simp only [exX,Option.some.injEq] at h1;subst h1;exact WD.allocE trivial rfl rfl hr
    case box x=>
     simp only [exX] at h1
     obtain ⟨cs,h3,rfl⟩:=Option.map_eq_some_iff.1 h1
     exact WD.boxE trivial rfl h3 rfl hr
    case store size x v=>
     simp only [exX] at h1
     cases dst with
     | some d=>cases h1
     | none=>
      simp only [stX] at h1
      split at h1
      ·rename_i id off hx
       split at h1
       ·rename_i vs hv
        split at h1
        ·rename_i cs hb
         split at h1
         ·rename_i hc
          injection h1 with h1
          exact WD.storeX trivial rfl rfl hx hv hb hc.1 hc.2 h1 hr
         ·cases h1
        ·cases h1
       ·cases h1
      ·rename_i id i s off hx
       split at h1
       ·rename_i ds hv
        split at h1
        ·rename_i cap s' es hb
         split at h1
         ·rename_i e he
          split at h1
          ·rename_i hc
           injection h1 with h1;subst h1
           obtain ⟨rfl,hc1,hc2⟩:=hc
           obtain ⟨cs,hcs,hdc⟩:=Option.bind_eq_some_iff.1 hv
           exact .inr ⟨trivial,rfl,.inr ⟨id,i,s,off,cap,es,e,ds,hx,by rw [hcs,dcs_dcC hdc],hb,he,hc1,hc2,hr⟩⟩
          ·cases h1
         ·cases h1
        ·cases h1
       ·cases h1
      ·cases h1
  ·simp_all
theorem WD.x1 {b:Bool} {o:AOp} {ops rest:List (Bool × AOp)} (_:o.guard=none) (_:okXD b o.ai=true) (h:runYD G ((b,o)::ops) (some st)=some (rest,st')) (hw:AWL P G k R rest st'):AWL P G k R ((b,o)::ops) st:=WD.rX _ _ _ _ (by grind[runYD_eq]) hw
def guD (g:Nat) (c:Bool):Bool→Option (Nat × Bool)→Option Nat→AI→Bool
 | true,some (g',c'),d,ai=>nq g g'&&(eqb c c'&&pureD ai&&neqO d g)
 | _,_,_,_=>false
def runYE (G:Glob) (g:Nat) (c:Bool):List (Bool × AOp)→Option AS→Option (List (Bool × AOp) × AS)
 | _,none=>none
 | [],some st=>some ([],st)
 | o::l,some st=>bif guD g c o.1 o.2.guard o.2.dst o.2.ai then runYE G g c l (exY G st o.2.dst o.2.ai) else some (o::l,st)
theorem runYE_none (G:Glob) (g:Nat) (c:Bool) (l:List (Bool × AOp)):runYE G g c l none=none:=by cases l<;>rfl
theorem runYE_eq (G:Glob) (g:Nat) (c:Bool):∀ (l:List (Bool × AOp)) (st:AS),runYE G g c l (some st)=runDG G g c l st
 | [],st=>rfl
 | o::l,st=>by
  obtain ⟨b,d,ai,gd⟩:=o
  simp only [runYE,runDG]
  have hg:guD g c b gd d ai=decide (b=true∧gd=some (g,c)∧pureD ai=true∧d≠some g):=by
   cases gd with
   | none=>cases b<;>simp [guD]
   | some q=>
    obtain ⟨g',c'⟩:=q
    cases b with
    | false=>simp [guD]
    | true=>
     simp only [guD,neqO_eq,eqb_eq,nq_eq]
     rw [Bool.eq_iff_iff]
     simp only [Bool.and_eq_true,beq_iff_eq,decide_eq_true_eq,Option.some.injEq,Prod.mk.injEq,true_and]
     constructor
     ·simp_all
     ·simp_all
  rw [hg]
  by_cases hc:b=true∧gd=some (g,c)∧pureD ai=true∧d≠some g
  ·simp only [decide_eq_true hc,cond_true,if_pos hc]
   have e:exY G st d ai=exX G st ⟨d,ai,gd⟩:=exY_eq G st ⟨d,ai,gd⟩
   rw [e,exX_pure (o:=⟨d,ai,gd⟩) (pureD_pure hc.2.2.1)]
   cases evP G st ai with
   | none=>simp [runYE_none]
   | some v=>simp [runYE_eq G g c l]
  ·grind
theorem WD.xg {b:Bool} {o:AOp} {ops rest:List (Bool × AOp)} {g:Nat} {c:Bool} (_:o.guard=some (g,c)) (_:o.ai.isPure=true) (hb:asBool? (evA G st.sl (.t g))=some c) (h:runYE G g c ((b,o)::ops) (some st)=some (rest,st')) (hw:AWL P G k R rest st'):AWL P G k R ((b,o)::ops) st:=WD.runG _ _ _ _ hb (by grind[runYE_eq]) hw
def skO (g:Nat) (c:Bool):Option (Nat × Bool)→Option Nat→Bool
 | some (g',c'),d=>nq g g'&&(eqb c c'&&neqO d g)
 | none,_=>false
theorem skO_eq (g:Nat) (c:Bool) (gd:Option (Nat × Bool)) (d:Option Nat):skO g c gd d=decide (gd=some (g,c)∧d≠some g):=by
 cases gd with
 | none=>simp [skO]
 | some q=>
  obtain ⟨g',c'⟩:=q
  simp only [skO,neqO_eq,eqb_eq,nq_eq]
  grind
def skY (g:Nat) (c:Bool):List AOp→AS→List AOp × AS
 | [],st=>([],st)
 | o::l,st=>bif skO g c o.guard o.dst then skY g c l ⟨putS st.sl o.dst (.tup []),st.hp⟩ else (o::l,st)
theorem skY_eq (g:Nat) (c:Bool):∀ (l:List AOp) (st:AS),skY g c l st=skipG g c l st
 | [],st=>rfl
 | o::l,st=>by
  simp only [skY,skipG,skO_eq]
  by_cases hc:o.guard=some (g,c)∧o.dst≠some g
  ·simp_all[decide_eq_true,cond_true,if_pos,skY_eq]
  grind
def skYD (g:Nat) (c:Bool):List (Bool × AOp)→AS→List (Bool × AOp) × AS
 | [],st=>([],st)
 | o::l,st=>bif skO g c o.2.guard o.2.dst then skYD g c l ⟨putS st.sl o.2.dst (.tup []),st.hp⟩ else (o::l,st)
theorem skYD_eq (g:Nat) (c:Bool):∀ (l:List (Bool × AOp)) (st:AS),skYD g c l st=skipDG g c l st
 | [],st=>rfl
 | (b,o)::l,st=>by
  simp only [skYD,skipDG,skO_eq]
  by_cases hc:o.guard=some (g,c)∧o.dst≠some g
  ·simp_all[decide_eq_true,cond_true,if_pos,skYD_eq]
  grind
def gN (c:Bool):AV→Bool
 | .one (.dc (.raw (.bool b)))=>eqb b (!c)
 | .tup []=>true
 | _=>false
theorem gN_ok {g:Nat} {c:Bool} (h:gN c (evA G st.sl (.t g))=true):gNo G st (some (g,c)):=by
 show asBool? (evA G st.sl (.t g))=some (!c)∨evA G st.sl (.t g)=.tup []
 generalize evA G st.sl (.t g)=v at h
 unfold gN at h
 split at h
 ·rename_i b;rw [eqb_eq,beq_iff_eq] at h;subst h;exact .inl rfl
 all_goals simp_all
theorem WR.xs {o:AOp} {ops rest:List AOp} {g:Nat} {c:Bool} (_:o.guard=some (g,c)) (hb:gN c (evA G st.sl (.t g))=true) (h:skY g c (o::ops) st=(rest,st')) (hw:WR P G k rest R st'):WR P G k (o::ops) R st:=WR.skipG _ _ _ _ (gN_ok hb) (by grind[skY_eq]) hw
theorem WD.xs {b:Bool} {o:AOp} {ops rest:List (Bool × AOp)} {g:Nat} {c:Bool} (_:o.guard=some (g,c)) (hb:gN c (evA G st.sl (.t g))=true) (h:skYD g c ((b,o)::ops) st=(rest,st')) (hw:AWL P G k R rest st'):AWL P G k R ((b,o)::ops) st:=WD.skipG _ _ _ _ (gN_ok hb) (by grind[skYD_eq]) hw
end
theorem nq_d (a b:Nat):nq a b=decide (a=b):=by rw [nq_eq];rfl
attribute [go_sem] eq_self decide_true decide_false pureD nq_d neqO skO skY skYD gN runYE guD runY runYG runYD runYD.unGD unG guG cond_true cond_false exY evX stD ixAo ixLo ixSo convo lenSo aggo offD okXD stX bsX zs chunk dcs AI.isCall fillV toTV List.getElem?_cons_succ List.isEmpty_nil List.isEmpty_cons
end
section
theorem ifp {c:Prop} [Decidable c] {α:Sort _} {a b:α} (h:c):ite c a b=a:=if_pos h
theorem ifn {c:Prop} [Decidable c] {α:Sort _} {a b:α} (h:¬ c):ite c a b=b:=if_neg h
section
variable {P:Program} {G:Glob} {k:Nat} {st st':AS} {R:AS→Prop} {o:AOp} {rest:List AOp}
theorem VLe.int {k:IntKind} {a b:Int} (h:a=b):VLe (.one (.dc (.raw (.int k a)))) (.one (.dc (.raw (.int k b)))):=by subst h;exact .refl _
def junks:Nat→List AV
 | 0=>[]
 | n+1=>.junk::junks n
theorem junks_eq:∀ n,junks n=List.replicate n .junk
 | 0=>rfl
 | n+1=>by rw [junks,junks_eq n,List.replicate_succ]
theorem AC.of_codeJ {f:FuncId} {fn:Func} {n:Nat} {rs:List RetV} {ac:ACode} {args:List AV} {objs:List AObj} {Q:AV→List AObj→Prop} (hf:P.funcs[f]?=some fn) (hn:fn.ntmps=n)
  (hc:fn.body.bind (compileC P)=some ac) (hr:fn.results.toList.mapM (retOf P)=some rs)
  (h:AW P G objs.length ac (Fin objs.length rs Q) ⟨args++junks (n - args.length),objs⟩):AC P G f args objs Q:=AC.of_codeF hf hn hc hr (by rw [← junks_eq];exact h)
def nzC:Cel→Cel
 | .dc (.raw (.slice none 0 0))=>.dc (.slc [])
 | .dc (.ptr cs)=>.ref cs
 | c=>c
def nzT:TV→TV
 | .one c=>.one (nzC c)
 | .agg cs=>.agg (cs.map nzC)
def nzV:AV→AV
 | .one c=>.one (nzC c)
 | .agg cs=>.agg (cs.map nzC)
 | .tup l=>.tup (l.map nzT)
 | .junk=>.junk
theorem nzC_ok {F:Fz} {γ:List OI} {c:Cel} {v:Value} (h:RC F γ c v):RC F γ (nzC c) v:=by
 unfold nzC
 split
 ·cases h with | dc _ _ h=>cases h with | raw _ h=>exact .dc _ _ (.nil _ _)
 ·cases h with | dc _ _ h=>cases h with | ptr _ b off g hr hc=>exact .ref _ b off g hr hc
 ·exact h
theorem nzCs_ok {F:Fz} {γ:List OI} {cs:List Cel} {vs:Array Value} (h:∀ (i:Nat) c v,cs[i]?=some c→vs[i]?=some v→RC F γ c v):∀ (i:Nat) c v,(cs.map nzC)[i]?=some c→vs[i]?=some v→RC F γ c v:=by
 intro i c v hc hv
 rw [List.getElem?_map] at hc
 obtain ⟨c0,h0,rfl⟩:=Option.map_eq_some_iff.1 hc
 exact nzC_ok (h i c0 v h0 hv)
theorem nzV_ok {F:Fz} {γ:List OI} {a:AV} {v:Value} (h:RV F γ a v):RV F γ (nzV a) v:=by
 cases h with
 | one c v h=>exact .one _ _ (nzC_ok h)
 | agg cs vs hs h=>exact .agg _ _ (by simpa using hs) (nzCs_ok h)
 | tup l vs hs h=>
  refine .tup _ _ (by simpa using hs) (fun i t v ht hv=>?_)
  rw [List.getElem?_map] at ht
  obtain ⟨t0,h0,rfl⟩:=Option.map_eq_some_iff.1 ht
  cases h i t0 v h0 hv with
  | one c v h=>exact .one _ _ (nzC_ok h)
  | agg cs vs hs h=>exact .agg _ _ (by simpa using hs) (nzCs_ok h)
 | junk v=>exact .junk v
theorem AC.nz {f:FuncId} {args:List AV} {objs:List AObj} {Q:AV→List AObj→Prop} (h:AC P G f args objs fun av os=>Q (nzV av) os):AC P G f args objs Q:=by
 refine h.gh (fun a os ho hl=>⟨nzV a,os, ?_,hl,ho⟩)
 intro F γ ac w hi hs hk
 refine ⟨F,γ,Ext.refl _ _ _ _,hi,⟨hs.1,hs.2.1,fun i av v h1 h2=>?_⟩,hk⟩
 cases i with
 | zero=>simp at h1;subst h1;exact nzV_ok (hs.2.2 0 a v rfl h2)
 | succ i=>simp at h1
def bsD (G:Glob) (st:AS) (dst:Option Nat) (size len:Nat) (z:List Value) (ps:List (Nat × AArg)):Option AS:=
 (fillV (zs z (len * size)) (ps.map fun (j,x)=>(j * size,size,evA G st.sl x))).bind fun cs=>(dcs cs).bind fun ds=>
   if ds.length=len * size then some ⟨putS st.sl dst (.one (.bld st.hp.length len)),st.hp++[.arr len size (chunk size len ds)]⟩ else none
theorem WD.bs {b:AOp} {l:List (Bool × AOp)} {size len:Nat} {z:List Value} {ps:List (Nat × AArg)} (hgd:gOK G st b.guard) (ha:b.ai=.bslc size len z ps)
  (h:bsD G st b.dst size len z ps=some st') (hw:AWL P G k R l st'):AWL P G k R ((false,b)::l) st:=by
 unfold bsD at h
 obtain ⟨cs,hf,h⟩:=Option.bind_eq_some_iff.1 h
 obtain ⟨ds,hd,h⟩:=Option.bind_eq_some_iff.1 h
 split at h
 ·rename_i hl
  injection h with h
  obtain ⟨h1,h2,h3⟩:=chunk_flat size len ds hl
  rw [zs_eq] at hf
  exact WD.bslcE (es:=chunk size len ds) hgd ha (by rw [h1,← dcs_dcC hd];exact hf) h2 h3 h hw
 ·cases h
def gK (b:Bool):AV→Option Bool
 | .one (.dc (.raw (.bool c)))=>some (eqb c b)
 | .tup []=>some false
 | _=>none
theorem gK_true {g:Nat} {b:Bool} (h:gK b (evA G st.sl (.t g))=some true):asBool? (evA G st.sl (.t g))=some b:=by
 generalize evA G st.sl (.t g)=v at h
 unfold gK at h
 split at h
 ·rename_i c;injection h with h;rw [eqb_eq,beq_iff_eq] at h;subst h;rfl
 ·cases h
 ·cases h
theorem gK_false {g:Nat} {b:Bool} (h:gK b (evA G st.sl (.t g))=some false):gNo G st (some (g,b)):=by
 show asBool? (evA G st.sl (.t g))=some (!b)∨evA G st.sl (.t g)=.tup []
 generalize evA G st.sl (.t g)=v at h
 unfold gK at h
 split at h
 ·rename_i c;injection h with h;rw [eqb_eq] at h;left;cases b<;>cases c<;>first | rfl | cases h
 ·exact .inr rfl
 ·cases h
end
attribute [go_sem] nzC nzT nzV List.map_replicate bsD Int.natCast_zero Int.cast_ofNat_Int decide_true decide_false gOK Bool.false_eq_true if_false Bool.not_true Bool.not_false Bool.true_and Bool.false_and Bool.and_true Bool.and_false wrap64 ifp ifn List.getElem?_eq_getElem
attribute [go_sem] decide_eq_false_iff_not Bool.and_eq_true Bool.or_eq_true Bool.not_eq_true' Bool.not_eq_false' beq_iff_eq bne_iff_ne ne_eq beq_eq_false_iff_ne bne_eq_false_iff_eq Bool.true_eq_false Bool.and_eq_false_iff Bool.or_eq_false_iff Decidable.not_not Int.natCast_add Int.natCast_one
attribute [go_sem] Nat.mul_one Nat.one_mul Nat.zero_mul Nat.mul_zero Nat.mod_one Nat.zero_mod Nat.mod_eq_of_lt Int.toNat_zero Int.toNat_one List.length_singleton
end
end Go.Proofs.YtmmafhopnkkeeaaGreatDoor
