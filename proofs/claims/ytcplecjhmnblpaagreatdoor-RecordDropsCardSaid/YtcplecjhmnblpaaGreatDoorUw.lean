/- Lists of attributes: few, copied; the attribute that has some parts, by the reference. Conditions: none. -/
import Derived.Test.YtcplecjhmnblpaaGreatDoorUy
namespace Go.Proofs.YtcplecjhmnblpaaGreatDoor
set_option linter.unusedSimpArgs false
set_option linter.unusedVariables false
set_option maxRecDepth 4000
section
variable {G:Glob} {bb:Bool}
def ordE (l:List Att) (k:Nat):Int:=if k=0 then sngE l 0 else
 firstE [sngE l k,un (decide (cmpA (l.getD (k - 1) Att.nil) (l.getD k Att.nil)≤0)) 9,un (!keyB (l.getD (k - 1) Att.nil) (l.getD k Att.nil)||decide ((l.getD k Att.nil).ty=48)) 5]
noncomputable def ordV (l:List Att):Int × Int:=if l.length > 32 then (0,8) else
 if ix (fun k=>ordE l k≠0) l.length < l.length then ((ix (fun k=>ordE l k≠0) l.length:Nat),ordE l (ix (fun k=>ordE l k≠0) l.length)) else (0,0)
abbrev iiv (p:Int × Int):AV:=.tup [.one (.dc (ci p.1)),.one (.dc (ci p.2))]
theorem ixP (l:List Att) (k:Nat) (hk:k < l.length) (h0:0 < k):(l.map Att.e)[((k:Int) - 1).toNat]?=some l[k - 1].e:=by
 rw [show ((k:Int) - 1).toNat=k - 1 by omega]
 exact ixA l (k - 1) (by omega)
set_option maxHeartbeats 4000000 in
theorem order_v (l:List Att) (hW:∀ a∈l,a.W) (hl:l.length≤1000):EV G (Tb (bs bb)) 63 [vl (l.map Att.e)] []=some (iiv (ordV l),[]):=by
 refine EV_run rfl ?_
 unfold ordV
 by_cases c1:l.length > 32
 ·rw [if_pos c1]
  have d2:32 < (l.length:Int):=by omega
  simp (disch:=omega) only [go_sem,h63c,List.length_map,eq_true d2]
 rw [if_neg c1]
 have d2:¬ 32 < (l.length:Int):=by omega
 simp (disch:=omega) only [go_sem,h63c,List.length_map,d2]
 rw [EL_fst (fun k=>⟨(vl (l.map Att.e)::jk 10 (vl (l.map Att.e)::vi l.length::vi k::jk 37 [])),[]⟩) (fun k=>ordE l k≠0) l.length ?_ ?_]
 rotate_left
 ·rfl
 ·intro k hk hn
  have hz:=Classical.not_not.1 (hn k (Nat.le_refl _))
  have q:=single_v (G:=G) (bb:=bb) l hW hl k hk
  by_cases h0:k=0
  ·subst h0
   simp only [ordE,if_true] at hz
   rw [hz] at q
   have q0:EV G (Tb (bs bb)) 116 [vl (l.map Att.e),vi 0] []=some (vi 0,[]):=q
   have i0:(l.map Att.e)[(0:Nat)]?=some l[0].e:=ixA l 0 hk
   simp (disch:=omega) only [go_sem,h63l0,List.length_map,ixA,i0,Att.e,str_nil,q0,Int.natCast_zero,Int.lt_irrefl,decide_false,Int.toNat_zero]
   rfl
  ·have d0:0 < (k:Int):=by omega
   unfold ordE at hz
   rw [if_neg h0,getDA l (k - 1) (by omega),getDA l k hk] at hz
   have iP:=ixP l k hk (by omega)
   have q1:=compare_v (G:=G) (bb:=bb) l[k - 1] l[k]
   have q2:=sameKey_v (G:=G) (bb:=bb) l[k - 1] l[k] (hW _ (List.getElem_mem _)).nm (hW _ (List.getElem_mem _)).nm
   cases hb:keyB l[k - 1] l[k] with
   | false=>
    rw [hb] at hz q2
    simp only [Bool.not_false,Bool.true_or] at hz
    simp (disch:=omega) only [go_sem,h63l0,List.length_map,ixA,iP,Att.e,str_nil,q,eq_true d0,q1,q2,unless8_u,first8_3,hz]
   | true=>
    rw [hb] at hz q2
    simp only [Bool.not_true,Bool.false_or] at hz
    simp (disch:=omega) only [go_sem,h63l0,List.length_map,ixA,iP,Att.e,str_nil,q,eq_true d0,q1,q2,unless8_u,first8_3,hz]
 obtain ⟨hk,hp,hn⟩:=ix_spec (fun k=>ordE l k≠0) l.length
 generalize ix (fun k=>ordE l k≠0) l.length=k at *
 rcases hp with rfl | ⟨hk',hz⟩
 ·rw [if_neg (Nat.lt_irrefl _)]
  simp (disch:=omega) only [go_sem,h63l0,List.length_map]
 ·rw [if_pos hk']
  have q:=single_v (G:=G) (bb:=bb) l hW hl k hk'
  by_cases h0:k=0
  ·subst h0
   simp only [ordE,if_true] at hz ⊢
   have q0:EV G (Tb (bs bb)) 116 [vl (l.map Att.e),vi 0] []=some (vi (sngE l 0),[]):=q
   have i0:(l.map Att.e)[(0:Nat)]?=some l[0].e:=ixA l 0 hk'
   simp (disch:=omega) only [go_sem,h63l0,List.length_map,ixA,i0,Att.e,str_nil,q0,Int.natCast_zero,Int.lt_irrefl,decide_false,Int.toNat_zero,hz]
  ·have d0:0 < (k:Int):=by omega
   unfold ordE at hz ⊢
   rw [if_neg h0,getDA l (k - 1) (by omega),getDA l k hk'] at hz ⊢
   have iP:=ixP l k hk' (by omega)
   have q1:=compare_v (G:=G) (bb:=bb) l[k - 1] l[k]
   have q2:=sameKey_v (G:=G) (bb:=bb) l[k - 1] l[k] (hW _ (List.getElem_mem _)).nm (hW _ (List.getElem_mem _)).nm
   cases hb:keyB l[k - 1] l[k] with
   | false=>
    rw [hb] at hz q2
    simp only [Bool.not_false,Bool.true_or] at hz ⊢
    simp (disch:=omega) only [go_sem,h63l0,List.length_map,ixA,iP,Att.e,str_nil,q,eq_true d0,q1,q2,unless8_u,first8_3,hz]
   | true=>
    rw [hb] at hz q2
    simp only [Bool.not_true,Bool.false_or] at hz ⊢
    simp (disch:=omega) only [go_sem,h63l0,List.length_map,ixA,iP,Att.e,str_nil,q,eq_true d0,q1,q2,unless8_u,first8_3,hz]
end
section
variable {G:Glob} {bb:Bool}
theorem each_v (l:List Att) (hW:∀ a∈l,a.W) (hl:l.length≤1000) (i:Nat) (hi:i < l.length):EV G (Tb (bs bb)) 122 [vl (l.map Att.e),vi i] []=some (vi (sngE l i),[]):=by
 refine EV_run rfl ?_
 have q:=errR_v (G:=G) (bb:=bb) l[i] (hW _ (List.getElem_mem hi))
 unfold sngE dupA
 rw [getDA l i hi]
 by_cases c:errA l[i]=0
 ·rw [c] at q
  rw [c,firstE_0]
  simp (disch:=omega) only [go_sem,h122c,List.length_map,ixA,Att.e,q]
  rw [EL_fst (fun k=>⟨(vl (l.map Att.e)::vi i::jk 4 (vi k::jk 24 [])),[]⟩) (fun k=>(l.getD k Att.nil).id=l[i].id) i ?_ ?_]
  rotate_left
  ·rfl
  ·intro k hk hn
   have h1:=hn k (Nat.le_refl _)
   rw [getDA l k (by omega)] at h1
   simp (disch:=omega) only [go_sem,h122l0,List.length_map,ixA,Att.e,h1]
  obtain ⟨hk,hp,hn⟩:=ix_spec (fun k=>(l.getD k Att.nil).id=l[i].id) i
  generalize ix (fun k=>(l.getD k Att.nil).id=l[i].id) i=k at *
  rcases hp with rfl | ⟨hk',hp⟩
  ·have e:((l.take k).any fun a=>decide (a.id=l[k].id))=false:=by
    rw [List.any_eq_false]
    intro x hx
    obtain ⟨j,hj,rfl⟩:=List.getElem_of_mem hx
    rw [List.length_take] at hj
    have:=hn j (by omega)
    rw [getDA l j (by omega)] at this
    simpa using this
   rw [e]
   simp (disch:=omega) only [go_sem,h122l0,List.length_map]
   rfl
  ·rw [getDA l k (by omega)] at hp
   have e:((l.take i).any fun a=>decide (a.id=l[i].id))=true:=by
    rw [List.any_eq_true]
    refine ⟨l[k], ?_,decide_eq_true hp⟩
    rw [List.mem_take_iff_getElem]
    exact ⟨k,by omega,rfl⟩
   rw [e]
   simp (disch:=omega) only [go_sem,h122l0,List.length_map,ixA,Att.e,eq_true hp]
   rfl
 ·rw [firstE_n _ _ c]
  simp (disch:=omega) only [go_sem,h122c,List.length_map,ixA,Att.e,q,c]
theorem ordE_0 {l:List Att} {k:Nat} (h0:k≠0) (hk:k < l.length) (h:ordE l k=0):sngE l k=0∧cmpA l[k - 1] l[k]≤0∧(keyB l[k - 1] l[k]=true→l[k].ty=48):=by
 unfold ordE at h
 rw [if_neg h0,getDA l (k - 1) (by omega),getDA l k hk] at h
 by_cases c1:sngE l k=0
 ·rw [c1,firstE_0] at h
  by_cases c2:cmpA l[k - 1] l[k]≤0
  ·rw [decide_eq_true c2,un_t,firstE_0] at h
   refine ⟨c1,c2,fun hb=>?_⟩
   rw [hb] at h
   by_cases c3:l[k].ty=48
   ·exact c3
   ·rw [decide_eq_false c3] at h
    exact absurd h (by simp [un,firstE])
  ·rw [decide_eq_false c2] at h
   exact absurd h (by simp [un,firstE])
 ·rw [firstE_n _ _ c1] at h
  exact absurd h c1
theorem keyB_t {a b:Att}:keyB a b=true↔a.ty=b.ty∧a.nm=b.nm∧a.fi=b.fi:=by simp [keyB]
set_option maxHeartbeats 4000000 in
theorem orderR_v (l:List Att) (hW:∀ a∈l,a.W) (hl:l.length≤1000):EV G (Tb (bs bb)) 70 [vl (l.map Att.e)] []=some (iiv (ordV l),[]):=by
 refine EV_run rfl ?_
 unfold ordV
 by_cases c1:l.length > 32
 ·rw [if_pos c1]
  have d2:32 < (l.length:Int):=by omega
  simp (disch:=omega) only [go_sem,h70c,List.length_map,eq_true d2]
 rw [if_neg c1]
 have d2:¬ 32 < (l.length:Int):=by omega
 simp (disch:=omega) only [go_sem,h70c,List.length_map,d2]
 rw [EL_fst (fun k=>⟨(vl (l.map Att.e)::jk 3 (vi k::jk 58 [])),[]⟩) (fun k=>ordE l k≠0) l.length ?_ ?_]
 rotate_left
 ·rfl
 ·intro k hk hn
  have hz:=Classical.not_not.1 (hn k (Nat.le_refl _))
  have q:=each_v (G:=G) (bb:=bb) l hW hl k hk
  by_cases h0:k=0
  ·subst h0
   simp only [ordE,if_true] at hz
   rw [hz] at q
   have q0:EV G (Tb (bs bb)) 122 [vl (l.map Att.e),vi 0] []=some (vi 0,[]):=q
   simp (disch:=omega) only [go_sem,h70l0,List.length_map,Att.e,str_nil,q0,Int.natCast_zero,Int.lt_irrefl,decide_false,Int.toNat_zero]
   rfl
  ·have d0:0 < (k:Int):=by omega
   obtain ⟨z1,z2,z3⟩:=ordE_0 h0 hk hz
   rw [z1] at q
   have iP:=ixP l k hk (by omega)
   have z4:¬ 0 < cmpA l[k - 1] l[k]:=by omega
   have q1:=compareR_v (G:=G) (bb:=bb) l[k - 1] l[k]
   have q2:=key_v (G:=G) (bb:=bb) l[k - 1]
   have q3:=key_v (G:=G) (bb:=bb) l[k]
   have e:=str_inj (hW _ (List.getElem_mem (show k - 1 < l.length by omega))).nm (hW _ (List.getElem_mem hk)).nm
   by_cases k1:l[k - 1].ty=l[k].ty
   ·by_cases k2:l[k - 1].nm=l[k].nm
    ·rw [eq_true k2] at e
     by_cases k3:l[k - 1].fi=l[k].fi
     ·have z5:=z3 (keyB_t.2 ⟨k1,k2,k3⟩)
      simp (disch:=omega) only [go_sem,h70l0,beqS,List.length_map,ixA,iP,Att.e,str_nil,q,eq_true d0,q1,q2,q3,z4,eq_true k1,e,eq_true k3,eq_true z5]
     ·simp (disch:=omega) only [go_sem,h70l0,beqS,List.length_map,ixA,iP,Att.e,str_nil,q,eq_true d0,q1,q2,q3,z4,eq_true k1,e,k3]
    ·rw [eq_false k2] at e
     simp (disch:=omega) only [go_sem,h70l0,beqS,List.length_map,ixA,iP,Att.e,str_nil,q,eq_true d0,q1,q2,q3,z4,eq_true k1,e]
   ·simp (disch:=omega) only [go_sem,h70l0,beqS,List.length_map,ixA,iP,Att.e,str_nil,q,eq_true d0,q1,q2,q3,z4,k1]
 obtain ⟨hk,hp,hn⟩:=ix_spec (fun k=>ordE l k≠0) l.length
 generalize ix (fun k=>ordE l k≠0) l.length=k at *
 rcases hp with rfl | ⟨hk',hz⟩
 ·rw [if_neg (Nat.lt_irrefl _)]
  simp (disch:=omega) only [go_sem,h70l0,List.length_map]
 ·rw [if_pos hk']
  have q:=each_v (G:=G) (bb:=bb) l hW hl k hk'
  by_cases h0:k=0
  ·subst h0
   simp only [ordE,if_true] at hz ⊢
   have q0:EV G (Tb (bs bb)) 122 [vl (l.map Att.e),vi 0] []=some (vi (sngE l 0),[]):=q
   generalize sngE l 0=e at hz q0
   simp (disch:=omega) only [go_sem,h70l0,List.length_map,Att.e,str_nil,q0,Int.natCast_zero,Int.lt_irrefl,decide_false,Int.toNat_zero,hz]
  ·have d0:0 < (k:Int):=by omega
   unfold ordE at hz ⊢
   rw [if_neg h0,getDA l (k - 1) (by omega),getDA l k hk'] at hz ⊢
   have iP:=ixP l k hk' (by omega)
   have q1:=compareR_v (G:=G) (bb:=bb) l[k - 1] l[k]
   have q2:=key_v (G:=G) (bb:=bb) l[k - 1]
   have q3:=key_v (G:=G) (bb:=bb) l[k]
   have e:=str_inj (hW _ (List.getElem_mem (show k - 1 < l.length by omega))).nm (hW _ (List.getElem_mem hk')).nm
   by_cases c2:sngE l k=0
   ·rw [c2] at q hz ⊢
    rw [firstE_0] at hz ⊢
    by_cases c3:cmpA l[k - 1] l[k]≤0
    ·have z4:¬ 0 < cmpA l[k - 1] l[k]:=by omega
     rw [decide_eq_true c3,un_t,firstE_0] at hz ⊢
     cases hb:keyB l[k - 1] l[k] with
     | false=>
      rw [hb] at hz
      exact absurd (by simp [un,firstE]) hz
     | true=>
      rw [hb] at hz
      obtain ⟨k1,k2,k3⟩:=keyB_t.1 hb
      rw [eq_true k2] at e
      by_cases c4:l[k].ty=48
      ·rw [decide_eq_true c4] at hz
       exact absurd (by simp [un,firstE]) hz
      ·rw [decide_eq_false c4]
       simp (disch:=omega) only [go_sem,h70l0,beqS,List.length_map,ixA,iP,Att.e,str_nil,q,eq_true d0,q1,q2,q3,z4,eq_true k1,e,eq_true k3,c4]
       rfl
    ·have z4:0 < cmpA l[k - 1] l[k]:=by omega
     rw [decide_eq_false c3]
     simp (disch:=omega) only [go_sem,h70l0,beqS,List.length_map,ixA,iP,Att.e,str_nil,q,eq_true d0,q1,eq_true z4]
     rfl
   ·rw [firstE_n _ _ c2]
    generalize sngE l k=x at c2 q
    simp (disch:=omega) only [go_sem,h70l0,List.length_map,ixA,Att.e,str_nil,q,c2]
end
section
variable {G:Glob} {bb:Bool}
end
section
variable {G:Glob} {B:CallT}
end
section
variable {G:Glob} {bb:Bool}
end
section
variable {G:Glob} {bb:Bool}
end
section
variable {G:Glob} {bb:Bool}
def fewB (a:Att):Bool:=decide (a.rs.length≤80)&&(decide (a.va.length≤500)&&decide (a.nm.length≤60))
theorem getD_lt {α:Type} (l:List α) (d:α) (k:Nat) (h:k < l.length):l.getD k d=l[k]:=by
 rw [List.getD_eq_getElem?_getD,List.getElem?_eq_getElem h];rfl
theorem all_ix {α:Type} (l:List α) (d:α) (p:α→Bool):(ix (fun k=>p (l.getD k d)=false) l.length=l.length)↔l.all p=true:=by
 obtain ⟨h1,h2,h3⟩:=ix_spec (fun k=>p (l.getD k d)=false) l.length
 constructor
 ·intro e
  rw [List.all_eq_true]
  intro x hx
  obtain ⟨k,hk,rfl⟩:=List.getElem_of_mem hx
  have:=h3 k (by omega)
  have e1:=getD_lt l d k hk
  rw [e1] at this
  simpa using this
 ·intro h
  rcases h2 with h2 | ⟨h2,h4⟩
  ·exact h2
  ·have e1:=getD_lt l d _ h2
   rw [e1] at h4
   rw [List.all_eq_true.1 h _ (List.getElem_mem h2)] at h4
   cases h4
theorem takeA (l:List Att) (k:Nat) (hk:k < l.length):(l.take (k+1)).map Att.e=(l.take k).map Att.e++[l[k].e]:=by
 rw [List.take_succ_eq_append_getElem hk,List.map_append];rfl
theorem copyAs_v (l:List Att) (hl:l.length≤1000) (hr:∀ a∈l,a.rs.length≤1000000):EV G (Tb (bs bb)) 67 [vl (l.map Att.e)] []=some (vl (l.map Att.e),[]):=by
 refine EV_run rfl ?_
 simp (disch:=omega) only [go_sem,h67c]
 rw [EL_loop (fun k=>⟨(vl (l.map Att.e)::jk 2 (.one (.bld 0 ((l.take k).map Att.e).length)::vi k::jk 15 [])),[.arr 0 11 ((l.take k).map Att.e)]⟩) l.length ?_ ?_]
 ·simp (disch:=omega) only [go_sem,h67l0,List.length_map,List.take_length]
 ·rfl
 ·intro k hk
  have q:=copyA_v (G:=G) (bb:=bb) l[k] (hr _ (List.getElem_mem hk))
  have hb:((l.take k).map Att.e).length≤1000:=by rw [List.length_map,List.length_take];omega
  have hall:=all_att (l.take k)
  rw [takeA l k hk]
  generalize (l.take k).map Att.e=C at hb hall ⊢
  simp (disch:=omega) only [go_sem,h67l0,List.length_map,ixA,Att.e,q,hall]
  rw [List.length_append]
  rfl
end
end Go.Proofs.YtcplecjhmnblpaaGreatDoor
