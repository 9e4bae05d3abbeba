/- Clusters, extents. Conditions: none. -/
import Derived.Test.YtmmafhopnkkeeaaGreatDoorPk
namespace Go.Proofs.YtmmafhopnkkeeaaGreatDoor
set_option linter.unusedSimpArgs false
set_option linter.unusedVariables false
set_option maxRecDepth 4000
variable {G:Glob} {B:CallT}
theorem frz_bx (id:Nat) (es:List (List DC)) (U:List Bool):(U.map bC).map (frzC id es)=U.map bC:=by
 induction U with
 | nil=>rfl
 | cons b U ih=>rw [List.map_cons,List.map_cons,ih];rfl
attribute [go_sem] frz_bx
theorem takeAll_v (U:List Bool) (l:List Run) (hU:U.length=512) (hv:∀ r∈l,Vol r) (hl:l.length≤1000000):EV G (Tb B) 72 [.one (.ptr 0 0),runsV l] [bx U]=some (.tup [],[bx (intoL U l)]):=by
 refine EV_run rfl ?_
 simp (disch:=omega) only [go_sem,h72c,List.length_map]
 rw [EL_loop (fun k=>⟨(.one (.ptr 0 0)::jk 5 (runsV l::vi l.length::vi k::jk 7 [])),[bx (intoL U (l.take k))]⟩) l.length ?_ ?_]
 ·simp (disch:=omega) only [go_sem,h72l0,List.length_map,List.take_length]
 ·rfl
 ·intro k hk
  have hT:=take_v (G:=G) (B:=B) (intoL U (l.take k)) l[k] (by rw [intoL_len];exact hU) (hv _ (List.getElem_mem hk))
  rw [intoL_take U l k hk]
  simp (disch:=omega) only [go_sem,h72l0,List.length_map,Run.e,hT]
theorem extents_v (U:List Bool) (hU:U.length=512):EV G (Tb B) 73 [.one (.ptr 0 0)] [bx U]=some (runsV (exR U 512),[bx U]):=by
 refine EV_run rfl ?_
 simp (disch:=omega) only [go_sem,h73c]
 rw [EL_loop (fun k=>⟨(jk 3 (.one (.ptr 1 0)::jk 2 (.one (.ptr 0 0)::vi k::jk 12 []))),[bx U,.box [.bld 2 (exR U k).length],.arr 0 2 ((exR U k).map Run.e)]⟩) 512 ?_ ?_]
 ·simp (disch:=omega) only [go_sem,h73l0]
 ·rfl
 ·intro k hk
  have hG:=exR_good U k (by omega)
  have hT:=add_v (G:=G) (B:=B) (exR U k) ⟨k,1⟩ hG (by simp)
  have hgd:U.getD k false=U[k]'(by omega):=by simp [List.getD_eq_getElem?_getD,List.getElem?_eq_getElem (show k < U.length by omega)]
  rw [exR]
  cases hu:U[k]'(by omega)
  all_goals rw [hgd,hu]
  all_goals simp (disch:=omega) only [go_sem,h73l0,List.length_map,load_bx,hu,hT]
theorem less_at (U V:List Bool) (k:Nat) (hk:k < U.length):(lessR U V k)[k]'(by rw [lessR_len];exact hk)=U.getD k false:=by
 have:=lessR_get U V k k (Nat.le_refl _)
 rw [List.getD_eq_getElem?_getD,List.getElem?_eq_getElem (by rw [lessR_len];exact hk)] at this
 exact this
theorem freedBy_v (a b:List Run):EV G (Tb B) 30 [runsV a,runsV b] []=some (.tup [.one (.dc (.slc ((freedV a b).1.map Run.e))),.one (.dc (ci (freedV a b).2))],[]):=by
 refine EV_run rfl ?_
 unfold freedV
 by_cases h:errsE [a,b]=0
 ·have h12:(chk a).2=0∧(chk b).2=0:=by
   rw [errs2] at h;split at h
   ·exact ⟨by assumption,h⟩
   ·exact absurd h (by assumption)
  have hla:=chk_len h12.1
  have hlb:=chk_len h12.2
  have hA:=takeAll_v (G:=G) (B:=B) U0 a U0_len (fun r hr=>(chk_vol h12.1 r hr).1) (by omega)
  have hB:=takeAll_v (G:=G) (B:=B) U0 b U0_len (fun r hr=>(chk_vol h12.2 r hr).1) (by omega)
  have lA:(intoL U0 a).length=512:=by rw [intoL_len];exact U0_len
  have lB:(intoL U0 b).length=512:=by rw [intoL_len];exact U0_len
  generalize hUA:intoL U0 a=A at hA lA ⊢
  generalize hUB:intoL U0 b=VB at hB lB ⊢
  simp (disch:=omega) only [go_sem,h30c,errs2_v,h,hA,hB,List.map_replicate,U0_box]
  rw [EL_loop (fun k=>⟨(jk 7 (.one (.ptr 0 0)::.one (.ptr 1 0)::jk 12 (vi k::jk 15 []))),[bx (lessR A VB k),bx VB]⟩) 512 ?_ ?_]
  ·have hX:=extents_v (G:=G) (B:=B) (lessR A VB 512) (by rw [lessR_len];exact lA)
   simp (disch:=omega) only [go_sem,h30l0,hX,h]
  ·rfl
  ·intro k hk
   have hL:=lessR_len A VB k
   have h1:=less_at A VB k (by omega)
   have h2:VB.getD k false=VB[k]'(by omega):=by simp [List.getD_eq_getElem?_getD,List.getElem?_eq_getElem (show k < VB.length by omega)]
   rw [lessR,h2]
   cases hu:A.getD k false
   all_goals rw [hu] at h1
   all_goals simp (disch:=omega) only [go_sem,h30l0,load_bx,put_bx,h1]
 ·simp (disch:=omega) only [go_sem,h30c,errs2_v,h]
end Go.Proofs.YtmmafhopnkkeeaaGreatDoor
