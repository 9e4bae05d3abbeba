/- Parts that are cut, joined, removed, replaced, inserted. Conditions: none. -/
import Derived.Test.YtmmafhopnkkeeaaGreatDoorCb
import Derived.Test.YtmmafhopnkkeeaaGreatDoorVa
namespace Go.Proofs.YtmmafhopnkkeeaaGreatDoor
set_option linter.unusedSimpArgs false
set_option linter.unusedVariables false
set_option maxRecDepth 4000
section
variable {G:Glob} {B:CallT}
theorem within_v (n lo hi:Int):EV G (Tb B) 82 [vi n,vi lo,vi hi] []=some (vb (decide (lo≤n∧n≤hi)),[]):=by
 refine EV_run rfl ?_
 by_cases h:lo≤n
 all_goals simp (disch:=omega) only [go_sem,h82c]
 all_goals simp [h]
theorem isHole_v (s n:Int):EV G (Tb B) 37 [rn s n] []=some (vb (decide (s=-1)),[]):=by
 refine EV_run rfl ?_
 simp (disch:=omega) only [go_sem,h37c]
theorem unless_v (b:Bool) (e:Int):EV G (Tb B) 66 [vb b,vi e] []=some (vi (if b=true then 0 else e),[]):=by
 refine EV_run rfl ?_
 cases b
 all_goals simp (disch:=omega) only [go_sem,h66c]
 all_goals rfl
theorem few_v (l:List Run):EV G (Tb B) 7 [runsV l] []=some (vb (decide ((l.length:Int)≤80)),[]):=by
 refine EV_run rfl ?_
 simp (disch:=omega) only [go_sem,h7c,List.length_map]
theorem fstN (p:Nat→Prop):∀ n:Nat,(∀ k,k < n→¬ p k)∨∃ j,j < n∧p j∧∀ k,k < j→¬ p k
 | 0=>.inl (fun k h=>by omega)
 | n+1=>by
  rcases fstN p n with h | ⟨j,h1,h2,h3⟩
  ·by_cases hp:p n
   ·exact .inr ⟨n,by omega,hp,h⟩
   ·exact .inl (fun k hk=>by
     by_cases he:k=n
     ·subst he;exact hp
     ·exact h k (by omega))
  ·exact .inr ⟨j,by omega,h2,h3⟩
theorem firstE_at (l:List Int) (j:Nat) (hj:j < l.length) (h:∀ k,k < j→¬ l.getD k 0≠0) (h1:l.getD j 0≠0):firstE l=l[j]:=by
 have h2:l.getD j 0=l[j]:=by simp [List.getD_eq_getElem?_getD,List.getElem?_eq_getElem hj]
 rw [firstE_drop l j (fun k hk=>by have:=h k hk;omega),List.drop_eq_getElem_cons hj,firstE,if_neg (by rw [← h2];exact h1)]
theorem firstE_none (l:List Int) (h:∀ k,k < l.length→¬ l.getD k 0≠0):firstE l=0:=by
 rw [firstE_drop l l.length (fun k hk=>by have:=h k hk;omega),List.drop_length];rfl
theorem getD_at (l:List Int) (k:Nat) (h:k < l.length):l.getD k 0=l[k]:=by simp [List.getD_eq_getElem?_getD,List.getElem?_eq_getElem h]
theorem first_v (l:List Int) (hl:l.length≤1000):EV G (Tb B) 65 [vl (el l)] []=some (vi (firstE l),[]):=by
 refine EV_run rfl ?_
 simp (disch:=omega) only [go_sem,h65c,List.length_map]
 have round:∀ k (hk:k < l.length),¬ l.getD k 0≠0→rnK [5,0,0] 0 (EC (EV G (Tb B)) G h65l0 ⟨(jk 5 (vl (el l)::vi l.length::vi k::jk 7 [])),[]⟩)=some ⟨(jk 5 (vl (el l)::vi l.length::vi (k+1:Nat)::jk 7 [])),[]⟩:=fun k hk hz=>by
  rw [getD_at l k hk] at hz
  simp (disch:=omega) only [go_sem,h65l0,List.length_map,ci1]
 rcases fstN (fun k=>l.getD k 0≠0) l.length with h | ⟨j,hj,h1,h2⟩
 ·rw [EL_loop (fun k=>⟨(jk 5 (vl (el l)::vi l.length::vi k::jk 7 [])),[]⟩) l.length ?_ ?_]
  ·rw [firstE_none l h]
   simp (disch:=omega) only [go_sem,h65l0]
  ·rfl
  ·exact fun k hk=>round k hk (h k hk)
 ·rw [EL_loop (fun k=>⟨(jk 5 (vl (el l)::vi l.length::vi k::jk 7 [])),[]⟩) j ?_ ?_]
  ·rw [firstE_at l j hj h2 h1]
   rw [getD_at l j hj] at h1
   simp (disch:=omega) only [go_sem,h65l0,ci1]
  ·rfl
  ·exact fun k hk=>round k (by omega) (h2 k hk)
theorem rangeErr_v (s n:Int):EV G (Tb B) 114 [rn s n] []=some (vi (rangeE s n),[]):=by
 refine EV_run rfl ?_
 by_cases h1:s=-1
 ·by_cases h2:1≤n∧n≤4096
  all_goals simp (disch:=omega) only [go_sem,h114c,isHole_v,within_v,unless_v,rangeE]
 ·by_cases h2:0≤s∧s≤511
  ·by_cases h3:1≤n∧n≤512 - s
   all_goals simp (disch:=omega) only [go_sem,h114c,isHole_v,within_v,unless_v,rangeE]
  ·simp (disch:=omega) only [go_sem,h114c,isHole_v,within_v,unless_v,rangeE]
end
section
variable {G:Glob} {B:CallT}
theorem first2 (a b:Int):EV G (Tb B) 65 [vl [[ci a],[ci b]]] []=some (vi (firstE [a,b]),[]):=first_v [a,b] (by simp)
theorem first3 (a b c:Int):EV G (Tb B) 65 [vl [[ci a],[ci b],[ci c]]] []=some (vi (firstE [a,b,c]),[]):=first_v [a,b,c] (by simp)
theorem length_v (l:List Run) (hl:l.length≤1000000):EV G (Tb B) 70 [runsV l] []=some (vi (lenW l),[]):=by
 refine EV_run rfl ?_
 simp (disch:=omega) only [go_sem,h70c,List.length_map]
 rw [EL_loop (fun k=>⟨(jk 3 (vi (lenW (l.take k))::jk 2 (runsV l::vi l.length::vi k::jk 9 []))),[]⟩) l.length ?_ ?_]
 ·simp (disch:=omega) only [go_sem,h70l0,List.take_length]
 ·rfl
 ·intro k hk
  rw [lenW_take l k hk]
  simp (disch:=omega) only [go_sem,h70l0,List.length_map,Run.e]
theorem joins_v (q r:Run) (h:-9223372036854775808≤q.s+q.n∧q.s+q.n≤9223372036854775807):EV G (Tb B) 115 [q.v,r.v] []=some (vb (joinsB q r),[]):=by
 refine EV_run rfl ?_
 unfold joinsB
 by_cases h1:q.s=-1
 all_goals by_cases h2:r.s=-1
 all_goals simp (disch:=omega) only [go_sem,h115c,isHole_v,h1,h2]
 all_goals simp [h1,h2]
theorem load_bx (U:List Bool) (k:Nat) (h:k < U.length):((U.map bC).drop k).take 1=[.dc (.raw (.bool U[k]))]:=box_load U k _ (List.getElem?_eq_getElem h)
theorem put_bx (U:List Bool) (k:Nat) (b:Bool) (h:k < U.length):putAt (U.map bC) k [.dc (.raw (.bool b))]=(U.set k b).map bC:=box_put U k b h
theorem ct_bx (m:Nat) (U:List Bool):ctCs m (U.map bC)=U.map bC:=by rw [ctCs_eq,killM]
theorem ids_bx (U:List Bool):idsL (U.map bC)=[]:=by
 induction U with
 | nil=>rfl
 | cons b U ih=>rw [List.map_cons,idsL,ih];rfl
theorem kp_bx (J:List Nat) (U:List Bool):kpCs J (U.map bC)=true:=by
 induction U with
 | nil=>rfl
 | cons b U ih=>rw [List.map_cons,kpCs,ih];rfl
theorem ka_bx (A:List Nat) (U:List Bool):kaCs A (U.map bC)=U.map bC:=by rw [kaCs_eq,killM]
theorem rn_bx (ρ:Nat→Nat) (U:List Bool):(U.map bC).map (renC ρ)=U.map bC:=by
 induction U with
 | nil=>rfl
 | cons b U ih=>rw [List.map_cons,List.map_cons,ih];rfl
attribute [go_sem] killM ct_bx ids_bx kp_bx ka_bx rn_bx
theorem take_v (U:List Bool) (r:Run) (hU:U.length=512) (h:Vol r):EV G (Tb B) 108 [.one (.ptr 0 0),r.v] [bx U]=some (vb (r.fresh U),[bx (r.into U)]):=by
 refine EV_run rfl ?_
 rcases h with ⟨h1,_⟩ | ⟨h1,h2,h3⟩
 ·simp (disch:=omega) only [go_sem,h108c,isHole_v,Run.fresh,Run.into]
 ·obtain ⟨s,hs⟩:∃ s:Nat,r.s=s:=⟨r.s.toNat,by omega⟩
  obtain ⟨n,hn⟩:∃ n:Nat,r.n=n:=⟨r.n.toNat,by omega⟩
  simp (disch:=omega) only [go_sem,h108c,isHole_v,Run.fresh,Run.into,hs,hn]
  rw [EL_loop (fun k=>⟨(.one (.ptr 0 0)::jk 2 (.one (.ptr 1 0)::jk 1 (vb (freshR U s k)::vi (s+k:Nat)::jk 27 []))),[bx (setR U s k),.box [.dc (ci s),.dc (ci n)]]⟩) n ?_ ?_]
  ·simp (disch:=omega) only [go_sem,h108l0]
  ·rfl
  ·intro k hk
   have hl:=setR_len U s k
   rw [freshR_succ,setR]
   have getE:(setR U s k)[s+k]'(by omega)=U.getD (s+k) false:=by
    have:=setR_get U s k (s+k) (Nat.le_refl _)
    rw [List.getElem?_eq_getElem (by omega)] at this
    rw [List.getD_eq_getElem?_getD,← this];rfl
   cases hf:freshR U s k
   all_goals simp (disch:=omega) only [go_sem,h108l0,load_bx,put_bx,getE]
end
section
variable {G:Glob} {B:CallT}
theorem U0_box:List.replicate 512 (Cel.dc (.raw (.bool false)))=U0.map bC:=by rw [U0,List.map_replicate];rfl
theorem chkL_to (l:List Run) (k:Nat) (hk:k≤l.length) (h:∀ j,j < k→¬ stepE (prevK l j) (Uk l j) (l.getD j ⟨0,0⟩)≠0):chkL l l none U0 0=chkL l (l.drop k) (prevK l k) (Uk l k) k:=by
 induction k with
 | zero=>rfl
 | succ k ih=>
  have e:l.getD k ⟨0,0⟩=l[k]:=by simp [List.getD_eq_getElem?_getD,List.getElem?_eq_getElem (show k < l.length by omega)]
  have:=h k (Nat.lt_succ_self k)
  rw [e] at this
  rw [ih (by omega) (fun j hj=>h j (by omega)),chkL_at (by omega),if_neg this,Uk_succ l k (by omega)]
  simp [prevK,List.getElem?_eq_getElem (show k < l.length by omega)]
theorem runAt (l:List Run) (k:Nat) (h:k < l.length):l.getD k ⟨0,0⟩=l[k]:=by simp [List.getD_eq_getElem?_getD,List.getElem?_eq_getElem h]
theorem rE_vol1 {r:Run} (h:rangeE r.s r.n=0):Vol r:=by
 rcases rangeE_ok h with ⟨h1,h2,h3⟩ | ⟨s,n,h1,h2,h3,h4⟩
 ·exact .inl ⟨h1,by omega⟩
 ·exact .inr ⟨by omega,by omega,by omega⟩
theorem stepE_rg {l:List Run} {k:Nat} (U:List Bool) (hk:k < l.length) (h:¬ stepE (prevK l k) U (l.getD k ⟨0,0⟩)≠0):rangeE l[k].s l[k].n=0∧¬ (0 < k∧joinsB (l[k-1]'(by omega)) l[k]=true)∧l[k].fresh U=true:=by
 rw [runAt l k hk,stepE_at U hk] at h
 by_cases h1:rangeE l[k].s l[k].n≠0
 ·rw [if_pos h1] at h;exact absurd h1 h
 ·rw [if_neg h1] at h
  by_cases h2:0 < k∧joinsB (l[k-1]'(by omega)) l[k]=true
  ·rw [if_pos h2] at h;exact absurd (by decide) h
  ·rw [if_neg h2] at h
   cases h3:l[k].fresh U
   ·rw [h3] at h;exact absurd (by decide) h
   ·exact ⟨by omega,h2,rfl⟩
theorem check_v (l:List Run):EV G (Tb B) 76 [runsV l] []=some (.tup [.one (.dc (ci (chk l).1)),.one (.dc (ci (chk l).2))],[]):=by
 refine EV_run rfl ?_
 by_cases hl:(l.length:Int) > 64
 ·simp only [chk,if_pos hl]
  simp (disch:=omega) only [go_sem,h76c,List.length_map]
 ·simp only [chk,if_neg hl]
  simp (disch:=omega) only [go_sem,h76c,List.length_map,List.map_replicate,U0_box]
  rw [EL_fst (fun k=>⟨(runsV l::jk 3 (.one (.ptr 0 0)::jk 6 (runsV l::vi l.length::vi k::jk 31 []))),[bx (Uk l k)]⟩) (fun k=>stepE (prevK l k) (Uk l k) (l.getD k ⟨0,0⟩)≠0) l.length ?_ ?_]
  rotate_left
  ·rfl
  ·intro k hk hn
   obtain ⟨h1,h2,h3⟩:=stepE_rg _ hk (hn k (Nat.le_refl _))
   have hv:=rE_vol1 h1
   have hU:=Uk_len l k
   have hT:=take_v (G:=G) (B:=B) (Uk l k) l[k] hU hv
   rw [h3] at hT
   rw [Uk_succ l k hk]
   by_cases h0:0 < k
   ·have hj:joinsB (l[k-1]'(by omega)) l[k]=false:=by simpa [h0] using h2
    have hb:rangeE (l[k-1]'(by omega)).s (l[k-1]'(by omega)).n=0:=(stepE_rg _ (by omega) (hn (k-1) (by omega))).1
    have hb2:=bd_of hb
    simp (disch:=omega) only [go_sem,h76l0,List.length_map,Run.e,rangeErr_v,h1,joins_v,hj,hT]
   ·simp (disch:=omega) only [go_sem,h76l0,List.length_map,Run.e,rangeErr_v,h1,hT]
  obtain ⟨hk,hp,hn⟩:=ix_spec (fun k=>stepE (prevK l k) (Uk l k) (l.getD k ⟨0,0⟩)≠0) l.length
  generalize ix (fun k=>stepE (prevK l k) (Uk l k) (l.getD k ⟨0,0⟩)≠0) l.length=k at *
  have hrg:∀ (j:Nat) r,j < k→l[j]?=some r→rangeE r.s r.n=0:=fun j r hj hr=>by
   have hlt:j < l.length:=by omega
   have:=(stepE_rg _ hlt (hn j hj)).1
   rw [List.getElem?_eq_getElem hlt] at hr;injection hr with hr;rwa [hr] at this
  rw [chkL_to l k hk hn]
  rcases hp with rfl | ⟨hk',hp⟩
  ·have hr:=rg_all hrg
   have hw:lenW l=lenR l:=lenW_eq l (fun r hm=>by have:=rE_n (hr r hm);omega) (by
    have:=(lenT (l:=l) (k:=l.length) (by omega) hr).2
    rw [lenR_all] at this;omega)
   rw [List.drop_length,chkL]
   simp (disch:=omega) only [go_sem,h76l0,List.length_map,length_v,unless_v,hw]
  ·have hU:=Uk_len l k
   rw [runAt l k hk'] at hp
   rw [chkL_at hk',if_pos hp]
   rw [stepE_at _ hk'] at hp ⊢
   by_cases h1:rangeE l[k].s l[k].n=0
   ·have hT:=take_v (G:=G) (B:=B) (Uk l k) l[k] hU (rE_vol1 h1)
    by_cases h2:0 < k∧joinsB (l[k-1]'(by omega)) l[k]=true
    ·have hb2:=bd_of (hrg (k-1) (l[k-1]'(by omega)) (by omega) (List.getElem?_eq_getElem _))
     simp (disch:=omega) only [go_sem,h76l0,List.length_map,Run.e,rangeErr_v,h1,joins_v,h2]
    ·have h3:l[k].fresh (Uk l k)=false:=by
      simp only [h1,ne_eq,not_true_eq_false,if_false,if_neg h2] at hp
      cases h:l[k].fresh (Uk l k)
      ·rfl
      ·rw [h] at hp;simp at hp
     rw [h3] at hT
     by_cases h0:0 < k
     ·have hj:joinsB (l[k-1]'(by omega)) l[k]=false:=by simpa [h0] using h2
      have hb2:=bd_of (hrg (k-1) (l[k-1]'(by omega)) (by omega) (List.getElem?_eq_getElem _))
      simp (disch:=omega) only [go_sem,h76l0,List.length_map,Run.e,rangeErr_v,h1,joins_v,hj,hT,h3]
     ·simp (disch:=omega) only [go_sem,h76l0,List.length_map,Run.e,rangeErr_v,h1,hT,h3]
   ·simp (disch:=omega) only [go_sem,h76l0,List.length_map,Run.e,rangeErr_v]
end
section
variable {G:Glob} {B:CallT}
def sl1 (l:List Run):List DC:=[.slc (l.map Run.e)]
theorem errs_at (L:List (List Run)) (k:Nat) (hk:k < L.length):((L.map fun l=>(chk l).2).getD k 0)=(chk L[k]).2:=by simp [List.getD_eq_getElem?_getD,List.getElem?_eq_getElem hk]
theorem runsErr_v (L:List (List Run)) (hL:L.length≤1000):EV G (Tb B) 34 [vl (L.map sl1)] []=some (vi (errsE L),[]):=by
 refine EV_run rfl ?_
 simp (disch:=omega) only [go_sem,h34c,List.length_map]
 rw [EL_fst (fun k=>⟨(jk 7 (vl (L.map sl1)::vi L.length::vi k::jk 12 [])),[]⟩) (fun k=>(L.map fun l=>(chk l).2).getD k 0≠0) L.length ?_ ?_]
 rotate_left
 ·rfl
 ·intro k hk hn
  have h1:=hn k (Nat.le_refl _)
  rw [errs_at L k hk] at h1
  simp (disch:=omega) only [go_sem,h34l0,List.length_map,sl1,check_v]
 obtain ⟨hk,hp,hn⟩:=ix_spec (fun k=>(L.map fun l=>(chk l).2).getD k 0≠0) L.length
 generalize ix (fun k=>(L.map fun l=>(chk l).2).getD k 0≠0) L.length=k at *
 unfold errsE
 rcases hp with rfl | ⟨hk',hp⟩
 ·rw [firstE_none _ (by simpa using hn)]
  simp (disch:=omega) only [go_sem,h34l0,List.length_map]
 ·rw [firstE_at _ k (by simpa using hk') hn hp]
  rw [errs_at L k hk'] at hp
  simp (disch:=omega) only [go_sem,h34l0,List.length_map,sl1,check_v,List.getElem_map]
theorem errs1_v (a:List Run):EV G (Tb B) 34 [vl [[.slc (a.map Run.e)]]] []=some (vi (errsE [a]),[]):=runsErr_v [a] (by simp)
theorem errs2_v (a b:List Run):EV G (Tb B) 34 [vl [[.slc (a.map Run.e)],[.slc (b.map Run.e)]]] []=some (vi (errsE [a,b]),[]):=runsErr_v [a,b] (by simp)
theorem map_snoc (l:List Run) (s n:Int):l.map Run.e++[[.raw (.int .i64 s),.raw (.int .i64 n)]]=(l++[(⟨s,n⟩:Run)]).map Run.e:=by simp [Run.e,ci]
theorem e_len (r:Run):(Run.e r).length=2:=rfl
theorem all_run (l:List Run):allLen 2 (l.map Run.e)=true:=allLen_map e_len l
attribute [go_sem] all_run
theorem add_v (R:List Run) (r:Run) (hR:Good R) (hr:0≤r.n∧r.n≤1000000000):EV G (Tb B) 109 [.one (.ptr 0 0),r.v] [.box [.bld 1 R.length],.arr 0 2 (R.map Run.e)]=some (.tup [],[.box [.bld 1 (addR R r).length],.arr 0 2 ((addR R r).map Run.e)]):=by
 refine EV_run rfl ?_
 have hn:=hR.len
 by_cases h0:R=[]
 ·subst h0
  simp only [List.length_nil,List.map_nil,addR_nil]
  simp (disch:=omega) only [go_sem,h109c,List.map_cons,List.map_nil,Run.e]
 ·obtain ⟨R',q,hR',hget,hpos,hset⟩:=snoc_facts h0
  have hq:=(hR' ▸ hR).last
  have ha:=addR_snoc R' q r
  rw [← hR'] at ha
  have hnn:R.length=R'.length+1:=by simp [hR']
  cases hj:joinsB q r
  ·rw [hj] at ha
   simp (disch:=omega) only [go_sem,h109c,List.length_map,joins_v,hj,ha,Run.e,hget,map_snoc,List.length_append]
  ·rw [hj] at ha
   have hb:-9223372036854775808≤q.n+r.n∧q.n+r.n≤9223372036854775807:=by have:=hr;omega
   simp (disch:=omega) only [go_sem,h109c,List.length_map,joins_v,hj,ha,Run.e,hget,hset,List.length_append,← hnn]
theorem addAll_v (R l:List Run) (hR:Fine R) (hl:Fine l):EV G (Tb B) 106 [.one (.ptr 0 0),runsV l] [.box [.bld 1 R.length],.arr 0 2 (R.map Run.e)]=some (.tup [],[.box [.bld 1 (addL R l).length],.arr 0 2 ((addL R l).map Run.e)]):=by
 refine EV_run rfl ?_
 have hln:=hl.len
 simp (disch:=omega) only [go_sem,h106c,List.length_map]
 rw [EL_loop (fun k=>⟨(.one (.ptr 0 0)::jk 5 (runsV l::vi l.length::vi k::jk 7 [])),[.box [.bld 1 (addL R (l.take k)).length],.arr 0 2 ((addL R (l.take k)).map Run.e)]⟩) l.length ?_ ?_]
 ·simp (disch:=omega) only [go_sem,h106l0,List.take_length]
 ·rfl
 ·intro k hk
  have hG:=addL_goodK hR hl k
  have h1:=hl.el _ (List.getElem_mem hk)
  have h2:=hl.n_le (List.getElem_mem hk)
  have hT:=add_v (G:=G) (B:=B) (addL R (l.take k)) l[k] hG (by omega)
  rw [addL_take R l k hk]
  simp (disch:=omega) only [go_sem,h106l0,List.length_map,Run.e,hT]
end
section
variable {G:Glob} {B:CallT}
def objsD (R:List Run):List AObj:=if doneE R=0 then [.box [.dc (.slc (R.map Run.e))],.dead] else [.box [.bld 1 R.length],.arr 0 2 (R.map Run.e)]
theorem done_v (R:List Run) (hv:∀ r∈R,Vol r) (hl:R.length≤100000):
  EV G (Tb B) 107 [.one (.ptr 0 0)] [.box [.bld 1 R.length],.arr 0 2 (R.map Run.e)]=some (.tup [.one (.dc (.slc ((if doneE R=0 then R else []).map Run.e))),.one (.dc (ci (doneE R)))],objsD R):=by
 refine EV_run rfl ?_
 simp (disch:=omega) only [go_sem,h107c,List.length_map,List.map_replicate,U0_box]
 rw [EL_loop (fun k=>⟨(.one (.ptr 0 0)::jk 3 (.one (.ptr 2 0)::vb (frK R k)::jk 6 (.one (.bld 1 R.length)::vi R.length::vi k::jk 35 []))),[.box [.bld 1 R.length],.arr 0 2 (R.map Run.e),bx (intoL U0 (R.take k))]⟩) R.length ?_ ?_]
 ·have hd:doneE R=firstE [if frK R R.length=true then 0 else 23,if lenW R≤4096∧(R.length:Int)≤64 then 0 else 8]:=rfl
  unfold objsD
  by_cases h1:lenW R≤4096
  all_goals by_cases h2:(R.length:Int)≤64
  all_goals
   simp only [h1,h2,true_and,and_true,if_true,if_false,and_false,false_and] at hd
   by_cases hz:doneE R=0
  all_goals
   rw [hd] at hz
   simp only [hd]
   simp (disch:=omega) only [go_sem,h107l0,List.length_map,unless_v,length_v,h1,h2,first2]
  all_goals first | done | (simp only [hz];done) | (simp only [if_pos hz,hz];done) | simp only [if_neg hz]
 ·rfl
 ·intro k hk
  have h0:(intoL U0 (R.take k)).length=512:=by rw [intoL_len];exact U0_len
  have hf:=frK_succ R k hk
  have hT:=take_v (G:=G) (B:=B) (intoL U0 (R.take k)) R[k] h0 (hv _ (List.getElem_mem hk))
  rw [intoL_take U0 R k hk]
  cases hfr:R[k].fresh (intoL U0 (R.take k))
  all_goals
   rw [hfr] at hT
   simp only [hfr,Bool.true_and,Bool.false_and] at hf
   simp (disch:=omega) only [go_sem,h107l0,List.length_map,Run.e,hT,hf]
theorem made_v (L:List (List Run)) (hL:L.length≤1000) (h:Fine L.flatten) (hv:∀ r∈addL [] L.flatten,Vol r):
  EV G (Tb B) 68 [vl (L.map sl1)] []=some (.tup [.one (.dc (.slc ((madeV L).1.map Run.e))),.one (.dc (ci (madeV L).2))],[]):=by
 refine EV_run rfl ?_
 simp (disch:=omega) only [go_sem,h68c,List.length_map]
 rw [EL_loop (fun k=>⟨(jk 4 (.one (.ptr 0 0)::jk 2 (vl (L.map sl1)::vi L.length::vi k::jk 9 []))),[.box [.bld 1 (addL [] (L.take k).flatten).length],.arr 0 2 ((addL [] (L.take k).flatten).map Run.e)]⟩) L.length ?_ ?_]
 ·rw [List.take_length]
  have hlR:(addL [] L.flatten).length≤100000:=h.add.len
  have hd:=done_v (G:=G) (B:=B) (addL [] L.flatten) hv hlR
  unfold madeV
  unfold objsD at hd
  generalize addL [] L.flatten=R at hd ⊢
  by_cases h0:doneE R=0
  all_goals simp only [h0,if_true,if_false] at hd ⊢
  all_goals simp (disch:=omega) only [go_sem,h68l0,List.length_map,hd,h0]
 ·rfl
 ·intro k hk
  obtain ⟨n,hn⟩:=flat_take (L:=L) k
  have hF:Fine (addL [] (L.take k).flatten):=by rw [hn];exact (h.take n).add
  have hx:(L.take (k+1)).flatten=(L.take k).flatten++L[k]:=by rw [List.take_succ_eq_append_getElem hk];simp only [List.flatten_append,List.flatten_cons,List.flatten_nil,List.append_nil]
  have hT:=addAll_v (G:=G) (B:=B) (addL [] (L.take k).flatten) L[k] hF (h.flat _ (List.getElem_mem hk))
  rw [hx,addL_app]
  simp (disch:=omega) only [go_sem,h68l0,List.length_map,sl1,hT]
theorem part_v (l:List Run) (a c:Int) (hl:Fine l) (ha:0≤a∧a≤1000000000) (hc:0≤c∧c≤1000000000):EV G (Tb B) 69 [runsV l,vi a,vi c] []=some (runsV (partR l a c),[]):=by
 refine EV_run rfl ?_
 have hln:=hl.len
 simp (disch:=omega) only [go_sem,h69c,List.length_map]
 rw [EL_loop (fun k=>⟨(jk 1 (vi (partK l a c k).1::vi (partK l a c k).2.1::jk 4 (.one (.bld 0 (partK l a c k).2.2.length)::jk 5 (runsV l::vi l.length::vi k::jk 37 [])))),[.arr 0 2 ((partK l a c k).2.2.map Run.e)]⟩) l.length ?_ ?_]
 ·rw [partR_eq]
  simp (disch:=omega) only [go_sem,h69l0,List.length_map]
 ·rfl
 ·intro k hk
  have hx:=partK_succ l a c k hk
  have hb:=partK_ok l a c ha.1 hc.1 (fun r hr=>(hl.el r hr).2.2) k (by omega)
  have h1:=hl.el _ (List.getElem_mem hk)
  have h2:=hl.n_le (List.getElem_mem hk)
  rw [hx]
  generalize partK l a c k=s at hb ⊢
  obtain ⟨s1,s2,R⟩:=s
  simp only at hb
  simp only [pst]
  by_cases c1:l[k].n < s1
  ·by_cases c2:l[k].n - l[k].n < s2
   all_goals simp (disch:=omega) only [go_sem,h69l0,List.length_map,Run.e,isHole_v]
  ·by_cases c2:l[k].n - s1 < s2
   ·by_cases c3:l[k].n - s1=0
    ·simp (disch:=omega) only [go_sem,h69l0,List.length_map,Run.e,isHole_v]
    ·by_cases c4:l[k].s=-1
     all_goals simp (disch:=omega) only [go_sem,h69l0,List.length_map,Run.e,isHole_v,map_snoc,List.length_append]
   ·by_cases c3:s2=0
    ·simp (disch:=omega) only [go_sem,h69l0,List.length_map,Run.e,isHole_v]
    ·by_cases c4:l[k].s=-1
     all_goals simp (disch:=omega) only [go_sem,h69l0,List.length_map,Run.e,isHole_v,map_snoc,List.length_append]
end
section
variable {G:Glob} {B:CallT}
theorem made1_v (a:List Run) (h:Fine [a].flatten) (hv:∀ r∈addL [] [a].flatten,Vol r):EV G (Tb B) 68 [vl [[.slc (a.map Run.e)]]] []=some (.tup [.one (.dc (.slc ((madeV [a]).1.map Run.e))),.one (.dc (ci (madeV [a]).2))],[]):=made_v [a] (by simp) h hv
theorem made3_v (a b c:List Run) (h:Fine [a,b,c].flatten) (hv:∀ r∈addL [] [a,b,c].flatten,Vol r):EV G (Tb B) 68 [vl [[.slc (a.map Run.e)],[.slc (b.map Run.e)],[.slc (c.map Run.e)]]] []=some (.tup [.one (.dc (.slc ((madeV [a,b,c]).1.map Run.e))),.one (.dc (ci (madeV [a,b,c]).2))],[]):=made_v [a,b,c] (by simp) h hv
theorem cutErr_v (l:List Run) (a c:Int) (hl:l.length≤1000000):EV G (Tb B) 67 [runsV l,vi a,vi c] []=some (vi (cutE l a c),[]):=by
 refine EV_run rfl ?_
 unfold cutE
 by_cases h1:0≤a∧a≤4096
 all_goals by_cases h2:0≤c∧c≤4096
 all_goals simp (disch:=omega) only [go_sem,h67c,errs1_v,within_v,unless_v,length_v,first3]
def changeE (l:List Run) (at':Int) (b:List Run) (n:Int):Int:=firstE [errsE [l,b],if 0≤at'∧at'≤4096 then 0 else 2,if at'≤IntKind.i64.wrap (lenW l - n) then 0 else 37]
theorem changeErr_v (l b:List Run) (a n:Int) (hl:l.length≤1000000):EV G (Tb B) 71 [runsV l,vi a,runsV b,vi n] []=some (vi (changeE l a b n),[]):=by
 refine EV_run rfl ?_
 unfold changeE
 by_cases h1:0≤a∧a≤4096
 all_goals simp (disch:=omega) only [go_sem,h71c,errs2_v,within_v,unless_v,length_v,first3]
theorem cut_v (l:List Run) (a c:Int) (hl:l.length≤1000000):EV G (Tb B) 28 [runsV l,vi a,vi c] []=some (.tup [.one (.dc (.slc ((cutV l a c).1.map Run.e))),.one (.dc (ci (cutV l a c).2))],[]):=by
 refine EV_run rfl ?_
 unfold cutV
 by_cases h:cutE l a c=0
 ·obtain ⟨h1,h2,h3,h4⟩:=cutE_ok h
  have hF:=part_fine h1 (a:=a) (c:=c) h2.1 ⟨h3.1,by omega⟩
  have hV:∀ r∈addL [] (partR l a c),Vol r:=addL_vol (by simp) (fun q hq=>((part_all h1 h2.1 h3.1).1 q hq).1)
  have hP:=part_v (G:=G) (B:=B) l a c (chk_fine h1) ⟨h2.1,by omega⟩ ⟨h3.1,by omega⟩
  have hM:=made1_v (G:=G) (B:=B) (partR l a c) (by simpa using hF) (by simpa using hV)
  simp (disch:=omega) only [go_sem,h28c,cutErr_v,hP,hM,h]
 ·simp (disch:=omega) only [go_sem,h28c,cutErr_v,h]
theorem changeE_ok {l b:List Run} {a n:Int} (h:changeE l a b n=0) (hn:0≤n∧n≤4096):(chk l).2=0∧(chk b).2=0∧(0≤a∧a≤4096)∧a+n≤lenR l:=by
 simp only [changeE,errs2,firstE] at h
 have h1:(chk l).2=0:=by
  by_cases h1:(chk l).2=0
  ·exact h1
  ·rw [if_neg h1] at h;rw [if_neg h1] at h;exact absurd h h1
 rw [if_pos h1] at h
 have h2:(chk b).2=0:=by
  by_cases h2:(chk b).2=0
  ·exact h2
  ·rw [if_neg h2] at h;exact absurd h h2
 rw [if_pos h2] at h
 have hb:=lenC h1
 have hF:=chk_fine h1
 have hw:lenW l=lenR l:=lenW_eq l (fun r hr=>(hF.el r hr).2.2) (by omega)
 by_cases h3:0≤a∧a≤4096
 ·simp only [h3,if_true,and_self,hw] at h
  rw [wrap64 (by omega)] at h
  by_cases h4:a≤lenR l - n
  ·exact ⟨h1,h2,h3,by omega⟩
  ·simp [h4] at h
 ·simp [h3] at h
def repN (b:List Run):Int:=if (chk b).2=0 then lenR b else 0
def replacedV (l:List Run) (a:Int) (b:List Run):List Run × Int:=if changeE l a b (repN b)≠0 then ([],changeE l a b (repN b)) else madeV [partR l 0 a,b,partR l (a+repN b) (lenR l)]
theorem lenW_chk {l:List Run} (h:(chk l).2=0):lenW l=lenR l:=lenW_eq l (fun r hr=>((chk_fine h).el r hr).2.2) (by have:=lenC h;omega)
theorem three_ok {l b:List Run} {a n:Int} (h1:(chk l).2=0) (h2:(chk b).2=0) (ha:0≤a∧a≤4096) (hn:0≤n):
  Fine [partR l 0 a,b,partR l (a+n) (lenR l)].flatten∧∀ r∈addL [] [partR l 0 a,b,partR l (a+n) (lenR l)].flatten,Vol r:=by
 have hb:=lenC h1
 have hF1:=part_fine h1 (a:=0) (c:=a) (by omega) (by omega)
 have hF2:=part_fine h1 (a:=a+n) (c:=lenR l) (by omega) (by omega)
 have hFb:=chk_fine h2
 have hlb:=lenC h2
 have e:[partR l 0 a,b,partR l (a+n) (lenR l)].flatten=partR l 0 a++(b++partR l (a+n) (lenR l)):=by simp
 have s1:=(part_all h1 (a:=0) (c:=a) (by omega) ha.1)
 have s2:=(part_all h1 (a:=a+n) (c:=lenR l) (by omega) hb.1)
 rw [e]
 refine ⟨⟨fun q hq=>?_, ?_, ?_⟩,addL_vol (by simp) (fun q hq=>?_)⟩
 ·simp only [List.mem_append] at hq
  rcases hq with hq | hq | hq
  ·exact hF1.el q hq
  ·exact hFb.el q hq
  ·exact hF2.el q hq
 ·rw [lenR_app,lenR_app];omega
 ·have:=chk_len h1;have:=chk_len h2;simp only [List.length_append];omega
 ·simp only [List.mem_append] at hq
  rcases hq with hq | hq | hq
  ·exact (s1.1 q hq).1
  ·exact (chk_vol h2 q hq).1
  ·exact (s2.1 q hq).1
theorem replaced_v (l b:List Run) (a:Int) (hl:l.length≤1000000) (hb:b.length≤1000000):EV G (Tb B) 29 [runsV l,vi a,runsV b] []=some (.tup [.one (.dc (.slc ((replacedV l a b).1.map Run.e))),.one (.dc (ci (replacedV l a b).2))],[]):=by
 refine EV_run rfl ?_
 have hbn:0≤repN b∧repN b≤4096:=by
  unfold repN;split
  ·rename_i h;exact lenC h
  ·omega
 by_cases h:changeE l a b (repN b)=0
 ·obtain ⟨h1,h2,h3,h4⟩:=changeE_ok h hbn
  have hF:=chk_fine h1
  have hbl:=lenC h1
  have hw:=lenW_chk h1
  have hw2:=lenW_chk h2
  have hP:=part_v (G:=G) (B:=B) l 0 a hF (by omega) (by omega)
  have hQ:=part_v (G:=G) (B:=B) l (a+repN b) (lenR l) hF (by omega) (by omega)
  have h5:=three_ok h1 h2 h3 (n:=repN b) (by omega)
  have hM:=made3_v (G:=G) (B:=B) (partR l 0 a) b (partR l (a+repN b) (lenR l)) h5.1 h5.2
  have hN:repN b=lenR b:=by rw [repN,if_pos h2]
  have he:errsE [b]=0:=by rw [errs1];exact h2
  unfold replacedV
  rw [hN] at h hM hQ ⊢
  simp (disch:=omega) only [go_sem,h29c,errs1_v,he,changeErr_v,hP,hQ,hM,h,length_v,hw,hw2]
 ·unfold replacedV
  by_cases h2:(chk b).2=0
  ·have hN:repN b=lenR b:=by rw [repN,if_pos h2]
   have he:errsE [b]=0:=by rw [errs1];exact h2
   have hw2:=lenW_chk h2
   rw [hN] at h ⊢
   simp (disch:=omega) only [go_sem,h29c,errs1_v,he,changeErr_v,h,length_v,hw2]
  ·have hN:repN b=0:=by rw [repN,if_neg h2]
   have he:¬ errsE [b]=0:=by rw [errs1];exact h2
   rw [hN] at h ⊢
   simp (disch:=omega) only [go_sem,h29c,errs1_v,he,changeErr_v,h]
end
end Go.Proofs.YtmmafhopnkkeeaaGreatDoor
