/- The reference's order of attributes: sorted by insertion. Conditions: none. -/
import Derived.Test.YtcplecjhmnblpaaGreatDoorUw
import Derived.Test.YtcplecjhmnblpaaGreatDoorTg
namespace Go.Proofs.YtcplecjhmnblpaaGreatDoor
set_option linter.unusedSimpArgs false
set_option linter.unusedVariables false
set_option maxRecDepth 4000
variable {G:Glob} {bb:Bool}
def h26o:HF:={ h67 with own:=true }
def tbR:FuncId→Option HF:=fun f=>if f=81 then some h81 else if f=67 then some h26o else none
noncomputable def TR (G:Glob) (bb:Bool):HT:=⟨tbR,EV G (Tb (bs bb))⟩
theorem TR_ok {G:Glob} {bb:Bool}:HTOK Tryz.prog (TR G bb):=by
 intro f h hf
 change tbR f=some h at hf
 unfold tbR at hf
 split at hf
 ·rename_i e
  subst e
  injection hf with hf;subst hf;exact ⟨by kernel_rfl,_,Tryz.func81,Tryz.ntmps81,h81_ok,r81_ok⟩
 ·split at hf
  ·rename_i e
   subst e
   injection hf with hf;subst hf;exact ⟨by kernel_rfl,_,Tryz.func67,Tryz.ntmps67,h67_ok,r67_ok⟩
  ·cases hf
theorem tr {f:FuncId} {args:List AV} {hp:List AObj} {r:AV × List AObj} (h:EV G (Tb (bs bb)) f args hp=some r) (h1:f≠81:=by decide) (h2:f≠67:=by decide):EV G (TR G bb) f args hp=some r:=
 EV_base (by show tbR f=none;unfold tbR;rw [if_neg h1,if_neg h2]) h
theorem copyO_v (l:List Att) (hl:l.length≤1000) (hr:∀ a∈l,a.rs.length≤1000000):EV G (TR G bb) 67 [vl (l.map Att.e)] []=some (.one (.bld 0 l.length),[.arr 0 11 (l.map Att.e)]):=by
 refine EV_run (h:=h26o) rfl ?_
 simp only [h26o]
 simp (disch:=omega) only [go_sem,h67c]
 rw [EL_loop (fun k=>⟨(vl (l.map Att.e)::jk 2 (.one (.bld 0 ((l.take k).map Att.e).length)::vi k::jk 15 [])),[.arr 0 11 ((l.take k).map Att.e)]⟩) l.length ?_ ?_]
 ·simp (disch:=omega) only [go_sem,h67l0,List.length_map,List.take_length]
 ·rfl
 ·intro k hk
  have q:=tr (copyA_v (G:=G) (bb:=bb) l[k] (hr _ (List.getElem_mem hk)))
  have hb:((l.take k).map Att.e).length≤1000:=by rw [List.length_map,List.length_take];omega
  have hall:=all_att (l.take k)
  rw [takeA l k hk]
  generalize (l.take k).map Att.e=C at hb hall ⊢
  simp (disch:=omega) only [go_sem,h67l0,List.length_map,ixA,Att.e,q,hall]
  rw [List.length_append]
  rfl
def mid (p:List Att) (x:Att) (r:List Att) (k:Nat):List Att:=p.take k++x::(p.drop k++r)
theorem mid_len (p:List Att) (x:Att) (r:List Att) (k:Nat):(mid p x r k).length=p.length+1+r.length:=by
 have:=congrArg List.length (List.take_append_drop k p)
 rw [List.length_append] at this
 unfold mid
 rw [List.length_append,List.length_cons,List.length_append]
 omega
theorem mid_x {p:List Att} {x:Att} {r:List Att} {k:Nat} (h:k≤p.length):(mid p x r k)[k]?=some x:=by
 unfold mid
 rw [List.getElem?_append_right (by rw [List.length_take];omega),List.length_take,Nat.min_eq_left h,Nat.sub_self]
 rfl
theorem mid_p {p:List Att} {x:Att} {r:List Att} {k:Nat} (h:k < p.length):(mid p x r (k+1))[k]?=some p[k]:=by
 unfold mid
 rw [List.getElem?_append_left (by rw [List.length_take];omega),List.getElem?_take_of_lt (by omega),List.getElem?_eq_getElem h]
theorem mid_set {p:List Att} {x:Att} {r:List Att} {k:Nat} (h:k < p.length):((mid p x r (k+1)).set k x).set (k+1) p[k]=mid p x r k:=by
 unfold mid
 have e1:p.take (k+1)=p.take k++[p[k]]:=List.take_succ_eq_append_getElem h
 have e2:p.drop k=p[k]::p.drop (k+1):=List.drop_eq_getElem_cons h
 have hl:(p.take k).length=k:=by rw [List.length_take];omega
 rw [e1,e2,List.append_assoc,List.set_append_right _ _ (by omega),hl,Nat.sub_self]
 simp only [List.singleton_append,List.set_cons_zero]
 rw [List.set_append_right _ _ (by omega),hl,show k+1 - k=1 by omega]
 rfl
theorem mid_0 (p:List Att) (x:Att) (r:List Att):mid p x r p.length=p++x::r:=by
 unfold mid
 rw [List.take_length,List.drop_length];rfl
theorem mid_ins (p:List Att) (x:Att) (r:List Att):mid p x r (kpos cmpA p x p.length)=insK cmpA p x++r:=by
 unfold mid insK
 rw [List.append_assoc];rfl
abbrev rwA (l:List Att):List (List DC):=l.map Att.e
theorem rwA_get {l:List Att} {k:Nat} {a:Att} (h:l[k]?=some a):(rwA l)[k]?=some a.e:=by
 rw [List.getElem?_map,h];rfl
theorem srtK_take (l:List Att) (i:Nat) (hi:i < l.length):srtK cmpA (l.take (i+1))=insK cmpA (srtK cmpA (l.take i)) l[i]:=by
 unfold srtK
 rw [List.take_succ_eq_append_getElem hi,List.foldl_append]
 rfl
set_option maxHeartbeats 2000000 in
theorem refSorted_v (l:List Att) (hl:l.length≤1000) (hr:∀ a∈l,a.rs.length≤1000000):EV G (TR G bb) 81 [vl (l.map Att.e)] []=some (vl ((srtA l).map Att.e),[]):=by
 refine EV_run (h:=h81) rfl ?_
 have q0:=copyO_v (G:=G) (bb:=bb) l hl hr
 simp (disch:=omega) only [go_sem,h81c,q0]
 rw [EL_loop (fun i=>⟨(jk 3 (.one (.bld 0 l.length)::vi i::jk 44 [])),[.arr 0 11 (rwA (srtK cmpA (l.take i)++l.drop i))]⟩) l.length ?_ ?_]
 ·have hL:(rwA (srtK cmpA (l.take l.length)++l.drop l.length))=(srtA l).map Att.e:=by
   rw [List.take_length,List.drop_length,List.append_nil];rfl
  rw [hL]
  have hn:=srtA_len l
  have ht:((srtA l).map Att.e).take l.length=(srtA l).map Att.e:=List.take_of_length_le (by rw [List.length_map];omega)
  simp (disch:=omega) only [go_sem,h81l1,List.length_map,ht]
 ·rfl
 ·intro i hi
  rw [srtK_take l i hi,List.drop_eq_getElem_cons hi]
  have hp:(srtK cmpA (l.take i)).length=i:=by
   have:=(srtK_perm cmpA (l.take i)).length_eq
   rw [this,List.length_take];omega
  have hr1:(l.drop (i+1)).length=l.length - (i+1):=List.length_drop ..
  generalize srtK cmpA (l.take i)=p at *
  generalize l.drop (i+1)=r at *
  generalize l[i]=x at *
  rw [← mid_0,← mid_ins]
  obtain ⟨k1,k2⟩:=kpos_ok cmpA p x p.length (Nat.le_refl _)
  have kl:=kpos_le cmpA p x p.length
  generalize kpos cmpA p x p.length=z at *
  rw [hp]
  simp (disch:=omega) only [go_sem,h81l1]
  rw [EL_loop (fun j=>⟨(jk 3 (.one (.bld 0 l.length)::vi i::vi (i - j:Nat)::jk 43 [])),[.arr 0 11 (rwA (mid p x r (i - j)))]⟩) (i - z) ?_ ?_]
  ·rw [show i - (i - z)=z by omega]
   by_cases z0:z=0
   ·subst z0
    simp (disch:=omega) only [go_sem,h81l0,Int.natCast_zero,Int.lt_irrefl,decide_false]
   ·obtain ⟨y,rfl⟩:∃ y,z=y+1:=⟨z - 1,by omega⟩
    have g1:=rwA_get (mid_x (p:=p) (x:=x) (r:=r) (k:=y+1) (by omega))
    have g0:=rwA_get (mid_p (p:=p) (x:=x) (r:=r) (k:=y) (by omega))
    have hy:y < p.length:=by omega
    have h2:cmpA p[y] x≤0:=k2 (by omega) (by omega)
    have q:=tr (compareR_v (G:=G) (bb:=bb) p[y] x)
    have d1:(y:Int)+1 - 1=(y:Int):=by omega
    have t1:((y:Int)+1).toNat=y+1:=by omega
    have d0:(0:Int) < (y:Int)+1:=by omega
    have d2:¬ 0 < cmpA p[y] x:=by omega
    have hL:(rwA (mid p x r (y+1))).length=l.length:=by rw [List.length_map,mid_len];omega
    generalize rwA (mid p x r (y+1))=L at *
    simp (disch:=omega) only [go_sem,h81l0,d1,t1,eq_true d0,g1,g0,Att.e,q,d2,hL]
  ·rfl
  ·intro j hj
   obtain ⟨y,hy⟩:∃ y,i - j=y+1:=⟨i - j - 1,by omega⟩
   have hy1:i - (j+1)=y:=by omega
   rw [hy,hy1]
   have g1:=rwA_get (mid_x (p:=p) (x:=x) (r:=r) (k:=y+1) (by omega))
   have g0:=rwA_get (mid_p (p:=p) (x:=x) (r:=r) (k:=y) (by omega))
   have hy:y < p.length:=by omega
   have h2:cmpA p[y] x > 0:=k1 y hy (by omega) (by omega)
   have q:=tr (compareR_v (G:=G) (bb:=bb) p[y] x)
   have d1:(y:Int)+1 - 1=(y:Int):=by omega
   have t1:((y:Int)+1).toNat=y+1:=by omega
   have d0:(0:Int) < (y:Int)+1:=by omega
   have d2:0 < cmpA p[y] x:=by omega
   have hL:(rwA (mid p x r (y+1))).length=l.length:=by rw [List.length_map,mid_len];omega
   have hs:((rwA (mid p x r (y+1))).set y x.e).set (y+1) p[y].e=rwA (mid p x r y):=by
    rw [← mid_set hy]
    show _=(((mid p x r (y+1)).set y x).set (y+1) p[y]).map Att.e
    rw [List.map_set,List.map_set]
   have g2:((rwA (mid p x r (y+1))).set y x.e)[y+1]?=some x.e:=by
    rw [List.getElem?_set_ne (by omega)];exact g1
   generalize rwA (mid p x r (y+1))=L at *
   generalize rwA (mid p x r y)=L' at *
   simp (disch:=omega) only [go_sem,h81l0,d1,t1,eq_true d0,g1,g0,g2,Att.e,q,eq_true d2,hL,List.length_set]
   rw [← hs]
end Go.Proofs.YtcplecjhmnblpaaGreatDoor
