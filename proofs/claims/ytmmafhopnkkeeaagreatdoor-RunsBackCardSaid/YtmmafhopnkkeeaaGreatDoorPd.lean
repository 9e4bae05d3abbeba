/- Runs in a row of one's own as data; the errors of runs as the kit's walk calls them. Conditions: as each theorem says. -/
import Derived.Test.YtmmafhopnkkeeaaGreatDoorPb
import Derived.Test.YtmmafhopnkkeeaaGreatDoorPa
import Derived.Test.YtmmafhopnkkeeaaGreatDoorQc
import Derived.Test.YtmmafhopnkkeeaaGreatDoorVg
namespace Go.Proofs.YtmmafhopnkkeeaaGreatDoor
set_option linter.unusedSimpArgs false
set_option linter.unusedVariables false
open Go.RowKit
def valR:List Run→List Value
 | []=>[]
 | r::l=>.int .i64 r.s::.int .i64 r.n::valR l
theorem valR_app:∀ a b:List Run,valR (a++b)=valR a++valR b
 | [],b=>rfl
 | r::a,b=>by rw [List.cons_append,valR,valR,valR_app a b];rfl
theorem valR_at:∀ (l:List Run) (i:Nat) (r:Run),l[i]?=some r→(valR l)[i * 2]?=some (.int .i64 r.s)∧(valR l)[i * 2+1]?=some (.int .i64 r.n)
 | [],i,r,h=>by simp at h
 | q::l,0,r,h=>by
  simp only [List.getElem?_cons_zero,Option.some.injEq] at h
  subst h
  exact ⟨rfl,rfl⟩
 | q::l,i+1,r,h=>by
  obtain ⟨h1,h2⟩:=valR_at l i r (by simpa using h)
  have e:(i+1) * 2=i * 2+1+1:=by omega
  rw [e,valR]
  simp only [List.getElem?_cons_succ]
  exact ⟨h1,h2⟩
theorem row_rd {W:World} {h:Nat} {e:TypeId} {v:Value} {l:List Run} (hr:W.ownsRow h e 2 v l.length (valR l)) {F:Fz} (hF:∀ g,v.ownBlock=some g→F g=W.heap[g]?):RD F (.slc (l.map Run.e)) v:=by
 rcases hr.2 with ⟨rfl,h0⟩ | ⟨g,cap,cur,rfl,_,hg,hc1,_,hc3,hc4⟩
 ·have:l=[]:=List.eq_nil_of_length_eq_zero h0
  subst this
  exact .nil none 0
 ·have hF:=hF g rfl
  have hlen:(l.map Run.e).length=l.length:=List.length_map _
  have key:=RD.slc (F:=F) g 0 cap 2 (l.map Run.e) (fun i j=>if j=0 then (.int .i64 (l.getD i ⟨0,0⟩).s) else (.int .i64 (l.getD i ⟨0,0⟩).n)) (fun e he=>by
   obtain ⟨r,_,rfl⟩:=List.mem_map.1 he;rfl) (fun i j e d he hd=>?_) (fun i j e d he hd=>?_) (by omega)
  ·rw [hlen] at key;exact key
  all_goals
   rw [List.getElem?_map] at he
   obtain ⟨r,hi,rfl⟩:=Option.map_eq_some_iff.1 he
   have hd':l.getD i ⟨0,0⟩=r:=by rw [List.getD_eq_getElem?_getD,hi];rfl
   obtain ⟨v1,v2⟩:=valR_at l i r hi
   rw [← hc4] at v1 v2
   have hil:i < l.length:=(List.getElem?_eq_some_iff.1 hi).1
   rw [List.getElem?_take_of_lt (by omega)] at v1 v2
  ·match j,hd with
   | 0,hd=>injection hd with hd;subst hd;rw [if_pos rfl,hd'];exact .raw _ rfl
   | 1,hd=>injection hd with hd;subst hd;rw [if_neg (by omega),hd'];exact .raw _ rfl
   | j+2,hd=>simp [Run.e] at hd
  ·unfold Fz.cell?
   simp only [hF,hg,Option.isSome_none,Bool.false_eq_true,if_false,Nat.zero_add]
   match j,hd with
   | 0,_=>rw [if_pos rfl,hd',← Array.getElem?_toList];exact v1
   | 1,_=>rw [if_neg (by omega),hd',← Array.getElem?_toList];exact v2
   | j+2,hd=>simp [Run.e] at hd
theorem runsErr_c (V:World) (l:List Run) (v:Value) (B h:Nat) (e t:TypeId) (hB:V.heap[B]?=some (.cells #[v] t (0,0))) (hr:V.ownsRow h e 2 v l.length (valR l)):
  Calls Tryz.prog 34 #[.slice (some ⟨B,0,none⟩) 1 1] V fun x W=>x=.returned (.int .i64 (chk l).2)∧Below V.heap.size V W:=by
 have q:=EV_qc (Tb_ok _) (fun f args hp av o' h=>by cases h) (errs1_v (G:=fun _=>none) (B:=fun _ _ _=>none) l)
 rw [errs1] at q
 obtain ⟨F,hF⟩:∃ F:Fz,F=fun k=>if k=B∨v.ownBlock=some k then V.heap[k]? else none:=⟨_,rfl⟩
 have hFB:F B=V.heap[B]?:=by rw [hF];exact if_pos (.inl rfl)
 have hRD:=row_rd hr (F:=F) (fun g hg=>by rw [hF];exact if_pos (.inr hg))
 refine (q F [] #[.slice (some ⟨B,0,none⟩) 1 1] V ⟨fun k o h=>?_,rfl,fun _ _ _ h=>(by cases h),fun _ _ h=>(by cases h),fun _ _ _ h=>(by cases h)⟩ ⟨fun _ _ h=>(by cases h),fun _ _ h=>(by cases h)⟩ ⟨rfl,fun i av x h1 h2=>?_⟩).mono ?_
 ·rw [hF] at h
  simp only at h
  split at h
  ·exact h
  ·cases h
 ·match i with
  | 0=>
   injection h1 with h1;injection h2 with h2;subst h1;subst h2
   refine .one _ _ (.dc _ _ (RD.slc (F:=F) B 0 1 1 [[.slc (l.map Run.e)]] (fun _ _=>v) (fun e he=>by rw [List.mem_singleton] at he;subst he;rfl) (fun i j e d he hd=>?_) (fun i j e d he hd=>?_) (by simp)))
   all_goals
    match i,he with
    | 0,he=>
     injection he with he;subst he
     match j,hd with
     | 0,hd=>
      injection hd with hd;subst hd
      first | exact hRD | (unfold Fz.cell?;simp [hFB,hB])
     | j+1,hd=>simp at hd
    | i+1,he=>simp at he
  | n+1=>simp at h1
 ·rintro x W ⟨r',av,objs',F',γ',rfl,⟨rfl,_⟩,_,hE,_,hv⟩
  rw [rv_raw hv]
  exact ⟨rfl,hE.os,hE.tape,hE.output,hE.size,fun k hk=>hE.far k hk (fun i h=>by cases h)⟩
end Go.Proofs.YtmmafhopnkkeeaaGreatDoor
