/- ParseRuns as a contract over data. Conditions: as each theorem says. -/
import Derived.Test.YtmmafhopnkkeeaaGreatDoorPe
namespace Go.Proofs.YtmmafhopnkkeeaaGreatDoor
set_option linter.unusedSimpArgs false
set_option linter.unusedVariables false
open Go.RowKit
def bts (s:ByteArray):List Int:=s.data.toList.map fun b=>(b.toNat:Int)
theorem bts_byts (s:ByteArray):Byts (bts s):=fun b hb=>by
 obtain ⟨x,_,rfl⟩:=List.mem_map.1 hb
 have:=x.toNat_lt
 omega
theorem str_bts (s:ByteArray):str (bts s)=s:=by
 apply ByteArray.ext
 apply Array.ext'
 simp [str,bts,u8,Function.comp_def]
theorem bts_str {l:List Int} (h:Byts l):bts (str l)=l:=by
 have:=str_bts (str l)
 rwa [str_inj (bts_byts _) h] at this
abbrev prsA (p:List Run × Int):AV:=.tup [.one (.dc (.slc (p.1.map Run.e))),.one (.dc (ci p.2))]
theorem prs_qc {G:Glob} (hG:GR G) (s:ByteArray):QC Tryz.prog G 8 [.one (.dc (.raw (.string s)))] (prsA (psR (bts s))):=by
 intro F γ vs w hi hg hv
 obtain ⟨x,rfl,hx⟩:=ar1 hv
 have hx:=rv_raw hx
 subst hx
 have hγ:γ=[]:=List.eq_nil_of_length_eq_zero hi.len
 subst hγ
 obtain ⟨t1,p1,h1⟩:=hG.sy
 obtain ⟨t2,p2,h2⟩:=hG.rg
 obtain ⟨m,hm⟩:=hG.ml
 have key:=prs_calls (bts s) (bts_byts s) w (tab_of hg hi.fz hG.pw) (raw_of hg hi.fz h1) (raw_of hg hi.fz h2) (raw_of hg hi.fz hm)
 rw [str_bts] at key
 refine key.mono ?_
 rintro e W ⟨v,rfl,hr,hb⟩
 obtain ⟨F',hF'⟩:∃ F':Fz,F'=fun k=>if v.ownBlock=some k then W.heap[k]? else F k:=⟨_,rfl⟩
 have hlow:∀ k,v.ownBlock=some k→w.heap.size≤k:=fun k hk=>by
  rcases hr.2 with ⟨rfl,_⟩ | ⟨g,cap,cur,rfl,h1,_⟩
  ·cases hk
  ·injection hk with hk;subst hk;exact h1
 have hold:∀ b o,F b=some o→W.heap[b]?=some o:=fun b o h=>by
  have h0:=hi.fz b o h
  rw [hb.block b (Array.getElem?_eq_some_iff.1 h0).1];exact h0
 have hRD:=row_rd hr (F:=F') (fun g hg=>by rw [hF'];exact if_pos hg)
 refine ⟨_,_,[],F',[],rfl,⟨rfl,rfl⟩,Nat.le_refl _,⟨fun b o h=>?_,hb.os,hb.tape,hb.output,hb.size,fun b h _=>hb.block b h,fun b o h=>?_,(fun _ _ h=>by cases h),(fun _ h=>by cases h)⟩,
  ⟨fun b o h=>?_,rfl,(fun _ _ _ h=>by cases h),(fun _ _ h=>by cases h),(fun _ _ _ h=>by cases h)⟩,.tup _ _ rfl (fun i t v h1 h2=>?_)⟩
 ·rw [hF']
  simp only
  split
  ·exact hold b o h
  ·exact h
 ·rw [hF'] at h
  simp only at h
  split at h
  ·rename_i hk;exact .inr (.inl (hlow b hk))
  ·exact .inl h
 ·rw [hF'] at h
  simp only at h
  split at h
  ·exact h
  ·exact hold b o h
 ·match i with
  | 0=>injection h1 with h1;injection h2 with h2;subst h1;subst h2;exact .one _ _ (.dc _ _ hRD)
  | 1=>injection h1 with h1;injection h2 with h2;subst h1;subst h2;exact .one _ _ (.dc _ _ (.raw _ rfl))
  | n+2=>simp at h1
end Go.Proofs.YtmmafhopnkkeeaaGreatDoor
