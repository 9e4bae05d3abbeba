/- The parts of a string, one by one, by the library's iterator. Conditions: as each theorem says. -/
import Derived.Test.YtmmafhopnkkeeaaGreatDoorPa
import Derived.Test.YtmmafhopnkkeeaaGreatDoorQn
import Derived.Shelf.Abstract
import Derived.Shelf.RegionOpen
import Derived.WalkKit
import Derived.OwnWalkIn
import Derived.TacticsInMore
import Derived.LoopNIn
import Derived.LoopIn
import Derived.Maps.AppendAt
namespace Go.Proofs.YtmmafhopnkkeeaaGreatDoor
set_option linter.unusedSimpArgs false
set_option linter.unusedVariables false
open Go.RowKit Go.Shelf
attribute [local go_sem] Oper.semAt_some
def prtB (s:ByteArray):List ByteArray:=(spl (32:UInt8) s.data.toList).map fun l=>⟨l.toArray⟩
theorem spl_ix (c:UInt8):∀ l:List UInt8,(Lib.index l [c]=-1∧spl c l=[l])∨∃ i:Nat,Lib.index l [c]=i∧i < l.length∧spl c l=l.take i::spl c (l.drop (i+1))
 | []=>.inl ⟨rfl,rfl⟩
 | x::l=>by
  rw [index_one,spl]
  by_cases h:x=c
  ·rw [if_pos h,if_pos h]
   exact .inr ⟨0,rfl,by simp,rfl⟩
  ·rw [if_neg h,if_neg h]
   rcases spl_ix c l with ⟨h1,h2⟩ | ⟨i,h1,h2,h3⟩
   ·rw [h1,if_pos rfl,h2]
    exact .inl ⟨rfl,rfl⟩
   ·rw [h1,if_neg (by omega),h3]
    exact .inr ⟨i+1,by omega,by rw [List.length_cons];omega,rfl⟩
theorem prtB_ix (r:ByteArray):(Lib.index r.data.toList [32]=-1∧prtB r=[r])∨∃ i:Nat,Lib.index r.data.toList [32]=i∧i < r.size∧prtB r=r.extract 0 i::prtB (r.extract (i+1) r.size):=by
 rcases spl_ix 32 r.data.toList with ⟨h1,h2⟩ | ⟨i,h1,h2,h3⟩
 ·refine .inl ⟨h1, ?_⟩
  unfold prtB
  rw [h2];rfl
 ·have hz:r.size=r.data.toList.length:=by rw [Array.length_toList];rfl
  refine .inr ⟨i,h1,by omega, ?_⟩
  unfold prtB
  rw [h3,List.map_cons]
  congr 1
  ·apply ByteArray.ext
   apply Array.ext'
   rw [ByteArray.data_extract,Array.toList_extract,List.extract_eq_take_drop]
   rfl
  ·congr 2
   have:(r.extract (i+1) r.size).data.toList=r.data.toList.drop (i+1):=by
    rw [ByteArray.data_extract,Array.toList_extract,List.extract_eq_take_drop,List.take_of_length_le (by rw [List.length_drop];omega)]
   rw [this]
def Kps (h b:Nat) (A B:World):Prop:=∀ k,k < h∨b≤k∧k≤b+2→B.heap[k]?=A.heap[k]?
def leftS (b:Nat) (w:World):Nat:=match w.cell? ⟨b,0,none⟩ with
 | some (.string s)=>s.size
 | _=>0
theorem box_heap {A B:World} {b:Nat} {t:TypeId} {v:Value} (h:Boxed A b t v) (e:B.heap[b]?=A.heap[b]?):Boxed B b t v:=by
 unfold Boxed at h ⊢;rw [e,h]
set_option maxRecDepth 100000 in
set_option maxHeartbeats 2000000 in
theorem split_iter (n h b:Nat) (hn:2≤n) (s:ByteArray) (hs:s.size < 4294967281) (m:Int) (w:World) (hb:b+2 < w.heap.size)
  (c0:Boxed w b 9 (.string s)) (c1:Boxed w (b+1) 9 (.string ⟨#[32]⟩)) (c2:Boxed w (b+2) 3 (.int .i64 0)) (hg:0 < h) (hm:w.cell? ⟨0,0,none⟩=some (.int .i64 m)) (hh:h≤b)
  (hI:∀ (r:ByteArray) (V:World),r.size < 4294967281→V.cell? ⟨0,0,none⟩=some (.int .i64 m)→Calls Tryz.prog 112 #[.string r,.string ⟨#[32]⟩] V fun e V'=>e=.returned (.int .i64 (Lib.index r.data.toList [32]))∧V'=V):
  CellSeq Fence.wide n Tryz.prog 110 #[.pointer (some ⟨b+1,0,none⟩),.pointer (some ⟨b,0,none⟩),.pointer (some ⟨b+2,0,none⟩)] b (Kps h b) (prtB s) w:=by
 intro l J Jx W hW hJ hJx hY h0
 have kb:∀ k,k≤b+2→W.heap[k]?=w.heap[k]?:=fun k hk=>hW.block k (by omega)
 have d0:=box_heap c0 (kb b (by omega))
 have d1:=box_heap c1 (kb (b+1) (by omega))
 have d2:=box_heap c2 (kb (b+2) (by omega))
 have dm:W.cell? ⟨0,0,none⟩=some (.int .i64 m):=(hW.cell (p:=⟨0,0,none⟩) (show 0 < w.heap.size by omega)).trans hm
 clear hW c0 c1 c2 hm kb
 refine callsIn_of_wp Tryz.func110 rfl trivial ?_ rfl
 simp only [Tryz.ntmps110,List.size_toArray,List.length_cons,List.length_nil,Nat.reduceAdd,Nat.reduceSub,Array.replicate_succ,Array.replicate_zero,List.push_toArray,List.append_toArray,List.nil_append,List.cons_append]
 have e1:=d1.cell
 gi_wp2
 gi_loopw [] (fun wr=>∃ (pre:List ByteArray) (r:ByteArray),prtB s=pre++prtB r∧r.size≤s.size∧Boxed wr b 9 (.string r)∧Boxed wr (b+1) 9 (.string ⟨#[32]⟩)∧Boxed wr (b+2) 3 (.int .i64 0)∧wr.cell? ⟨0,0,none⟩=some (.int .i64 m)∧J pre wr)
  (fun wr=>leftS b wr)
 case atStart=>exact ⟨[],s,rfl,Nat.le_refl _,d0,d1,d2,dm,h0⟩
 case round=>
  obtain ⟨pre,r,hx,hr,b0,b1,b2,bm,hj⟩:=hrel
  have g0:=b0.cell
  have g1:=b1.cell
  have g2:=b2.cell
  rcases prtB_ix r with ⟨hi,hp⟩ | ⟨i,hi,hil,hp⟩
  ·obtain ⟨fn,tmps,assign,body,hy,hR⟩:=hY pre r [] wr (by rw [hx,hp]) hj
   gi_wp2_with (refine ⟨trivial,fun _=>by omega, ?_⟩;gi_at_call 112;refine (callsIn_wide.2 (hI r _ (by omega) bm)).mono ?_;rw [hi];rintro e w' ⟨rfl,rfl⟩)
   refine ⟨fun _=>by omega,hR.mono ?_⟩
   rintro e W3 (⟨rfl,hJ3,_⟩ | ⟨rfl,hx3⟩)
   ·gi_wp2
    go_end0
    exact ⟨⟨_,rfl⟩,.inl (by rw [hx,hp];exact hJ3)⟩
   ·gi_wp2
    go_end0
    exact ⟨⟨_,rfl⟩,.inr hx3⟩
  ·have hrr:r.size≤9223372036854775807:=by omega
   have hw0:IntKind.i64.wrap ((i:Int)+0)=i:=wrap64 (by omega)
   have hw1:IntKind.i64.wrap ((i:Int)+1)=(i:Int)+1:=wrap64 (by omega)
   obtain ⟨fn,tmps,assign,body,hy,hR⟩:=hY pre (r.extract 0 i) (prtB (r.extract (i+1) r.size)) wr (by rw [hx,hp]) hj
   gi_wp2_with (refine ⟨trivial,fun _=>by omega, ?_⟩;gi_at_call 112;refine (callsIn_wide.2 (hI r _ (by omega) bm)).mono ?_;rw [hi];rintro e w' ⟨rfl,rfl⟩)
   refine ⟨fun _=>by omega,hR.mono ?_⟩
   rintro e W3 (⟨rfl,hJ3,hk3⟩ | ⟨rfl,hx3⟩)
   ·have q0:=box_heap b0 (hk3 b (.inr ⟨by omega,by omega⟩))
    have q1:=box_heap b1 (hk3 (b+1) (.inr ⟨by omega,by omega⟩))
    have q2:=box_heap b2 (hk3 (b+2) (.inr ⟨by omega,by omega⟩))
    have qm:W3.cell? ⟨0,0,none⟩=some (.int .i64 m):=(World.cell?_of_block (hk3 0 (.inl hg))).trans bm
    have f0:=q0.cell
    have f1:=q1.cell
    have f2:=q2.cell
    have f3:=q0.frozen
    gi_wp2
    go_roundw
    case rel=>
     refine ⟨pre++[r.extract 0 i],r.extract (i+1) r.size,by rw [hx,hp];simp, ?_,q0.set _, ?_, ?_, ?_,hJ _ _ _ (some b) hJ3 (grownBy_setCell' W3 b _) (fun k e=>by cases e;rfl)⟩
     ·rw [ByteArray.size_extract];omega
     ·exact box_heap q1 (Below.heap_setCell _ _ _ _ (by simp))
     ·exact box_heap q2 (Below.heap_setCell _ _ _ _ (by simp))
     ·exact (World.cell?_of_block (Below.heap_setCell _ _ _ _ (by simp;omega))).trans qm
    case measure=>
     have l1:=(q0.set (.string (r.extract (i+1) r.size))).cell
     unfold leftS
     rw [l1,g0]
     simp only
     rw [ByteArray.size_extract];omega
   ·gi_wp2
    refine bodyPost_ret (results_none rfl _ _ _) rfl ?_
    exact ⟨⟨_,rfl⟩,.inr hx3⟩
end Go.Proofs.YtmmafhopnkkeeaaGreatDoor
