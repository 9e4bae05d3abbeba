/- Strings as lists of bytes; the bytes of runs, by the program and by the reference. Conditions: none. -/
import Derived.Test.YtmmafhopnkkeeaaGreatDoorVg
namespace Go.Proofs.YtmmafhopnkkeeaaGreatDoor
set_option linter.unusedSimpArgs false
set_option linter.unusedVariables false
set_option maxRecDepth 4000
section
variable {G:Glob} {B:CallT}
theorem within_r (n lo hi:Int):EV G (Tb B) 25 [vi n,vi lo,vi hi] []=some (vb (decide (lo≤n∧n≤hi)),[]):=by
 refine EV_run rfl ?_
 by_cases h:lo≤n
 all_goals simp (disch:=omega) only [go_sem,h25c]
 all_goals simp [h]
theorem isRun_v (s n:Int):EV G (Tb B) 84 [rn s n] []=some (vb (decide (rangeE s n=0)),[]):=by
 refine EV_run rfl ?_
 by_cases h1:s=-1
 ·by_cases h2:1≤n∧n≤4096
  all_goals simp (disch:=omega) only [go_sem,h84c,within_r,rangeE]
  all_goals simp [h2]
 ·by_cases h2:0≤s∧s≤511
  ·by_cases h3:1≤n∧n≤512 - s
   all_goals simp (disch:=omega) only [go_sem,h84c,within_r,rangeE]
   all_goals simp [h3]
  ·simp (disch:=omega) only [go_sem,h84c,within_r,rangeE]
   simp
theorem joins_r (q r:Run) (h:-9223372036854775808≤q.s+q.n∧q.s+q.n≤9223372036854775807):EV G (Tb B) 85 [q.v,r.v] []=some (vb (joinsB q r),[]):=by
 refine EV_run rfl ?_
 unfold joinsB
 by_cases h1:q.s=-1
 all_goals by_cases h2:r.s=-1
 all_goals simp (disch:=omega) only [go_sem,h85c]
 all_goals simp [h1,h2,eq_comm]
theorem shares_v (q r:Run) (h:-9223372036854775808≤q.s+q.n∧q.s+q.n≤9223372036854775807) (h':-9223372036854775808≤r.s+r.n∧r.s+r.n≤9223372036854775807):EV G (Tb B) 118 [q.v,r.v] []=some (vb (sharesB q r),[]):=by
 refine EV_run rfl ?_
 unfold sharesB
 by_cases h1:q.s=-1
 ·simp (disch:=omega) only [go_sem,h118c]
  simp [h1]
 ·by_cases h2:r.s=-1
  ·simp (disch:=omega) only [go_sem,h118c]
   simp [h1,h2]
  ·by_cases h3:q.s < r.s+r.n
   all_goals simp (disch:=omega) only [go_sem,h118c]
   all_goals simp [h1,h2,h3,(by simpa using h1:(q.s != -1)=true),(by simpa using h2:(r.s != -1)=true)]
theorem length_r (l:List Run) (hl:l.length≤1000000):EV G (Tb B) 87 [runsV l] []=some (vi (lenW l),[]):=by
 refine EV_run rfl ?_
 simp (disch:=omega) only [go_sem,h87c,List.length_map]
 rw [EL_loop (fun k=>⟨(runsV l::jk 2 (vi (lenW (l.take k))::vi k::jk 14 [])),[]⟩) l.length ?_ ?_]
 ·simp (disch:=omega) only [go_sem,h87l0,List.length_map,List.take_length]
 ·rfl
 ·intro k hk
  rw [lenW_take l k hk]
  simp (disch:=omega) only [go_sem,h87l0,List.length_map,Run.e]
theorem doubled_v (l:List Run) (i:Nat) (hi:i < l.length) (hl:l.length≤1000) (hb:∀ (j:Nat) q,j≤i→l[j]?=some q→-9223372036854775808≤q.s+q.n∧q.s+q.n≤9223372036854775807):
  EV G (Tb B) 86 [runsV l,vi i] []=some (vb ((l.take i).any fun q=>sharesB q l[i]),[]):=by
 refine EV_run rfl ?_
 simp (disch:=omega) only [go_sem,h86c,List.length_map]
 have hbi:=hb i l[i] (Nat.le_refl _) (List.getElem?_eq_getElem hi)
 rw [EL_fst (fun k=>⟨(runsV l::vi i::jk 3 (vi k::jk 14 [])),[]⟩) (fun k=>sharesB (l.getD k ⟨0,0⟩) l[i]=true) i ?_ ?_]
 rotate_left
 ·rfl
 ·intro k hk hn
  have h1:=hn k (Nat.le_refl _)
  rw [runAt l k (by omega)] at h1
  have h1:sharesB l[k] l[i]=false:=by simpa using h1
  have hbk:=hb k l[k] (by omega) (List.getElem?_eq_getElem _)
  simp (disch:=omega) only [go_sem,h86l0,List.length_map,Run.e,shares_v,h1]
 obtain ⟨hk,hp,hn⟩:=ix_spec (fun k=>sharesB (l.getD k ⟨0,0⟩) l[i]=true) i
 generalize ix (fun k=>sharesB (l.getD k ⟨0,0⟩) l[i]=true) i=k at *
 rcases hp with rfl | ⟨hk',hp⟩
 ·have hz:((l.take k).any fun q=>sharesB q l[k])=false:=by
   rw [List.any_eq_false]
   intro q hq
   obtain ⟨j,hj,rfl⟩:=List.mem_iff_getElem.1 hq
   have hj2:j < k:=by simp at hj;omega
   have:=hn j hj2
   rw [runAt l j (by omega)] at this
   simpa using this
  simp (disch:=omega) only [go_sem,h86l0,List.length_map,hz]
 ·rw [runAt l k (by omega)] at hp
  have hz:((l.take i).any fun q=>sharesB q l[i])=true:=by
   rw [List.any_eq_true]
   exact ⟨l[k],List.mem_iff_getElem.2 ⟨k,by simp;omega,by simp⟩,hp⟩
  have hbk:=hb k l[k] (by omega) (List.getElem?_eq_getElem _)
  simp (disch:=omega) only [go_sem,h86l0,List.length_map,Run.e,shares_v,hp,hz]
theorem rchkL_to (l:List Run) (k:Nat) (hk:k≤l.length) (h:∀ j,j < k→¬ stepR l j (l.getD j ⟨0,0⟩)≠0):rchkL l l 0=rchkL l (l.drop k) k:=by
 induction k with
 | zero=>rfl
 | succ k ih=>
  have:=h k (Nat.lt_succ_self k)
  rw [runAt l k (by omega)] at this
  rw [ih (by omega) (fun j hj=>h j (by omega)),rchkL_at (by omega),if_neg this]
theorem stepR_rg {l:List Run} {k:Nat} (hk:k < l.length) (h:¬ stepR l k (l.getD k ⟨0,0⟩)≠0):rangeE l[k].s l[k].n=0∧¬ (0 < k∧joinsB (l[k-1]'(by omega)) l[k]=true)∧((l.take k).any fun q=>sharesB q l[k])=false:=by
 rw [runAt l k hk,stepR_at hk] at h
 by_cases h1:rangeE l[k].s l[k].n≠0
 ·rw [if_pos h1] at h;exact absurd (by decide) h
 ·rw [if_neg h1] at h
  by_cases h2:0 < k∧joinsB (l[k-1]'(by omega)) l[k]=true
  ·rw [if_pos h2] at h;exact absurd (by decide) h
  ·rw [if_neg h2] at h
   cases h3:(l.take k).any fun q=>sharesB q l[k]
   ·exact ⟨by omega,h2,rfl⟩
   ·rw [h3] at h;exact absurd (by decide) h
theorem check_r (l:List Run):EV G (Tb B) 44 [runsV l] []=some (.tup [.one (.dc (ci (rchk l).1)),.one (.dc (ci (rchk l).2))],[]):=by
 refine EV_run rfl ?_
 by_cases hl:(l.length:Int) > 64
 ·simp only [rchk,if_pos hl]
  simp (disch:=omega) only [go_sem,h44c,List.length_map]
 ·simp only [rchk,if_neg hl]
  simp (disch:=omega) only [go_sem,h44c,List.length_map]
  rw [EL_fst (fun k=>⟨(runsV l::jk 3 (vi k::jk 38 [])),[]⟩) (fun k=>stepR l k (l.getD k ⟨0,0⟩)≠0) l.length ?_ ?_]
  rotate_left
  ·rfl
  ·intro k hk hn
   obtain ⟨h1,h2,h3⟩:=stepR_rg hk (hn k (Nat.le_refl _))
   have hbd:∀ (j:Nat) q,j≤k→l[j]?=some q→-9223372036854775808≤q.s+q.n∧q.s+q.n≤9223372036854775807:=fun j q hj hq=>by
    have hlt:j < l.length:=by omega
    have:=bd_of (stepR_rg hlt (hn j hj)).1
    rw [List.getElem?_eq_getElem hlt] at hq;injection hq with hq;rwa [hq] at this
   have hD:=doubled_v (G:=G) (B:=B) l k hk (by omega) hbd
   rw [h3] at hD
   by_cases h0:0 < k
   ·have hj:joinsB (l[k-1]'(by omega)) l[k]=false:=by simpa [h0] using h2
    have hb2:=hbd (k-1) (l[k-1]'(by omega)) (by omega) (List.getElem?_eq_getElem _)
    simp (disch:=omega) only [go_sem,h44l0,List.length_map,Run.e,isRun_v,h1,joins_r,hj,hD]
   ·simp (disch:=omega) only [go_sem,h44l0,List.length_map,Run.e,isRun_v,h1,hD]
  obtain ⟨hk,hp,hn⟩:=ix_spec (fun k=>stepR l k (l.getD k ⟨0,0⟩)≠0) l.length
  generalize ix (fun k=>stepR l k (l.getD k ⟨0,0⟩)≠0) l.length=k at *
  have hrg:∀ (j:Nat) r,j < k→l[j]?=some r→rangeE r.s r.n=0:=fun j r hj hr=>by
   have hlt:j < l.length:=by omega
   have:=(stepR_rg hlt (hn j hj)).1
   rw [List.getElem?_eq_getElem hlt] at hr;injection hr with hr;rwa [hr] at this
  rw [rchkL_to l k hk hn]
  rcases hp with rfl | ⟨hk',hp⟩
  ·have hr:=rg_all hrg
   have hw:lenW l=lenR l:=lenW_eq l (fun r hm=>by have:=rE_n (hr r hm);omega) (by
    have:=(lenT (l:=l) (k:=l.length) (by omega) hr).2
    rw [lenR_all] at this;omega)
   rw [List.drop_length,rchkL]
   by_cases h4:lenR l > 4096
   all_goals simp (disch:=omega) only [go_sem,h44l0,List.length_map,length_r,hw]
  ·rw [runAt l k hk'] at hp
   rw [rchkL_at hk',if_pos hp]
   rw [stepR_at hk'] at hp ⊢
   by_cases h1:rangeE l[k].s l[k].n=0
   ·have hbd:∀ (j:Nat) q,j≤k→l[j]?=some q→-9223372036854775808≤q.s+q.n∧q.s+q.n≤9223372036854775807:=fun j q hj hq=>by
     by_cases he:j=k
     ·subst he;rw [List.getElem?_eq_getElem hk'] at hq;injection hq with hq;rw [← hq];exact bd_of h1
     ·exact bd_of (hrg j q (by omega) hq)
    have hD:=doubled_v (G:=G) (B:=B) l k hk' (by omega) hbd
    by_cases h2:0 < k∧joinsB (l[k-1]'(by omega)) l[k]=true
    ·have hb2:=hbd (k-1) (l[k-1]'(by omega)) (by omega) (List.getElem?_eq_getElem _)
     simp (disch:=omega) only [go_sem,h44l0,List.length_map,Run.e,isRun_v,h1,joins_r,h2]
    ·have h3:((l.take k).any fun q=>sharesB q l[k])=true:=by
      simp only [h1,ne_eq,not_true_eq_false,if_false,if_neg h2] at hp
      cases h:(l.take k).any fun q=>sharesB q l[k]
      ·rw [h] at hp;simp at hp
      ·rfl
     rw [h3] at hD
     by_cases h0:0 < k
     ·have hj:joinsB (l[k-1]'(by omega)) l[k]=false:=by simpa [h0] using h2
      have hb2:=hbd (k-1) (l[k-1]'(by omega)) (by omega) (List.getElem?_eq_getElem _)
      simp (disch:=omega) only [go_sem,h44l0,List.length_map,Run.e,isRun_v,h1,joins_r,hj,hD,h3]
     ·simp (disch:=omega) only [go_sem,h44l0,List.length_map,Run.e,isRun_v,h1,hD,h3]
   ·simp (disch:=omega) only [go_sem,h44l0,List.length_map,Run.e,isRun_v]
theorem err_r (l:List Run):EV G (Tb B) 16 [runsV l] []=some (vi (chk l).2,[]):=by
 refine EV_run rfl ?_
 simp (disch:=omega) only [go_sem,h16c,check_r,chk_eq]
end
section
variable {G:Glob} {B:CallT}
def by1 (n:Int):List DC:=[.raw (.int .u8 n)]
def u8 (n:Int):UInt8:=UInt8.ofNat n.toNat
def str (l:List Int):ByteArray:=⟨(l.map u8).toArray⟩
abbrev sv (l:List Int):AV:=.one (.dc (.raw (.string (str l))))
abbrev bl (l:List Int):List (List DC):=l.map by1
abbrev vu (n:Int):AV:=.one (.dc (.raw (.int .u8 n)))
def Byts (l:List Int):Prop:=∀ b∈l,0≤b∧b≤255
theorem bytesOf_by (l:List Int):bytesOf (l.map by1)=some (l.map u8):=by
 induction l with
 | nil=>rfl
 | cons b l ih=>simp only [List.map_cons,by1,bytesOf,u8] at ih ⊢;rw [ih];rfl
theorem u8_nat (b:Int) (h:0≤b∧b≤255):((u8 b).toNat:Int)=b:=by
 simp only [u8,UInt8.toNat_ofNat'];omega
theorem str_nil:(⟨#[]⟩:ByteArray)=str []:=rfl
theorem str_size (l:List Int):(str l).size=l.length:=by simp [str,ByteArray.size]
theorem str_app (a b:List Int):str a++str b=str (a++b):=by
 apply ByteArray.ext
 simp [str,ByteArray.data_append]
theorem str_ext (l:List Int) (a b:Nat):(str l).extract a b=str ((l.take b).drop a):=by
 apply ByteArray.ext
 simp [str,ByteArray.data_extract,List.drop_take]
theorem str_all (s:ByteArray):∃ l,Byts l∧s=str l:=by
 refine ⟨s.data.toList.map fun b=>(b.toNat:Int),fun b hb=>?_, ?_⟩
 ·obtain ⟨x,_,rfl⟩:=List.mem_map.1 hb
  have:=x.toNat_lt;omega
 ·apply ByteArray.ext
  apply Array.ext'
  simp [str,u8,Function.comp_def]
theorem str_inj {a b:List Int} (ha:Byts a) (hb:Byts b):(str a=str b)=(a=b):=by
 apply propext
 refine ⟨fun h=>?_,fun h=>by rw [h]⟩
 have h1:a.map u8=b.map u8:=by
  have:=congrArg (fun s:ByteArray=>s.data.toList) h
  simpa [str] using this
 have h2:a.length=b.length:=by simpa using congrArg List.length h1
 refine List.ext_getElem h2 (fun i p q=>?_)
 have h3:u8 a[i]=u8 b[i]:=by
  have:=congrArg (fun l=>l[i]?) h1
  simpa [p,q] using this
 rw [← u8_nat _ (ha _ (List.getElem_mem p)),← u8_nat _ (hb _ (List.getElem_mem q)),h3]
theorem strF (l:List Int):(⟨(l.map u8).toArray⟩:ByteArray)=str l:=rfl
theorem str_data (l:List Int):(str l).data.toList=l.map u8:=by simp [str]
attribute [go_sem] bytesOf_by strF Option.map_none str_data str_ext u8_nat List.take_succ_cons List.take_length List.getElem?_nil List.getElem_cons_zero List.getElem_cons_succ
attribute [go_sem] str_size str_app
def sz (n:Int):Int:=if -128≤n∧n≤127 then 1 else 2
def one2:Nat→Int
 | 0=>1
 | _=>2
theorem one2_0:one2 0=1:=rfl
theorem one2_1:one2 1=2:=rfl
theorem min764:min 7 64=7:=rfl
theorem min1564:min 15 64=15:=rfl
theorem min864:min 8 64=8:=rfl
theorem min1664:min 16 64=16:=rfl
theorem min464:min 4 64=4:=rfl
theorem bits64:IntKind.i64.bits=64:=rfl
attribute [go_sem] min764 min1564 min864 min1664 min464 bits64
theorem sizeOf_v (n:Int) (h:-32768≤n∧n≤32767):EV G (Tb B) 42 [vi n] []=some (vi (sz n),[]):=by
 refine EV_run rfl ?_
 by_cases c:-128≤n∧n≤127
 ·rw [sz,if_pos c]
  simp (disch:=omega) only [go_sem,h42c]
  rw [EL_loop (fun k=>⟨(vi n::jk 2 (vi (one2 k)::jk 15 [])),[]⟩) 0 ?_ ?_]
  rotate_left
  ·rfl
  ·exact fun k hk=>absurd hk (by omega)
  simp (disch:=omega) only [go_sem,h42l0,within_v,one2_0,Int.reduceMul,Int.reduceSub,Int.reduceToNat,Int.reducePow,Nat.reducePow,Int.reduceNeg]
 ·rw [sz,if_neg c]
  simp (disch:=omega) only [go_sem,h42c]
  rw [EL_loop (fun k=>⟨(vi n::jk 2 (vi (one2 k)::jk 15 [])),[]⟩) 1 ?_ ?_]
  rotate_left
  ·rfl
  rotate_left
  ·simp (disch:=omega) only [go_sem,h42l0,within_v,one2_1,Int.reduceMul,Int.reduceSub,Int.reduceToNat,Int.reducePow,Nat.reducePow,Int.reduceNeg]
  ·intro k hk
   have hk0:k=0:=by omega
   subst hk0
   simp (disch:=omega) only [go_sem,h42l0,within_v,one2_0,one2_1,Int.reduceMul,Int.reduceSub,Int.reduceToNat,Int.reducePow,Nat.reducePow,Int.reduceNeg,Int.reduceAdd]
def shK (n:Int):Nat→Int
 | 0=>n
 | k+1=>shK n k / 256
def sgK (n:Int):Nat→List Int
 | 0=>[]
 | k+1=>sgK n k++[shK n k % 256]
theorem sgK_len (n:Int) (k:Nat):(sgK n k).length=k:=by
 induction k with
 | zero=>rfl
 | succ k ih=>simp [sgK,ih]
theorem sgK_take (n:Int) (k:Nat):(sgK n k).take k=sgK n k:=List.take_of_length_le (by rw [sgK_len];omega)
theorem sgK_byts (n:Int) (k:Nat):Byts (sgK n k):=by
 induction k with
 | zero=>intro b hb;cases hb
 | succ k ih=>
  intro b hb
  rcases List.mem_append.1 hb with h | h
  ·exact ih b h
  ·have:=List.mem_singleton.1 h;omega
theorem bl_snoc (l:List Int) (b:Int):l.map by1++[[.raw (.int .u8 b)]]=(l++[b]).map by1:=by simp [by1]
theorem bl_app (a b:List Int):a.map by1++b.map by1=(a++b).map by1:=List.map_append.symm
theorem all_by (l:List Int):allLen 1 (l.map by1)=true:=allLen_map (f:=by1) (fun _=>rfl) l
theorem wu8 (n:Int):IntKind.u8.wrap n=n % 256:=by rw [IntKind.wrap_u8]
theorem wu8c (n:Int) (h:0≤n∧n≤255):IntKind.u8.wrap n=n:=by rw [IntKind.wrap_u8];omega
theorem fdiv256 (n:Int):n.fdiv 256=n / 256:=Int.fdiv_eq_ediv_of_nonneg _ (by decide)
attribute [go_sem] all_by
theorem signed_v (n:Int) (k:Nat) (hk:k≤1000):EV G (Tb B) 43 [vi n,vi k] []=some (vl (bl (sgK n k)),[]):=by
 refine EV_run rfl ?_
 simp (disch:=omega) only [go_sem,h43c]
 rw [EL_loop (fun j=>⟨(vi (shK n j)::jk 4 (.one (.bld 0 j)::vi k::vi j::jk 10 [])),[.arr 0 1 (bl (sgK n j))]⟩) k ?_ ?_]
 ·have h1:=sgK_len n k
  simp (disch:=omega) only [go_sem,h43l0,List.length_map,sgK_len,take_map_len]
  simp only [List.take_of_length_le (show (sgK n k).length≤k by omega),← List.map_take]
 ·rfl
 ·intro j hj
  have h1:=sgK_len n j
  simp (disch:=omega) only [go_sem,h43l0,List.length_map,sgK_len,wu8,Int.reduceToNat,Int.reducePow,fdiv256,← List.map_take,sgK_take,bl_snoc,shK,sgK]
def encR (last:Int) (r:Run):List Int:=
 if r.s=-1 then sz r.n::sgK r.n (sz r.n).toNat else (16 * sz (r.s - last)+sz r.n)::(sgK r.n (sz r.n).toNat++sgK (r.s - last) (sz (r.s - last)).toNat)
def est (s:List Int × Int) (r:Run):List Int × Int:=(s.1++encR s.2 r,if r.s=-1 then s.2 else r.s)
def encK (l:List Run) (k:Nat):List Int × Int:=(l.take k).foldl est ([],0)
def encL (l:List Run):List Int × Int:=l.foldl est ([],0)
def encV (l:List Run):List Int × Int:=if errsE [l]≠0 then ([],errsE [l]) else ((encL l).1++[0],0)
theorem encK_succ (l:List Run) (k:Nat) (h:k < l.length):encK l (k+1)=est (encK l k) l[k]:=by
 rw [encK,List.take_succ_eq_append_getElem h,List.foldl_append];rfl
theorem encK_all (l:List Run):encK l l.length=encL l:=by rw [encK,List.take_length];rfl
theorem sz_in (n:Int):sz n=1∨sz n=2:=by unfold sz;split<;>simp
theorem encR_len (a:Int) (r:Run):(encR a r).length≤5:=by
 have h1:=sz_in r.n
 have h2:=sz_in (r.s - a)
 unfold encR
 split
 ·simp only [List.length_cons,sgK_len];omega
 ·simp only [List.length_cons,List.length_append,sgK_len];omega
theorem encR_byts (a:Int) (r:Run):Byts (encR a r):=by
 have h1:=sz_in r.n
 have h2:=sz_in (r.s - a)
 intro b hb
 unfold encR at hb
 split at hb
 ·rcases List.mem_cons.1 hb with h | h
  ·omega
  ·exact sgK_byts _ _ b h
 ·rcases List.mem_cons.1 hb with h | h
  ·omega
  ·rcases List.mem_append.1 h with h | h
   ·exact sgK_byts _ _ b h
   ·exact sgK_byts _ _ b h
theorem encK_ok (l:List Run) (h:∀ r∈l,-1≤r.s∧r.s≤511):∀ k,k≤l.length→(encK l k).1.length≤5 * k∧(0≤(encK l k).2∧(encK l k).2≤511)∧Byts (encK l k).1:=by
 intro k
 induction k with
 | zero=>intro _;exact ⟨by simp [encK],by simp [encK],by intro b hb;cases hb⟩
 | succ k ih=>
  intro hk
  obtain ⟨h1,h2,h3⟩:=ih (by omega)
  have h4:=h _ (List.getElem_mem (show k < l.length by omega))
  rw [encK_succ l k (by omega)]
  refine ⟨?_, ?_, ?_⟩
  ·simp only [est,List.length_append]
   have:=encR_len (encK l k).2 l[k]
   omega
  ·simp only [est]
   split<;>omega
  ·intro b hb
   rcases List.mem_append.1 hb with hb | hb
   ·exact h3 b hb
   ·exact encR_byts _ _ b hb
theorem or16 (a b:Int) (ha:a=1∨a=2) (hb:b=1∨b=2):orI .i64 (a * 16) b=16 * a+b:=by
 rcases ha with rfl | rfl<;>rcases hb with rfl | rfl<;>decide
theorem or0 (b:Int) (hb:b=1∨b=2):orI .i64 0 b=b:=by
 rcases hb with rfl | rfl<;>decide
theorem runs_in {l:List Run} (h:(chk l).2=0):∀ r∈l,(-1≤r.s∧r.s≤511)∧1≤r.n∧r.n≤4096:=by
 intro r hr
 rcases rangeE_ok (chk_rg h r hr) with h1 | ⟨s,n,h1⟩<;>omega
set_option maxHeartbeats 1000000 in
theorem encode_v (l:List Run):EV G (Tb B) 15 [runsV l] []=some (.tup [.one (.dc (.raw (.string (str (encV l).1)))),.one (.dc (ci (encV l).2))],[]):=by
 refine EV_run rfl ?_
 unfold encV
 by_cases c:errsE [l]=0
 ·have hc:(chk l).2=0:=by rw [errs1] at c;exact c
  have hr:=runs_in hc
  have hlen:=chk_len hc
  simp (disch:=omega) only [go_sem,h15c,errs1_v,c,List.length_map]
  rw [EL_loop (fun k=>⟨(jk 5 (.one (.bld 0 (encK l k).1.length)::vi (encK l k).2::jk 10 (runsV l::vi l.length::vi k::jk 46 []))),[.arr 0 1 (bl (encK l k).1)]⟩) l.length ?_ ?_]
  ·have hk:=encK_ok l (fun r hr'=>(hr r hr').1) l.length (Nat.le_refl _)
   rw [encK_all] at hk ⊢
   have hz:List.take ((encL l).1.length+1) (((encL l).1++[0]).map by1)=((encL l).1++[0]).map by1:=List.take_of_length_le (by simp)
   simp (disch:=omega) only [go_sem,h15l0,List.length_map,List.length_append,bl_snoc,hz]
  ·rfl
  ·intro k hk
   obtain ⟨g1,g2,g3⟩:=encK_ok l (fun r hr'=>(hr r hr').1) k (by omega)
   have h4:=hr _ (List.getElem_mem hk)
   rw [encK_succ l k hk]
   generalize encK l k=s at g1 g2 g3 ⊢
   obtain ⟨o,a⟩:=s
   simp only at g1 g2 g3
   simp only [est,encR]
   have z1:=sz_in l[k].n
   have s1:=sizeOf_v (G:=G) (B:=B) l[k].n (by omega)
   by_cases c1:l[k].s=-1
   ·have s2:=signed_v (G:=G) (B:=B) l[k].n (sz l[k].n).toNat (by omega)
    rw [show (((sz l[k].n).toNat:Nat):Int)=sz l[k].n by omega] at s2
    have o1:=or0 (sz l[k].n) z1
    have t1 (x:Int):List.take (o.length+1) ((o++[x]).map by1)=(o++[x]).map by1:=List.take_of_length_le (by simp)
    have e1:o.length+1+(sz l[k].n).toNat=o.length+((sz l[k].n).toNat+1):=by omega
    simp (disch:=omega) only [go_sem,h15l0,List.length_map,Run.e,isHole_v,c1,s1,s2,Int.reduceToNat,Int.reducePow,Int.reduceMul,o1,wu8c,bl_snoc,bl_app,sgK_len,List.length_append,t1,e1,List.append_assoc]
   ·have z2:=sz_in (l[k].s - a)
    have s2:=signed_v (G:=G) (B:=B) l[k].n (sz l[k].n).toNat (by omega)
    rw [show (((sz l[k].n).toNat:Nat):Int)=sz l[k].n by omega] at s2
    have s3:=sizeOf_v (G:=G) (B:=B) (l[k].s - a) (by omega)
    have s4:=signed_v (G:=G) (B:=B) (l[k].s - a) (sz (l[k].s - a)).toNat (by omega)
    rw [show (((sz (l[k].s - a)).toNat:Nat):Int)=sz (l[k].s - a) by omega] at s4
    have o1:=or16 (sz (l[k].s - a)) (sz l[k].n) z2 z1
    have t1 (x:Int):List.take (o.length+1) ((o++[x]).map by1)=(o++[x]).map by1:=List.take_of_length_le (by simp)
    have t2 (x:Int):List.take (o.length+1+(sz l[k].n).toNat) ((o++x::sgK l[k].n (sz l[k].n).toNat).map by1)=(o++x::sgK l[k].n (sz l[k].n).toNat).map by1:=List.take_of_length_le (by simp [sgK_len];omega)
    have e1:o.length+1+(sz l[k].n).toNat+(sz (l[k].s - a)).toNat=o.length+((sz l[k].n).toNat+(sz (l[k].s - a)).toNat+1):=by omega
    simp (disch:=omega) only [go_sem,h15l0,List.length_map,Run.e,isHole_v,c1,s1,s2,s3,s4,Int.reduceToNat,Int.reducePow,Int.reduceMul,o1,wu8c,bl_snoc,bl_app,sgK_len,List.length_append,t1,t2,e1,List.append_assoc]
 ·simp (disch:=omega) only [go_sem,h15c,errs1_v,c,str_nil]
theorem sadd_s {a b:List Int} (h:a.length+b.length≤9223372036854775807):binV .add (sv a) (sv b)=some (sv (a++b)):=by
 rw [bin_sadd (by rw [str_size,str_size];exact h),str_app]
attribute [go_sem 2000] sadd_s
end
end Go.Proofs.YtmmafhopnkkeeaaGreatDoor
