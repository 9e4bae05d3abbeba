/- Attributes; small contracts of chapter 8. Conditions: none. -/
import Derived.Test.YtcplecjhmnblpaaGreatDoorVg
import Derived.Test.YtcplecjhmnblpaaGreatDoorTa
namespace Go.Proofs.YtcplecjhmnblpaaGreatDoor
set_option linter.unusedSimpArgs false
set_option linter.unusedVariables false
set_option maxRecDepth 4000
section
variable {G:Glob} {B:CallT}
theorem within_r (n lo hi:Int):EV G (Tb B) 19 [vi n,vi lo,vi hi] []=some (vb (decide (lo≤n∧n≤hi)),[]):=by
 refine EV_run rfl ?_
 by_cases h:lo≤n
 all_goals simp (disch:=omega) only [go_sem,h19c]
 all_goals simp [h]
theorem isRun_v (s n:Int):EV G (Tb B) 226 [rn s n] []=some (vb (decide (rangeE s n=0)),[]):=by
 refine EV_run rfl ?_
 by_cases h1:s=-1
 ·by_cases h2:1≤n∧n≤4096
  all_goals simp (disch:=omega) only [go_sem,h226c,within_r,rangeE]
  all_goals simp [h2]
 ·by_cases h2:0≤s∧s≤511
  ·by_cases h3:1≤n∧n≤512 - s
   all_goals simp (disch:=omega) only [go_sem,h226c,within_r,rangeE]
   all_goals simp [h3]
  ·simp (disch:=omega) only [go_sem,h226c,within_r,rangeE]
   simp
theorem joins_r (q r:Run) (h:-9223372036854775808≤q.s+q.n∧q.s+q.n≤9223372036854775807):EV G (Tb B) 227 [q.v,r.v] []=some (vb (joinsB q r),[]):=by
 refine EV_run rfl ?_
 unfold joinsB
 by_cases h1:q.s=-1
 all_goals by_cases h2:r.s=-1
 all_goals simp (disch:=omega) only [go_sem,h227c]
 all_goals simp [h1,h2,eq_comm]
theorem shares_v (q r:Run) (h:-9223372036854775808≤q.s+q.n∧q.s+q.n≤9223372036854775807) (h':-9223372036854775808≤r.s+r.n∧r.s+r.n≤9223372036854775807):EV G (Tb B) 258 [q.v,r.v] []=some (vb (sharesB q r),[]):=by
 refine EV_run rfl ?_
 unfold sharesB
 by_cases h1:q.s=-1
 ·simp (disch:=omega) only [go_sem,h258c]
  simp [h1]
 ·by_cases h2:r.s=-1
  ·simp (disch:=omega) only [go_sem,h258c]
   simp [h1,h2]
  ·by_cases h3:q.s < r.s+r.n
   all_goals simp (disch:=omega) only [go_sem,h258c]
   all_goals simp [h1,h2,h3,(by simpa using h1:(q.s != -1)=true),(by simpa using h2:(r.s != -1)=true)]
theorem length_r (l:List Run) (hl:l.length≤1000000):EV G (Tb B) 92 [runsV l] []=some (vi (lenW l),[]):=by
 refine EV_run rfl ?_
 simp (disch:=omega) only [go_sem,h92c,List.length_map]
 rw [EL_loop (fun k=>⟨(runsV l::jk 2 (vi (lenW (l.take k))::vi k::jk 14 [])),[]⟩) l.length ?_ ?_]
 ·simp (disch:=omega) only [go_sem,h92l0,List.length_map,List.take_length]
 ·rfl
 ·intro k hk
  rw [lenW_take l k hk]
  simp (disch:=omega) only [go_sem,h92l0,List.length_map,Run.e]
theorem doubled_v (l:List Run) (i:Nat) (hi:i < l.length) (hl:l.length≤100000) (hb:∀ (j:Nat) q,j≤i→l[j]?=some q→-9223372036854775808≤q.s+q.n∧q.s+q.n≤9223372036854775807):
  EV G (Tb B) 228 [runsV l,vi i] []=some (vb ((l.take i).any fun q=>sharesB q l[i]),[]):=by
 refine EV_run rfl ?_
 simp (disch:=omega) only [go_sem,h228c,List.length_map]
 have hbi:=hb i l[i] (Nat.le_refl _) (List.getElem?_eq_getElem hi)
 rw [EL_fst (fun k=>⟨(runsV l::vi i::jk 3 (vi k::jk 14 [])),[]⟩) (fun k=>sharesB (l.getD k ⟨0,0⟩) l[i]=true) i ?_ ?_]
 rotate_left
 ·rfl
 ·intro k hk hn
  have h1:=hn k (Nat.le_refl _)
  rw [runAt l k (by omega)] at h1
  have h1:sharesB l[k] l[i]=false:=by simpa using h1
  have hbk:=hb k l[k] (by omega) (List.getElem?_eq_getElem _)
  simp (disch:=omega) only [go_sem,h228l0,List.length_map,Run.e,shares_v,h1]
 obtain ⟨hk,hp,hn⟩:=ix_spec (fun k=>sharesB (l.getD k ⟨0,0⟩) l[i]=true) i
 generalize ix (fun k=>sharesB (l.getD k ⟨0,0⟩) l[i]=true) i=k at *
 rcases hp with rfl | ⟨hk',hp⟩
 ·have hz:((l.take k).any fun q=>sharesB q l[k])=false:=by
   rw [List.any_eq_false]
   intro q hq
   obtain ⟨j,hj,rfl⟩:=List.mem_iff_getElem.1 hq
   have hj2:j < k:=by simp at hj;omega
   have:=hn j hj2
   rw [runAt l j (by omega)] at this
   simpa using this
  simp (disch:=omega) only [go_sem,h228l0,List.length_map,hz]
 ·rw [runAt l k (by omega)] at hp
  have hz:((l.take i).any fun q=>sharesB q l[i])=true:=by
   rw [List.any_eq_true]
   exact ⟨l[k],List.mem_iff_getElem.2 ⟨k,by simp;omega,by simp⟩,hp⟩
  have hbk:=hb k l[k] (by omega) (List.getElem?_eq_getElem _)
  simp (disch:=omega) only [go_sem,h228l0,List.length_map,Run.e,shares_v,hp,hz]
theorem rchkL_to (l:List Run) (k:Nat) (hk:k≤l.length) (h:∀ j,j < k→¬ stepR l j (l.getD j ⟨0,0⟩)≠0):rchkL l l 0=rchkL l (l.drop k) k:=by
 induction k with
 | zero=>rfl
 | succ k ih=>
  have:=h k (Nat.lt_succ_self k)
  rw [runAt l k (by omega)] at this
  rw [ih (by omega) (fun j hj=>h j (by omega)),rchkL_at (by omega),if_neg this]
theorem stepR_rg {l:List Run} {k:Nat} (hk:k < l.length) (h:¬ stepR l k (l.getD k ⟨0,0⟩)≠0):rangeE l[k].s l[k].n=0∧¬ (0 < k∧joinsB (l[k-1]'(by omega)) l[k]=true)∧((l.take k).any fun q=>sharesB q l[k])=false:=by
 rw [runAt l k hk,stepR_at hk] at h
 by_cases h1:rangeE l[k].s l[k].n≠0
 ·rw [if_pos h1] at h;exact absurd (by decide) h
 ·rw [if_neg h1] at h
  by_cases h2:0 < k∧joinsB (l[k-1]'(by omega)) l[k]=true
  ·rw [if_pos h2] at h;exact absurd (by decide) h
  ·rw [if_neg h2] at h
   cases h3:(l.take k).any fun q=>sharesB q l[k]
   ·exact ⟨by omega,h2,rfl⟩
   ·rw [h3] at h;exact absurd (by decide) h
theorem check_r (l:List Run):EV G (Tb B) 183 [runsV l] []=some (.tup [.one (.dc (ci (rchk l).1)),.one (.dc (ci (rchk l).2))],[]):=by
 refine EV_run rfl ?_
 by_cases hl:(l.length:Int) > 64
 ·simp only [rchk,if_pos hl]
  simp (disch:=omega) only [go_sem,h183c,List.length_map]
 ·simp only [rchk,if_neg hl]
  simp (disch:=omega) only [go_sem,h183c,List.length_map]
  rw [EL_fst (fun k=>⟨(runsV l::jk 3 (vi k::jk 38 [])),[]⟩) (fun k=>stepR l k (l.getD k ⟨0,0⟩)≠0) l.length ?_ ?_]
  rotate_left
  ·rfl
  ·intro k hk hn
   obtain ⟨h1,h2,h3⟩:=stepR_rg hk (hn k (Nat.le_refl _))
   have hbd:∀ (j:Nat) q,j≤k→l[j]?=some q→-9223372036854775808≤q.s+q.n∧q.s+q.n≤9223372036854775807:=fun j q hj hq=>by
    have hlt:j < l.length:=by omega
    have:=bd_of (stepR_rg hlt (hn j hj)).1
    rw [List.getElem?_eq_getElem hlt] at hq;injection hq with hq;rwa [hq] at this
   have hD:=doubled_v (G:=G) (B:=B) l k hk (by omega) hbd
   rw [h3] at hD
   by_cases h0:0 < k
   ·have hj:joinsB (l[k-1]'(by omega)) l[k]=false:=by simpa [h0] using h2
    have hb2:=hbd (k-1) (l[k-1]'(by omega)) (by omega) (List.getElem?_eq_getElem _)
    simp (disch:=omega) only [go_sem,h183l0,List.length_map,Run.e,isRun_v,h1,joins_r,hj,hD]
   ·simp (disch:=omega) only [go_sem,h183l0,List.length_map,Run.e,isRun_v,h1,hD]
  obtain ⟨hk,hp,hn⟩:=ix_spec (fun k=>stepR l k (l.getD k ⟨0,0⟩)≠0) l.length
  generalize ix (fun k=>stepR l k (l.getD k ⟨0,0⟩)≠0) l.length=k at *
  have hrg:∀ (j:Nat) r,j < k→l[j]?=some r→rangeE r.s r.n=0:=fun j r hj hr=>by
   have hlt:j < l.length:=by omega
   have:=(stepR_rg hlt (hn j hj)).1
   rw [List.getElem?_eq_getElem hlt] at hr;injection hr with hr;rwa [hr] at this
  rw [rchkL_to l k hk hn]
  rcases hp with rfl | ⟨hk',hp⟩
  ·have hr:=rg_all hrg
   have hw:lenW l=lenR l:=lenW_eq l (fun r hm=>by have:=rE_n (hr r hm);omega) (by
    have:=(lenT (l:=l) (k:=l.length) (by omega) hr).2
    rw [lenR_all] at this;omega)
   rw [List.drop_length,rchkL]
   by_cases h4:lenR l > 4096
   all_goals simp (disch:=omega) only [go_sem,h183l0,List.length_map,length_r,hw]
  ·rw [runAt l k hk'] at hp
   rw [rchkL_at hk',if_pos hp]
   rw [stepR_at hk'] at hp ⊢
   by_cases h1:rangeE l[k].s l[k].n=0
   ·have hbd:∀ (j:Nat) q,j≤k→l[j]?=some q→-9223372036854775808≤q.s+q.n∧q.s+q.n≤9223372036854775807:=fun j q hj hq=>by
     by_cases he:j=k
     ·subst he;rw [List.getElem?_eq_getElem hk'] at hq;injection hq with hq;rw [← hq];exact bd_of h1
     ·exact bd_of (hrg j q (by omega) hq)
    have hD:=doubled_v (G:=G) (B:=B) l k hk' (by omega) hbd
    by_cases h2:0 < k∧joinsB (l[k-1]'(by omega)) l[k]=true
    ·have hb2:=hbd (k-1) (l[k-1]'(by omega)) (by omega) (List.getElem?_eq_getElem _)
     simp (disch:=omega) only [go_sem,h183l0,List.length_map,Run.e,isRun_v,h1,joins_r,h2]
    ·have h3:((l.take k).any fun q=>sharesB q l[k])=true:=by
      simp only [h1,ne_eq,not_true_eq_false,if_false,if_neg h2] at hp
      cases h:(l.take k).any fun q=>sharesB q l[k]
      ·rw [h] at hp;simp at hp
      ·rfl
     rw [h3] at hD
     by_cases h0:0 < k
     ·have hj:joinsB (l[k-1]'(by omega)) l[k]=false:=by simpa [h0] using h2
      have hb2:=hbd (k-1) (l[k-1]'(by omega)) (by omega) (List.getElem?_eq_getElem _)
      simp (disch:=omega) only [go_sem,h183l0,List.length_map,Run.e,isRun_v,h1,joins_r,hj,hD,h3]
     ·simp (disch:=omega) only [go_sem,h183l0,List.length_map,Run.e,isRun_v,h1,hD,h3]
   ·simp (disch:=omega) only [go_sem,h183l0,List.length_map,Run.e,isRun_v]
theorem err_r (l:List Run):EV G (Tb B) 139 [runsV l] []=some (vi (chk l).2,[]):=by
 refine EV_run rfl ?_
 simp (disch:=omega) only [go_sem,h139c,check_r,chk_eq]
end
section
variable {G:Glob} {B:CallT}
def by1 (n:Int):List DC:=[.raw (.int .u8 n)]
def u8 (n:Int):UInt8:=UInt8.ofNat n.toNat
def str (l:List Int):ByteArray:=⟨(l.map u8).toArray⟩
abbrev sv (l:List Int):AV:=.one (.dc (.raw (.string (str l))))
abbrev bl (l:List Int):List (List DC):=l.map by1
abbrev vu (n:Int):AV:=.one (.dc (.raw (.int .u8 n)))
def Byts (l:List Int):Prop:=∀ b∈l,0≤b∧b≤255
theorem bytesOf_by (l:List Int):bytesOf (l.map by1)=some (l.map u8):=by
 induction l with
 | nil=>rfl
 | cons b l ih=>simp only [List.map_cons,by1,bytesOf,u8] at ih ⊢;rw [ih];rfl
theorem u8_nat (b:Int) (h:0≤b∧b≤255):((u8 b).toNat:Int)=b:=by
 simp only [u8,UInt8.toNat_ofNat'];omega
theorem str_nil:(⟨#[]⟩:ByteArray)=str []:=rfl
theorem str_size (l:List Int):(str l).size=l.length:=by simp [str,ByteArray.size]
theorem str_app (a b:List Int):str a++str b=str (a++b):=by
 apply ByteArray.ext
 simp [str,ByteArray.data_append]
theorem str_ext (l:List Int) (a b:Nat):(str l).extract a b=str ((l.take b).drop a):=by
 apply ByteArray.ext
 simp [str,ByteArray.data_extract,List.drop_take]
theorem str_all (s:ByteArray):∃ l,Byts l∧s=str l:=by
 refine ⟨s.data.toList.map fun b=>(b.toNat:Int),fun b hb=>?_, ?_⟩
 ·obtain ⟨x,_,rfl⟩:=List.mem_map.1 hb
  have:=x.toNat_lt;omega
 ·apply ByteArray.ext
  apply Array.ext'
  simp [str,u8,Function.comp_def]
theorem str_inj {a b:List Int} (ha:Byts a) (hb:Byts b):(str a=str b)=(a=b):=by
 apply propext
 refine ⟨fun h=>?_,fun h=>by rw [h]⟩
 have h1:a.map u8=b.map u8:=by
  have:=congrArg (fun s:ByteArray=>s.data.toList) h
  simpa [str] using this
 have h2:a.length=b.length:=by simpa using congrArg List.length h1
 refine List.ext_getElem h2 (fun i p q=>?_)
 have h3:u8 a[i]=u8 b[i]:=by
  have:=congrArg (fun l=>l[i]?) h1
  simpa [p,q] using this
 rw [← u8_nat _ (ha _ (List.getElem_mem p)),← u8_nat _ (hb _ (List.getElem_mem q)),h3]
theorem strF (l:List Int):(⟨(l.map u8).toArray⟩:ByteArray)=str l:=rfl
theorem str_data (l:List Int):(str l).data.toList=l.map u8:=by simp [str]
attribute [go_sem] bytesOf_by strF Option.map_none str_data str_ext u8_nat List.take_succ_cons List.take_length List.getElem?_nil List.getElem_cons_zero List.getElem_cons_succ
attribute [go_sem] str_size str_app
def sz (n:Int):Int:=if -128≤n∧n≤127 then 1 else 2
def one2:Nat→Int
 | 0=>1
 | _=>2
theorem one2_0:one2 0=1:=rfl
theorem one2_1:one2 1=2:=rfl
theorem min764:min 7 64=7:=rfl
theorem min1564:min 15 64=15:=rfl
theorem min864:min 8 64=8:=rfl
theorem min1664:min 16 64=16:=rfl
theorem min464:min 4 64=4:=rfl
theorem bits64:IntKind.i64.bits=64:=rfl
attribute [go_sem] min764 min1564 min864 min1664 min464 bits64
theorem sizeOf_v (n:Int) (h:-32768≤n∧n≤32767):EV G (Tb B) 213 [vi n] []=some (vi (sz n),[]):=by
 refine EV_run rfl ?_
 by_cases c:-128≤n∧n≤127
 ·rw [sz,if_pos c]
  simp (disch:=omega) only [go_sem,h213c]
  rw [EL_loop (fun k=>⟨(vi n::jk 2 (vi (one2 k)::jk 15 [])),[]⟩) 0 ?_ ?_]
  rotate_left
  ·rfl
  ·exact fun k hk=>absurd hk (by omega)
  simp (disch:=omega) only [go_sem,h213l0,within_v,one2_0,Int.reduceMul,Int.reduceSub,Int.reduceToNat,Int.reducePow,Nat.reducePow,Int.reduceNeg]
 ·rw [sz,if_neg c]
  simp (disch:=omega) only [go_sem,h213c]
  rw [EL_loop (fun k=>⟨(vi n::jk 2 (vi (one2 k)::jk 15 [])),[]⟩) 1 ?_ ?_]
  rotate_left
  ·rfl
  rotate_left
  ·simp (disch:=omega) only [go_sem,h213l0,within_v,one2_1,Int.reduceMul,Int.reduceSub,Int.reduceToNat,Int.reducePow,Nat.reducePow,Int.reduceNeg]
  ·intro k hk
   have hk0:k=0:=by omega
   subst hk0
   simp (disch:=omega) only [go_sem,h213l0,within_v,one2_0,one2_1,Int.reduceMul,Int.reduceSub,Int.reduceToNat,Int.reducePow,Nat.reducePow,Int.reduceNeg,Int.reduceAdd]
def shK (n:Int):Nat→Int
 | 0=>n
 | k+1=>shK n k / 256
def sgK (n:Int):Nat→List Int
 | 0=>[]
 | k+1=>sgK n k++[shK n k % 256]
theorem sgK_len (n:Int) (k:Nat):(sgK n k).length=k:=by
 induction k with
 | zero=>rfl
 | succ k ih=>simp [sgK,ih]
theorem sgK_take (n:Int) (k:Nat):(sgK n k).take k=sgK n k:=List.take_of_length_le (by rw [sgK_len];omega)
theorem sgK_byts (n:Int) (k:Nat):Byts (sgK n k):=by
 induction k with
 | zero=>intro b hb;cases hb
 | succ k ih=>
  intro b hb
  rcases List.mem_append.1 hb with h | h
  ·exact ih b h
  ·have:=List.mem_singleton.1 h;omega
theorem bl_snoc (l:List Int) (b:Int):l.map by1++[[.raw (.int .u8 b)]]=(l++[b]).map by1:=by simp [by1]
theorem bl_app (a b:List Int):a.map by1++b.map by1=(a++b).map by1:=List.map_append.symm
theorem all_by (l:List Int):allLen 1 (l.map by1)=true:=allLen_map (f:=by1) (fun _=>rfl) l
theorem wu8 (n:Int):IntKind.u8.wrap n=n % 256:=by rw [IntKind.wrap_u8]
theorem wu8c (n:Int) (h:0≤n∧n≤255):IntKind.u8.wrap n=n:=by rw [IntKind.wrap_u8];omega
theorem fdiv256 (n:Int):n.fdiv 256=n / 256:=Int.fdiv_eq_ediv_of_nonneg _ (by decide)
attribute [go_sem] all_by
theorem shK_in (n:Int) (h:-9223372036854775808≤n∧n≤9223372036854775807) (k:Nat):-9223372036854775808≤shK n k∧shK n k≤9223372036854775807:=by
 induction k with
 | zero=>exact h
 | succ k ih=>simp only [shK];omega
theorem signed_v (n:Int) (k:Nat) (hk:k≤1000):EV G (Tb B) 215 [vi n,vi k] []=some (vl (bl (sgK n k)),[]):=by
 refine EV_run rfl ?_
 simp (disch:=omega) only [go_sem,h215c]
 rw [EL_loop (fun j=>⟨(vi (shK n j)::jk 4 (.one (.bld 0 j)::vi k::vi j::jk 10 [])),[.arr 0 1 (bl (sgK n j))]⟩) k ?_ ?_]
 ·have h1:=sgK_len n k
  simp (disch:=omega) only [go_sem,h215l0,List.length_map,sgK_len,take_map_len]
  simp only [List.take_of_length_le (show (sgK n k).length≤k by omega),← List.map_take]
 ·rfl
 ·intro j hj
  have h1:=sgK_len n j
  simp (disch:=omega) only [go_sem,h215l0,List.length_map,sgK_len,wu8,Int.reduceToNat,Int.reducePow,fdiv256,← List.map_take,sgK_take,bl_snoc,shK,sgK]
def encR (last:Int) (r:Run):List Int:=
 if r.s=-1 then sz r.n::sgK r.n (sz r.n).toNat else (16 * sz (r.s - last)+sz r.n)::(sgK r.n (sz r.n).toNat++sgK (r.s - last) (sz (r.s - last)).toNat)
def est (s:List Int × Int) (r:Run):List Int × Int:=(s.1++encR s.2 r,if r.s=-1 then s.2 else r.s)
def encK (l:List Run) (k:Nat):List Int × Int:=(l.take k).foldl est ([],0)
def encL (l:List Run):List Int × Int:=l.foldl est ([],0)
def encV (l:List Run):List Int × Int:=if errsE [l]≠0 then ([],errsE [l]) else ((encL l).1++[0],0)
theorem encK_succ (l:List Run) (k:Nat) (h:k < l.length):encK l (k+1)=est (encK l k) l[k]:=by
 rw [encK,List.take_succ_eq_append_getElem h,List.foldl_append];rfl
theorem encK_all (l:List Run):encK l l.length=encL l:=by rw [encK,List.take_length];rfl
theorem sz_in (n:Int):sz n=1∨sz n=2:=by unfold sz;split<;>simp
theorem encR_len (a:Int) (r:Run):(encR a r).length≤5:=by
 have h1:=sz_in r.n
 have h2:=sz_in (r.s - a)
 unfold encR
 split
 ·simp only [List.length_cons,sgK_len];omega
 ·simp only [List.length_cons,List.length_append,sgK_len];omega
theorem encR_byts (a:Int) (r:Run):Byts (encR a r):=by
 have h1:=sz_in r.n
 have h2:=sz_in (r.s - a)
 intro b hb
 unfold encR at hb
 split at hb
 ·rcases List.mem_cons.1 hb with h | h
  ·omega
  ·exact sgK_byts _ _ b h
 ·rcases List.mem_cons.1 hb with h | h
  ·omega
  ·rcases List.mem_append.1 h with h | h
   ·exact sgK_byts _ _ b h
   ·exact sgK_byts _ _ b h
theorem encK_ok (l:List Run) (h:∀ r∈l,-1≤r.s∧r.s≤511):∀ k,k≤l.length→(encK l k).1.length≤5 * k∧(0≤(encK l k).2∧(encK l k).2≤511)∧Byts (encK l k).1:=by
 intro k
 induction k with
 | zero=>intro _;exact ⟨by simp [encK],by simp [encK],by intro b hb;cases hb⟩
 | succ k ih=>
  intro hk
  obtain ⟨h1,h2,h3⟩:=ih (by omega)
  have h4:=h _ (List.getElem_mem (show k < l.length by omega))
  rw [encK_succ l k (by omega)]
  refine ⟨?_, ?_, ?_⟩
  ·simp only [est,List.length_append]
   have:=encR_len (encK l k).2 l[k]
   omega
  ·simp only [est]
   split<;>omega
  ·intro b hb
   rcases List.mem_append.1 hb with hb | hb
   ·exact h3 b hb
   ·exact encR_byts _ _ b hb
theorem or16 (a b:Int) (ha:a=1∨a=2) (hb:b=1∨b=2):orI .i64 (a * 16) b=16 * a+b:=by
 rcases ha with rfl | rfl<;>rcases hb with rfl | rfl<;>decide
theorem or0 (b:Int) (hb:b=1∨b=2):orI .i64 0 b=b:=by
 rcases hb with rfl | rfl<;>decide
theorem runs_in {l:List Run} (h:(chk l).2=0):∀ r∈l,(-1≤r.s∧r.s≤511)∧1≤r.n∧r.n≤4096:=by
 intro r hr
 rcases rangeE_ok (chk_rg h r hr) with h1 | ⟨s,n,h1⟩<;>omega
set_option maxHeartbeats 1000000 in
theorem encode_v (l:List Run):EV G (Tb B) 176 [runsV l] []=some (.tup [.one (.dc (.raw (.string (str (encV l).1)))),.one (.dc (ci (encV l).2))],[]):=by
 refine EV_run rfl ?_
 unfold encV
 by_cases c:errsE [l]=0
 ·have hc:(chk l).2=0:=by rw [errs1] at c;exact c
  have hr:=runs_in hc
  have hlen:=chk_len hc
  simp (disch:=omega) only [go_sem,h176c,errs1_v,c,List.length_map]
  rw [EL_loop (fun k=>⟨(jk 5 (.one (.bld 0 (encK l k).1.length)::vi (encK l k).2::jk 10 (runsV l::vi l.length::vi k::jk 46 []))),[.arr 0 1 (bl (encK l k).1)]⟩) l.length ?_ ?_]
  ·have hk:=encK_ok l (fun r hr'=>(hr r hr').1) l.length (Nat.le_refl _)
   rw [encK_all] at hk ⊢
   have hz:List.take ((encL l).1.length+1) (((encL l).1++[0]).map by1)=((encL l).1++[0]).map by1:=List.take_of_length_le (by simp)
   simp (disch:=omega) only [go_sem,h176l0,List.length_map,List.length_append,bl_snoc,hz]
  ·rfl
  ·intro k hk
   obtain ⟨g1,g2,g3⟩:=encK_ok l (fun r hr'=>(hr r hr').1) k (by omega)
   have h4:=hr _ (List.getElem_mem hk)
   rw [encK_succ l k hk]
   generalize encK l k=s at g1 g2 g3 ⊢
   obtain ⟨o,a⟩:=s
   simp only at g1 g2 g3
   simp only [est,encR]
   have z1:=sz_in l[k].n
   have s1:=sizeOf_v (G:=G) (B:=B) l[k].n (by omega)
   by_cases c1:l[k].s=-1
   ·have s2:=signed_v (G:=G) (B:=B) l[k].n (sz l[k].n).toNat (by omega)
    rw [show (((sz l[k].n).toNat:Nat):Int)=sz l[k].n by omega] at s2
    have o1:=or0 (sz l[k].n) z1
    have t1 (x:Int):List.take (o.length+1) ((o++[x]).map by1)=(o++[x]).map by1:=List.take_of_length_le (by simp)
    have e1:o.length+1+(sz l[k].n).toNat=o.length+((sz l[k].n).toNat+1):=by omega
    simp (disch:=omega) only [go_sem,h176l0,List.length_map,Run.e,isHole_v,c1,s1,s2,Int.reduceToNat,Int.reducePow,Int.reduceMul,o1,wu8c,bl_snoc,bl_app,sgK_len,List.length_append,t1,e1,List.append_assoc]
   ·have z2:=sz_in (l[k].s - a)
    have s2:=signed_v (G:=G) (B:=B) l[k].n (sz l[k].n).toNat (by omega)
    rw [show (((sz l[k].n).toNat:Nat):Int)=sz l[k].n by omega] at s2
    have s3:=sizeOf_v (G:=G) (B:=B) (l[k].s - a) (by omega)
    have s4:=signed_v (G:=G) (B:=B) (l[k].s - a) (sz (l[k].s - a)).toNat (by omega)
    rw [show (((sz (l[k].s - a)).toNat:Nat):Int)=sz (l[k].s - a) by omega] at s4
    have o1:=or16 (sz (l[k].s - a)) (sz l[k].n) z2 z1
    have t1 (x:Int):List.take (o.length+1) ((o++[x]).map by1)=(o++[x]).map by1:=List.take_of_length_le (by simp)
    have t2 (x:Int):List.take (o.length+1+(sz l[k].n).toNat) ((o++x::sgK l[k].n (sz l[k].n).toNat).map by1)=(o++x::sgK l[k].n (sz l[k].n).toNat).map by1:=List.take_of_length_le (by simp [sgK_len];omega)
    have e1:o.length+1+(sz l[k].n).toNat+(sz (l[k].s - a)).toNat=o.length+((sz l[k].n).toNat+(sz (l[k].s - a)).toNat+1):=by omega
    simp (disch:=omega) only [go_sem,h176l0,List.length_map,Run.e,isHole_v,c1,s1,s2,s3,s4,Int.reduceToNat,Int.reducePow,Int.reduceMul,o1,wu8c,bl_snoc,bl_app,sgK_len,List.length_append,t1,t2,e1,List.append_assoc]
 ·simp (disch:=omega) only [go_sem,h176c,errs1_v,c,str_nil]
theorem tmod_nn (a b:Int) (h:0≤a):a.tmod b=a % b:=Int.tmod_eq_emod_of_nonneg h
theorem tdiv_nn (a b:Int) (h:0≤a):a.tdiv b=a / b:=Int.tdiv_eq_ediv_of_nonneg h
theorem shK_nn (n:Int) (h:0≤n) (k:Nat):0≤shK n k:=by
 induction k with
 | zero=>exact h
 | succ k ih=>simp only [shK];omega
theorem little_v (n:Int) (k:Nat) (hn:0≤n∧n≤9223372036854775807) (hk:k≤1000):EV G (Tb B) 90 [vi n,vi k] []=some (sv (sgK n k),[]):=by
 refine EV_run rfl ?_
 simp (disch:=omega) only [go_sem,h90c]
 rw [EL_loop (fun j=>⟨(vi (shK n j)::vi k::jk 3 (.one (.bld 0 j)::vi j::jk 15 [])),[.arr 0 1 (bl (sgK n j))]⟩) k ?_ ?_]
 ·have h1:=sgK_len n k
  simp (disch:=omega) only [go_sem,h90l0,List.length_map,sgK_len,← List.map_take,sgK_take]
 ·rfl
 ·intro j hj
  have h1:=sgK_len n j
  have h2:=shK_nn n hn.1 j
  have h3:=shK_in n (by omega) j
  simp (disch:=omega) only [go_sem,h90l0,List.length_map,sgK_len,tmod_nn,tdiv_nn,wu8c,← List.map_take,sgK_take,bl_snoc,shK,sgK]
theorem modT (n m:Int) (hm:0 < m):n % m=if n.tmod m < 0 then n.tmod m+m else n.tmod m:=by
 have h1:=Int.emod_nonneg n (show m≠0 by omega)
 have h2:=Int.emod_lt_of_pos n hm
 have h3:=Int.tmod_eq_emod (a:=n) (b:=m)
 split at h3
 ·rw [if_neg (by omega)];omega
 ·rw [if_pos (by omega)];omega
theorem mod_v (n m:Int) (hm:0 < m∧m≤4611686018427387904):EV G (Tb B) 45 [vi n,vi m] []=some (vi (n % m),[]):=by
 refine EV_run rfl ?_
 have h1:=Int.emod_nonneg n (show m≠0 by omega)
 have h2:=Int.emod_lt_of_pos n hm.1
 have h3:=modT n m hm.1
 by_cases c:n.tmod m < 0
 ·rw [if_pos c] at h3
  simp (disch:=omega) only [go_sem,h45c,h3]
 ·rw [if_neg c] at h3
  simp (disch:=omega) only [go_sem,h45c,h3]
theorem signedR_v (n:Int) (h:-32768≤n∧n≤32767):EV G (Tb B) 140 [vi n] []=some (sv (sgK n (sz n).toNat),[]):=by
 refine EV_run rfl ?_
 by_cases c:-128≤n∧n≤127
 ·have h1:=little_v (G:=G) (B:=B) (n % 256) 1 (by omega) (by omega)
  have h2:sgK (n % 256) 1=sgK n 1:=by simp [sgK,shK]
  rw [show sz n=1 by simp [sz,c],show (1:Int).toNat=1 from rfl]
  rw [h2,Int.natCast_one] at h1
  simp (disch:=omega) only [go_sem,h140c,within_r,mod_v,h1]
 ·have h1:=little_v (G:=G) (B:=B) (n % 65536) 2 (by omega) (by omega)
  have a1:n % 65536 % 256=n % 256:=by omega
  have a2:n % 65536 / 256 % 256=n / 256 % 256:=by omega
  have h2:sgK (n % 65536) 2=sgK n 2:=by simp only [sgK,shK,a1,a2]
  rw [show sz n=2 by simp [sz,c],show (2:Int).toNat=2 from rfl]
  rw [h2,show ((2:Nat):Int)=2 from rfl] at h1
  simp (disch:=omega) only [go_sem,h140c,within_r,mod_v,h1]
theorem bytesOf_rep (k:Nat):bytesOf (List.replicate k [DC.raw (.int .u8 0)])=some (List.replicate k (u8 0)):=by
 have:=bytesOf_by (List.replicate k 0)
 simpa [by1] using this
theorem strF0 (k:Nat):(⟨(List.replicate k (u8 0)).toArray⟩:ByteArray)=str (List.replicate k 0):=by simp [str]
theorem zeros_v (n:Int) (h:0≤n∧n≤200000):EV G (Tb B) 93 [vi n] []=some (sv (List.replicate n.toNat 0),[]):=by
 refine EV_run rfl ?_
 have e:(if n > 0 then n else 0)=n:=by split<;>omega
 simp (disch:=omega) only [go_sem,h93c,bytesOf_rep,strF0,e,List.length_replicate,List.take_replicate,Nat.min_self]
theorem sadd_s {a b:List Int} (h:a.length+b.length≤9223372036854775807):binV .add (sv a) (sv b)=some (sv (a++b)):=by
 rw [bin_sadd (by rw [str_size,str_size];exact h),str_app]
attribute [go_sem 2000] sadd_s
set_option maxHeartbeats 1000000 in
theorem encodeR_v (l:List Run) (hc:(chk l).2=0):EV G (Tb B) 88 [runsV l] []=some (sv ((encL l).1++[0]),[]):=by
 refine EV_run rfl ?_
 have hr:=runs_in hc
 have hlen:=chk_len hc
 simp (disch:=omega) only [go_sem,h88c,str_nil]
 rw [EL_loop (fun k=>⟨(runsV l::jk 2 (sv (encK l k).1::vi (encK l k).2::vi k::jk 56 [])),[]⟩) l.length ?_ ?_]
 ·have hk:=encK_ok l (fun r hr'=>(hr r hr').1) l.length (Nat.le_refl _)
  rw [encK_all] at hk ⊢
  simp (disch:=first | omega | (simp only [List.length_append,List.length_cons,List.length_nil,List.length_map,sgK_len];omega)) only [go_sem,h88l0,List.length_map,zeros_v,Int.reduceToNat,List.replicate_succ,List.replicate_zero]
 ·rfl
 ·intro k hk
  obtain ⟨g1,g2,g3⟩:=encK_ok l (fun r hr'=>(hr r hr').1) k (by omega)
  have h4:=hr _ (List.getElem_mem hk)
  rw [encK_succ l k hk]
  generalize encK l k=s at g1 g2 g3 ⊢
  obtain ⟨o,a⟩:=s
  simp only at g1 g2 g3
  simp only [est,encR]
  have z1:=sz_in l[k].n
  have s1:=signedR_v (G:=G) (B:=B) l[k].n (by omega)
  have q1:(((sz l[k].n).toNat:Nat):Int)=sz l[k].n:=by omega
  by_cases c1:l[k].s=-1
  ·have s2:=little_v (G:=G) (B:=B) (sz l[k].n) 1 (by omega) (by omega)
   rw [show sgK (sz l[k].n) 1=[sz l[k].n] by simp [sgK,shK];omega,Int.natCast_one] at s2
   simp (disch:=first | omega | (simp only [List.length_append,List.length_cons,List.length_nil,List.length_map,sgK_len];omega)) only [go_sem,h88l0,List.length_map,List.getElem_map,Run.e,c1,s1,s2,sgK_len,q1,List.append_assoc]
  ·have z2:=sz_in (l[k].s - a)
   have s3:=signedR_v (G:=G) (B:=B) (l[k].s - a) (by omega)
   have s2:=little_v (G:=G) (B:=B) (sz l[k].n+16 * sz (l[k].s - a)) 1 (by omega) (by omega)
   have q2:(((sz (l[k].s - a)).toNat:Nat):Int)=sz (l[k].s - a):=by omega
   rw [show sgK (sz l[k].n+16 * sz (l[k].s - a)) 1=[16 * sz (l[k].s - a)+sz l[k].n] by simp [sgK,shK];omega,Int.natCast_one] at s2
   simp (disch:=first | omega | (simp only [List.length_append,List.length_cons,List.length_nil,List.length_map,sgK_len];omega)) only [go_sem,h88l0,List.length_map,List.getElem_map,Run.e,c1,s1,s2,s3,sgK_len,q1,q2,List.append_assoc]
end
section
variable {G:Glob} {B:CallT}
theorem copyRuns_v (l:List Run) (hl:l.length≤1000000):EV G (Tb B) 76 [runsV l] []=some (.one (.bld 0 l.length),[.arr 0 2 (l.map Run.e)]):=by
 refine EV_run rfl ?_
 simp (disch:=omega) only [go_sem,h76c,List.length_map,List.take_zero]
theorem sameRuns_v (a b:List Run) (hl:a.length≤1000000):EV G (Tb B) 83 [runsV a,runsV b] []=some (vb (decide (a=b)),[]):=by
 refine EV_run rfl ?_
 by_cases h:(a.length:Int)=b.length
 ·simp (disch:=omega) only [go_sem,h83c,List.length_map,h]
  have h:a.length=b.length:=by omega
  rw [EL_fst (fun k=>⟨(runsV a::runsV b::jk 3 (vi k::jk 20 [])),[]⟩) (fun k=>a.getD k ⟨0,0⟩≠b.getD k ⟨0,0⟩) a.length ?_ ?_]
  rotate_left
  ·rfl
  ·intro k hk hn
   have h1:=hn k (Nat.le_refl _)
   rw [runAt a k hk,runAt b k (by omega),Classical.not_not,run_eq] at h1
   simp (disch:=omega) only [go_sem,h83l0,List.length_map,Run.e]
  obtain ⟨hk,hp,hn⟩:=ix_spec (fun k=>a.getD k ⟨0,0⟩≠b.getD k ⟨0,0⟩) a.length
  generalize ix (fun k=>a.getD k ⟨0,0⟩≠b.getD k ⟨0,0⟩) a.length=k at *
  rcases hp with hp | ⟨hk',hp⟩
  ·have hz:a=b:=List.ext_getElem h (fun i h1 h2=>by
    have:=hn i (by omega)
    rwa [runAt a i h1,runAt b i h2,Classical.not_not] at this)
   simp (disch:=omega) only [go_sem,h83l0,List.length_map]
   simp [hz]
  ·rw [runAt a k hk',runAt b k (by omega)] at hp
   have hz:¬ a=b:=fun e=>by subst e;exact hp rfl
   rw [ne_eq,run_eq] at hp
   simp (disch:=omega) only [go_sem,h83l0,List.length_map,Run.e]
   simp [hz]
 ·simp (disch:=omega) only [go_sem,h83c,List.length_map]
  have:¬ a=b:=fun e=>h (by rw [e])
  simp [this]
theorem has_v (l:List Int) (c:Int) (hl:l.length≤1000000):EV G (Tb B) 136 [vl (el l),vi c] []=some (vb (decide (c∈l)),[]):=by
 refine EV_run rfl ?_
 simp (disch:=omega) only [go_sem,h136c,List.length_map]
 rw [EL_fst (fun k=>⟨(vl (el l)::vi c::jk 3 (vi k::jk 12 [])),[]⟩) (fun k=>l.getD k 0=c) l.length ?_ ?_]
 rotate_left
 ·rfl
 ·intro k hk hn
  have h1:=hn k (Nat.le_refl _)
  rw [getD_at l k hk] at h1
  simp (disch:=omega) only [go_sem,h136l0,List.length_map,ci1]
 obtain ⟨hk,hp,hn⟩:=ix_spec (fun k=>l.getD k 0=c) l.length
 generalize ix (fun k=>l.getD k 0=c) l.length=k at *
 rcases hp with rfl | ⟨hk',hp⟩
 ·have hz:¬ c∈l:=fun hc=>by
   obtain ⟨j,hj,rfl⟩:=List.mem_iff_getElem.1 hc
   exact hn j hj (getD_at l j hj)
  simp (disch:=omega) only [go_sem,h136l0,List.length_map]
  simp [hz]
 ·rw [getD_at l k hk'] at hp
  have hz:c∈l:=by rw [← hp];exact List.getElem_mem hk'
  simp (disch:=omega) only [go_sem,h136l0,List.length_map,ci1]
  simp [hz]
end
section
variable {G:Glob} {bb:Bool}
structure Att where
 ty:Int
 nm:List Int
 id:Int
 fl:Int
 res:Bool
 va:List Int
 fi:Int
 rs:List Run
 al:Int
 sz:Int
 vd:Int
abbrev Att.e (a:Att):List DC:=[ci a.ty,.raw (.string (str a.nm)),ci a.id,ci a.fl,.raw (.bool a.res),.raw (.string (str a.va)),ci a.fi,.slc (a.rs.map Run.e),ci a.al,ci a.sz,ci a.vd]
abbrev Att.c (a:Att):List Cel:=[.dc (ci a.ty),.dc (.raw (.string (str a.nm))),.dc (ci a.id),.dc (ci a.fl),.dc (.raw (.bool a.res)),.dc (.raw (.string (str a.va))),.dc (ci a.fi),.dc (.slc (a.rs.map Run.e)),.dc (ci a.al),.dc (ci a.sz),.dc (ci a.vd)]
abbrev Att.v (a:Att):AV:=.agg a.c
abbrev Att.t (a:Att):TV:=.agg a.c
def Att.nil:Att:=⟨0,[],0,0,false,[],0,[],0,0,0⟩
theorem within8_v (n lo hi:Int):EV G (Tb (bs bb)) 126 [vi n,vi lo,vi hi] []=some (vb (decide (lo≤n∧n≤hi)),[]):=by
 refine EV_run rfl ?_
 by_cases h:lo≤n
 all_goals simp (disch:=omega) only [go_sem,h126c]
 all_goals simp [h]
theorem unless8_v (b:Bool) (e:Int):EV G (Tb (bs bb)) 118 [vb b,vi e] []=some (vi (if b=true then 0 else e),[]):=by
 refine EV_run rfl ?_
 cases b
 all_goals simp (disch:=omega) only [go_sem,h118c]
 all_goals rfl
theorem unlessN_v (b:Bool) (e:Int):EV G (Tb (bs bb)) 205 [vb b,vi e] []=some (vi (if b=true then 0 else e),[]):=by
 refine EV_run rfl ?_
 cases b
 all_goals simp (disch:=omega) only [go_sem,h205c]
 all_goals rfl
theorem first8_v (l:List Int) (hl:l.length≤1000):EV G (Tb (bs bb)) 117 [vl (el l)] []=some (vi (firstE l),[]):=by
 refine EV_run rfl ?_
 simp (disch:=omega) only [go_sem,h117c,List.length_map]
 have round:∀ k (hk:k < l.length),¬ l.getD k 0≠0→rnK [5,0,0] 0 (EC (EV G (Tb (bs bb))) G h117l0 ⟨(jk 5 (vl (el l)::vi l.length::vi k::jk 7 [])),[]⟩)=some ⟨(jk 5 (vl (el l)::vi l.length::vi (k+1:Nat)::jk 7 [])),[]⟩:=fun k hk hz=>by
  rw [getD_at l k hk] at hz
  simp (disch:=omega) only [go_sem,h117l0,List.length_map,ci1]
 rcases fstN (fun k=>l.getD k 0≠0) l.length with h | ⟨j,hj,h1,h2⟩
 ·rw [EL_loop (fun k=>⟨(jk 5 (vl (el l)::vi l.length::vi k::jk 7 [])),[]⟩) l.length ?_ ?_]
  ·rw [firstE_none l h]
   simp (disch:=omega) only [go_sem,h117l0]
  ·rfl
  ·exact fun k hk=>round k hk (h k hk)
 ·rw [EL_loop (fun k=>⟨(jk 5 (vl (el l)::vi l.length::vi k::jk 7 [])),[]⟩) j ?_ ?_]
  ·rw [firstE_at l j hj h2 h1]
   rw [getD_at l j hj] at h1
   simp (disch:=omega) only [go_sem,h117l0,List.length_map,ci1]
  ·rfl
  ·exact fun k hk=>round k (by omega) (h2 k hk)
theorem firstN_v (l:List Int) (hl:l.length≤1000):EV G (Tb (bs bb)) 204 [vl (el l)] []=some (vi (firstE l),[]):=by
 refine EV_run rfl ?_
 simp (disch:=omega) only [go_sem,h204c,List.length_map]
 have round:∀ k (hk:k < l.length),¬ l.getD k 0≠0→rnK [5,0,0] 0 (EC (EV G (Tb (bs bb))) G h204l0 ⟨(jk 5 (vl (el l)::vi l.length::vi k::jk 7 [])),[]⟩)=some ⟨(jk 5 (vl (el l)::vi l.length::vi (k+1:Nat)::jk 7 [])),[]⟩:=fun k hk hz=>by
  rw [getD_at l k hk] at hz
  simp (disch:=omega) only [go_sem,h204l0,List.length_map,ci1]
 rcases fstN (fun k=>l.getD k 0≠0) l.length with h | ⟨j,hj,h1,h2⟩
 ·rw [EL_loop (fun k=>⟨(jk 5 (vl (el l)::vi l.length::vi k::jk 7 [])),[]⟩) l.length ?_ ?_]
  ·rw [firstE_none l h]
   simp (disch:=omega) only [go_sem,h204l0]
  ·rfl
  ·exact fun k hk=>round k hk (h k hk)
 ·rw [EL_loop (fun k=>⟨(jk 5 (vl (el l)::vi l.length::vi k::jk 7 [])),[]⟩) j ?_ ?_]
  ·rw [firstE_at l j hj h2 h1]
   rw [getD_at l j hj] at h1
   simp (disch:=omega) only [go_sem,h204l0,List.length_map,ci1]
  ·rfl
  ·exact fun k hk=>round k (by omega) (h2 k hk)
theorem firstN2 (a b:Int):EV G (Tb (bs bb)) 204 [vl [[ci a],[ci b]]] []=some (vi (firstE [a,b]),[]):=firstN_v [a,b] (by simp)
theorem first8_2 (a b:Int):EV G (Tb (bs bb)) 117 [vl [[ci a],[ci b]]] []=some (vi (firstE [a,b]),[]):=first8_v [a,b] (by simp)
theorem first8_3 (a b c:Int):EV G (Tb (bs bb)) 117 [vl [[ci a],[ci b],[ci c]]] []=some (vi (firstE [a,b,c]),[]):=first8_v [a,b,c] (by simp)
theorem first8_5 (a b c d e:Int):EV G (Tb (bs bb)) 117 [vl [[ci a],[ci b],[ci c],[ci d],[ci e]]] []=some (vi (firstE [a,b,c,d,e]),[]):=first8_v [a,b,c,d,e] (by simp)
def tys:List Int:=[16,32,48,64,96,112,128,144,160,176,192]
def rtys:List Int:=[16,48,96,112,144]
theorem types_v:EV G (Tb (bs bb)) 172 [] []=some (.one (.mpc tyL),[]):=EV_base rfl rfl
theorem mpGet_ty (n:Int):mpGet tyL n=if n∈tys then some (.bool (decide (n∈rtys))) else none:=by
 unfold tyL tys rtys
 simp only [mpGet,List.mem_cons,List.not_mem_nil,or_false]
 split<;>rename_i h1
 ·subst h1;simp
 split<;>rename_i h2
 ·subst h2;simp
 split<;>rename_i h3
 ·subst h3;simp
 split<;>rename_i h4
 ·subst h4;simp
 split<;>rename_i h5
 ·subst h5;simp
 split<;>rename_i h6
 ·subst h6;simp
 split<;>rename_i h7
 ·subst h7;simp
 split<;>rename_i h8
 ·subst h8;simp
 split<;>rename_i h9
 ·subst h9;simp
 split<;>rename_i h10
 ·subst h10;simp
 split<;>rename_i h11
 ·subst h11;simp
 rw [if_neg (by omega)]
theorem isType_v (n:Int):EV G (Tb (bs bb)) 124 [vi n] []=some (vb (decide (n∈tys)),[]):=by
 refine EV_run rfl ?_
 have hm:=mpGet_ty n
 by_cases h:n∈tys
 ·rw [if_pos h] at hm
  simp (disch:=omega) only [go_sem,h124c,types_v,mpxV,mpR,hm,h]
 ·rw [if_neg h] at hm
  simp (disch:=omega) only [go_sem,h124c,types_v,mpxV,mpR,hm,h]
theorem clusters8_v (a:Att) (hl:a.rs.length≤1000000):EV G (Tb (bs bb)) 175 [a.v] []=some (vi (lenW a.rs),[]):=by
 refine EV_run rfl ?_
 simp (disch:=omega) only [go_sem,h175c,List.length_map]
 rw [EL_loop (fun k=>⟨(jk 3 (vi (lenW (a.rs.take k))::jk 3 (runsV a.rs::vi a.rs.length::vi k::jk 9 []))),[.box a.c]⟩) a.rs.length ?_ ?_]
 ·simp (disch:=omega) only [go_sem,h175l0,List.take_length]
 ·rfl
 ·intro k hk
  rw [lenW_take a.rs k hk]
  simp (disch:=omega) only [go_sem,h175l0,List.length_map,Run.e]
theorem head_v (b:Bool):EV G (Tb (bs bb)) 177 [vb b] []=some (vi (if b=true then 24 else 40),[]):=by
 refine EV_run rfl ?_
 cases b
 all_goals simp (disch:=omega) only [go_sem,h177c]
 all_goals rfl
def al8 (n:Int):Int:=(n+7) / 8 * 8
theorem aligned_v (n:Int) (h:0≤n∧n≤1000000000):EV G (Tb (bs bb)) 178 [vi n] []=some (vi (al8 n),[]):=by
 refine EV_run rfl ?_
 have e:n+8 - 1=n+7:=by omega
 simp (disch:=omega) only [go_sem,h178c,tdiv_nn,al8,e]
end
end Go.Proofs.YtcplecjhmnblpaaGreatDoor
