/- Names of attributes. Conditions: none. -/
import Derived.Test.YtcplecjhmnblpaaGreatDoorVh
import Derived.Test.YtcplecjhmnblpaaGreatDoorTa
namespace Go.Proofs.YtcplecjhmnblpaaGreatDoor
set_option linter.unusedSimpArgs false
set_option linter.unusedVariables false
set_option maxRecDepth 4000
section
variable {G:Glob} {B:CallT}
def by1 (n:Int):List DC:=[.raw (.int .u8 n)]
def u8 (n:Int):UInt8:=UInt8.ofNat n.toNat
def str (l:List Int):ByteArray:=⟨(l.map u8).toArray⟩
abbrev sv (l:List Int):AV:=.one (.dc (.raw (.string (str l))))
abbrev bl (l:List Int):List (List DC):=l.map by1
abbrev vu (n:Int):AV:=.one (.dc (.raw (.int .u8 n)))
def Byts (l:List Int):Prop:=∀ b∈l,0≤b∧b≤255
theorem bytesOf_by (l:List Int):bytesOf (l.map by1)=some (l.map u8):=by
 induction l with
 | nil=>rfl
 | cons b l ih=>simp only [List.map_cons,by1,bytesOf,u8] at ih ⊢;rw [ih];rfl
theorem u8_nat (b:Int) (h:0≤b∧b≤255):((u8 b).toNat:Int)=b:=by
 simp only [u8,UInt8.toNat_ofNat'];omega
theorem str_nil:(⟨#[]⟩:ByteArray)=str []:=rfl
theorem str_size (l:List Int):(str l).size=l.length:=by simp [str,ByteArray.size]
theorem str_app (a b:List Int):str a++str b=str (a++b):=by
 apply ByteArray.ext
 simp [str,ByteArray.data_append]
theorem str_ext (l:List Int) (a b:Nat):(str l).extract a b=str ((l.take b).drop a):=by
 apply ByteArray.ext
 simp [str,ByteArray.data_extract,List.drop_take]
theorem str_all (s:ByteArray):∃ l,Byts l∧s=str l:=by
 refine ⟨s.data.toList.map fun b=>(b.toNat:Int),fun b hb=>?_, ?_⟩
 ·obtain ⟨x,_,rfl⟩:=List.mem_map.1 hb
  have:=x.toNat_lt;omega
 ·apply ByteArray.ext
  apply Array.ext'
  simp [str,u8,Function.comp_def]
theorem str_inj {a b:List Int} (ha:Byts a) (hb:Byts b):(str a=str b)=(a=b):=by
 apply propext
 refine ⟨fun h=>?_,fun h=>by rw [h]⟩
 have h1:a.map u8=b.map u8:=by
  have:=congrArg (fun s:ByteArray=>s.data.toList) h
  simpa [str] using this
 have h2:a.length=b.length:=by simpa using congrArg List.length h1
 refine List.ext_getElem h2 (fun i p q=>?_)
 have h3:u8 a[i]=u8 b[i]:=by
  have:=congrArg (fun l=>l[i]?) h1
  simpa [p,q] using this
 rw [← u8_nat _ (ha _ (List.getElem_mem p)),← u8_nat _ (hb _ (List.getElem_mem q)),h3]
theorem strF (l:List Int):(⟨(l.map u8).toArray⟩:ByteArray)=str l:=rfl
theorem str_data (l:List Int):(str l).data.toList=l.map u8:=by simp [str]
attribute [go_sem] bytesOf_by strF Option.map_none str_data str_ext u8_nat List.take_succ_cons List.take_length List.getElem?_nil List.getElem_cons_zero List.getElem_cons_succ
attribute [go_sem] str_size str_app
def sz (n:Int):Int:=if -128≤n∧n≤127 then 1 else 2
def one2:Nat→Int
 | 0=>1
 | _=>2
theorem one2_0:one2 0=1:=rfl
theorem one2_1:one2 1=2:=rfl
theorem min764:min 7 64=7:=rfl
theorem min1564:min 15 64=15:=rfl
theorem min864:min 8 64=8:=rfl
theorem min1664:min 16 64=16:=rfl
theorem min464:min 4 64=4:=rfl
theorem bits64:IntKind.i64.bits=64:=rfl
attribute [go_sem] min764 min1564 min864 min1664 min464 bits64
theorem sizeOf_v (n:Int) (h:-32768≤n∧n≤32767):EV G (Tb B) 213 [vi n] []=some (vi (sz n),[]):=by
 refine EV_run rfl ?_
 by_cases c:-128≤n∧n≤127
 ·rw [sz,if_pos c]
  simp (disch:=omega) only [go_sem,h213c]
  rw [EL_loop (fun k=>⟨(vi n::jk 2 (vi (one2 k)::jk 15 [])),[]⟩) 0 ?_ ?_]
  rotate_left
  ·rfl
  ·exact fun k hk=>absurd hk (by omega)
  simp (disch:=omega) only [go_sem,h213l0,within_v,one2_0,Int.reduceMul,Int.reduceSub,Int.reduceToNat,Int.reducePow,Nat.reducePow,Int.reduceNeg]
 ·rw [sz,if_neg c]
  simp (disch:=omega) only [go_sem,h213c]
  rw [EL_loop (fun k=>⟨(vi n::jk 2 (vi (one2 k)::jk 15 [])),[]⟩) 1 ?_ ?_]
  rotate_left
  ·rfl
  rotate_left
  ·simp (disch:=omega) only [go_sem,h213l0,within_v,one2_1,Int.reduceMul,Int.reduceSub,Int.reduceToNat,Int.reducePow,Nat.reducePow,Int.reduceNeg]
  ·intro k hk
   have hk0:k=0:=by omega
   subst hk0
   simp (disch:=omega) only [go_sem,h213l0,within_v,one2_0,one2_1,Int.reduceMul,Int.reduceSub,Int.reduceToNat,Int.reducePow,Nat.reducePow,Int.reduceNeg,Int.reduceAdd]
def shK (n:Int):Nat→Int
 | 0=>n
 | k+1=>shK n k / 256
def sgK (n:Int):Nat→List Int
 | 0=>[]
 | k+1=>sgK n k++[shK n k % 256]
theorem sgK_len (n:Int) (k:Nat):(sgK n k).length=k:=by
 induction k with
 | zero=>rfl
 | succ k ih=>simp [sgK,ih]
theorem sgK_take (n:Int) (k:Nat):(sgK n k).take k=sgK n k:=List.take_of_length_le (by rw [sgK_len];omega)
theorem sgK_byts (n:Int) (k:Nat):Byts (sgK n k):=by
 induction k with
 | zero=>intro b hb;cases hb
 | succ k ih=>
  intro b hb
  rcases List.mem_append.1 hb with h | h
  ·exact ih b h
  ·have:=List.mem_singleton.1 h;omega
theorem bl_snoc (l:List Int) (b:Int):l.map by1++[[.raw (.int .u8 b)]]=(l++[b]).map by1:=by simp [by1]
theorem bl_app (a b:List Int):a.map by1++b.map by1=(a++b).map by1:=List.map_append.symm
theorem all_by (l:List Int):allLen 1 (l.map by1)=true:=allLen_map (f:=by1) (fun _=>rfl) l
theorem wu8 (n:Int):IntKind.u8.wrap n=n % 256:=by rw [IntKind.wrap_u8]
theorem wu8c (n:Int) (h:0≤n∧n≤255):IntKind.u8.wrap n=n:=by rw [IntKind.wrap_u8];omega
theorem fdiv256 (n:Int):n.fdiv 256=n / 256:=Int.fdiv_eq_ediv_of_nonneg _ (by decide)
attribute [go_sem] all_by
theorem shK_in (n:Int) (h:-9223372036854775808≤n∧n≤9223372036854775807) (k:Nat):-9223372036854775808≤shK n k∧shK n k≤9223372036854775807:=by
 induction k with
 | zero=>exact h
 | succ k ih=>simp only [shK];omega
theorem signed_v (n:Int) (k:Nat) (hk:k≤1000):EV G (Tb B) 215 [vi n,vi k] []=some (vl (bl (sgK n k)),[]):=by
 refine EV_run rfl ?_
 simp (disch:=omega) only [go_sem,h215c]
 rw [EL_loop (fun j=>⟨(vi (shK n j)::jk 4 (.one (.bld 0 j)::vi k::vi j::jk 10 [])),[.arr 0 1 (bl (sgK n j))]⟩) k ?_ ?_]
 ·have h1:=sgK_len n k
  simp (disch:=omega) only [go_sem,h215l0,List.length_map,sgK_len,take_map_len]
  simp only [List.take_of_length_le (show (sgK n k).length≤k by omega),← List.map_take]
 ·rfl
 ·intro j hj
  have h1:=sgK_len n j
  simp (disch:=omega) only [go_sem,h215l0,List.length_map,sgK_len,wu8,Int.reduceToNat,Int.reducePow,fdiv256,← List.map_take,sgK_take,bl_snoc,shK,sgK]
def encR (last:Int) (r:Run):List Int:=
 if r.s=-1 then sz r.n::sgK r.n (sz r.n).toNat else (16 * sz (r.s - last)+sz r.n)::(sgK r.n (sz r.n).toNat++sgK (r.s - last) (sz (r.s - last)).toNat)
def est (s:List Int × Int) (r:Run):List Int × Int:=(s.1++encR s.2 r,if r.s=-1 then s.2 else r.s)
def encK (l:List Run) (k:Nat):List Int × Int:=(l.take k).foldl est ([],0)
def encL (l:List Run):List Int × Int:=l.foldl est ([],0)
def encV (l:List Run):List Int × Int:=if errsE [l]≠0 then ([],errsE [l]) else ((encL l).1++[0],0)
theorem encK_succ (l:List Run) (k:Nat) (h:k < l.length):encK l (k+1)=est (encK l k) l[k]:=by
 rw [encK,List.take_succ_eq_append_getElem h,List.foldl_append];rfl
theorem encK_all (l:List Run):encK l l.length=encL l:=by rw [encK,List.take_length];rfl
theorem sz_in (n:Int):sz n=1∨sz n=2:=by unfold sz;split<;>simp
theorem encR_len (a:Int) (r:Run):(encR a r).length≤5:=by
 have h1:=sz_in r.n
 have h2:=sz_in (r.s - a)
 unfold encR
 split
 ·simp only [List.length_cons,sgK_len];omega
 ·simp only [List.length_cons,List.length_append,sgK_len];omega
theorem encR_byts (a:Int) (r:Run):Byts (encR a r):=by
 have h1:=sz_in r.n
 have h2:=sz_in (r.s - a)
 intro b hb
 unfold encR at hb
 split at hb
 ·rcases List.mem_cons.1 hb with h | h
  ·omega
  ·exact sgK_byts _ _ b h
 ·rcases List.mem_cons.1 hb with h | h
  ·omega
  ·rcases List.mem_append.1 h with h | h
   ·exact sgK_byts _ _ b h
   ·exact sgK_byts _ _ b h
theorem encK_ok (l:List Run) (h:∀ r∈l,-1≤r.s∧r.s≤511):∀ k,k≤l.length→(encK l k).1.length≤5 * k∧(0≤(encK l k).2∧(encK l k).2≤511)∧Byts (encK l k).1:=by
 intro k
 induction k with
 | zero=>intro _;exact ⟨by simp [encK],by simp [encK],by intro b hb;cases hb⟩
 | succ k ih=>
  intro hk
  obtain ⟨h1,h2,h3⟩:=ih (by omega)
  have h4:=h _ (List.getElem_mem (show k < l.length by omega))
  rw [encK_succ l k (by omega)]
  refine ⟨?_, ?_, ?_⟩
  ·simp only [est,List.length_append]
   have:=encR_len (encK l k).2 l[k]
   omega
  ·simp only [est]
   split<;>omega
  ·intro b hb
   rcases List.mem_append.1 hb with hb | hb
   ·exact h3 b hb
   ·exact encR_byts _ _ b hb
theorem or16 (a b:Int) (ha:a=1∨a=2) (hb:b=1∨b=2):orI .i64 (a * 16) b=16 * a+b:=by
 rcases ha with rfl | rfl<;>rcases hb with rfl | rfl<;>decide
theorem or0 (b:Int) (hb:b=1∨b=2):orI .i64 0 b=b:=by
 rcases hb with rfl | rfl<;>decide
theorem runs_in {l:List Run} (h:(chk l).2=0):∀ r∈l,(-1≤r.s∧r.s≤511)∧1≤r.n∧r.n≤4096:=by
 intro r hr
 rcases rangeE_ok (chk_rg h r hr) with h1 | ⟨s,n,h1⟩<;>omega
set_option maxHeartbeats 1000000 in
theorem encode_v (l:List Run):EV G (Tb B) 176 [runsV l] []=some (.tup [.one (.dc (.raw (.string (str (encV l).1)))),.one (.dc (ci (encV l).2))],[]):=by
 refine EV_run rfl ?_
 unfold encV
 by_cases c:errsE [l]=0
 ·have hc:(chk l).2=0:=by rw [errs1] at c;exact c
  have hr:=runs_in hc
  have hlen:=chk_len hc
  simp (disch:=omega) only [go_sem,h176c,errs1_v,c,List.length_map]
  rw [EL_loop (fun k=>⟨(jk 5 (.one (.bld 0 (encK l k).1.length)::vi (encK l k).2::jk 10 (runsV l::vi l.length::vi k::jk 46 []))),[.arr 0 1 (bl (encK l k).1)]⟩) l.length ?_ ?_]
  ·have hk:=encK_ok l (fun r hr'=>(hr r hr').1) l.length (Nat.le_refl _)
   rw [encK_all] at hk ⊢
   have hz:List.take ((encL l).1.length+1) (((encL l).1++[0]).map by1)=((encL l).1++[0]).map by1:=List.take_of_length_le (by simp)
   simp (disch:=omega) only [go_sem,h176l0,List.length_map,List.length_append,bl_snoc,hz]
  ·rfl
  ·intro k hk
   obtain ⟨g1,g2,g3⟩:=encK_ok l (fun r hr'=>(hr r hr').1) k (by omega)
   have h4:=hr _ (List.getElem_mem hk)
   rw [encK_succ l k hk]
   generalize encK l k=s at g1 g2 g3 ⊢
   obtain ⟨o,a⟩:=s
   simp only at g1 g2 g3
   simp only [est,encR]
   have z1:=sz_in l[k].n
   have s1:=sizeOf_v (G:=G) (B:=B) l[k].n (by omega)
   by_cases c1:l[k].s=-1
   ·have s2:=signed_v (G:=G) (B:=B) l[k].n (sz l[k].n).toNat (by omega)
    rw [show (((sz l[k].n).toNat:Nat):Int)=sz l[k].n by omega] at s2
    have o1:=or0 (sz l[k].n) z1
    have t1 (x:Int):List.take (o.length+1) ((o++[x]).map by1)=(o++[x]).map by1:=List.take_of_length_le (by simp)
    have e1:o.length+1+(sz l[k].n).toNat=o.length+((sz l[k].n).toNat+1):=by omega
    simp (disch:=omega) only [go_sem,h176l0,List.length_map,Run.e,isHole_v,c1,s1,s2,Int.reduceToNat,Int.reducePow,Int.reduceMul,o1,wu8c,bl_snoc,bl_app,sgK_len,List.length_append,t1,e1,List.append_assoc]
   ·have z2:=sz_in (l[k].s - a)
    have s2:=signed_v (G:=G) (B:=B) l[k].n (sz l[k].n).toNat (by omega)
    rw [show (((sz l[k].n).toNat:Nat):Int)=sz l[k].n by omega] at s2
    have s3:=sizeOf_v (G:=G) (B:=B) (l[k].s - a) (by omega)
    have s4:=signed_v (G:=G) (B:=B) (l[k].s - a) (sz (l[k].s - a)).toNat (by omega)
    rw [show (((sz (l[k].s - a)).toNat:Nat):Int)=sz (l[k].s - a) by omega] at s4
    have o1:=or16 (sz (l[k].s - a)) (sz l[k].n) z2 z1
    have t1 (x:Int):List.take (o.length+1) ((o++[x]).map by1)=(o++[x]).map by1:=List.take_of_length_le (by simp)
    have t2 (x:Int):List.take (o.length+1+(sz l[k].n).toNat) ((o++x::sgK l[k].n (sz l[k].n).toNat).map by1)=(o++x::sgK l[k].n (sz l[k].n).toNat).map by1:=List.take_of_length_le (by simp [sgK_len];omega)
    have e1:o.length+1+(sz l[k].n).toNat+(sz (l[k].s - a)).toNat=o.length+((sz l[k].n).toNat+(sz (l[k].s - a)).toNat+1):=by omega
    simp (disch:=omega) only [go_sem,h176l0,List.length_map,Run.e,isHole_v,c1,s1,s2,s3,s4,Int.reduceToNat,Int.reducePow,Int.reduceMul,o1,wu8c,bl_snoc,bl_app,sgK_len,List.length_append,t1,t2,e1,List.append_assoc]
 ·simp (disch:=omega) only [go_sem,h176c,errs1_v,c,str_nil]
theorem tdiv_nn (a b:Int) (h:0≤a):a.tdiv b=a / b:=Int.tdiv_eq_ediv_of_nonneg h
theorem sadd_s {a b:List Int} (h:a.length+b.length≤9223372036854775807):binV .add (sv a) (sv b)=some (sv (a++b)):=by
 rw [bin_sadd (by rw [str_size,str_size];exact h),str_app]
attribute [go_sem 2000] sadd_s
end
section
variable {G:Glob} {B:CallT}
theorem copyRuns_v (l:List Run) (hl:l.length≤1000000):EV G (Tb B) 76 [runsV l] []=some (.one (.bld 0 l.length),[.arr 0 2 (l.map Run.e)]):=by
 refine EV_run rfl ?_
 simp (disch:=omega) only [go_sem,h76c,List.length_map,List.take_zero]
theorem sameRuns_v (a b:List Run) (hl:a.length≤1000000):EV G (Tb B) 83 [runsV a,runsV b] []=some (vb (decide (a=b)),[]):=by
 refine EV_run rfl ?_
 by_cases h:(a.length:Int)=b.length
 ·simp (disch:=omega) only [go_sem,h83c,List.length_map,h]
  have h:a.length=b.length:=by omega
  rw [EL_fst (fun k=>⟨(runsV a::runsV b::jk 3 (vi k::jk 20 [])),[]⟩) (fun k=>a.getD k ⟨0,0⟩≠b.getD k ⟨0,0⟩) a.length ?_ ?_]
  rotate_left
  ·rfl
  ·intro k hk hn
   have h1:=hn k (Nat.le_refl _)
   rw [runAt a k hk,runAt b k (by omega),Classical.not_not,run_eq] at h1
   simp (disch:=omega) only [go_sem,h83l0,List.length_map,Run.e]
  obtain ⟨hk,hp,hn⟩:=ix_spec (fun k=>a.getD k ⟨0,0⟩≠b.getD k ⟨0,0⟩) a.length
  generalize ix (fun k=>a.getD k ⟨0,0⟩≠b.getD k ⟨0,0⟩) a.length=k at *
  rcases hp with hp | ⟨hk',hp⟩
  ·have hz:a=b:=List.ext_getElem h (fun i h1 h2=>by
    have:=hn i (by omega)
    rwa [runAt a i h1,runAt b i h2,Classical.not_not] at this)
   simp (disch:=omega) only [go_sem,h83l0,List.length_map]
   simp [hz]
  ·rw [runAt a k hk',runAt b k (by omega)] at hp
   have hz:¬ a=b:=fun e=>by subst e;exact hp rfl
   rw [ne_eq,run_eq] at hp
   simp (disch:=omega) only [go_sem,h83l0,List.length_map,Run.e]
   simp [hz]
 ·simp (disch:=omega) only [go_sem,h83c,List.length_map]
  have:¬ a=b:=fun e=>h (by rw [e])
  simp [this]
end
section
variable {G:Glob} {bb:Bool}
structure Att where
 ty:Int
 nm:List Int
 id:Int
 fl:Int
 res:Bool
 va:List Int
 fi:Int
 rs:List Run
 al:Int
 sz:Int
 vd:Int
abbrev Att.e (a:Att):List DC:=[ci a.ty,.raw (.string (str a.nm)),ci a.id,ci a.fl,.raw (.bool a.res),.raw (.string (str a.va)),ci a.fi,.slc (a.rs.map Run.e),ci a.al,ci a.sz,ci a.vd]
abbrev Att.c (a:Att):List Cel:=[.dc (ci a.ty),.dc (.raw (.string (str a.nm))),.dc (ci a.id),.dc (ci a.fl),.dc (.raw (.bool a.res)),.dc (.raw (.string (str a.va))),.dc (ci a.fi),.dc (.slc (a.rs.map Run.e)),.dc (ci a.al),.dc (ci a.sz),.dc (ci a.vd)]
abbrev Att.v (a:Att):AV:=.agg a.c
abbrev Att.t (a:Att):TV:=.agg a.c
def Att.nil:Att:=⟨0,[],0,0,false,[],0,[],0,0,0⟩
theorem within8_v (n lo hi:Int):EV G (Tb (bs bb)) 126 [vi n,vi lo,vi hi] []=some (vb (decide (lo≤n∧n≤hi)),[]):=by
 refine EV_run rfl ?_
 by_cases h:lo≤n
 all_goals simp (disch:=omega) only [go_sem,h126c]
 all_goals simp [h]
theorem unless8_v (b:Bool) (e:Int):EV G (Tb (bs bb)) 118 [vb b,vi e] []=some (vi (if b=true then 0 else e),[]):=by
 refine EV_run rfl ?_
 cases b
 all_goals simp (disch:=omega) only [go_sem,h118c]
 all_goals rfl
theorem unlessN_v (b:Bool) (e:Int):EV G (Tb (bs bb)) 205 [vb b,vi e] []=some (vi (if b=true then 0 else e),[]):=by
 refine EV_run rfl ?_
 cases b
 all_goals simp (disch:=omega) only [go_sem,h205c]
 all_goals rfl
theorem first8_v (l:List Int) (hl:l.length≤1000):EV G (Tb (bs bb)) 117 [vl (el l)] []=some (vi (firstE l),[]):=by
 refine EV_run rfl ?_
 simp (disch:=omega) only [go_sem,h117c,List.length_map]
 have round:∀ k (hk:k < l.length),¬ l.getD k 0≠0→rnK [5,0,0] 0 (EC (EV G (Tb (bs bb))) G h117l0 ⟨(jk 5 (vl (el l)::vi l.length::vi k::jk 7 [])),[]⟩)=some ⟨(jk 5 (vl (el l)::vi l.length::vi (k+1:Nat)::jk 7 [])),[]⟩:=fun k hk hz=>by
  rw [getD_at l k hk] at hz
  simp (disch:=omega) only [go_sem,h117l0,List.length_map,ci1]
 rcases fstN (fun k=>l.getD k 0≠0) l.length with h | ⟨j,hj,h1,h2⟩
 ·rw [EL_loop (fun k=>⟨(jk 5 (vl (el l)::vi l.length::vi k::jk 7 [])),[]⟩) l.length ?_ ?_]
  ·rw [firstE_none l h]
   simp (disch:=omega) only [go_sem,h117l0]
  ·rfl
  ·exact fun k hk=>round k hk (h k hk)
 ·rw [EL_loop (fun k=>⟨(jk 5 (vl (el l)::vi l.length::vi k::jk 7 [])),[]⟩) j ?_ ?_]
  ·rw [firstE_at l j hj h2 h1]
   rw [getD_at l j hj] at h1
   simp (disch:=omega) only [go_sem,h117l0,List.length_map,ci1]
  ·rfl
  ·exact fun k hk=>round k (by omega) (h2 k hk)
theorem firstN_v (l:List Int) (hl:l.length≤1000):EV G (Tb (bs bb)) 204 [vl (el l)] []=some (vi (firstE l),[]):=by
 refine EV_run rfl ?_
 simp (disch:=omega) only [go_sem,h204c,List.length_map]
 have round:∀ k (hk:k < l.length),¬ l.getD k 0≠0→rnK [5,0,0] 0 (EC (EV G (Tb (bs bb))) G h204l0 ⟨(jk 5 (vl (el l)::vi l.length::vi k::jk 7 [])),[]⟩)=some ⟨(jk 5 (vl (el l)::vi l.length::vi (k+1:Nat)::jk 7 [])),[]⟩:=fun k hk hz=>by
  rw [getD_at l k hk] at hz
  simp (disch:=omega) only [go_sem,h204l0,List.length_map,ci1]
 rcases fstN (fun k=>l.getD k 0≠0) l.length with h | ⟨j,hj,h1,h2⟩
 ·rw [EL_loop (fun k=>⟨(jk 5 (vl (el l)::vi l.length::vi k::jk 7 [])),[]⟩) l.length ?_ ?_]
  ·rw [firstE_none l h]
   simp (disch:=omega) only [go_sem,h204l0]
  ·rfl
  ·exact fun k hk=>round k hk (h k hk)
 ·rw [EL_loop (fun k=>⟨(jk 5 (vl (el l)::vi l.length::vi k::jk 7 [])),[]⟩) j ?_ ?_]
  ·rw [firstE_at l j hj h2 h1]
   rw [getD_at l j hj] at h1
   simp (disch:=omega) only [go_sem,h204l0,List.length_map,ci1]
  ·rfl
  ·exact fun k hk=>round k (by omega) (h2 k hk)
theorem firstN2 (a b:Int):EV G (Tb (bs bb)) 204 [vl [[ci a],[ci b]]] []=some (vi (firstE [a,b]),[]):=firstN_v [a,b] (by simp)
theorem first8_2 (a b:Int):EV G (Tb (bs bb)) 117 [vl [[ci a],[ci b]]] []=some (vi (firstE [a,b]),[]):=first8_v [a,b] (by simp)
theorem first8_3 (a b c:Int):EV G (Tb (bs bb)) 117 [vl [[ci a],[ci b],[ci c]]] []=some (vi (firstE [a,b,c]),[]):=first8_v [a,b,c] (by simp)
theorem first8_5 (a b c d e:Int):EV G (Tb (bs bb)) 117 [vl [[ci a],[ci b],[ci c],[ci d],[ci e]]] []=some (vi (firstE [a,b,c,d,e]),[]):=first8_v [a,b,c,d,e] (by simp)
def tys:List Int:=[16,32,48,64,96,112,128,144,160,176,192]
def rtys:List Int:=[16,48,96,112,144]
theorem types_v:EV G (Tb (bs bb)) 172 [] []=some (.one (.mpc tyL),[]):=EV_base rfl rfl
theorem mpGet_ty (n:Int):mpGet tyL n=if n∈tys then some (.bool (decide (n∈rtys))) else none:=by
 unfold tyL tys rtys
 simp only [mpGet,List.mem_cons,List.not_mem_nil,or_false]
 split<;>rename_i h1
 ·subst h1;simp
 split<;>rename_i h2
 ·subst h2;simp
 split<;>rename_i h3
 ·subst h3;simp
 split<;>rename_i h4
 ·subst h4;simp
 split<;>rename_i h5
 ·subst h5;simp
 split<;>rename_i h6
 ·subst h6;simp
 split<;>rename_i h7
 ·subst h7;simp
 split<;>rename_i h8
 ·subst h8;simp
 split<;>rename_i h9
 ·subst h9;simp
 split<;>rename_i h10
 ·subst h10;simp
 split<;>rename_i h11
 ·subst h11;simp
 rw [if_neg (by omega)]
theorem isType_v (n:Int):EV G (Tb (bs bb)) 124 [vi n] []=some (vb (decide (n∈tys)),[]):=by
 refine EV_run rfl ?_
 have hm:=mpGet_ty n
 by_cases h:n∈tys
 ·rw [if_pos h] at hm
  simp (disch:=omega) only [go_sem,h124c,types_v,mpxV,mpR,hm,h]
 ·rw [if_neg h] at hm
  simp (disch:=omega) only [go_sem,h124c,types_v,mpxV,mpR,hm,h]
theorem clusters8_v (a:Att) (hl:a.rs.length≤1000000):EV G (Tb (bs bb)) 175 [a.v] []=some (vi (lenW a.rs),[]):=by
 refine EV_run rfl ?_
 simp (disch:=omega) only [go_sem,h175c,List.length_map]
 rw [EL_loop (fun k=>⟨(jk 3 (vi (lenW (a.rs.take k))::jk 3 (runsV a.rs::vi a.rs.length::vi k::jk 9 []))),[.box a.c]⟩) a.rs.length ?_ ?_]
 ·simp (disch:=omega) only [go_sem,h175l0,List.take_length]
 ·rfl
 ·intro k hk
  rw [lenW_take a.rs k hk]
  simp (disch:=omega) only [go_sem,h175l0,List.length_map,Run.e]
theorem head_v (b:Bool):EV G (Tb (bs bb)) 177 [vb b] []=some (vi (if b=true then 24 else 40),[]):=by
 refine EV_run rfl ?_
 cases b
 all_goals simp (disch:=omega) only [go_sem,h177c]
 all_goals rfl
def al8 (n:Int):Int:=(n+7) / 8 * 8
theorem aligned_v (n:Int) (h:0≤n∧n≤1000000000):EV G (Tb (bs bb)) 178 [vi n] []=some (vi (al8 n),[]):=by
 refine EV_run rfl ?_
 have e:n+8 - 1=n+7:=by omega
 simp (disch:=omega) only [go_sem,h178c,tdiv_nn,al8,e]
end
section
variable {G:Glob} {bb:Bool}
def rfbB:List Int:=[34,42,47,58,60,62,63,92,124]
def legB (c:Int):Bool:=decide (32≤c∧c≤126∧c∉rfbB)
theorem ixb_nat:∀ n:_root_.Fin 256,(Lib.indexByte (ByteArray.mk #[34,42,47,58,60,62,63,92,124]).data.toList ((n.val:Int).toNat.toUInt8) < 0)↔((n.val:Int)∉rfbB):=by decide
theorem ixb_ref (c:Int) (h:0≤c∧c≤255):(Lib.indexByte (ByteArray.mk #[34,42,47,58,60,62,63,92,124]).data.toList c.toNat.toUInt8 < 0)=(c∉rfbB):=by
 have:=ixb_nat ⟨c.toNat,by omega⟩
 simp only [show ((c.toNat:Nat):Int)=c by omega] at this
 exact propext this
theorem ixb_v (s:ByteArray) (c:Int):EV G (Tb (bs bb)) 240 [.one (.dc (.raw (.string s))),vu c] []=some (vi (Lib.indexByte s.data.toList c.toNat.toUInt8),[]):=EV_base rfl rfl
theorem ixbS_v (s:ByteArray) (c:Int):EV G (Tb (bs bb)) 274 [.one (.dc (.raw (.string s))),vu c] []=some (vi (Lib.indexByte s.data.toList c.toNat.toUInt8),[]):=by
 refine EV_run rfl ?_
 simp (disch:=omega) only [go_sem,h274c,ixb_v]
theorem legB_v (c:Int) (h:0≤c∧c≤255):EV G (Tb (bs bb)) 250 [vu c] []=some (vb (legB c),[]):=by
 refine EV_run rfl ?_
 have h1:=ixb_ref c h
 unfold legB
 by_cases c1:32≤c
 ·by_cases c2:c≤126
  ·simp (disch:=omega) only [go_sem,h250c,ixbS_v,c1,c2]
   simp only [h1,true_and]
  ·simp (disch:=omega) only [go_sem,h250c,ixbS_v,c1,c2]
 ·simp (disch:=omega) only [go_sem,h250c,ixbS_v,c1]
theorem outJ_n {id:Nat}:outJ [] id=true:=rfl
theorem outJ_c {j id:Nat} {J:List Nat}:outJ (j::J) id=(!nq id j&&outJ J id):=by
 simp only [outJ,nq_eq,List.contains_cons,Bool.not_or]
attribute [go_sem] outJ_n outJ_c
theorem notLeg_v (c:Int) (h:0≤c∧c≤255):EV G (Tb (bs bb)) 273 [vu c,.one (.ptr 0 0)] [.box [.fn 250 []]]=some (vb (!legB c),[.box [.fn 250 []]]):=by
 refine EV_run rfl ?_
 have h1:=legB_v (G:=G) (bb:=bb) c h
 simp (disch:=omega) only [go_sem,h273c,h1]
theorem getDI (l:List Int) (k:Nat) (h:k < l.length):l.getD k 0=l[k]:=getD_at l k h
theorem badIx_v (l:List Int) (hB:Byts l) (hl:l.length≤1000000):
  EV G (Tb (bs bb)) 282 [vl (bl l),.one (.fn 273 [.ptr 0 0])] [.box [.fn 250 []]]=some (vi (if ix (fun k=>¬ legB (l.getD k 0)=true) l.length=l.length then -1 else (ix (fun k=>¬ legB (l.getD k 0)=true) l.length:Nat)),[.box [.fn 250 []]]):=by
 refine EV_run rfl ?_
 simp (disch:=omega) only [go_sem,h282c,List.length_map]
 rw [EL_fst (fun k=>⟨(vl (bl l)::.one (.fn 273 [.ptr 0 0])::jk 5 (vi l.length::vi k::jk 10 [])),[.box [.fn 250 []]]⟩) (fun k=>¬ legB (l.getD k 0)=true) l.length ?_ ?_]
 rotate_left
 ·rfl
 ·intro k hk hn
  have h1:=hn k (Nat.le_refl _)
  rw [getDI l k hk] at h1
  have h0:=hB _ (List.getElem_mem hk)
  have h2:=notLeg_v (G:=G) (bb:=bb) l[k] h0
  have h3:legB l[k]=true:=Classical.not_not.1 h1
  simp (disch:=omega) only [go_sem,h282l0,List.length_map,by1,h2,h3]
 obtain ⟨hk,hp,hn⟩:=ix_spec (fun k=>¬ legB (l.getD k 0)=true) l.length
 generalize ix (fun k=>¬ legB (l.getD k 0)=true) l.length=k at *
 rcases hp with rfl | ⟨hk',hp⟩
 ·simp (disch:=omega) only [go_sem,h282l0,List.length_map]
 ·rw [getDI l k hk'] at hp
  have h0:=hB _ (List.getElem_mem hk')
  have h2:=notLeg_v (G:=G) (bb:=bb) l[k] h0
  have h3:legB l[k]=false:=by simpa using hp
  rw [if_neg (by omega)]
  simp (disch:=omega) only [go_sem,h282l0,List.length_map,by1,h2,h3]
def allB (l:List Int):Bool:=l.all legB
theorem allB_ix (l:List Int):(if ix (fun k=>¬ legB (l.getD k 0)=true) l.length=l.length then (-1:Int) else (ix (fun k=>¬ legB (l.getD k 0)=true) l.length:Nat)) < 0↔allB l=true:=by
 obtain ⟨hk,hp,hn⟩:=ix_spec (fun k=>¬ legB (l.getD k 0)=true) l.length
 generalize ix (fun k=>¬ legB (l.getD k 0)=true) l.length=k at *
 rcases hp with rfl | ⟨hk',hp⟩
 ·rw [if_pos rfl]
  refine ⟨fun _=>?_,fun _=>by decide⟩
  unfold allB
  rw [List.all_eq_true]
  intro x hx
  obtain ⟨j,hj,rfl⟩:=List.mem_iff_getElem.1 hx
  have:=hn j hj
  rw [getDI l j hj] at this
  exact Classical.not_not.1 this
 ·rw [if_neg (by omega)]
  refine ⟨fun h=>by omega,fun h=>?_⟩
  rw [getDI l k hk'] at hp
  exact absurd (List.all_eq_true.1 h _ (List.getElem_mem hk')) hp
theorem bytesD_str (l:List Int) (hB:Byts l):bytesD (str l)=l.map by1:=by
 unfold bytesD
 rw [str_data,List.map_map]
 refine List.map_congr_left (fun b hb=>?_)
 simp only [Function.comp_apply,by1,u8_nat b (hB b hb)]
theorem contB_v (l:List Int) (hB:Byts l) (hl:l.length≤1000000):
  EV G (Tb (bs bb)) 272 [vl (bl l),.one (.fn 273 [.ptr 0 0])] [.box [.fn 250 []]]=some (vb (!allB l),[.box [.fn 250 []]]):=by
 refine EV_run rfl ?_
 have h1:=badIx_v (G:=G) (bb:=bb) l hB hl
 have h2:=allB_ix l
 generalize (if ix (fun k=>¬ legB (l.getD k 0)=true) l.length=l.length then (-1:Int) else (ix (fun k=>¬ legB (l.getD k 0)=true) l.length:Nat))=z at h1 h2
 cases ha:allB l with
 | true=>
  have h3:=h2.2 ha
  simp (disch:=omega) only [go_sem,h272c,h1]
  simp;omega
 | false=>
  have h3:¬ z < 0:=fun h=>by rw [h2.1 h] at ha;cases ha
  simp (disch:=omega) only [go_sem,h272c,h1]
  simp;omega
theorem mapM1 {α β:Type} (f:α→Option β) (x:α):[x].mapM f=(f x).map fun c=>[c]:=by
 cases h:f x<;>simp [List.mapM_cons,h]
theorem allBytes_v (l:List Int) (hB:Byts l) (hl:l.length≤1000000):EV G (Tb (bs bb)) 249 [sv l,.one (.fn 250 [])] []=some (vb (allB l),[]):=by
 refine EV_run rfl ?_
 have h1:=contB_v (G:=G) (bb:=bb) l hB hl
 have h2:=bytesD_str l hB
 cases ha:allB l
 all_goals rw [ha] at h1
 all_goals simp (disch:=omega) only [go_sem,h249c,h1,h2,mapM1,oneOf]
theorem suf_v (l:List Int) (c:Int) (hB:Byts l) (hc:0≤c∧c≤255) (hl:l.length≤1000000):EV G (Tb (bs bb)) 275 [sv l,sv [c]] []=some (vb (decide (l≠[]∧l.getLast?=some c)),[]):=by
 refine EV_run rfl ?_
 by_cases h:l=[]
 ·subst h
  simp (disch:=omega) only [go_sem,h275c,List.length_cons,List.length_nil]
 ·have hp:1≤l.length:=by have:=List.length_pos_iff.2 h;omega
  have hd:l.drop (l.length - 1)=[l[l.length - 1]]:=by
   rw [List.drop_eq_getElem_cons (by omega),List.drop_eq_nil_of_le (by omega)]
  have hB1:Byts [l[l.length - 1]]:=fun b hb=>by rw [List.mem_singleton.1 hb];exact hB _ (List.getElem_mem _)
  have hB2:Byts [c]:=fun b hb=>by rw [List.mem_singleton.1 hb];exact hc
  have e:=str_inj hB1 hB2
  have e2:l.getLast?=some l[l.length - 1]:=by rw [List.getLast?_eq_getElem?,List.getElem?_eq_getElem (by omega)]
  simp (disch:=omega) only [go_sem,h275c,List.length_cons,List.length_nil,hd,e,e2]
  simp [h]
theorem sufS_v (l:List Int) (c:Int) (hB:Byts l) (hc:0≤c∧c≤255) (hl:l.length≤1000000):EV G (Tb (bs bb)) 251 [sv l,sv [c]] []=some (vb (decide (l≠[]∧l.getLast?=some c)),[]):=by
 refine EV_run rfl ?_
 have h1:=suf_v (G:=G) (bb:=bb) l c hB hc hl
 simp (disch:=omega) only [go_sem,h251c,h1]
def nmOK (l:List Int):Prop:=l≠[]∧l.length≤32∧allB l=true∧l≠[46,46]∧l.getLast?≠some 32∧l.getLast?≠some 46
instance (l:List Int):Decidable (nmOK l):=by unfold nmOK;infer_instance
theorem s46:(⟨#[46,46]⟩:ByteArray)=str [46,46]:=rfl
theorem s1_46:(⟨#[46]⟩:ByteArray)=str [46]:=rfl
theorem s1_32:(⟨#[32]⟩:ByteArray)=str [32]:=rfl
theorem byts_c (l:List Int) (h:(l.all fun b=>decide (0≤b∧b≤255))=true):Byts l:=fun b hb=>by simpa using List.all_eq_true.1 h b hb
theorem byts_nil:Byts []:=fun b hb=>by cases hb
theorem isLegal_v (l:List Int) (hB:Byts l) (hl:l.length≤1000000):EV G (Tb (bs bb)) 206 [sv l] []=some (vb (decide (nmOK l)),[]):=by
 refine EV_run rfl ?_
 have e0:=str_inj hB byts_nil
 have e1:=str_inj hB (byts_c [46,46] (by decide))
 have h1:=allBytes_v (G:=G) (bb:=bb) l hB hl
 have h2:=sufS_v (G:=G) (bb:=bb) l 32 hB (by omega) hl
 have h3:=sufS_v (G:=G) (bb:=bb) l 46 hB (by omega) hl
 by_cases c0:l=[]
 ·rw [decide_eq_false (fun h:nmOK l=>h.1 c0)]
  simp (disch:=omega) only [go_sem,h206c,str_nil,s46,s1_46,s1_32,e0,e1,c0]
 ·by_cases c1:l.length≤32
  ·by_cases c2:allB l=true
   ·rw [c2] at h1
    by_cases c3:l=[46,46]
    ·rw [decide_eq_false (fun h:nmOK l=>h.2.2.2.1 c3)]
     replace c3:=eq_true c3
     simp (disch:=omega) only [go_sem,h206c,str_nil,s46,s1_46,s1_32,e0,e1,c0,c1,h1,c3]
    ·by_cases c4:l.getLast?=some 32
     ·rw [decide_eq_false (fun h:nmOK l=>h.2.2.2.2.1 c4)]
      rw [decide_eq_true (⟨c0,c4⟩:l≠[]∧l.getLast?=some 32)] at h2
      simp (disch:=omega) only [go_sem,h206c,str_nil,s46,s1_46,s1_32,e0,e1,c0,c1,h1,c3,h2]
     ·rw [decide_eq_false (fun h:l≠[]∧l.getLast?=some 32=>c4 h.2)] at h2
      by_cases c5:l.getLast?=some 46
      ·rw [decide_eq_false (fun h:nmOK l=>h.2.2.2.2.2 c5)]
       rw [decide_eq_true (⟨c0,c5⟩:l≠[]∧l.getLast?=some 46)] at h3
       simp (disch:=omega) only [go_sem,h206c,str_nil,s46,s1_46,s1_32,e0,e1,c0,c1,h1,c3,h2,h3]
      ·rw [show decide (nmOK l)=true from decide_eq_true ⟨c0,c1,c2,c3,c4,c5⟩]
       rw [decide_eq_false (fun h:l≠[]∧l.getLast?=some 46=>c5 h.2)] at h3
       simp (disch:=omega) only [go_sem,h206c,str_nil,s46,s1_46,s1_32,e0,e1,c0,c1,h1,c3,h2,h3]
   ·rw [decide_eq_false (fun h:nmOK l=>c2 h.2.2.1)]
    rw [Bool.eq_false_iff.2 c2] at h1
    simp (disch:=omega) only [go_sem,h206c,str_nil,s46,s1_46,s1_32,e0,e1,c0,c1,h1]
  ·rw [decide_eq_false (fun h:nmOK l=>c1 h.2.1)]
   simp (disch:=omega) only [go_sem,h206c,str_nil,s46,s1_46,s1_32,e0,e1,c0,c1]
theorem checkName_v (l:List Int) (hB:Byts l) (hl:l.length≤1000000):EV G (Tb (bs bb)) 173 [sv l] []=some (vi (firstE [if l.length≤32 then 0 else 8,if nmOK l then 0 else 4]),[]):=by
 refine EV_run rfl ?_
 have h1:=isLegal_v (G:=G) (bb:=bb) l hB hl
 have e:((l.length:Int)≤32)=(l.length≤32):=by apply propext;omega
 simp (disch:=omega) only [go_sem,h173c,h1,unlessN_v,firstN2,decide_eq_true_eq,e]
def nmB (l:List Int):Bool:=decide (l=[]∨nmOK l)
theorem nameErr_v (l:List Int) (hB:Byts l) (hl:l.length≤1000000):EV G (Tb (bs bb)) 125 [sv l] []=some (vi (if nmB l=true then 0 else 4),[]):=by
 refine EV_run rfl ?_
 have e0:=str_inj hB byts_nil
 have h1:=checkName_v (G:=G) (bb:=bb) l hB hl
 by_cases c0:l=[]
 ·rw [show nmB l=true from decide_eq_true (.inl c0)]
  simp (disch:=omega) only [go_sem,h125c,str_nil,e0,c0,unless8_v]
 ·by_cases c1:nmOK l
  ·rw [show nmB l=true from decide_eq_true (.inr c1)]
   have c2:=c1.2.1
   rw [if_pos c1,if_pos c2,show firstE [0,0]=0 from rfl] at h1
   simp (disch:=omega) only [go_sem,h125c,str_nil,e0,c0,h1,unless8_v]
  ·rw [show nmB l=false from decide_eq_false (fun h=>h.elim c0 c1)]
   rw [if_neg c1] at h1
   by_cases c2:l.length≤32
   ·rw [if_pos c2,show firstE [0,4]=4 from rfl] at h1
    simp (disch:=omega) only [go_sem,h125c,str_nil,e0,c0,h1,unless8_v]
   ·rw [if_neg c2,show firstE [8,4]=8 from rfl] at h1
    simp (disch:=omega) only [go_sem,h125c,str_nil,e0,c0,h1,unless8_v]
end
end Go.Proofs.YtcplecjhmnblpaaGreatDoor
