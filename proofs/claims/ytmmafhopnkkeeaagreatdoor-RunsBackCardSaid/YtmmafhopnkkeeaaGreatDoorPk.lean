/- Runs of a string by the reference: the walk. Conditions: as each theorem says. -/
import Derived.Test.YtmmafhopnkkeeaaGreatDoorPg
import Derived.Test.YtmmafhopnkkeeaaGreatDoorRk
import Derived.Test.YtmmafhopnkkeeaaGreatDoorQc
import Derived.Test.YtmmafhopnkkeeaaGreatDoorQb
import Derived.Test.YtmmafhopnkkeeaaGreatDoorVn
import Derived.Test.YtmmafhopnkkeeaaGreatDoorQn
namespace Go.Proofs.YtmmafhopnkkeeaaGreatDoor
set_option linter.unusedSimpArgs false
set_option linter.unusedVariables false
set_option maxRecDepth 4000
section
variable {G:Glob} {bb:Bool}
def strsO:List (List DC)→Option (List ByteArray)
 | []=>some []
 | [.raw (.string s)]::es=>(strsO es).map (s::·)
 | _::_=>none
theorem strsO_map:∀ {es:List (List DC)} {xs:List ByteArray},strsO es=some xs→es=xs.map strD
 | [],xs,h=>by simp [strsO] at h;subst h;rfl
 | e::es,xs,h=>by
  unfold strsO at h
  split at h
  ·rename_i h0;cases h0
  ·rename_i s es' h0
   injection h0 with h1 h2
   subst h1;subst h2
   obtain ⟨ys,h3,h4⟩:=Option.map_eq_some_iff.1 h
   subst h4
   rw [strsO_map h3];rfl
  ·cases h
theorem strsO_of (xs:List ByteArray):strsO (xs.map strD)=some xs:=by
 induction xs with
 | nil=>rfl
 | cons x xs ih=>rw [List.map_cons,strD,strsO,ih];rfl
def joinO (sep:ByteArray):Option (List ByteArray)→Option (AV × List AObj)
 | some xs=>if xs.length≤1000∧(Lib.join (xs.map (·.data.toList)) sep.data.toList).length≤1000000 then some (.one (.dc (.raw (.string (joinS xs sep)))),[]) else none
 | none=>none
def joinK:List AV→List AObj→Option (AV × List AObj)
 | [.one (.dc (.slc es)),.one (.dc (.raw (.string sep)))],[]=>joinO sep (strsO es)
 | _,_=>none
def prsK:List AV→List AObj→Option (AV × List AObj)
 | [.one (.dc (.raw (.string s)))],[]=>some (prsA (psR (bts s)),[])
 | _,_=>none
def awkK (b:Bool):List AV→List AObj→Option (AV × List AObj)
 | [],[]=>if b=true then some (vb true,[]) else none
 | _,_=>none
noncomputable def bs3 (b:Bool):CallT:=fun f args hp=>if f=38 then itoaG args hp else if f=39 then joinK args hp else if f=8 then prsK args hp else if f=6 then awkK b args hp else none
theorem bs3_ok {G:Glob} {b:Bool} (hG:GR G) (hA:b=true→QC Tryz.prog G 6 [] (.one (.dc (.raw (.bool true))))):CallOK Tryz.prog G (bs3 b):=by
 intro f args hp av o' h hp0 hh
 unfold bs3 at h
 split at h
 ·rename_i hf
  subst hf
  refine ⟨by kernel_rfl, ?_⟩
  unfold itoaG at h
  split at h
  ·split at h
   ·rename_i hn
    injection h with h;injection h with h1 h2;subst h1;subst h2
    have:hp0=[]:=by simpa using hh
    subst this
    exact qc_post (itoa_qcG hG.pw hn.1 hn.2)
   ·cases h
  ·cases h
 split at h
 ·rename_i hf
  subst hf
  refine ⟨by kernel_rfl, ?_⟩
  unfold joinK at h
  split at h
  ·rename_i es sep
   unfold joinO at h
   split at h
   ·rename_i xs hxs
    split at h
    ·rename_i hc
     injection h with h;injection h with h1 h2;subst h1;subst h2
     have:hp0=[]:=by simpa using hh
     subst this
     rw [strsO_map hxs]
     exact qc_post (join_qc (G:=G) (by omega) (by omega))
    ·cases h
   ·cases h
  ·cases h
 split at h
 ·rename_i hf
  subst hf
  refine ⟨by kernel_rfl, ?_⟩
  unfold prsK at h
  split at h
  ·injection h with h;injection h with h1 h2;subst h1;subst h2
   have:hp0=[]:=by simpa using hh
   subst this
   exact qc_post (prs_qc hG _)
  ·cases h
 split at h
 ·rename_i hf
  subst hf
  refine ⟨by kernel_rfl, ?_⟩
  unfold awkK at h
  split at h
  ·split at h
   ·rename_i hb
    injection h with h;injection h with h1 h2;subst h1;subst h2
    have:hp0=[]:=by simpa using hh
    subst this
    exact qc_post (hA hb)
   ·cases h
  ·cases h
 ·cases h
theorem itoa3_v (n:Int) (h:inR n):EV G (Tb (bs3 bb)) 38 [vi n] []=some (sv (dcI n),[]):=by
 refine EV_base rfl ?_
 unfold inR at h
 show (if -9223372036854775808≤n∧n≤9223372036854775807 then some (AV.one (Cel.dc (DC.raw (Value.string ⟨(Lib.itoa n).toArray⟩))),([]:List AObj)) else none)=_
 rw [if_pos h,itoa_s]
theorem prs3_v (s:List Int) (hs:Byts s):EV G (Tb (bs3 bb)) 8 [sv s] []=some (prsA (psR s),[]):=by
 refine EV_base rfl ?_
 show some (prsA (psR (bts (str s))),([]:List AObj))=_
 rw [bts_str hs]
theorem awk3_v:EV G (Tb (bs3 true)) 6 [] []=some (vb true,[]):=EV_base rfl rfl
def sS (l:List Int):List DC:=[.raw (.string (str l))]
theorem sS_map (l:List (List Int)):l.map sS=(l.map str).map strD:=by rw [List.map_map];rfl
theorem join3_v (l:List (List Int)) (hl:l.length≤1000) (hz:(jnI [32] l).length≤1000000):EV G (Tb (bs3 bb)) 39 [vl (l.map sS),sv [32]] []=some (sv (jnI [32] l),[]):=by
 refine EV_base rfl ?_
 have e:Lib.join ((l.map str).map (·.data.toList)) (str [32]).data.toList=(jnI [32] l).map u8:=by
  rw [List.map_map,str_data]
  have:=jnI_join [32] l
  rw [← this]
  first | (congr 1;done) | (congr 1;exact List.map_congr_left fun x _=>str_data x)
 show joinO (str [32]) (strsO (l.map sS))=_
 rw [sS_map,strsO_of]
 rw [joinO,if_pos ⟨by simpa using hl,by rw [e];simpa using hz⟩]
 have:joinS (l.map str) (str [32])=str (jnI [32] l):=by
  apply ByteArray.ext
  apply Array.ext'
  show (Lib.join ((l.map str).map (·.data.toList)) (str [32]).data.toList).toArray.toList=_
  rw [e,str_data]
 rw [this]
end
section
variable {G:Glob} {B:CallT}
theorem size_v (n:Int) (h:-1000≤n∧n≤1000):EV G (Tb B) 81 [vi n] []=some (vi n.natAbs,[]):=by
 refine EV_run rfl ?_
 have e:(if 0 - n > n then 0 - n else n)=(n.natAbs:Int):=by split<;>omega
 simp (disch:=omega) only [go_sem,h81c]
 rw [e]
theorem wrap8 {x:Int} (h:0≤x∧x≤255):IntKind.u8.wrap x=x:=by
 rw [IntKind.wrap_u8];omega
theorem byO (x:Int):bytesOf [[DC.raw (Value.int IntKind.u8 x)]]=some [UInt8.ofNat x.toNat]:=rfl
theorem strB (x:Int):(⟨[UInt8.ofNat x.toNat].toArray⟩:ByteArray)=str [x]:=rfl
theorem c48:(⟨#[48]⟩:ByteArray)=str [48]:=rfl
theorem c45:(⟨#[45]⟩:ByteArray)=str [45]:=rfl
def de0 (sg:List Int) (z:Int × List Int):AS:=⟨(vi z.1::jk 2 (sv z.2::sv sg::jk 22 [])),[]⟩
theorem tm10 (n:Int):n.tmod 10=if 0≤n then ((n.natAbs % 10:Nat):Int) else -((n.natAbs % 10:Nat):Int):=by
 by_cases h:0≤n
 ·rw [if_pos h,Int.tmod_eq_emod_of_nonneg h];omega
 ·rw [if_neg h]
  have:n=-((n.natAbs:Nat):Int):=by omega
  rw [this,Int.neg_tmod,Int.tmod_eq_emod_of_nonneg (by omega)]
  omega
theorem td10 (n:Int):(n.tdiv 10).natAbs=n.natAbs / 10:=by
 rw [Int.natAbs_tdiv];rfl
theorem de0_round (sg:List Int) (n:Int) (t:List Int) (hn:n≠0) (hr:inR n) (hl:t.length≤1000):
  rnK [0,2,0] 0 (EC (EV G (Tb B)) G h40l0 (de0 sg (n,t)))=some (de0 sg (n.tdiv 10,(48+((n.natAbs % 10:Nat):Int))::t)):=by
 have hd:-9≤n.tmod 10∧n.tmod 10≤9∧((n.tmod 10).natAbs:Int)=((n.natAbs % 10:Nat):Int):=by
  rw [tm10]
  split<;>omega
 have hx:(0:Int)≤((n.natAbs % 10:Nat):Int)∧((n.natAbs % 10:Nat):Int)≤9:=by omega
 have h2:-9223372036854775808≤n.tdiv 10∧n.tdiv 10≤9223372036854775807:=by
  have:=td10 n
  unfold inR at hr
  omega
 have q:=size_v (G:=G) (B:=B) (n.tmod 10) (by omega)
 rw [hd.2.2] at q
 generalize ((n.natAbs % 10:Nat):Int)=x at *
 generalize e1:n.tmod 10=d at *
 generalize e2:n.tdiv 10=n' at *
 have w1:IntKind.u8.wrap (48+x)=48+x:=wrap8 (by omega)
 have s1:binV .add (sv [48+x]) (sv t)=some (sv ((48+x)::t)):=sadd_s (by simp;omega)
 unfold de0
 simp (disch:=omega) only [go_sem,h40l0,hn,e1,e2,q,w1,byO,strB,s1,List.take_succ_cons]
theorem de0_all (sg:List Int) {st:AS} (n:Int) (hr:inR n) (h0:st=de0 sg (n,[])):
  EL (EV G (Tb B)) G h40l0 [0,2,0] 0 st=fnK (EV G (Tb B)) G h40l0 [0,2,0] 0 (EC (EV G (Tb B)) G h40l0 (de0 sg (0,dgZ n.natAbs))):=by
 have:=EL_ind (st:=st) (call:=EV G (Tb B)) (G:=G) (a:=h40l0) (L:=[0,2,0]) (m:=0) (fun z=>de0 sg z) (fun z=>fnK (EV G (Tb B)) G h40l0 [0,2,0] 0 (EC (EV G (Tb B)) G h40l0 (de0 sg (0,dgZ z.1.natAbs++z.2)))) (fun z=>z.1.natAbs) (n,[]) (fun z=>inR z.1∧z.2.length+(dgZ z.1.natAbs).length≤1000) h0 ⟨hr, ?_⟩ ?_
 ·rw [this,List.append_nil]
 ·have:=dgL_len 18 n.natAbs (by unfold inR at hr;omega)
  unfold dgZ
  split
  ·simp
  ·simp;omega
 ·rintro ⟨n,t⟩ ⟨h1,h2⟩
  simp only at h1 h2
  by_cases hn:n=0
  ·refine .inr ?_
   subst hn
   rfl
  ·refine .inl ⟨(n.tdiv 10,(48+((n.natAbs % 10:Nat):Int))::t),⟨?_, ?_⟩, ?_,de0_round sg n t hn h1 (by omega), ?_⟩
   ·have:=td10 n
    unfold inR at *
    simp only
    omega
   ·have e:=dgZ_s n.natAbs (by omega)
    simp only [td10,List.length_cons]
    rw [e,List.length_append] at h2
    simp only [List.length_cons,List.length_nil] at h2
    omega
   ·simp only [td10]
    omega
   ·simp only [td10]
    rw [dgZ_s n.natAbs (by omega),List.append_assoc]
    rfl
theorem dcI_0:dcI 0=[48]:=by
 unfold dcI
 rw [if_neg (by omega),dgL];rfl
theorem decimal_v (n:Int) (h:inR n):EV G (Tb B) 40 [vi n] []=some (sv (dcI n),[]):=by
 refine EV_run rfl ?_
 by_cases h0:n=0
 ·rw [h0,dcI_0]
  simp (disch:=omega) only [go_sem,h40c,c48]
  try rfl
 ·have hl:(dgZ n.natAbs).length≤100:=by
   have:=dgL_len 18 n.natAbs (by unfold inR at h;omega)
   unfold dgZ
   split
   ·simp
   ·omega
  by_cases hn:n < 0
  ·have e:dcI n=[45]++dgZ n.natAbs:=by
    unfold dcI dgZ
    rw [if_pos hn,if_neg (by unfold inR at h;omega)];rfl
   have s1:binV .add (sv [45]) (sv (dgZ n.natAbs))=some (sv ([45]++dgZ n.natAbs)):=sadd_s (by simp;omega)
   rw [e]
   simp (disch:=omega) only [go_sem,h40c,h0,eq_true hn,c45,str_nil]
   rw [de0_all [45] n h (by rfl)]
   unfold de0
   generalize dgZ n.natAbs=z at *
   simp (disch:=omega) only [go_sem,h40l0,s1]
  ·have e:dcI n=[]++dgZ n.natAbs:=by
    unfold dcI dgZ
    unfold inR at h
    rw [if_neg hn,if_neg (by omega)]
    have:n.toNat=n.natAbs:=by omega
    rw [this];rfl
   have s1:binV .add (sv []) (sv (dgZ n.natAbs))=some (sv ([]++dgZ n.natAbs)):=sadd_s (by simp;omega)
   rw [e]
   simp (disch:=omega) only [go_sem,h40c,h0,hn,c45,str_nil]
   rw [de0_all [] n h (by rfl)]
   unfold de0
   generalize dgZ n.natAbs=z at *
   simp (disch:=omega) only [go_sem,h40l0,s1]
end
section
variable {G:Glob} {B:CallT}
theorem copyRuns_v (l:List Run) (hl:l.length≤1000000):EV G (Tb B) 12 [runsV l] []=some (.one (.bld 0 l.length),[.arr 0 2 (l.map Run.e)]):=by
 refine EV_run rfl ?_
 simp (disch:=omega) only [go_sem,h12c,List.length_map,List.take_zero]
theorem sameRuns_v (a b:List Run) (hl:a.length≤1000000):EV G (Tb B) 17 [runsV a,runsV b] []=some (vb (decide (a=b)),[]):=by
 refine EV_run rfl ?_
 by_cases h:(a.length:Int)=b.length
 ·simp (disch:=omega) only [go_sem,h17c,List.length_map,h]
  have h:a.length=b.length:=by omega
  rw [EL_fst (fun k=>⟨(runsV a::runsV b::jk 3 (vi k::jk 20 [])),[]⟩) (fun k=>a.getD k ⟨0,0⟩≠b.getD k ⟨0,0⟩) a.length ?_ ?_]
  rotate_left
  ·rfl
  ·intro k hk hn
   have h1:=hn k (Nat.le_refl _)
   rw [runAt a k hk,runAt b k (by omega),Classical.not_not,run_eq] at h1
   simp (disch:=omega) only [go_sem,h17l0,List.length_map,Run.e]
  obtain ⟨hk,hp,hn⟩:=ix_spec (fun k=>a.getD k ⟨0,0⟩≠b.getD k ⟨0,0⟩) a.length
  generalize ix (fun k=>a.getD k ⟨0,0⟩≠b.getD k ⟨0,0⟩) a.length=k at *
  rcases hp with hp | ⟨hk',hp⟩
  ·have hz:a=b:=List.ext_getElem h (fun i h1 h2=>by
    have:=hn i (by omega)
    rwa [runAt a i h1,runAt b i h2,Classical.not_not] at this)
   simp (disch:=omega) only [go_sem,h17l0,List.length_map]
   simp [hz]
  ·rw [runAt a k hk',runAt b k (by omega)] at hp
   have hz:¬ a=b:=fun e=>by subst e;exact hp rfl
   rw [ne_eq,run_eq] at hp
   simp (disch:=omega) only [go_sem,h17l0,List.length_map,Run.e]
   simp [hz]
 ·simp (disch:=omega) only [go_sem,h17c,List.length_map]
  have:¬ a=b:=fun e=>h (by rw [e])
  simp [this]
theorem same_v (l:List Run) (e:Int) (w:List Run) (c:Int) (hl:l.length≤1000000):EV G (Tb B) 10 [runsV l,vi e,runsV w,vi c] []=some (vb (decide (e=c∧(c≠0∧l=[]∨c=0∧l=w))),[]):=by
 refine EV_run rfl ?_
 have hl0:(l.length:Int)=0↔l=[]:=by rw [← List.length_eq_zero_iff];omega
 by_cases h1:e=c
 ·by_cases h2:c=0
  ·simp (disch:=omega) only [go_sem,h10c,List.length_map,sameRuns_v]
   simp [h1,h2]
  ·by_cases h3:l=[]
   ·have h4:(l.length:Int)=0:=hl0.2 h3
    simp (disch:=omega) only [go_sem,h10c,List.length_map]
    simp [h1,h2,h3]
   ·have h4:¬ (l.length:Int)=0:=fun e=>h3 (hl0.1 e)
    simp (disch:=omega) only [go_sem,h10c,List.length_map]
    simp [h1,h2,h3]
 ·simp (disch:=omega) only [go_sem,h10c,List.length_map]
  simp [h1]
end
section
variable {G:Glob} {bb:Bool}
theorem c43:(⟨#[43]⟩:ByteArray)=str [43]:=rfl
theorem c32:(⟨#[32]⟩:ByteArray)=str [32]:=rfl
theorem allLen_s:∀ l:List (List Int),allLen 1 (l.map sS)=true
 | []=>rfl
 | g::gs=>by rw [List.map_cons,allLen,allLen_s gs];rfl
def fs0 (l:List Run) (k:Nat):AS:=⟨(jk 3 (.one (.bld 0 k)::jk 3 (runsV l::vi l.length::vi k::jk 21 []))),[.arr 0 1 (((l.take k).map txR).map sS)]⟩
theorem txR_len {r:Run} (h:inR r.s∧inR r.n):(txR r).length≤41:=by
 have h1:=dcI_len h.1
 have h2:=dcI_len h.2
 unfold txR
 split<;>simp<;>omega
theorem fs0_round (l:List Run) (hl:l.length≤1000) (hr:∀ r∈l,inR r.s∧inR r.n) (k:Nat) (hk:k < l.length):
  rnK [3,3,0,0] 1 (EC (EV G (Tb (bs3 bb))) G h11l0 (fs0 l k))=some (fs0 l (k+1)):=by
 obtain ⟨r1,r2⟩:=hr l[k] (List.getElem_mem hk)
 have eg:(l.map Run.e)[k]?=some [ci l[k].s,ci l[k].n]:=by rw [List.getElem?_map,List.getElem?_eq_getElem hk];rfl
 have q1:=itoa3_v (G:=G) (bb:=bb) l[k].s r1
 have q2:=itoa3_v (G:=G) (bb:=bb) l[k].n r2
 have q3:=isHole_v (G:=G) (B:=bs3 bb) l[k].s l[k].n
 have l1:=dcI_len r1
 have l2:=dcI_len r2
 have et:(l.take (k+1)).map txR=(l.take k).map txR++[txR l[k]]:=by rw [List.take_add_one,List.getElem?_eq_getElem hk,Option.toList_some,List.map_append];rfl
 have ln:((l.take k).map txR).length=k:=by simp;omega
 have al:=allLen_s ((l.take k).map txR)
 have lm:(((l.take k).map txR).map sS).length=k:=by simp;omega
 have hx:txR l[k]=(if l[k].s=-1 then [45] else dcI l[k].s)++[43]++dcI l[k].n:=rfl
 unfold fs0
 rw [et,hx]
 clear hx et
 generalize (l.take k).map txR=X at *
 generalize l[k].s=s at *
 generalize l[k].n=n at *
 generalize dcI s=a at *
 generalize dcI n=b at *
 have lX:l.length=l.length:=rfl
 subst ln
 by_cases c:s=-1
 ·rw [decide_eq_true c] at q3
  rw [if_pos c]
  have s1:binV .add (sv [45]) (sv [43])=some (sv ([45]++[43])):=sadd_s (by simp)
  have s2:binV .add (sv ([45]++[43])) (sv b)=some (sv ([45]++[43]++b)):=sadd_s (by simp;omega)
  generalize ([45]++[43]++b:List Int)=y at *
  generalize ([45]++[43]:List Int)=z at *
  simp only [List.map_append,List.map_cons,List.map_nil,sS]
  simp (disch:=omega) only [go_sem,h11l0,hk,eg,q1,q2,q3,c43,c45,s1,s2,al,List.take_length,Bool.not_true,Bool.not_false]
 ·rw [decide_eq_false c] at q3
  rw [if_neg c]
  have s1:binV .add (sv a) (sv [43])=some (sv (a++[43])):=sadd_s (by simp;omega)
  have s2:binV .add (sv (a++[43])) (sv b)=some (sv (a++[43]++b)):=sadd_s (by simp;omega)
  generalize (a++[43]++b:List Int)=y at *
  generalize (a++[43]:List Int)=z at *
  simp only [List.map_append,List.map_cons,List.map_nil,sS]
  simp (disch:=omega) only [go_sem,h11l0,hk,eg,q1,q2,q3,c43,c45,s1,s2,al,List.take_length,Bool.not_true,Bool.not_false]
theorem fmL_len (l:List Run) (k:Nat) (hl:l.length≤1000) (hr:∀ r∈l,inR r.s∧inR r.n):(jnI [32] ((l.take k).map txR)).length≤100000:=by
 have:=jnI_len [32] 41 (by simp) ((l.take k).map txR) (fun a ha=>by
  obtain ⟨g,h,rfl⟩:=List.mem_map.1 ha
  exact txR_len (hr g (List.mem_of_mem_take h)))
 rw [List.length_map,List.length_take] at this
 omega
theorem fmt_v (l:List Run) (hl:l.length≤1000) (hr:∀ r∈l,inR r.s∧inR r.n):EV G (Tb (bs3 bb)) 11 [runsV l] []=some (sv (fmR l),[]):=by
 refine EV_run rfl ?_
 have l0:=fmL_len l l.length hl hr
 rw [List.take_length] at l0
 have j:=join3_v (G:=G) (bb:=bb) (l.map txR) (by simpa using hl) (by omega)
 simp (disch:=omega) only [go_sem,h11c,str_nil,List.length_map]
 rw [EL_loop (fun k=>fs0 l k) l.length ?_ (fun k hk=>fs0_round l hl hr k hk)]
 rotate_left
 ·rfl
 unfold fs0 fmR
 rw [List.take_length]
 have lX:(l.map txR).length=l.length:=List.length_map ..
 generalize l.map txR=X at *
 have mX:(X.map sS).take l.length=X.map sS:=List.take_of_length_le (by simp;omega)
 simp (disch:=omega) only [go_sem,h11l0,c32,List.length_map,j,mX]
def rs0 (l:List Run) (k:Nat):AS:=⟨(runsV l::jk 2 (sv (jnI [32] ((l.take k).map txR))::vi k::jk 35 [])),[]⟩
theorem rs_t {l:List Run} {k:Nat} (hk:k < l.length):jnI [32] ((l.take (k+1)).map txR)=(if k=0 then [] else jnI [32] ((l.take k).map txR)++[32])++txR l[k]:=by
 rw [List.take_add_one,List.getElem?_eq_getElem hk]
 by_cases h:k=0
 ·subst h;simp [jnI]
 ·rw [if_neg h,List.map_append,Option.toList_some,List.map_cons,List.map_nil,jnI_snoc]
  intro e
  have:=congrArg List.length e
  rw [List.length_map,List.length_take,List.length_nil] at this
  omega
theorem rs0_round (l:List Run) (hl:l.length≤1000) (hr:∀ r∈l,inR r.s∧inR r.n) (k:Nat) (hk:k < l.length):
  rnK [0,2,0] 0 (EC (EV G (Tb (bs3 bb))) G h13l0 (rs0 l k))=some (rs0 l (k+1)):=by
 obtain ⟨r1,r2⟩:=hr l[k] (List.getElem_mem hk)
 have eg:(l.map Run.e)[k]?=some [ci l[k].s,ci l[k].n]:=by rw [List.getElem?_map,List.getElem?_eq_getElem hk];rfl
 have q1:=decimal_v (G:=G) (B:=bs3 bb) l[k].s r1
 have q2:=decimal_v (G:=G) (B:=bs3 bb) l[k].n r2
 have l1:=dcI_len r1
 have l2:=dcI_len r2
 have et:=rs_t hk
 have lt:=fmL_len l (k+1) hl hr
 have l0:=fmL_len l k hl hr
 have hx:txR l[k]=(if l[k].s=-1 then [45] else dcI l[k].s)++[43]++dcI l[k].n:=rfl
 have hlt:(k:Int) < l.length:=by omega
 unfold rs0
 rw [et,hx] at lt ⊢
 clear et hx
 obtain ⟨u,hu⟩:∃ u,u=if l[k].s=-1 then [45] else dcI l[k].s:=⟨_,rfl⟩
 rw [← hu] at lt ⊢
 have lu:u.length≤20:=by
  rw [hu]
  split
  ·simp
  ·omega
 generalize l[k].s=s at *
 generalize l[k].n=n at *
 generalize dcI s=a at *
 generalize dcI n=b at *
 by_cases h0:k=0
 ·subst h0
  rw [if_pos rfl] at lt ⊢
  have s0:jnI [32] ((l.take 0).map txR)=[]:=rfl
  rw [s0]
  have s1:binV .add (sv []) (sv u)=some (sv u):=sadd_s (by simp;omega)
  have s2:binV .add (sv u) (sv [43])=some (sv (u++[43])):=sadd_s (by simp;omega)
  have s3:binV .add (sv (u++[43])) (sv b)=some (sv (u++[43]++b)):=sadd_s (by simp;omega)
  rw [List.nil_append]
  generalize (u++[43]++b:List Int)=y at *
  generalize (u++[43]:List Int)=z at *
  by_cases c:s=-1
  ·rw [if_pos c] at hu
   have c45':(⟨#[45]⟩:ByteArray)=str u:=by rw [hu];rfl
   clear hu
   simp (disch:=omega) only [go_sem,h13l0,hk,eg,q1,q2,c32,c43,c45',s1,s2,s3,eq_true c,List.length_map]
   try rfl
  ·rw [if_neg c] at hu
   subst hu
   simp (disch:=omega) only [go_sem,h13l0,hk,eg,q1,q2,c32,c43,s1,s2,s3,c,List.length_map]
   try rfl
 ·rw [if_neg h0] at lt ⊢
  generalize jnI [32] ((l.take k).map txR)=t at *
  have hk0:(k:Int) > 0:=by omega
  have s0:binV .add (sv t) (sv [32])=some (sv (t++[32])):=sadd_s (by simp;omega)
  have s1:binV .add (sv (t++[32])) (sv u)=some (sv (t++[32]++u)):=sadd_s (by simp;omega)
  have s2:binV .add (sv (t++[32]++u)) (sv [43])=some (sv (t++[32]++u++[43])):=sadd_s (by simp;omega)
  have s3:binV .add (sv (t++[32]++u++[43])) (sv b)=some (sv (t++[32]++(u++[43]++b))):=by
   rw [sadd_s (by simp;omega)];simp
  generalize (t++[32]++(u++[43]++b):List Int)=y at *
  generalize (t++[32]++u++[43]:List Int)=z at *
  generalize (t++[32]++u:List Int)=z2 at *
  generalize (t++[32]:List Int)=z3 at *
  by_cases c:s=-1
  ·rw [if_pos c] at hu
   have c45':(⟨#[45]⟩:ByteArray)=str u:=by rw [hu];rfl
   clear hu
   simp (disch:=omega) only [go_sem,h13l0,hk,hk0,eg,q1,q2,c32,c43,c45',s0,s1,s2,s3,eq_true c,List.length_map]
   try done
  ·rw [if_neg c] at hu
   subst hu
   simp (disch:=omega) only [go_sem,h13l0,hk,hk0,eg,q1,q2,c32,c43,s0,s1,s2,s3,c,List.length_map]
   try done
theorem rfmt_v (l:List Run) (hl:l.length≤1000) (hr:∀ r∈l,inR r.s∧inR r.n):EV G (Tb (bs3 bb)) 13 [runsV l] []=some (sv (fmR l),[]):=by
 refine EV_run rfl ?_
 simp (disch:=omega) only [go_sem,h13c,str_nil]
 rw [EL_loop (fun k=>rs0 l k) l.length ?_ (fun k hk=>rs0_round l hl hr k hk)]
 rotate_left
 ·rfl
 unfold rs0 fmR
 rw [List.take_length]
 generalize jnI [32] (l.map txR)=t at *
 simp (disch:=omega) only [go_sem,h13l0,List.length_map]
end
section
variable {G:Glob} {B:CallT}
def digB (x:Int):Bool:=decide (48≤x)&&decide (x≤57)
def atM (s:List Int):Nat:=if s.head?=some 45 then 1 else 0
def numV (d:Nat) (s:List Int):Int × Bool:=
 if s.length=atM s∨d+atM s < s.length∨s[atM s]?=some 48∧1 < s.length then (0,false)
 else if (s.drop (atM s)).all digB=true then (if atM s=1 then 0 - valL 0 (s.drop 1) else valL 0 s,true) else (0,false)
abbrev nuS (s:List Int) (a:Nat) (n:Int) (i:Nat):AS:=⟨(sv s::jk 5 (vi a::vi n::vi i::jk 61 [])),[]⟩
theorem digB_iff {x:Int}:digB x=true↔48≤x∧x≤57:=by
 unfold digB;rw [Bool.and_eq_true,decide_eq_true_eq,decide_eq_true_eq]
theorem take_sD {l:List Int} {k:Nat} (h:k < l.length):l.take (k+1)=l.take k++[l.getD k 0]:=by
 rw [List.take_add_one,List.getElem?_eq_getElem h,List.getD_eq_getElem?_getD,List.getElem?_eq_getElem h];rfl
theorem num_round (s:List Int) (a:Nat) (hs:Byts s) (hl:s.length≤a+9) (ha:a≤1) (k:Nat) (hk:k < s.length - a) (hd:∀ j,j≤k→¬ digB (s.getD (a+j) 0)=false):
  rnK [0,5,0,0] 0 (EC (EV G (Tb B)) G h36l0 (nuS s a (valL 0 ((s.drop a).take k)) (a+k)))=some (nuS s a (valL 0 ((s.drop a).take (k+1))) (a+(k+1))):=by
 have hx:=digB_iff.1 (eq_true_of_ne_false (hd k (Nat.le_refl _)))
 have dgs:Dgs ((s.drop a).take k):=by
  intro b hb
  obtain ⟨j,hj,e⟩:=List.getElem_of_mem hb
  have hj2:j < k:=by rw [List.length_take] at hj;omega
  have h4:=digB_iff.1 (eq_true_of_ne_false (hd j (by omega)))
  have e2:s.getD (a+j) 0=b:=by
   rw [← e,List.getElem_take,List.getElem_drop,List.getD_eq_getElem?_getD,List.getElem?_eq_getElem (by omega)];rfl
  rw [e2] at h4;exact h4
 have hv:=valL_le _ 0 (by omega) dgs
 have hp:10 ^ ((s.drop a).take k).length≤10 ^ 8:=Nat.pow_le_pow_right (by omega) (by rw [List.length_take];omega)
 have e8:10 ^ 8=100000000:=by decide
 obtain ⟨p,hpe⟩:∃ p,p=a+k:=⟨_,rfl⟩
 have hpl:p < s.length:=by omega
 have hx0:s.getD (a+k) 0=s[p]:=by
  subst hpe
  rw [List.getD_eq_getElem?_getD,List.getElem?_eq_getElem hpl];rfl
 have et:(s.drop a).take (k+1)=(s.drop a).take k++[s[p]]:=by
  rw [take_sD (by rw [List.length_drop];exact hk),← hx0]
  congr 2
  rw [List.getD_eq_getElem?_getD,List.getD_eq_getElem?_getD,List.getElem?_drop]
 rw [hx0] at hx
 rw [et,valL_app]
 generalize valL 0 ((s.drop a).take k)=v at *
 have hu:=u8_nat _ (hs _ (List.getElem_mem hpl))
 have w1:IntKind.u8.wrap (s[p] - 48)=s[p] - 48:=by rw [IntKind.wrap_u8];omega
 have c1:¬ s[p] < 48:=by omega
 have c2:¬ 57 < s[p]:=by omega
 have e3:v * 10+(s[p] - 48)=10 * v+(s[p] - 48):=by omega
 have e4:a+(k+1)=p+1:=by omega
 have hlt:(p:Int) < s.length:=by omega
 rw [e3,e4,← hpe]
 simp (disch:=omega) only [go_sem,h36l0,hu,c1,c2,w1,eq_true hlt,List.getElem_map,Int.toNat_natCast]
 rfl
theorem all_dig (s:List Int) (a:Nat):(s.drop a).all digB=true↔∀ k,k < s.length - a→digB (s.getD (a+k) 0)=true:=by
 rw [List.all_eq_true]
 constructor
 ·intro h k hk
  have h2:=h _ (List.getElem_mem (show k < (s.drop a).length by rw [List.length_drop];exact hk))
  rw [List.getElem_drop] at h2
  rw [List.getD_eq_getElem?_getD,List.getElem?_eq_getElem (by omega)]
  exact h2
 ·intro h x hx
  obtain ⟨k,hk,e⟩:=List.getElem_of_mem hx
  rw [List.length_drop] at hk
  have h2:=h k hk
  rw [List.getElem_drop] at e
  rw [List.getD_eq_getElem?_getD,List.getElem?_eq_getElem (by omega)] at h2
  rw [← e]
  exact h2
theorem numb_v (s:List Int) (hs:Byts s) (hl:s.length≤1000):EV G (Tb B) 36 [sv s,vi 4] []=some (.tup [.one (.dc (ci (numV 4 s).1)),.one (.dc (.raw (.bool (numV 4 s).2)))],[]):=by
 refine EV_run rfl ?_
 match s,hs,hl with
 | [],_,_=>
  have sz:((str []).size:Int)=0:=rfl
  rw [show numV 4 []=(0,false) from rfl]
  simp (disch:=omega) only [go_sem,h36c,sz]
 | x::l,hs,hl=>
  have sz:((str (x::l)).size:Int)=((x::l).length:Nat):=by rw [str_size]
  have i0:=u8_nat x (hs x List.mem_cons_self)
  have ln:(x::l).length=l.length+1:=rfl
  by_cases hx:x=45
  ·have ea:atM (x::l)=1:=by unfold atM;rw [hx];rfl
   match l,hs,hl,sz,i0,ln,ea with
   | [],_,_,sz,i0,_,ea=>
    have e:numV 4 [x]=(0,false):=by unfold numV;rw [if_pos (.inl (by rw [ea];rfl))]
    rw [e]
    have sz:((str [x]).size:Int)=1:=sz
    simp (disch:=omega) only [go_sem,h36c,sz,i0,eq_true hx]
   | y::l,hs,hl,sz,i0,ln,ea=>
    have i1:=u8_nat y (hs y (List.mem_cons_of_mem _ List.mem_cons_self))
    have hd:=all_dig (x::y::l) 1
    have ln2:(x::y::l).length=l.length+2:=rfl
    have ey:(x::y::l)[1]?=some y:=rfl
    have ev:numV 4 (x::y::l)=if 4 < l.length+1∨y=48 then (0,false) else if ((x::y::l).drop 1).all digB=true then (0 - valL 0 ((x::y::l).drop 1),true) else (0,false):=by
     unfold numV
     rw [ea,ey,ln2]
     by_cases c1:4 < l.length+1∨y=48
     ·rw [if_pos c1,if_pos (by rcases c1 with c | c;exact .inr (.inl (by omega));exact .inr (.inr ⟨by rw [c],by omega⟩))]
     ·rw [if_neg c1,if_neg (by rintro (c | c | ⟨c,_⟩);omega;exact c1 (.inl (by omega));injection c with c;exact c1 (.inr c)),if_pos rfl]
    generalize numV 4 (x::y::l)=A at *
    rw [ln2] at sz hd
    by_cases c2:4 < l.length+1
    ·rw [ev,if_pos (.inl c2)]
     have h1:¬ ((l.length+2:Nat):Int)=1:=by omega
     have h2:(4:Int) < ((l.length+2:Nat):Int) - 1:=by omega
     have h3:(0:Int) < ((l.length+2:Nat):Int):=by omega
     generalize ((l.length+2:Nat):Int)=n at *
     simp (disch:=omega) only [go_sem,h36c,sz,i0,eq_true hx,h1,eq_true h2,eq_true h3]
    ·have h1:¬ ((l.length+2:Nat):Int)=1:=by omega
     have h2:¬ (4:Int) < ((l.length+2:Nat):Int) - 1:=by omega
     have h3:(0:Int) < ((l.length+2:Nat):Int):=by omega
     have h4:(1:Int) < ((l.length+2:Nat):Int):=by omega
     by_cases c3:y=48
     ·rw [ev,if_pos (.inr c3)]
      generalize ((l.length+2:Nat):Int)=n at *
      simp (disch:=omega) only [go_sem,h36c,sz,i0,i1,eq_true hx,h1,h2,eq_true h3,eq_true h4,eq_true c3]
     ·rw [if_neg (by rintro (c | c);exact c2 c;exact c3 c)] at ev
      have rd:=fun k (hk:k < l.length+1)=>num_round (G:=G) (B:=B) (x::y::l) 1 hs (by rw [ln2];omega) (by omega) k (by rw [ln2];omega)
      simp (disch:=omega) only [go_sem,h36c,sz,i0,i1,eq_true hx,h1,h2,eq_true h3,eq_true h4,c3]
      rw [EL_fst (fun k=>nuS (x::y::l) 1 (valL 0 (((x::y::l).drop 1).take k)) (1+k)) (fun k=>digB ((x::y::l).getD (1+k) 0)=false) (l.length+1) ?_ rd]
      rotate_left
      ·rfl
      obtain ⟨hk,hp,hn⟩:=ix_spec (fun k=>digB ((x::y::l).getD (1+k) 0)=false) (l.length+1)
      generalize ix (fun k=>digB ((x::y::l).getD (1+k) 0)=false) (l.length+1)=k at *
      rcases hp with rfl | ⟨hk',hp⟩
      ·rw [if_pos (hd.2 fun k hk=>eq_true_of_ne_false (hn k (by omega)))] at ev
       rw [ev]
       rw [List.take_of_length_le (by rw [List.length_drop,ln2];omega)]
       have dg:Dgs ((x::y::l).drop 1):=fun b hb=>digB_iff.1 (List.all_eq_true.1 (hd.2 fun k hk=>eq_true_of_ne_false (hn k (by omega))) b hb)
       have hv:=valL_le _ 0 (by omega) dg
       have hp8:10 ^ ((x::y::l).drop 1).length≤10 ^ 8:=Nat.pow_le_pow_right (by omega) (by rw [List.length_drop,ln2];omega)
       have e8:10 ^ 8=100000000:=by decide
       generalize valL 0 ((x::y::l).drop 1)=v at *
       have e1:1+(l.length+1)=l.length+2:=by omega
       rw [e1]
       have nl:¬ ((l.length+2:Nat):Int) < (l.length:Int)+1+1:=by omega
       unfold nuS
       generalize ((l.length+2:Nat):Int)=n at *
       simp (disch:=omega) only [go_sem,h36l0,sz,nl]
      ·rw [if_neg (fun h=>by rw [hd.1 h k (by omega)] at hp;cases hp)] at ev
       rw [ev]
       obtain ⟨p,hpe⟩:∃ p,p=1+k:=⟨_,rfl⟩
       have hpl:p < (x::y::l).length:=by rw [ln2];omega
       have hx0:(x::y::l).getD (1+k) 0=(x::y::l)[p]:=by
        subst hpe
        rw [List.getD_eq_getElem?_getD,List.getElem?_eq_getElem hpl];rfl
       have hi:=u8_nat _ (hs _ (List.getElem_mem hpl))
       have hlt:(p:Int) < ((l.length+2:Nat):Int):=by omega
       rw [hx0] at hp
       generalize valL 0 (((x::y::l).drop 1).take k)=v at *
       rw [← hpe]
       generalize ((l.length+2:Nat):Int)=n at *
       generalize x::y::l=s at *
       generalize hc:s[p]=c at *
       by_cases q1:c < 48
       ·simp (disch:=omega) only [go_sem,h36l0,sz,hi,eq_true hlt,eq_true q1,hc,List.getElem_map,Int.toNat_natCast]
       ·have q2:57 < c:=by
         rcases Int.lt_or_le 57 c with h | h
         ·exact h
         ·rw [digB_iff.2 ⟨by omega,h⟩] at hp;cases hp
        simp (disch:=omega) only [go_sem,h36l0,sz,hi,eq_true hlt,q1,eq_true q2,hc,List.getElem_map,Int.toNat_natCast]
  ·have ea:atM (x::l)=0:=by unfold atM;rw [if_neg (by simpa using hx)]
   have hd:=all_dig (x::l) 0
   have ev:numV 4 (x::l)=if 4 < l.length+1∨x=48∧1 < l.length+1 then (0,false) else if ((x::l).drop 0).all digB=true then (valL 0 (x::l),true) else (0,false):=by
    have ex:(x::l)[0]?=some x:=rfl
    unfold numV
    rw [ea,ex,ln]
    by_cases c1:4 < l.length+1∨x=48∧1 < l.length+1
    ·rw [if_pos c1,if_pos (by rcases c1 with c | c;exact .inr (.inl (by omega));exact .inr (.inr ⟨by rw [c.1],c.2⟩))]
    ·rw [if_neg c1,if_neg (by rintro (c | c | ⟨c,d⟩);omega;exact c1 (.inl (by omega));injection c with c;exact c1 (.inr ⟨c,d⟩)),if_neg (show ¬ (0:Nat)=1 by omega)]
   generalize numV 4 (x::l)=A at *
   rw [ln] at sz hd
   have h1:¬ ((l.length+1:Nat):Int)=0:=by omega
   have h3:(0:Int) < ((l.length+1:Nat):Int):=by omega
   by_cases c2:4 < l.length+1
   ·rw [ev,if_pos (.inl c2)]
    have h2:(4:Int) < ((l.length+1:Nat):Int):=by omega
    generalize ((l.length+1:Nat):Int)=n at *
    simp (disch:=omega) only [go_sem,h36c,sz,i0,hx,h1,eq_true h2,eq_true h3,Int.sub_zero]
   ·have h2:¬ (4:Int) < ((l.length+1:Nat):Int):=by omega
    by_cases c3:x=48∧1 < l.length+1
    ·rw [ev,if_pos (.inr c3)]
     have h4:(1:Int) < ((l.length+1:Nat):Int):=by omega
     generalize ((l.length+1:Nat):Int)=n at *
     simp (disch:=omega) only [go_sem,h36c,sz,i0,hx,h1,h2,eq_true h3,eq_true h4,eq_true c3.1,Int.sub_zero]
    ·rw [if_neg (by rintro (c | c);exact c2 c;exact c3 c)] at ev
     have rd:=fun k (hk:k < l.length+1)=>num_round (G:=G) (B:=B) (x::l) 0 hs (by rw [ln];omega) (by omega) k (by rw [ln];omega)
     have c3':x=48→¬ (1:Int) < ((l.length+1:Nat):Int):=fun h q=>c3 ⟨h,by omega⟩
     have key:∀ st,st=nuS (x::l) 0 0 0→EL (EV G (Tb B)) G h36l0 [0,5,0,0] 0 st=EL (EV G (Tb B)) G h36l0 [0,5,0,0] 0 (nuS (x::l) 0 0 0):=fun st h=>by rw [h]
     have lp:EL (EV G (Tb B)) G h36l0 [0,5,0,0] 0 (nuS (x::l) 0 0 0)=_:=EL_fst (fun k=>nuS (x::l) 0 (valL 0 (((x::l).drop 0).take k)) (0+k)) (fun k=>digB ((x::l).getD (0+k) 0)=false) (l.length+1) rfl rd
     obtain ⟨hk,hp,hn⟩:=ix_spec (fun k=>digB ((x::l).getD (0+k) 0)=false) (l.length+1)
     generalize ix (fun k=>digB ((x::l).getD (0+k) 0)=false) (l.length+1)=k at *
     have fin:∀ st,st=nuS (x::l) 0 0 0→True:=fun _ _=>trivial
     by_cases c4:x=48
     ·have h4:=c3' c4
      simp (disch:=omega) only [go_sem,h36c,sz,i0,hx,h1,h2,eq_true h3,h4,eq_true c4,Int.sub_zero]
      rw [key _ (by rfl),lp]
      rcases hp with rfl | ⟨hk',hp⟩
      ·rw [if_pos (hd.2 fun k hk=>eq_true_of_ne_false (hn k (by omega)))] at ev
       rw [ev]
       rw [List.take_of_length_le (by rw [List.length_drop,ln];omega),List.drop_zero]
       generalize valL 0 (x::l)=v at *
       have e1:0+(l.length+1)=l.length+1:=by omega
       rw [e1]
       have nl:¬ ((l.length+1:Nat):Int) < (l.length:Int)+1:=by omega
       unfold nuS
       generalize ((l.length+1:Nat):Int)=n at *
       simp (disch:=omega) only [go_sem,h36l0,sz,nl]
      ·rw [if_neg (fun h=>by rw [hd.1 h k (by omega)] at hp;cases hp)] at ev
       rw [ev]
       obtain ⟨p,hpe⟩:∃ p,p=0+k:=⟨_,rfl⟩
       have hpl:p < (x::l).length:=by rw [ln];omega
       have hx0:(x::l).getD (0+k) 0=(x::l)[p]:=by
        subst hpe
        rw [List.getD_eq_getElem?_getD,List.getElem?_eq_getElem hpl];rfl
       have hi:=u8_nat _ (hs _ (List.getElem_mem hpl))
       have hlt:(p:Int) < ((l.length+1:Nat):Int):=by omega
       rw [hx0] at hp
       generalize valL 0 (((x::l).drop 0).take k)=v at *
       rw [← hpe]
       generalize ((l.length+1:Nat):Int)=n at *
       generalize x::l=s at *
       generalize hc:s[p]=c at *
       by_cases q1:c < 48
       ·simp (disch:=omega) only [go_sem,h36l0,sz,hi,eq_true hlt,eq_true q1,hc,List.getElem_map,Int.toNat_natCast]
       ·have q2:57 < c:=by
         rcases Int.lt_or_le 57 c with h | h
         ·exact h
         ·rw [digB_iff.2 ⟨by omega,h⟩] at hp;cases hp
        simp (disch:=omega) only [go_sem,h36l0,sz,hi,eq_true hlt,q1,eq_true q2,hc,List.getElem_map,Int.toNat_natCast]
     ·simp (disch:=omega) only [go_sem,h36c,sz,i0,hx,h1,h2,eq_true h3,c4,Int.sub_zero]
      rw [key _ (by rfl),lp]
      rcases hp with rfl | ⟨hk',hp⟩
      ·rw [if_pos (hd.2 fun k hk=>eq_true_of_ne_false (hn k (by omega)))] at ev
       rw [ev]
       rw [List.take_of_length_le (by rw [List.length_drop,ln];omega),List.drop_zero]
       generalize valL 0 (x::l)=v at *
       have e1:0+(l.length+1)=l.length+1:=by omega
       rw [e1]
       have nl:¬ ((l.length+1:Nat):Int) < (l.length:Int)+1:=by omega
       unfold nuS
       generalize ((l.length+1:Nat):Int)=n at *
       simp (disch:=omega) only [go_sem,h36l0,sz,nl]
      ·rw [if_neg (fun h=>by rw [hd.1 h k (by omega)] at hp;cases hp)] at ev
       rw [ev]
       obtain ⟨p,hpe⟩:∃ p,p=0+k:=⟨_,rfl⟩
       have hpl:p < (x::l).length:=by rw [ln];omega
       have hx0:(x::l).getD (0+k) 0=(x::l)[p]:=by
        subst hpe
        rw [List.getD_eq_getElem?_getD,List.getElem?_eq_getElem hpl];rfl
       have hi:=u8_nat _ (hs _ (List.getElem_mem hpl))
       have hlt:(p:Int) < ((l.length+1:Nat):Int):=by omega
       rw [hx0] at hp
       generalize valL 0 (((x::l).drop 0).take k)=v at *
       rw [← hpe]
       generalize ((l.length+1:Nat):Int)=n at *
       generalize x::l=s at *
       generalize hc:s[p]=c at *
       by_cases q1:c < 48
       ·simp (disch:=omega) only [go_sem,h36l0,sz,hi,eq_true hlt,eq_true q1,hc,List.getElem_map,Int.toNat_natCast]
       ·have q2:57 < c:=by
         rcases Int.lt_or_le 57 c with h | h
         ·exact h
         ·rw [digB_iff.2 ⟨by omega,h⟩] at hp;cases hp
        simp (disch:=omega) only [go_sem,h36l0,sz,hi,eq_true hlt,q1,eq_true q2,hc,List.getElem_map,Int.toNat_natCast]
end
section
variable {G:Glob} {B:CallT}
abbrev rowS (p:List Int):List DC:=[.raw (.string (str p))]
def cutS (c:Int) (s:List Int):Nat→List (List Int) × Nat
 | 0=>([],0)
 | i+1=>if s[i]?=some c then ((cutS c s i).1++[(s.take i).drop (cutS c s i).2],i+1) else cutS c s i
theorem cutS_ok (c:Int) (s:List Int):∀ i,i≤s.length→(cutS c s i).2≤i∧(cutS c s i).1.length≤i∧spl c (s.take i)=(cutS c s i).1++[(s.take i).drop (cutS c s i).2]
 | 0,_=>⟨Nat.le_refl _,Nat.le_refl _,by simp [cutS,spl]⟩
 | i+1,h=>by
  obtain ⟨h1,h2,h3⟩:=cutS_ok c s i (by omega)
  have hi:i < s.length:=by omega
  have hl:(s.take i).length=i:=by rw [List.length_take];omega
  rw [cutS,List.take_add_one,List.getElem?_eq_getElem hi,Option.toList_some,spl_snoc,h3]
  by_cases e:s[i]=c
  ·rw [if_pos e,if_pos (by rw [e])]
   have e2:(s.take i++[s[i]]).drop (i+1)=[]:=List.drop_of_length_le (by rw [List.length_append,hl];simp)
   refine ⟨Nat.le_refl _,by simp;omega, ?_⟩
   simp only
   rw [e2]
  ·rw [if_neg e,if_neg (fun q=>e (by injection q))]
   refine ⟨by omega,by omega, ?_⟩
   rw [List.dropLast_concat,List.getLastD_concat,List.drop_append_of_le_length (by omega)]
def rc0 (s:List Int) (c:Int) (i:Nat):AS:=⟨(sv s::vu c::jk 3 (.one (.bld 0 (cutS c s i).1.length)::vi (cutS c s i).2::vi i::jk 26 [])),[.arr 0 1 ((cutS c s i).1.map rowS)]⟩
theorem rc0_round (s:List Int) (c:Int) (hs:Byts s) (hl:s.length≤1000) (i:Nat) (hi:i < s.length):
  rnK [0,0,3,0,0] 1 (EC (EV G (Tb B)) G h35l0 (rc0 s c i))=some (rc0 s c (i+1)):=by
 obtain ⟨h1,h2,_⟩:=cutS_ok c s i (by omega)
 have hu:=u8_nat _ (hs _ (List.getElem_mem hi))
 have sz:((str s).size:Int)=s.length:=by rw [str_size]
 have sz2:(str s).size=s.length:=str_size s
 have x1:=str_ext s (cutS c s i).2 i
 have al:allLen 1 ((cutS c s i).1.map rowS)=true:=allLen_map (f:=rowS) (fun _=>rfl) _
 unfold rc0
 by_cases e:s[i]=c
 ·have es:cutS c s (i+1)=((cutS c s i).1++[(s.take i).drop (cutS c s i).2],i+1):=by
   rw [cutS,if_pos (by rw [List.getElem?_eq_getElem hi,e])]
  rw [es]
  have e':(s[i]=c)=True:=eq_true e
  generalize cutS c s i=r at *
  obtain ⟨d,f⟩:=r
  simp only at h1 h2 x1 al ⊢
  generalize hy:(s.take i).drop f=y at *
  have ln:(d++[y]).length=d.length+1:=by simp
  have ms:(d++[y]).map rowS=d.map rowS++[[.raw (.string (str y))]]:=by rw [List.map_append];rfl
  have tk:List.take d.length (d.map rowS)=d.map rowS:=List.take_of_length_le (by simp)
  rw [ln,ms]
  simp (disch:=omega) only [go_sem,h35l0,sz,sz2,hu,List.getElem_map,e',hy,al,tk,Int.toNat_natCast]
 ·have es:cutS c s (i+1)=cutS c s i:=by
   rw [cutS,if_neg (fun q=>e (by rw [List.getElem?_eq_getElem hi] at q;injection q))]
  rw [es]
  generalize cutS c s i=r at *
  obtain ⟨d,f⟩:=r
  simp only at h1 h2 x1 al ⊢
  simp (disch:=omega) only [go_sem,h35l0,sz,sz2,hu,List.getElem_map,e,Int.toNat_natCast]
  done
theorem rcut_v (s:List Int) (c:Int) (hs:Byts s) (hl:s.length≤1000):EV G (Tb B) 35 [sv s,vu c] []=some (vl ((spl c s).map rowS),[]):=by
 refine EV_run rfl ?_
 simp (disch:=omega) only [go_sem,h35c]
 rw [EL_loop (fun k=>rc0 s c k) s.length ?_ (fun k hk=>rc0_round s c hs hl k hk)]
 rotate_left
 ·rfl
 obtain ⟨h1,h2,h3⟩:=cutS_ok c s s.length (Nat.le_refl _)
 rw [List.take_length] at h3
 rw [h3]
 have sz:((str s).size:Int)=s.length:=by rw [str_size]
 have sz2:(str s).size=s.length:=str_size s
 have x1:=str_ext s (cutS c s s.length).2 s.length
 rw [List.take_length] at x1
 unfold rc0
 have al:allLen 1 ((cutS c s s.length).1.map rowS)=true:=allLen_map (f:=rowS) (fun _=>rfl) _
 generalize cutS c s s.length=r at *
 obtain ⟨d,f⟩:=r
 simp only at h1 h2 x1 al ⊢
 generalize hy:s.drop f=y at *
 have tk:List.take d.length (d.map rowS)=d.map rowS:=List.take_of_length_le (by simp)
 have ms:(d++[y]).map rowS=d.map rowS++[[.raw (.string (str y))]]:=by rw [List.map_append];rfl
 rw [ms]
 have ln:(d.map rowS++[[DC.raw (.string (str y))]]).length=d.length+1:=by simp
 simp (disch:=omega) only [go_sem,h35l0,sz,sz2,hy,al,tk,Int.toNat_natCast]
 rw [List.take_of_length_le (by rw [ln];exact Nat.le_refl _)]
end
section
variable {G:Glob} {B:CallT}
theorem valL_ge:∀ (l:List Int) (a:Int),0≤a→Dgs l→a≤valL a l
 | [],a,_,_=>by rw [valL];omega
 | x::l,a,h,hd=>by
  have hx:=hd x List.mem_cons_self
  have:=valL_ge l (a * 10+(x - 48)) (by omega) (fun b hb=>hd b (List.mem_cons_of_mem _ hb))
  rw [valL];omega
theorem numV_nat {s:List Int} (h:natB 4 s=true):numV 4 s=(valL 0 s,true)∧0≤valL 0 s:=by
 obtain ⟨c,hl⟩:=natB_iff.1 h
 have h45:s.head?≠some 45:=by
  match s,c.ne with
  | x::l,_=>
   have:=c.d x List.mem_cons_self
   intro e
   injection e with e
   omega
 have ea:atM s=0:=by unfold atM;rw [if_neg h45]
 refine ⟨?_,(natB_val h (by omega)).1⟩
 unfold numV
 rw [ea,if_neg,if_pos,if_neg (show ¬ (0:Nat)=1 by omega)]
 ·rw [List.drop_zero,List.all_eq_true]
  exact fun x hx=>digB_iff.2 (c.d x hx)
 ·rintro (e | e | ⟨e,e2⟩)
  ·exact c.ne (List.length_eq_zero_iff.1 e)
  ·omega
  ·have:=c.z (by
    match s,e with
    | x::l,e=>exact e)
   omega
theorem natB_num {s:List Int} (h:(numV 4 s).2=true) (h0:0≤(numV 4 s).1):natB 4 s=true:=by
 by_cases h45:s.head?=some 45
 ·have ea:atM s=1:=by unfold atM;rw [if_pos h45]
  unfold numV at h h0
  rw [ea] at h h0
  split at h
  ·cases h
  ·rename_i h1
   rw [if_neg h1] at h0
   split at h
   ·rename_i h2
    rw [if_pos h2,if_pos rfl] at h0
    simp only at h0
    have dg:Dgs (s.drop 1):=fun b hb=>digB_iff.1 (List.all_eq_true.1 h2 b hb)
    match s,h1,dg,h0 with
    | [],h1,_,_=>simp at h45
    | [x],h1,_,_=>exact absurd (.inl rfl) h1
    | x::y::l,h1,dg,h0=>
     have hy:=dg y (by simp)
     have hy0:y≠48:=fun e=>h1 (.inr (.inr ⟨by rw [e];rfl,by simp⟩))
     have:=valL_ge l (0 * 10+(y - 48)) (by omega) (fun b hb=>dg b (by simp [hb]))
     simp only [List.drop_succ_cons,List.drop_zero,valL] at h0
     omega
   ·cases h
 ·have ea:atM s=0:=by unfold atM;rw [if_neg h45]
  unfold numV at h
  rw [ea] at h
  split at h
  ·cases h
  ·rename_i h1
   split at h
   ·rename_i h2
    rw [List.drop_zero,List.all_eq_true] at h2
    refine natB_iff.2 ⟨⟨fun e=>h1 (.inl (by rw [e];rfl)),fun x hx=>digB_iff.1 (h2 x hx),fun e=>?_⟩, ?_⟩
    ·rcases Nat.lt_or_ge 1 s.length with q | q
     ·exact absurd (.inr (.inr ⟨by
       match s,e with
       | x::l,e=>exact e,q⟩)) h1
     ·match s,e with
      | x::l,_=>simp at q ⊢;omega
    ·rcases Nat.lt_or_ge 4 s.length with q | q
     ·exact absurd (.inr (.inl (by omega))) h1
     ·exact q
   ·cases h
theorem psW_parts (w:List Int):(∃ a b,w=a++43::b∧43∉a∧43∉b∧spl 43 w=[a,b]∧psW w=(if (a=[45]∨natB 4 a=true)∧natB 4 b=true then some ⟨if a=[45] then -1 else valL 0 a,valL 0 b⟩ else none))∨((spl 43 w).length≠2∧psW w=none):=by
 rcases ctI_cases 43 w with ⟨hf,e⟩ | ⟨a,b,e,ha,e2⟩
 ·refine .inr ⟨by rw [spl_free 43 w hf];simp, ?_⟩
  unfold psW;rw [e,if_neg (by simp)]
 ·by_cases hb:43∈b
  ·refine .inr ⟨?_, ?_⟩
   ·obtain ⟨c,d,rfl,hc⟩:∃ c d,b=c++43::d∧43∉c:=List.eq_append_cons_of_mem hb
    rw [e,spl_app 43 a _ ha,spl_app 43 c d hc]
    have hne:=spl_ne 43 d
    generalize spl 43 d=L at *
    match L,hne with
    | x::L,_=>simp
   ·have hn:natB 4 b=false:=by
     cases h:natB 4 b with
     | false=>rfl
     | true=>have:=(natB_iff.1 h).1.d 43 hb;omega
    unfold psW;rw [e2,if_neg (by rw [hn];simp)]
  ·refine .inl ⟨a,b,e,ha,hb,by rw [e,spl_app 43 a b ha,spl_free 43 b hb], ?_⟩
   unfold psW;rw [e2];simp
def runsO (ps:List (List Int)):List Run:=ps.map fun p=>(psW p).getD ⟨0,0⟩
theorem psL_ok:∀ (ps:List (List Int)),(∀ p∈ps,psW p≠none)→psL ps=some (runsO ps):=by
 have key:∀ (ps:List (List Int)) (o:List Run),(∀ p∈ps,psW p≠none)→ps.foldl (fun o p=>snR o (psW p)) (some o)=some (o++runsO ps):=by
  intro ps
  induction ps with
  | nil=>intro o _;simp [runsO]
  | cons p ps ih=>
   intro o h
   rw [List.foldl_cons]
   cases hp:psW p with
   | none=>exact absurd hp (h p List.mem_cons_self)
   | some r=>
    have:=ih (o++[r]) (fun q hq=>h q (List.mem_cons_of_mem _ hq))
    rw [show snR (some o) (some r)=some (o++[r]) from rfl,this]
    simp [runsO,hp]
 intro ps h
 exact key ps [] h
abbrev pw0 (s:List Int) (k:Nat):AS:=⟨(jk 4 (.one (.bld 0 k)::vl ((spl 32 s).map rowS)::vi k::jk 72 [])),[.arr 0 2 ((runsO ((spl 32 s).take k)).map Run.e)]⟩
theorem w_ok {s p:List Int} (hs:Byts s) (h:p∈spl 32 s):Byts p∧p.length≤s.length:=by
 obtain ⟨h1,h2⟩:=spl_sub 32 s p h
 exact ⟨fun b hb=>hs b (h1 b hb),h2⟩
end
section
variable {G:Glob} {B:CallT}
theorem runsO_snoc (L:List (List Int)) (w:List Int):runsO (L++[w])=runsO L++[(psW w).getD ⟨0,0⟩]:=by unfold runsO;simp
theorem eq45 {a:List Int} (ha:Byts a):(str a=str [45])=(a=[45]):=str_inj ha (by intro b hb;rw [List.mem_singleton] at hb;omega)
theorem pw0_round (s:List Int) (hs:Byts s) (hl:s.length≤900) (k:Nat) (hk:k < (spl 32 s).length) (h:psW (spl 32 s)[k]≠none):
  rnK [4,0,0] 1 (EC (EV G (Tb B)) G h9l0 (pw0 s k))=some (pw0 s (k+1)):=by
 obtain ⟨wB,wl⟩:=w_ok hs (List.getElem_mem hk)
 have hN:=spl_len 32 s
 have et:(spl 32 s).take (k+1)=(spl 32 s).take k++[(spl 32 s)[k]]:=by rw [List.take_add_one,List.getElem?_eq_getElem hk];rfl
 have eg:((spl 32 s).map rowS)[k]?=some (rowS (spl 32 s)[k]):=by rw [List.getElem?_map,List.getElem?_eq_getElem hk];rfl
 have ln:(runsO ((spl 32 s).take k)).length=k:=by unfold runsO;simp;omega
 unfold pw0
 rw [et,runsO_snoc]
 clear et
 generalize (spl 32 s)[k]=w at *
 generalize runsO ((spl 32 s).take k)=R at *
 generalize spl 32 s=L at *
 rcases psW_parts w with ⟨a,b,e,ha,hb,e2,e3⟩ | ⟨_,e3⟩
 rotate_left
 ·exact absurd e3 h
 have aB:Byts a:=fun x hx=>wB x (by rw [e];exact List.mem_append_left _ hx)
 have bB:Byts b:=fun x hx=>wB x (by rw [e];exact List.mem_append_right _ (List.mem_cons_of_mem _ hx))
 have al:a.length≤w.length∧b.length≤w.length:=by rw [e];simp;omega
 have q1:=rcut_v (G:=G) (B:=B) w 43 wB (by omega)
 rw [e2,List.map_cons,List.map_cons,List.map_nil] at q1
 have q2:=numb_v (G:=G) (B:=B) b bB (by omega)
 have q3:=numb_v (G:=G) (B:=B) a aB (by omega)
 have t45:=eq45 aB
 by_cases c:(a=[45]∨natB 4 a=true)∧natB 4 b=true
 rotate_left
 ·rw [if_neg c] at e3;exact absurd e3 h
 rw [if_pos c] at e3
 rw [e3,Option.getD_some]
 obtain ⟨n1,n2⟩:=numV_nat c.2
 rw [n1] at q2
 simp only at q2
 have ar:allLen 2 (R.map Run.e)=true:=all_run R
 have hlt:(k:Int) < L.length:=by omega
 clear e e2 e3 h n1
 generalize valL 0 b=vb' at *
 by_cases c1:a=[45]
 ·rw [if_pos c1]
  rw [eq_true c1] at t45
  subst ln
  generalize (numV 4 a).1=x at *
  generalize (numV 4 a).2=y at *
  have hb0:¬ vb' < 0:=by omega
  simp only [List.map_append,List.map_cons,List.map_nil,Run.e]
  cases y
  all_goals simp (disch:=omega) only [go_sem,h9l0,hlt,hk,eg,q1,q2,q3,c45,t45,hb0,ar,List.length_map,List.take_length,Bool.not_true,Bool.not_false,Run.e]
 ·rw [if_neg c1]
  rw [eq_false c1] at t45
  obtain ⟨m1,m2⟩:=numV_nat (c.1.resolve_left c1)
  rw [m1] at q3
  simp only at q3
  clear m1
  generalize valL 0 a=va at *
  subst ln
  have hb0:¬ vb' < 0:=by omega
  have ha0:va≥0:=m2
  simp only [List.map_append,List.map_cons,List.map_nil,Run.e]
  simp (disch:=omega) only [go_sem,h9l0,hlt,hk,eg,q1,q2,q3,c45,t45,hb0,eq_true ha0,ar,List.length_map,List.take_length,Bool.not_true,Bool.not_false,Run.e]
theorem rparse_v (s:List Int) (hs:Byts s) (hl:s.length≤900):EV G (Tb B) 9 [sv s] []=some (prsA (psR s),[]):=by
 refine EV_run rfl ?_
 have sz:((str s).size:Int)=s.length:=by rw [str_size]
 have hl1:¬ (200000:Int) < s.length:=by omega
 have hl2:¬ 200000 < s.length:=by omega
 by_cases h0:s=[]
 ·subst h0
  have e:psR []=([],0):=by
   unfold psR prt
   rw [if_neg (by simp),if_pos rfl];rfl
  rw [e]
  simp (disch:=omega) only [go_sem,h9c,sz,str_nil,hl1]
  try rfl
 ·have e0:(str s=str [])=(s=[]):=str_inj hs (by intro b hb;cases hb)
  rw [eq_false h0] at e0
  have q0:=rcut_v (G:=G) (B:=B) s 32 hs (by omega)
  have hN:=spl_len 32 s
  simp (disch:=omega) only [go_sem,h9c,sz,str_nil,hl1,e0,q0]
  rw [EL_fst (fun k=>pw0 s k) (fun k=>psW ((spl 32 s).getD k [])=none) (spl 32 s).length ?_ ?_]
  rotate_left
  ·rfl
  ·intro k hk hn
   refine pw0_round s hs hl k hk ?_
   have:=hn k (Nat.le_refl _)
   rwa [List.getD_eq_getElem?_getD,List.getElem?_eq_getElem hk] at this
  obtain ⟨hk,hp,hn⟩:=ix_spec (fun k=>psW ((spl 32 s).getD k [])=none) (spl 32 s).length
  generalize ix (fun k=>psW ((spl 32 s).getD k [])=none) (spl 32 s).length=k at *
  have hpr:psR s=match psL (spl 32 s) with
   | none=>([],7)
   | some l=>if (chk l).2=0 then (l,0) else ([],(chk l).2):=by
   unfold psR prt
   rw [if_neg hl2,if_neg h0]
   rfl
  rcases hp with rfl | ⟨hk',hp⟩
  ·rw [psL_ok (spl 32 s) (fun p hp=>by
    obtain ⟨j,hj,rfl⟩:=List.getElem_of_mem hp
    have:=hn j hj
    rwa [List.getD_eq_getElem?_getD,List.getElem?_eq_getElem hj] at this)] at hpr
   simp only at hpr
   have ln:(runsO (spl 32 s)).length=(spl 32 s).length:=by unfold runsO;simp
   unfold pw0
   rw [List.take_length]
   generalize runsO (spl 32 s)=R at *
   have er:=err_r (G:=G) (B:=B) R
   have tk:(R.map Run.e).take (spl 32 s).length=R.map Run.e:=List.take_of_length_le (by simp;omega)
   have nl:¬ ((spl 32 s).length:Int) < ((spl 32 s).length:Int):=by omega
   rw [hpr]
   generalize spl 32 s=L at *
   by_cases c:(chk R).2=0
   ·rw [if_pos c]
    simp (disch:=omega) only [go_sem,h9l0,List.length_map,nl,tk,er,eq_true c]
    try rfl
   ·rw [if_neg c]
    generalize (chk R).2=e at *
    simp (disch:=omega) only [go_sem,h9l0,List.length_map,nl,tk,er,c]
    try rfl
  ·rw [List.getD_eq_getElem?_getD,List.getElem?_eq_getElem hk',Option.getD_some] at hp
   have hsp:spl 32 s=(spl 32 s).take k++(spl 32 s)[k]::(spl 32 s).drop (k+1):=by
    rw [← List.drop_eq_getElem_cons hk',List.take_append_drop]
   have e1:psL (spl 32 s)=none:=by
    rw [hsp];exact psL_no hp
   rw [e1] at hpr
   simp only at hpr
   rw [hpr]
   obtain ⟨wB,wl⟩:=w_ok hs (List.getElem_mem hk')
   have eg:((spl 32 s).map rowS)[k]?=some (rowS (spl 32 s)[k]):=by rw [List.getElem?_map,List.getElem?_eq_getElem hk'];rfl
   have ln:(runsO ((spl 32 s).take k)).length=k:=by unfold runsO;simp;omega
   have hlt:(k:Int) < (spl 32 s).length:=by omega
   unfold pw0
   clear hsp e1 hpr hn
   generalize (spl 32 s)[k]=w at *
   generalize runsO ((spl 32 s).take k)=R at *
   generalize spl 32 s=L at *
   have q1:=rcut_v (G:=G) (B:=B) w 43 wB (by omega)
   rcases psW_parts w with ⟨a,b,e,ha,hb,e2,e3⟩ | ⟨e2,_⟩
   rotate_left
   ·generalize spl 43 w=S at *
    have hz:¬ (S.length:Int)=2:=by omega
    simp (disch:=omega) only [go_sem,h9l0,hlt,hk',eg,q1,hz,List.length_map]
    try rfl
   ·have aB:Byts a:=fun x hx=>wB x (by rw [e];exact List.mem_append_left _ hx)
    have bB:Byts b:=fun x hx=>wB x (by rw [e];exact List.mem_append_right _ (List.mem_cons_of_mem _ hx))
    have al:a.length≤w.length∧b.length≤w.length:=by rw [e];simp;omega
    rw [e2,List.map_cons,List.map_cons,List.map_nil] at q1
    have q2:=numb_v (G:=G) (B:=B) b bB (by omega)
    have q3:=numb_v (G:=G) (B:=B) a aB (by omega)
    have t45:=eq45 aB
    have c:¬ ((a=[45]∨natB 4 a=true)∧natB 4 b=true):=fun c=>by rw [e3,if_pos c] at hp;cases hp
    have kb:(numV 4 b).2=true→0≤(numV 4 b).1→natB 4 b=true:=natB_num
    have ka:(numV 4 a).2=true→0≤(numV 4 a).1→natB 4 a=true:=natB_num
    generalize numV 4 b=nb at *
    generalize numV 4 a=na at *
    obtain ⟨vb',ob⟩:=nb
    obtain ⟨va,oa⟩:=na
    simp only at q2 q3 ka kb
    clear e e2 e3 hp
    cases ob with
    | false=>
     by_cases c1:a=[45]
     ·rw [eq_true c1] at t45
      cases oa
      all_goals simp (disch:=omega) only [go_sem,h9l0,hlt,hk',eg,q1,q2,q3,c45,t45,List.length_map,Bool.not_true,Bool.not_false]
      all_goals try rfl
     ·rw [eq_false c1] at t45
      cases oa
      all_goals simp (disch:=omega) only [go_sem,h9l0,hlt,hk',eg,q1,q2,q3,c45,t45,List.length_map,Bool.not_true,Bool.not_false]
      all_goals try rfl
    | true=>
     by_cases c2:vb' < 0
     ·by_cases c1:a=[45]
      ·rw [eq_true c1] at t45
       cases oa
       all_goals simp (disch:=omega) only [go_sem,h9l0,hlt,hk',eg,q1,q2,q3,c45,t45,eq_true c2,List.length_map,Bool.not_true,Bool.not_false]
       all_goals try rfl
      ·rw [eq_false c1] at t45
       cases oa
       ·simp (disch:=omega) only [go_sem,h9l0,hlt,hk',eg,q1,q2,q3,c45,t45,eq_true c2,List.length_map,Bool.not_true,Bool.not_false]
        try rfl
       ·by_cases c3:va≥0
        ·simp (disch:=omega) only [go_sem,h9l0,hlt,hk',eg,q1,q2,q3,c45,t45,eq_true c2,eq_true c3,List.length_map,Bool.not_true,Bool.not_false]
         try rfl
        ·simp (disch:=omega) only [go_sem,h9l0,hlt,hk',eg,q1,q2,q3,c45,t45,eq_true c2,c3,List.length_map,Bool.not_true,Bool.not_false]
         try rfl
     ·have hb:=kb rfl (by omega)
      have hna:¬ natB 4 a=true:=fun h=>c ⟨.inr h,hb⟩
      have c1:¬ a=[45]:=fun h=>c ⟨.inl h,hb⟩
      rw [eq_false c1] at t45
      cases oa
      ·simp (disch:=omega) only [go_sem,h9l0,hlt,hk',eg,q1,q2,q3,c45,t45,c2,List.length_map,Bool.not_true,Bool.not_false]
       try rfl
      ·have c3:¬ va≥0:=fun h=>hna (ka rfl h)
       simp (disch:=omega) only [go_sem,h9l0,hlt,hk',eg,q1,q2,q3,c45,t45,c2,c3,List.length_map,Bool.not_true,Bool.not_false]
       try rfl
end
end Go.Proofs.YtmmafhopnkkeeaaGreatDoor
