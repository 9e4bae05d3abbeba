/- Attributes in order: mathematics. Conditions: none. -/
import Derived.Test.YtcplecjhmnblpaaGreatDoorUw
import Derived.Test.YtcplecjhmnblpaaGreatDoorTd
namespace Go.Proofs.YtcplecjhmnblpaaGreatDoor
set_option linter.unusedSimpArgs false
set_option linter.unusedVariables false
set_option maxRecDepth 4000
variable {G:Glob} {bb:Bool}
open Go.Sort
theorem firstE_orZ:∀ l:List Int,firstE l=orZ l
 | []=>rfl
 | x::l=>by
  by_cases h:x=0
  ·rw [h,firstE_0,firstE_orZ l];rfl
  ·rw [firstE_n _ _ h,orZ,if_neg h]
theorem cmpS_cmB (a b:List Int):cmpS a b=cmB (str a).toList (str b).toList:=by
 unfold cmpS cmB ltS gtS
 cases h1:Op.bytesLess (str a).toList (str b).toList with
 | true=>rw [if_pos rfl,if_pos rfl]
 | false=>
  rw [if_neg Bool.false_ne_true,if_neg Bool.false_ne_true]
  by_cases h2:(str a).toList=(str b).toList
  ·rw [h2,bl_irr]
   simp
  ·have h3:=bl_tot _ _ h2
   rw [h1] at h3
   have h4:Op.bytesLess (str b).toList (str a).toList=true:=by
    rcases h3 with h3 | h3
    ·cases h3
    ·exact h3
   rw [if_pos h4]
   have h5:((str a).toList==(str b).toList)=false:=by rw [beq_eq_false_iff_ne];exact h2
   rw [h5]
   rfl
theorem cmpA_D (a b:Att):cmpA a b=cmD a.e b.e:=by
 unfold cmpA cmD
 rw [firstE_orZ,cmpS_cmB]
 rfl
theorem cmpA_ok:Cm (fun _=>True) cmpA:=by
 have h:=cmD_ok.map (P:=fun _=>True) (fun a:Att=>a.e) (fun _ _=>trivial)
 have e:cmpA=fun a b=>cmD a.e b.e:=by funext a b;exact cmpA_D a b
 rw [e]
 exact h
theorem kpos_map {α β:Type} (f:α→β) (c:β→β→Int) (p:List α) (x:α):∀ k,kpos c (p.map f) (f x) k=kpos (fun a b=>c (f a) (f b)) p x k
 | 0=>rfl
 | k+1=>by
  rw [kpos,kpos,List.getElem?_map]
  cases h:p[k]? with
  | none=>rfl
  | some y=>
   simp only [Option.map_some]
   rw [kpos_map f c p x k]
theorem insK_map {α β:Type} (f:α→β) (c:β→β→Int) (p:List α) (x:α):insK c (p.map f) (f x)=(insK (fun a b=>c (f a) (f b)) p x).map f:=by
 unfold insK
 rw [List.length_map,kpos_map,List.map_append,List.map_take,List.map_cons,List.map_drop]
theorem srtK_map {α β:Type} (f:α→β) (c:β→β→Int) (l:List α):srtK c (l.map f)=(srtK (fun a b=>c (f a) (f b)) l).map f:=by
 unfold srtK
 have key:∀ (l p:List α),(l.map f).foldl (insK c) (p.map f)=(l.foldl (insK fun a b=>c (f a) (f b)) p).map f:=by
  intro l
  induction l with
  | nil=>intro p;rfl
  | cons x l ih=>intro p;rw [List.map_cons,List.foldl_cons,List.foldl_cons,insK_map,ih]
 exact key l []
def srtA (l:List Att):List Att:=srtK cmpA l
theorem srtA_D (l:List Att):srtK cmD (l.map Att.e)=(srtA l).map Att.e:=by
 have e:cmpA=fun a b=>cmD a.e b.e:=by funext a b;exact cmpA_D a b
 unfold srtA
 rw [e]
 exact srtK_map (fun a:Att=>a.e) cmD l
theorem srtA_perm (l:List Att):(srtA l).Perm l:=srtK_perm cmpA l
theorem srtA_len (l:List Att):(srtA l).length=l.length:=(srtA_perm l).length_eq
theorem srtA_mem {l:List Att} {a:Att}:a∈srtA l↔a∈l:=(srtA_perm l).mem_iff
theorem sng_iff (l:List Att):(∀ k,k < l.length→sngE l k=0)↔(∀ a∈l,errA a=0)∧(l.map Att.id).Nodup:=by
 have hs:∀ k (hk:k < l.length),sngE l k=0↔errA l[k]=0∧dupA l k=false:=fun k hk=>by
  unfold sngE
  rw [getDA l k hk]
  by_cases c:errA l[k]=0
  ·rw [c,firstE_0]
   cases dupA l k with
   | true=>simp [un,firstE]
   | false=>simp [un,firstE]
  ·rw [firstE_n _ _ c]
   simp [c]
 have hd:∀ k (hk:k < l.length),dupA l k=false↔∀ j (hj:j < k),l[j].id≠l[k].id:=fun k hk=>by
  unfold dupA
  rw [getDA l k hk,List.any_eq_false]
  constructor
  ·intro h j hj e
   have:=h l[j] (by rw [List.mem_take_iff_getElem];exact ⟨j,by omega,rfl⟩)
   simp [e] at this
  ·intro h x hx
   rw [List.mem_take_iff_getElem] at hx
   obtain ⟨j,hj,rfl⟩:=hx
   simpa using h j (by omega)
 constructor
 ·intro h
  refine ⟨fun a ha=>?_, ?_⟩
  ·obtain ⟨k,hk,rfl⟩:=List.getElem_of_mem ha
   exact ((hs k hk).1 (h k hk)).1
  ·rw [List.Nodup,List.pairwise_map,List.pairwise_iff_getElem]
   intro i j hi hj hij
   exact (hd j hj).1 ((hs j hj).1 (h j hj)).2 i hij
 ·rintro ⟨h1,h2⟩ k hk
  rw [List.Nodup,List.pairwise_map,List.pairwise_iff_getElem] at h2
  exact (hs k hk).2 ⟨h1 _ (List.getElem_mem hk),(hd k hk).2 (fun j hj=>h2 j k (by omega) hk hj)⟩
theorem srtA_sng {l:List Att} (h:∀ k,k < l.length→sngE l k=0):∀ k,k < (srtA l).length→sngE (srtA l) k=0:=by
 rw [sng_iff] at h ⊢
 refine ⟨fun a ha=>h.1 a (srtA_mem.1 ha), ?_⟩
 exact ((srtA_perm l).map Att.id).nodup_iff.2 h.2
theorem srtA_le (l:List Att) (k:Nat) (hk:k < (srtA l).length) (h0:k≠0):cmpA (srtA l)[k - 1] (srtA l)[k]≤0:=by
 have h:=srtK_sorted cmpA_ok (l:=l) (fun _ _=>trivial)
 exact (List.pairwise_iff_getElem.1 h) (k - 1) k (by have:(srtA l).length=(srtK cmpA l).length:=rfl;omega) hk (by omega)
noncomputable def srtE (l:List Att):Int:=if l.length > 32 then 8 else if ix (fun k=>sngE l k≠0) l.length < l.length then sngE l (ix (fun k=>sngE l k≠0) l.length) else 0
theorem srtE_0 {l:List Att} (h:srtE l=0):l.length≤32∧∀ k,k < l.length→sngE l k=0:=by
 unfold srtE at h
 split at h
 ·cases h
 ·rename_i c
  refine ⟨by omega,fun k hk=>?_⟩
  obtain ⟨h1,h2,h3⟩:=ix_spec (fun k=>sngE l k≠0) l.length
  generalize ix (fun k=>sngE l k≠0) l.length=i at *
  split at h
  ·rename_i hi
   rcases h2 with h2 | ⟨_,h2⟩
   ·omega
   ·exact absurd h h2
  ·exact Classical.not_not.1 (h3 k (by omega))
theorem srtE_of {l:List Att} (h1:l.length≤32) (h:∀ k,k < l.length→sngE l k=0):srtE l=0:=by
 unfold srtE
 rw [if_neg (by omega)]
 split
 ·rename_i hi
  exact h _ hi
 ·rfl
def twoK (l:List Att) (k:Nat):Prop:=k≠0∧keyB (l.getD (k - 1) Att.nil) (l.getD k Att.nil)=true∧(l.getD k Att.nil).ty≠48
theorem ordE_srt {l:List Att} (h:∀ k,k < l.length→sngE l k=0) {k:Nat} (hk:k < (srtA l).length):(¬ twoK (srtA l) k→ordE (srtA l) k=0)∧(twoK (srtA l) k→ordE (srtA l) k=5):=by
 have hs:=srtA_sng h k hk
 by_cases h0:k=0
 ·subst h0
  unfold ordE
  rw [if_pos rfl]
  exact ⟨fun _=>hs,fun q=>absurd rfl q.1⟩
 ·have hle:=srtA_le l k hk h0
  unfold ordE
  rw [if_neg h0,hs,firstE_0]
  unfold twoK
  rw [getDA _ (k - 1) (by omega),getDA _ k hk,decide_eq_true hle,un_t,firstE_0]
  cases c1:keyB (srtA l)[k - 1] (srtA l)[k] with
  | false=>exact ⟨fun _=>rfl,fun q=>by cases q.2.1⟩
  | true=>
   by_cases c2:(srtA l)[k].ty=48
   ·rw [decide_eq_true c2]
    exact ⟨fun _=>rfl,fun q=>absurd c2 q.2.2⟩
   ·rw [decide_eq_false c2]
    exact ⟨fun q=>absurd ⟨h0,rfl,c2⟩ q,fun _=>rfl⟩
theorem ordV_srt {l:List Att} (hl:l.length≤32) (h:∀ k,k < l.length→sngE l k=0):(ordV (srtA l)).2=if ix (fun k=>twoK (srtA l) (k+1)) ((srtA l).length - 1) < (srtA l).length - 1 then 5 else 0:=by
 have hn:=srtA_len l
 unfold ordV
 rw [if_neg (by omega)]
 obtain ⟨a1,a2,a3⟩:=ix_spec (fun k=>ordE (srtA l) k≠0) (srtA l).length
 obtain ⟨b1,b2,b3⟩:=ix_spec (fun k=>twoK (srtA l) (k+1)) ((srtA l).length - 1)
 generalize ix (fun k=>ordE (srtA l) k≠0) (srtA l).length=i at *
 generalize ix (fun k=>twoK (srtA l) (k+1)) ((srtA l).length - 1)=j at *
 by_cases c:i < (srtA l).length
 ·rw [if_pos c]
  have hz:ordE (srtA l) i≠0:=by
   rcases a2 with a2 | ⟨_,a2⟩
   ·omega
   ·exact a2
  have hd:twoK (srtA l) i:=Classical.byContradiction fun q=>hz ((ordE_srt h c).1 q)
  rw [(ordE_srt h c).2 hd]
  have hij:j < (srtA l).length - 1:=by
   have h0:=hd.1
   refine Classical.byContradiction fun q=>?_
   have:=b3 (i - 1) (by omega)
   rw [show i - 1+1=i by omega] at this
   exact this hd
  rw [if_pos hij]
 ·rw [if_neg c]
  have hij:¬ j < (srtA l).length - 1:=fun q=>by
   have hd:twoK (srtA l) (j+1):=by
    rcases b2 with b2 | ⟨_,b2⟩
    ·omega
    ·exact b2
   have h5:=(ordE_srt h (k:=j+1) (by omega)).2 hd
   have:=a3 (j+1) (by omega)
   rw [h5] at this
   exact this (by decide)
  rw [if_neg hij]
end Go.Proofs.YtcplecjhmnblpaaGreatDoor
