/- A record with one more attribute, or another one in a place, by the program. Conditions: as each theorem says. -/
import Derived.Test.YtcplecjhmnblpaaGreatDoorSd
import Derived.Test.YtcplecjhmnblpaaGreatDoorUw
namespace Go.Proofs.YtcplecjhmnblpaaGreatDoor
set_option linter.unusedSimpArgs false
set_option linter.unusedVariables false
set_option maxRecDepth 4000
section
variable {G:Glob} {bb:Bool}
theorem Cm.le {α:Type} {P:α→Prop} {c:α→α→Int} (h:Cm P c) {a b d:α} (ha:P a) (hb:P b) (hd:P d) (x:c a b≤0) (y:c b d≤0):c a d≤0:=by
 by_cases e1:c a b=0
 ·rw [h.eq a b d ha hb hd e1];exact y
 ·by_cases e2:c b d=0
  ·have:=(h.eq' hb hd ha e2).1.1 (by omega)
   omega
  ·have:=h.tr a b d ha hb hd (by omega) (by omega)
   omega
theorem pw_adj {α:Type} {P:α→Prop} {c:α→α→Int} (h:Cm P c) {l:List α} (hl:∀ a∈l,P a) (ha:∀ k (hk:k+1 < l.length),c l[k] l[k+1]≤0):l.Pairwise fun a b=>c a b≤0:=by
 rw [List.pairwise_iff_getElem]
 intro i j hi hj hij
 obtain ⟨d,rfl⟩:∃ d,j=i+1+d:=⟨j - i - 1,by omega⟩
 induction d with
 | zero=>exact ha i hj
 | succ d ih=>
  have h1:=ih (by omega) (by omega)
  have h2:=ha (i+1+d) (by omega)
  exact h.le (hl _ (List.getElem_mem _)) (hl _ (List.getElem_mem _)) (hl _ (List.getElem_mem _)) h1 h2
def cmpK (a b:Att):Int:=firstE [cmpI a.ty b.ty,cmpS a.nm b.nm,cmpI a.fi b.fi]
def lexK (a b:Att):Int:=lexC (fun a b:Att=>cmI a.ty b.ty) (lexC (fun a b:Att=>cmB (str a.nm).toList (str b.nm).toList) (fun a b:Att=>cmI a.fi b.fi)) a b
theorem lexK_ok:Cm (fun _=>True) lexK:=
 (cmI_ok.map (fun a:Att=>a.ty) (fun _ _=>trivial)).lex ((cmB_ok.map (fun a:Att=>(str a.nm).toList) (fun _ _=>trivial)).lex (cmI_ok.map (fun a:Att=>a.fi) (fun _ _=>trivial)))
theorem cmpI_cmI (a b:Int):cmpI a b=cmI a b:=rfl
theorem lexK_eq (a b:Att):lexK a b=cmpK a b:=by
 unfold lexK cmpK lexC
 rw [cmpI_cmI,cmpI_cmI,cmpS_cmB]
 simp only
 by_cases h1:cmI a.ty b.ty=0
 ·rw [if_pos h1,h1,firstE_0]
  by_cases h2:cmB (str a.nm).toList (str b.nm).toList=0
  ·rw [if_pos h2,h2,firstE_0]
   by_cases h3:cmI a.fi b.fi=0
   ·rw [h3,firstE_0];rfl
   ·rw [firstE_n _ _ h3]
  ·rw [if_neg h2,firstE_n _ _ h2]
 ·rw [if_neg h1,firstE_n _ _ h1]
theorem cmpK_ok:Cm (fun _=>True) cmpK:=by
 have e:cmpK=lexK:=by funext a b;exact (lexK_eq a b).symm
 rw [e]
 exact lexK_ok
theorem cmpA_K {a b:Att} (h:cmpA a b≤0):cmpK a b≤0:=by
 unfold cmpA at h
 unfold cmpK
 by_cases h1:cmpI a.ty b.ty=0
 ·rw [h1,firstE_0] at h ⊢
  by_cases h2:cmpS a.nm b.nm=0
  ·rw [h2,firstE_0] at h ⊢
   by_cases h3:cmpI a.fi b.fi=0
   ·rw [h3,firstE_0];exact Int.le_refl _
   ·rw [firstE_n _ _ h3] at h ⊢;exact h
  ·rw [firstE_n _ _ h2] at h ⊢;exact h
 ·rw [firstE_n _ _ h1] at h ⊢;exact h
theorem cmI_0 {a b:Int} (h:cmI a b=0):a=b:=by
 unfold cmI at h
 split at h
 ·omega
 ·split at h<;>omega
theorem cmS_0 {a b:List Int} (ha:Byts a) (hb:Byts b) (h:cmpS a b=0):a=b:=by
 rw [cmpS_cmB] at h
 have h1:=cmB_0 h
 have h2:str a=str b:=by
  apply ByteArray.ext
  apply Array.ext'
  have e:∀ l:List Int,(str l).toList=(str l).data.toList:=fun l=>ByteArray.toList_eq (str l)
  rw [← e,← e,h1]
 rwa [str_inj ha hb] at h2
theorem cmpK_0 {a b:Att} (ha:Byts a.nm) (hb:Byts b.nm):cmpK a b=0↔keyB a b=true:=by
 rw [keyB_t]
 unfold cmpK
 constructor
 ·intro h
  obtain ⟨h1,h2,h3⟩:=firstE3 h
  exact ⟨cmI_0 h1,cmS_0 ha hb h2,cmI_0 h3⟩
 ·rintro ⟨h1,h2,h3⟩
  have s1:∀ x:Int,cmpI x x=0:=fun x=>cmI_ok.self trivial
  have s2:cmpS b.nm b.nm=0:=by rw [cmpS_cmB];exact cmB_ok.self trivial
  rw [h1,h2,h3,s1,s1,s2]
  rfl
theorem keyB_sym {a b:Att} (h:keyB a b=true):keyB b a=true:=by
 rw [keyB_t] at h ⊢
 exact ⟨h.1.symm,h.2.1.symm,h.2.2.symm⟩
theorem ord_pw {l:List Att} (h:(ordV l).2=0):l.Pairwise fun a b=>cmpA a b≤0:=
 pw_adj cmpA_ok (fun _ _=>trivial) (fun k hk=>(ordE_0 (k:=k+1) (by omega) hk ((ordV_0 h).2 _ hk)).2.1)
theorem ord_keys {l:List Att} (hW:∀ a∈l,a.W) (h:(ordV l).2=0) {i j:Nat} (hij:i < j) (hj:j < l.length) (hk:keyB (l[i]'(by omega)) l[j]=true):l[j].ty=48:=by
 have hB:∀ k (hk:k < l.length),Byts (l[k]).nm:=fun k hk=>(hW _ (List.getElem_mem hk)).nm
 have hp:=List.pairwise_iff_getElem.1 (ord_pw h)
 by_cases e:i=j - 1
 ·subst e
  exact (ordE_0 (k:=j) (by omega) hj ((ordV_0 h).2 _ hj)).2.2 hk
 ·have h1:=cmpA_K (hp i (j - 1) (by omega) (by omega) (by omega))
  have h2:=cmpA_K (hp (j - 1) j (by omega) hj (by omega))
  have h3:=(cmpK_0 (hB i (by omega)) (hB j hj)).2 hk
  have h4:cmpK (l[j - 1]'(by omega)) l[j]=0:=by
   refine Classical.byContradiction fun q=>?_
   have h5:cmpK (l[j - 1]'(by omega)) l[j] < 0:=by omega
   have h6:cmpK (l[i]'(by omega)) l[j] < 0:=by
    by_cases e1:cmpK (l[i]'(by omega)) (l[j - 1]'(by omega))=0
    ·rw [cmpK_ok.eq _ _ l[j] trivial trivial trivial e1];exact h5
    ·exact cmpK_ok.tr _ _ _ trivial trivial trivial (by omega) h5
   omega
  exact (ordE_0 (k:=j) (by omega) hj ((ordV_0 h).2 _ hj)).2.2 ((cmpK_0 (hB _ _) (hB _ _)).1 h4)
theorem needA_add (l:List Att) (a:Att):needA (l++[a])=needA l+(encA a).length:=by
 unfold needA
 simp [List.map_append,List.sum_append]
structure Put (r:Rec) (a:Att):Prop where
 ok:r.Ok
 us:usedB r.fl=true
 nx:r.nx < 65535
 ea:errA (setId a r.nx)=0
 hs:hasB r a=false
 ln:r.ats.length < 32
 nd:needA (putO r a).ats≤440
theorem putV_ok {r:Rec} {a:Att} (h:(putV r a).2=0):Put r a∧putV r a=(putO r a,0):=by
 unfold putV at h ⊢
 split at h
 ·rename_i c;exact absurd h c
 ·rename_i c
  split at h
  ·rename_i d;exact absurd h d
  ·rename_i d
   split at h
   ·rename_i g
    rw [if_neg c,if_neg d,if_pos g]
    obtain ⟨h1,h2,h3⟩:=firstE3 (Classical.not_not.1 c)
    obtain ⟨k1,k2,k3⟩:=firstE3 (Classical.not_not.1 d)
    exact ⟨⟨recE_ok h1,un_0 (by decide) h2,of_decide_eq_true (un_0 (by decide) h3),k1,by simpa using un_0 (by decide) k2,of_decide_eq_true (un_0 (by decide) k3),g⟩,rfl⟩
   ·exact absurd h (by decide)
theorem put_mem {r:Rec} {a b:Att}:b∈(putO r a).ats↔b∈r.ats∨b=setId a r.nx:=by
 show b∈srtA (r.ats++[setId a r.nx])↔_
 rw [srtA_mem,List.mem_append,List.mem_singleton]
theorem put_sng {r:Rec} {a:Att} (h:Put r a):(r.ats++[setId a r.nx]).length≤32∧∀ k,k < (r.ats++[setId a r.nx]).length→sngE (r.ats++[setId a r.nx]) k=0:=srtE_0 (put_srt h.ok h.ea h.ln)
theorem put_ord {r:Rec} {a:Att} (hW:r.W) (haW:Byts a.nm) (h:Put r a):(ordV (putO r a).ats).2=0:=by
 obtain ⟨hl,hs⟩:=put_sng h
 have hids:((putO r a).ats.map Att.id).Nodup:=((srtA_perm _).map Att.id).nodup_iff.2 ((sng_iff _).1 hs).2
 show (ordV (srtA (r.ats++[setId a r.nx]))).2=0
 rw [ordV_srt hl hs,if_neg]
 intro hq
 obtain ⟨b1,b2,b3⟩:=ix_spec (fun k=>twoK (srtA (r.ats++[setId a r.nx])) (k+1)) ((srtA (r.ats++[setId a r.nx])).length - 1)
 generalize ix (fun k=>twoK (srtA (r.ats++[setId a r.nx])) (k+1)) ((srtA (r.ats++[setId a r.nx])).length - 1)=k at *
 rcases b2 with b2 | ⟨_,b2⟩
 ·omega
 ·obtain ⟨_,hk,ht⟩:=b2
  have hm:∀ b,b∈srtA (r.ats++[setId a r.nx])↔b∈r.ats∨b=setId a r.nx:=fun b=>put_mem
  have hids':((srtA (r.ats++[setId a r.nx])).map Att.id).Nodup:=hids
  generalize srtA (r.ats++[setId a r.nx])=m at *
  rw [show k+1 - 1=k by omega,getDA _ k (by omega),getDA _ (k+1) (by omega)] at hk
  rw [getDA _ (k+1) (by omega)] at ht
  have hne:m[k].id≠m[k+1].id:=fun e=>by
   have:=List.pairwise_iff_getElem.1 hids' k (k+1) (by rw [List.length_map];omega) (by rw [List.length_map];omega) (by omega)
   rw [List.getElem_map,List.getElem_map] at this
   exact this e
  have m1:=(hm m[k]).1 (List.getElem_mem _)
  have m2:=(hm m[k+1]).1 (List.getElem_mem _)
  have hno:∀ b∈r.ats,keyB (setId a r.nx) b=true→b.ty≠48→False:=fun b hb hkb htb=>by
   have h1:=h.hs
   unfold hasB at h1
   have h2:(r.ats.any fun b=>keyB a b)=true:=List.any_eq_true.2 ⟨b,hb,hkb⟩
   have h3:a.ty=b.ty:=(keyB_t.1 hkb).1
   rw [h2,decide_eq_false (by omega)] at h1
   cases h1
  have key:∀ y z:Att,keyB y z=true→z.ty≠48→y.id≠z.id→(y∈r.ats∨y=setId a r.nx)→(z∈r.ats∨z=setId a r.nx)→False:=by
   intro y z hk ht hne m1 m2
   have hty:y.ty=z.ty:=(keyB_t.1 hk).1
   rcases m1 with m1 | m1
   ·rcases m2 with m2 | m2
    ·obtain ⟨i,hi,rfl⟩:=List.mem_iff_getElem.1 m1
     obtain ⟨j,hj,rfl⟩:=List.mem_iff_getElem.1 m2
     rcases Nat.lt_trichotomy i j with hij | hij | hij
     ·exact ht (ord_keys hW.at' h.ok.od hij hj hk)
     ·subst hij;exact hne rfl
     ·exact ht (hty.symm.trans (ord_keys hW.at' h.ok.od hij hi (keyB_sym hk)))
    ·subst m2
     exact hno y m1 (keyB_sym hk) (by omega)
   ·subst m1
    rcases m2 with m2 | m2
    ·exact hno z m2 hk ht
    ·subst m2;exact hne rfl
  exact key _ _ hk ht hne m1 m2
theorem put_rec {r:Rec} {a:Att} (hW:r.W) (haW:Byts a.nm) (h:Put r a):recE (putO r a)=0:=by
 obtain ⟨n1,n2,n3,n4,n5⟩:=h.ok.num
 have hx:=h.nx
 have hg:=idxV_neg.1 h.ok.gt
 have h1:hdE (putO r a)=0:=by
  unfold hdE
  have e1:numB (putO r a)=true:=by
   show (decide (1≤r.sq∧r.sq≤65535)&&(decide (0≤r.li∧r.li≤65535)&&(decide (0≤r.fl∧r.fl≤3)&&(decide (0≤r.nx+1∧r.nx+1≤65535)&&decide (0≤r.ls∧r.ls≤2147483647)))))=true
   rw [decide_eq_true n1,decide_eq_true n2,decide_eq_true n3,decide_eq_true (p:=0≤r.nx+1∧r.nx+1≤65535) ⟨by omega,by omega⟩,decide_eq_true n5]
   rfl
  have e2:basE (putO r a).br (putO r a).bq=0:=h.ok.be
  have e3:usedB (putO r a).fl=true:=h.us
  rw [e1,e2,e3]
  rfl
 have h2:gtI (putO r a) < 0:=by
  refine idxV_neg.2 fun b hb=>?_
  show decide (r.nx+1≤b.id)=false
  rw [decide_eq_false_iff_not]
  rcases put_mem.1 hb with hb | hb
  ·have:=hg b hb
   rw [decide_eq_false_iff_not] at this
   omega
  ·subst hb
   show ¬ r.nx+1≤r.nx
   omega
 unfold recE chkV
 rw [if_neg (by rw [h1];decide),if_neg (by rw [put_ord hW haW h];decide),if_neg (by omega),decide_eq_true h.nd]
 rfl
end
section
variable {G:Glob} {bb:Bool}
theorem within9_v (n lo hi:Int):EV G (Tb (bsS bb)) 58 [vi n,vi lo,vi hi] []=some (vb (decide (lo≤n∧n≤hi)),[]):=by
 refine EV_run rfl ?_
 by_cases h:lo≤n
 all_goals simp (disch:=omega) only [go_sem,h58c]
 all_goals simp [h]
theorem withinB_v (n lo hi:Int):EV G (Tb (bsS bb)) 19 [vi n,vi lo,vi hi] []=some (vb (decide (lo≤n∧n≤hi)),[]):=by
 refine EV_run rfl ?_
 by_cases h:lo≤n
 all_goals simp (disch:=omega) only [go_sem,h19c]
 all_goals simp [h]
theorem unless9_v (b:Bool) (e:Int):EV G (Tb (bsS bb)) 60 [vb b,vi e] []=some (vi (un b e),[]):=by
 refine EV_run rfl ?_
 cases b
 all_goals simp (disch:=omega) only [go_sem,h60c]
 all_goals rfl
theorem first9_v (l:List Int) (hl:l.length≤1000):EV G (Tb (bsS bb)) 59 [vl (el l)] []=some (vi (firstE l),[]):=by
 refine EV_run rfl ?_
 simp (disch:=omega) only [go_sem,h59c,List.length_map]
 have round:∀ k (hk:k < l.length),¬ l.getD k 0≠0→rnK [5,0,0] 0 (EC (EV G (Tb (bsS bb))) G h59l0 ⟨(jk 5 (vl (el l)::vi l.length::vi k::jk 7 [])),[]⟩)=some ⟨(jk 5 (vl (el l)::vi l.length::vi (k+1:Nat)::jk 7 [])),[]⟩:=fun k hk hz=>by
  rw [getD_at l k hk] at hz
  simp (disch:=omega) only [go_sem,h59l0,List.length_map,ci1]
 rcases fstN (fun k=>l.getD k 0≠0) l.length with h | ⟨j,hj,h1,h2⟩
 ·rw [EL_loop (fun k=>⟨(jk 5 (vl (el l)::vi l.length::vi k::jk 7 [])),[]⟩) l.length ?_ ?_]
  ·rw [firstE_none l h]
   simp (disch:=omega) only [go_sem,h59l0]
  ·rfl
  ·exact fun k hk=>round k hk (h k hk)
 ·rw [EL_loop (fun k=>⟨(jk 5 (vl (el l)::vi l.length::vi k::jk 7 [])),[]⟩) j ?_ ?_]
  ·rw [firstE_at l j hj h2 h1]
   rw [getD_at l j hj] at h1
   simp (disch:=omega) only [go_sem,h59l0,List.length_map,ci1]
  ·rfl
  ·exact fun k hk=>round k (by omega) (h2 k hk)
theorem first9_2 (a b:Int):EV G (Tb (bsS bb)) 59 [vl [[ci a],[ci b]]] []=some (vi (firstE [a,b]),[]):=first9_v [a,b] (by simp)
theorem first9_3 (a b c:Int):EV G (Tb (bsS bb)) 59 [vl [[ci a],[ci b],[ci c]]] []=some (vi (firstE [a,b,c]),[]):=first9_v [a,b,c] (by simp)
abbrev rfv (a b:Int):AV:=.agg [.dc (ci a),.dc (ci b)]
theorem and1 (x:Int):andI .i64 x 1=x % 2:=by
 have h:(BitVec.ofInt 64 x &&& BitVec.ofInt 64 1).toNat=(x % 2).toNat:=by
  rw [BitVec.toNat_and,show (BitVec.ofInt 64 1).toNat=1 from rfl,Nat.and_one_is_mod,BitVec.toNat_ofInt]
  omega
 show IntKind.i64.wrap (((BitVec.ofInt 64 x &&& BitVec.ofInt 64 1).toNat:Nat):Int)=_
 rw [h,wrapS (by omega)]
 omega
theorem refErr_v (a b:Int):EV G (Tb (bsS bb)) 112 [rfv a b] []=some (vi (refE a b),[]):=by
 refine EV_run rfl ?_
 have q1:=within9_v (G:=G) (bb:=bb) a 0 95
 have q2:=within9_v (G:=G) (bb:=bb) b 1 65535
 have u:=fun c=>unless9_v (G:=G) (bb:=bb) c 2
 unfold refE
 by_cases c1:0≤a∧a≤95
 ·rw [decide_eq_true c1] at q1
  by_cases c2:1≤b∧b≤65535
  ·rw [decide_eq_true c2] at q2
   rw [if_pos ⟨c1,c2⟩]
   simp (disch:=omega) only [go_sem,h112c,q1,q2,u,un_t]
  ·rw [decide_eq_false c2] at q2
   rw [if_neg (fun h=>c2 h.2)]
   simp (disch:=omega) only [go_sem,h112c,q1,q2,u,un_f]
 ·rw [decide_eq_false c1] at q1
  rw [if_neg (fun h=>c1 h.1)]
  simp (disch:=omega) only [go_sem,h112c,q1,u,un_f]
theorem baseErr_v (a b:Int):EV G (Tb (bsS bb)) 61 [rfv a b] []=some (vi (basE a b),[]):=by
 refine EV_run rfl ?_
 have q:=refErr_v (G:=G) (bb:=bb) a b
 unfold basE
 by_cases c1:a=0
 ·by_cases c2:b=0
  ·rw [if_pos ⟨c1,c2⟩]
   simp (disch:=omega) only [go_sem,h61c,q,eq_true c1,eq_true c2]
  ·rw [if_neg (fun h=>c2 h.2)]
   simp (disch:=omega) only [go_sem,h61c,q,eq_true c1,c2]
 ·rw [if_neg (fun h=>c1 h.1)]
  simp (disch:=omega) only [go_sem,h61c,q,c1]
theorem refErrR_v (a b:Int):EV G (Tb (bsS bb)) 55 [rfv a b] []=some (vi (refE a b),[]):=by
 refine EV_run rfl ?_
 have q1:=withinB_v (G:=G) (bb:=bb) a 0 95
 have q2:=withinB_v (G:=G) (bb:=bb) b 1 65535
 unfold refE
 by_cases c1:0≤a∧a≤95
 ·rw [decide_eq_true c1] at q1
  by_cases c2:1≤b∧b≤65535
  ·rw [decide_eq_true c2] at q2
   rw [if_pos ⟨c1,c2⟩]
   simp (disch:=omega) only [go_sem,h55c,q1,q2]
  ·rw [decide_eq_false c2] at q2
   rw [if_neg (fun h=>c2 h.2)]
   simp (disch:=omega) only [go_sem,h55c,q1,q2]
 ·rw [decide_eq_false c1] at q1
  rw [if_neg (fun h=>c1 h.1)]
  simp (disch:=omega) only [go_sem,h55c,q1]
theorem isUsed_v (r:Rec):EV G (Tb (bsS bb)) 62 [r.v] []=some (vb (usedB r.fl),[]):=by
 refine EV_run rfl ?_
 unfold usedB
 by_cases c:r.fl % 2=1
 ·have d:¬ r.fl % 2=0:=by omega
  simp (disch:=omega) only [go_sem,h62c,and1,d,decide_eq_true c]
 ·have d:r.fl % 2=0:=by omega
  simp (disch:=omega) only [go_sem,h62c,and1,eq_true d,decide_eq_false c]
theorem usedR_v (r:Rec) (h:0≤r.fl∧r.fl≤1000):EV G (Tb (bsS bb)) 23 [r.v] []=some (vb (usedB r.fl),[]):=by
 refine EV_run rfl ?_
 unfold usedB
 have e:r.fl.tmod 2=r.fl % 2:=by rw [Int.tmod_eq_emod_of_nonneg h.1]
 simp (disch:=omega) only [go_sem,h23c,e]
theorem needA_take (l:List Att) (k:Nat) (hk:k < l.length):needA (l.take (k+1))=needA (l.take k)+(encA l[k]).length:=by
 rw [List.take_succ_eq_append_getElem hk,needA_add]
theorem needA_rg (l:List Att) (hW:∀ a∈l,a.W):0≤needA l∧needA l≤440 * l.length:=by
 induction l with
 | nil=>exact ⟨Int.le_refl _,Int.le_refl _⟩
 | cons a l ih=>
  have h1:=ih (fun b hb=>hW b (List.mem_cons_of_mem _ hb))
  have h2:=encA_len (hW a List.mem_cons_self)
  unfold needA at h1 ⊢
  simp only [List.map_cons,List.sum_cons,List.length_cons]
  omega
theorem takeW {l:List Att} (hW:∀ a∈l,a.W) (k:Nat):∀ a∈l.take k,a.W:=fun a ha=>hW a (List.mem_of_mem_take ha)
theorem needed_v (l:List Att) (hW:∀ a∈l,a.W) (hl:l.length≤1000):EV G (Tb (bsS bb)) 66 [vl (l.map Att.e)] []=some (vi (needA l),[]):=by
 refine EV_run rfl ?_
 simp (disch:=omega) only [go_sem,h66c,List.length_map]
 rw [EL_loop (fun k=>⟨(jk 3 (vi (needA (l.take k))::jk 4 (vl (l.map Att.e)::vi l.length::vi k::jk 13 []))),[]⟩) l.length ?_ ?_]
 ·simp (disch:=omega) only [go_sem,h66l0,List.take_length]
 ·rfl
 ·intro k hk
  have q:=up (bytesOf_v (G:=G) (bb:=bb) l[k] (hW _ (List.getElem_mem hk)))
  have h2:=encA_len (hW _ (List.getElem_mem hk))
  have h3:=needA_rg (l.take k) (takeW hW k)
  rw [List.length_take] at h3
  have h4:needA (l.take k)≤440000:=by omega
  have h5:=h3.1
  clear h3
  rw [needA_take l k hk]
  generalize needA (l.take k)=z at *
  simp (disch:=omega) only [go_sem,h66l0,List.length_map,ixA,Att.e,q]
attribute [go_sem] mapM1 Option.map_some
end
section
variable {G:Glob} {bb:Bool}
theorem kpCs_d (J:List Nat):∀ ds:List DC,kpCs J (ds.map Cel.dc)=true
 | []=>rfl
 | d::ds=>by rw [List.map_cons,kpCs,kpCs_d J ds];rfl
theorem idsL_d:∀ ds:List DC,idsL (ds.map Cel.dc)=[]
 | []=>rfl
 | d::ds=>by rw [List.map_cons,idsL,idsL_d ds];rfl
theorem renL_d (f:Nat→Nat):∀ ds:List DC,List.map (renC f) (ds.map Cel.dc)=ds.map Cel.dc
 | []=>rfl
 | d::ds=>by rw [List.map_cons,List.map_cons,renL_d f ds];rfl
theorem ctCs_d (m:Nat):∀ ds:List DC,ctCs m (ds.map Cel.dc)=ds.map Cel.dc
 | []=>rfl
 | d::ds=>by rw [List.map_cons,ctCs,ctCs_d m ds];rfl
theorem killL_d (f:Nat→Bool):∀ ds:List DC,List.map (killC f) (ds.map Cel.dc)=ds.map Cel.dc
 | []=>rfl
 | d::ds=>by rw [List.map_cons,List.map_cons,killL_d f ds];rfl
theorem idxP_v (fn:Nat) (ds:List DC) (p:Att→Bool) (l:List Att) (hl:l.length≤1000000) (hq:∀ a∈l,EV G (Tb (bsS bb)) fn [a.v,.one (.ptr 0 0)] [.box (ds.map Cel.dc)]=some (vb (p a),[.box (ds.map Cel.dc)])):
  EV G (Tb (bsS bb)) 64 [vl (l.map Att.e),.one (.fn fn [.ptr 0 0])] [.box (ds.map Cel.dc)]=some (vi (idxV p l),[.box (ds.map Cel.dc)]):=by
 refine EV_run rfl ?_
 simp (disch:=omega) only [go_sem,h64c,List.length_map,kpCs_d,idsL_d,renL_d,ctCs_d,killL_d]
 unfold idxV
 rw [EL_fst (fun k=>⟨(vl (l.map Att.e)::.one (.fn fn [.ptr 0 0])::jk 5 (vi l.length::vi k::jk 10 [])),[.box (ds.map Cel.dc)]⟩) (fun k=>p (l.getD k Att.nil)=true) l.length ?_ ?_]
 rotate_left
 ·rfl
 ·intro k hk hn
  have h3:=hn k (Nat.le_refl _)
  rw [getDA l k hk] at h3
  have h4:p l[k]=false:=by simpa using h3
  have q:=hq l[k] (List.getElem_mem hk)
  rw [h4] at q
  simp (disch:=omega) only [go_sem,h64l0,List.length_map,ixA,Att.e,q,kpCs_d,idsL_d,renL_d,ctCs_d,killL_d]
 obtain ⟨hk,hp,hn⟩:=ix_spec (fun k=>p (l.getD k Att.nil)=true) l.length
 generalize ix (fun k=>p (l.getD k Att.nil)=true) l.length=k at *
 rcases hp with rfl | ⟨hk',hp⟩
 ·rw [if_pos rfl]
  simp (disch:=omega) only [go_sem,h64l0,List.length_map,kpCs_d,idsL_d,renL_d,ctCs_d,killL_d]
 ·rw [if_neg (by omega)]
  rw [getDA l k hk'] at hp
  have q:=hq l[k] (List.getElem_mem hk')
  rw [hp] at q
  simp (disch:=omega) only [go_sem,h64l0,List.length_map,ixA,Att.e,q,kpCs_d,idsL_d,renL_d,ctCs_d,killL_d]
theorem anyP_v (fn:Nat) (ds:List DC) (p:Att→Bool) (l:List Att) (hl:l.length≤1000000) (hq:∀ a∈l,EV G (Tb (bsS bb)) fn [a.v,.one (.ptr 0 0)] [.box (ds.map Cel.dc)]=some (vb (p a),[.box (ds.map Cel.dc)])):
  EV G (Tb (bsS bb)) 130 [vl (l.map Att.e),.one (.fn fn [.ptr 0 0])] [.box (ds.map Cel.dc)]=some (vb (l.any p),[.box (ds.map Cel.dc)]):=by
 refine EV_run rfl ?_
 have q:=idxP_v (G:=G) (bb:=bb) fn ds p l hl hq
 rw [← idxV_pos]
 simp (disch:=omega) only [go_sem,h130c,q,kpCs_d,idsL_d,renL_d,ctCs_d,killL_d]
abbrev Rec.d (r:Rec):List DC:=[ci r.sq,ci r.li,ci r.fl,ci r.br,ci r.bq,ci r.nx,ci r.ls,.slc (r.ats.map Att.e)]
theorem gtF_v (r:Rec) (a:Att):EV G (Tb (bsS bb)) 65 [a.v,.one (.ptr 0 0)] [.box r.c]=some (vb (decide (r.nx≤a.id)),[.box r.c]):=by
 refine EV_run rfl ?_
 simp (disch:=omega) only [go_sem,h65c]
theorem gtI_v (r:Rec) (hl:r.ats.length≤1000000):EV G (Tb (bsS bb)) 64 [vl (r.ats.map Att.e),.one (.fn 65 [.ptr 0 0])] [.box r.c]=some (vi (gtI r),[.box r.c]):=
 idxP_v 65 r.d (fun a=>decide (r.nx≤a.id)) r.ats hl (fun a _=>gtF_v r a)
def sA:HC→HC
 | .seq a _=>a
 | c=>c
def sB:HC→HC
 | .seq _ b=>b
 | c=>c
theorem sA_s {a b:HC}:sA (.seq a b)=a:=rfl
theorem sB_s {a b:HC}:sB (.seq a b)=b:=rfl
def sT:HC→HC
 | .trm _ a=>a
 | c=>c
theorem sT_t {L:List Nat} {a:HC}:sT (.trm L a)=a:=rfl
def rnTr (L:List Nat):Option (Exit × AS)→Option AS
 | some (.normal,s)=>some (trimA L s.hp.length s)
 | _=>none
theorem rnTr_n {L:List Nat} {s:AS}:rnTr L (some (.normal,s))=some (trimA L s.hp.length s):=rfl
theorem EC_cut {call:CallT} {st st':AS} {c:HC} (hs:c=.seq (sA c) (sB c)) (h:EC call G (sA c) st=some (.normal,st')):EC call G c st=EC call G (sB c) st':=by
 rw [hs,EC_seq]
 simp only [sA_s,sB_s]
 rw [h]
 rfl
theorem EC_tcut {call:CallT} {st st':AS} {c:HC} {L:List Nat} (hs:c=.seq (sA c) (.trm L (sT (sB c)))) (h:rnTr L (EC call G (sA c) st)=some st'):EC call G c st=EC call G (sT (sB c)) st':=by
 generalize sA c=a at hs h
 generalize sT (sB c)=b at hs
 subst hs
 rw [EC_seq]
 cases e:EC call G a st with
 | none=>rw [e] at h;cases h
 | some q=>
  obtain ⟨x,s⟩:=q
  cases x with
  | normal=>
   rw [e] at h
   injection h with h
   rw [sqK_n,EC_trm,h]
  | _=>rw [e] at h;cases h
theorem sgl0 (l:List Att):((l.length:Int)=0)=(l=[]):=by
 apply propext
 rw [← List.length_eq_zero_iff]
 omega
theorem numB_k (r:Rec):rnTr [1,2] (EC (EV G (Tb (bsS bb))) G (sA (sB h13c)) ⟨(r.v::.one (.ptr 0 0)::vi 0::vi 0::jk 92 []),[.box r.c]⟩)=some ⟨(jk 1 (.one (.ptr 0 0)::jk 2 (vb (numB r)::jk 91 []))),[.box r.c]⟩:=by
 have w:=within9_v (G:=G) (bb:=bb)
 unfold numB
 by_cases c1:1≤r.sq∧r.sq≤65535
 ·rw [decide_eq_true c1]
  by_cases c2:0≤r.li∧r.li≤65535
  ·rw [decide_eq_true c2]
   by_cases c3:0≤r.fl∧r.fl≤3
   ·rw [decide_eq_true c3]
    by_cases c4:0≤r.nx∧r.nx≤65535
    ·rw [decide_eq_true c4]
     simp (disch:=omega) only [go_sem,h13c,sA_s,sB_s,rnTr_n,w,Bool.true_and]
    ·rw [decide_eq_false c4]
     simp (disch:=omega) only [go_sem,h13c,sA_s,sB_s,rnTr_n,w,Bool.true_and,Bool.false_and]
   ·rw [decide_eq_false c3]
    simp (disch:=omega) only [go_sem,h13c,sA_s,sB_s,rnTr_n,w,Bool.true_and,Bool.false_and]
  ·rw [decide_eq_false c2]
   simp (disch:=omega) only [go_sem,h13c,sA_s,sB_s,rnTr_n,w,Bool.true_and,Bool.false_and]
 ·rw [decide_eq_false c1]
  simp (disch:=omega) only [go_sem,h13c,sA_s,sB_s,rnTr_n,w,Bool.true_and,Bool.false_and]
theorem empB_k (r:Rec) (b:Bool):rnTr [1,2,0] (EC (EV G (Tb (bsS bb))) G (sA (sT (sB (sB h13c)))) ⟨(jk 1 (.one (.ptr 0 0)::jk 2 (vb b::jk 91 []))),[.box r.c]⟩)=some ⟨(jk 1 (.one (.ptr 0 0)::jk 2 (vb b::vb (empB r)::jk 90 []))),[.box r.c]⟩:=by
 unfold empB
 have hl:=sgl0 r.ats
 by_cases c1:r.fl=0
 ·rw [decide_eq_true c1]
  by_cases c2:r.ats=[]
  ·have d2:(r.ats.length:Int)=0:=hl.symm ▸ c2
   rw [decide_eq_true c2]
   by_cases c3:r.li=0
   ·rw [decide_eq_true c3]
    by_cases c4:r.br=0∧r.bq=0
    ·rw [decide_eq_true c4]
     simp (disch:=omega) only [go_sem,h13c,sA_s,sB_s,sT_t,rnTr_n,List.length_map,eq_true d2,eq_true c1,eq_true c3,eq_true c4.1,eq_true c4.2,Bool.true_and]
    ·rw [decide_eq_false c4]
     by_cases c5:r.br=0
     ·have c6:¬ r.bq=0:=fun h=>c4 ⟨c5,h⟩
      simp (disch:=omega) only [go_sem,h13c,sA_s,sB_s,sT_t,rnTr_n,List.length_map,eq_true d2,eq_true c1,eq_true c3,eq_true c5,c6,Bool.true_and,Bool.false_and]
     ·simp (disch:=omega) only [go_sem,h13c,sA_s,sB_s,sT_t,rnTr_n,List.length_map,eq_true d2,eq_true c1,eq_true c3,c5,Bool.true_and,Bool.false_and]
   ·rw [decide_eq_false c3]
    simp (disch:=omega) only [go_sem,h13c,sA_s,sB_s,sT_t,rnTr_n,List.length_map,eq_true d2,eq_true c1,c3,Bool.true_and,Bool.false_and]
  ·have d2:¬ (r.ats.length:Int)=0:=fun h=>c2 (hl ▸ h)
   rw [decide_eq_false c2]
   simp (disch:=omega) only [go_sem,h13c,sA_s,sB_s,sT_t,rnTr_n,List.length_map,d2,eq_true c1,Bool.true_and,Bool.false_and]
 ·rw [decide_eq_false c1]
  simp (disch:=omega) only [go_sem,h13c,sA_s,sB_s,sT_t,rnTr_n,c1,Bool.true_and,Bool.false_and]
set_option maxHeartbeats 4000000 in
theorem check9_v (r:Rec) (hW:r.W):EV G (Tb (bsS bb)) 13 [r.v] []=some (iiv (chkV r),[]):=by
 refine EV_run rfl ?_
 have hln:=hW.ln
 have e0:EC (EV G (Tb (bsS bb))) G h13c ⟨(r.v::jk 95 []),[]⟩=EC (EV G (Tb (bsS bb))) G (sB h13c) ⟨(r.v::.one (.ptr 0 0)::vi 0::vi 0::jk 92 []),[.box r.c]⟩:=EC_cut rfl (by simp (disch:=omega) only [go_sem,h13c,sA_s])
 have e1:=EC_tcut (c:=sB h13c) (L:=[1,2]) rfl (numB_k (G:=G) (bb:=bb) r)
 have e2:=EC_tcut (c:=sT (sB (sB h13c))) (L:=[1,2,0]) rfl (empB_k (G:=G) (bb:=bb) r (numB r))
 refine (congrArg (retZ _ _ _) (e0.trans (e1.trans e2))).trans ?_
 have u:=unless9_v (G:=G) (bb:=bb)
 have q1:=baseErr_v (G:=G) (bb:=bb) r.br r.bq
 have q2:=isUsed_v (G:=G) (bb:=bb) r
 have q3:=first9_3 (G:=G) (bb:=bb)
 have q4:=up (order_v (G:=G) (bb:=bb) r.ats hW.at' (by omega))
 have q5:=gtI_v (G:=G) (bb:=bb) r (by omega)
 have q6:=needed_v (G:=G) (bb:=bb) r.ats hW.at' (by omega)
 unfold chkV
 have h0:hdE r=firstE [un (numB r) 2,basE r.br r.bq,un (usedB r.fl||empB r) 3]:=rfl
 generalize numB r=b1 at *
 generalize empB r=b2 at *
 generalize basE r.br r.bq=z at *
 generalize gtI r=g at *
 generalize needA r.ats=m at *
 generalize ordV r.ats=o at *
 obtain ⟨o1,o2⟩:=o
 dsimp only at q4 ⊢
 by_cases c1:hdE r=0
 ·rw [if_neg (not_not_intro c1)]
  rw [c1] at h0
  by_cases c2:o2=0
  ·rw [if_neg (not_not_intro c2)]
   by_cases c3:0≤g
   ·rw [if_pos c3]
    cases hu:usedB r.fl
    all_goals rw [hu] at h0 q2
    all_goals simp only [Bool.true_or,Bool.false_or] at h0
    all_goals simp (disch:=omega) only [go_sem,h13c,sA_s,sB_s,sT_t,u,q1,q2,q3,q4,q5,q6,← h0,eq_true c2,Bool.true_or,Bool.false_or]
   ·rw [if_neg c3]
    by_cases c4:m≤440
    all_goals cases hu:usedB r.fl
    all_goals rw [hu] at h0 q2
    all_goals simp only [Bool.true_or,Bool.false_or] at h0
    all_goals simp (disch:=omega) only [go_sem,h13c,sA_s,sB_s,sT_t,u,q1,q2,q3,q4,q5,q6,← h0,eq_true c2,Bool.true_or,Bool.false_or]
  ·rw [if_pos c2]
   cases hu:usedB r.fl
   all_goals rw [hu] at h0 q2
   all_goals simp only [Bool.true_or,Bool.false_or] at h0
   all_goals simp (disch:=omega) only [go_sem,h13c,sA_s,sB_s,sT_t,u,q1,q2,q3,q4,q5,q6,← h0,c2,Bool.true_or,Bool.false_or]
 ·rw [if_pos c1]
  cases hu:usedB r.fl
  all_goals rw [hu] at h0 q2
  all_goals simp only [Bool.true_or,Bool.false_or] at h0
  all_goals simp (disch:=omega) only [go_sem,h13c,sA_s,sB_s,sT_t,u,q1,q2,q3,← h0,c1,Bool.true_or,Bool.false_or]
end
section
variable {G:Glob} {bb:Bool}
def roomV (r:Rec) (e:Int):Int × Int:=if e≠0 then (0,e) else (440 - needA r.ats,0)
theorem recordErr_v (r:Rec) (hW:r.W):EV G (Tb (bsS bb)) 68 [r.v] []=some (vi (recE r),[]):=by
 refine EV_run rfl ?_
 have q:=check9_v (G:=G) (bb:=bb) r hW
 unfold recE
 generalize chkV r=o at *
 obtain ⟨o1,o2⟩:=o
 simp (disch:=omega) only [go_sem,h68c,q]
theorem roomIn_v (r:Rec) (hW:r.W):EV G (Tb (bsS bb)) 15 [r.v] []=some (iiv (roomV r (recE r)),[]):=by
 refine EV_run rfl ?_
 have q:=recordErr_v (G:=G) (bb:=bb) r hW
 have hln:=hW.ln
 have q2:=needed_v (G:=G) (bb:=bb) r.ats hW.at' (by omega)
 have q3:=needA_rg r.ats hW.at'
 unfold roomV
 generalize recE r=e at *
 by_cases c:e=0
 ·rw [if_neg (not_not_intro c)]
  simp (disch:=omega) only [go_sem,h15c,q,q2,eq_true c]
 ·rw [if_pos c]
  simp (disch:=omega) only [go_sem,h15c,q,c]
theorem new_v (q f a b:Int):EV G (Tb (bsS bb)) 16 [vi q,vi f,rfv a b] []=some (rcv (newV q f a b),[]):=by
 have w:=within9_v (G:=G) (bb:=bb) q 1 65535
 have u:=unless9_v (G:=G) (bb:=bb)
 have q1:=baseErr_v (G:=G) (bb:=bb) a b
 have q3:=first9_2 (G:=G) (bb:=bb)
 unfold newV
 have h0:newE q f a b=firstE [un (decide (1≤q∧q≤65535)&&(decide (f=1)||decide (f=3))) 2,basE a b]:=rfl
 generalize newE q f a b=e at *
 generalize basE a b=z at *
 have fin:∀ c2:Bool,EV G (Tb (bsS bb)) 16 [vi q,vi f,rfv a b] []=some (rcv (if e≠0 then (.nil,e) else (⟨q,0,f,a,b,0,0,[]⟩,0)),[]):=fun _=>by
  refine EV_run rfl ?_
  cases c1:decide (1≤q∧q≤65535)
  all_goals rw [c1] at w h0
  all_goals by_cases c2:f=1
  all_goals by_cases c4:e=0
  all_goals first | rw [if_neg (not_not_intro c4)] | rw [if_pos c4]
  all_goals first | rw [decide_eq_true c2] at h0 | rw [decide_eq_false c2] at h0
  all_goals simp only [Bool.true_and,Bool.false_and,Bool.true_or,Bool.false_or] at h0
  ·simp (disch:=omega) only [go_sem,h16c,w,u,q1,q3,← h0,eq_true c2,eq_true c4,Rec.nil]
   rfl
  ·simp (disch:=omega) only [go_sem,h16c,w,u,q1,q3,← h0,eq_true c2,c4,Rec.nil]
   rfl
  ·by_cases c3:f=3
   all_goals simp (disch:=omega) only [go_sem,h16c,w,u,q1,q3,← h0,c2,eq_true c4,Rec.nil]
   all_goals rfl
  ·by_cases c3:f=3
   all_goals simp (disch:=omega) only [go_sem,h16c,w,u,q1,q3,← h0,c2,c4,Rec.nil]
   all_goals rfl
  ·simp (disch:=omega) only [go_sem,h16c,w,u,q1,q3,← h0,eq_true c2,eq_true c4,Rec.nil]
   rfl
  ·simp (disch:=omega) only [go_sem,h16c,w,u,q1,q3,← h0,eq_true c2,c4,Rec.nil]
   rfl
  ·by_cases c3:f=3
   ·rw [decide_eq_true c3] at h0
    simp (disch:=omega) only [go_sem,h16c,w,u,q1,q3,← h0,c2,eq_true c3,eq_true c4,Rec.nil]
    rfl
   ·rw [decide_eq_false c3] at h0
    simp (disch:=omega) only [go_sem,h16c,w,u,q1,q3,← h0,c2,c3,eq_true c4,Rec.nil]
    rfl
  ·by_cases c3:f=3
   ·rw [decide_eq_true c3] at h0
    simp (disch:=omega) only [go_sem,h16c,w,u,q1,q3,← h0,c2,eq_true c3,c4,Rec.nil]
    rfl
   ·rw [decide_eq_false c3] at h0
    simp (disch:=omega) only [go_sem,h16c,w,u,q1,q3,← h0,c2,c3,c4,Rec.nil]
    rfl
 exact fin true
theorem after_v (n:Int) (h:0≤n∧n≤65535):EV G (Tb (bsS bb)) 69 [vi n,vi 65535] []=some (vi (nxtN n),[]):=by
 refine EV_run rfl ?_
 have e:n.tmod 65535=n % 65535:=by rw [Int.tmod_eq_emod_of_nonneg h.1]
 unfold nxtN
 simp (disch:=omega) only [go_sem,h69c,e]
end
section
variable {G:Glob} {bb:Bool}
theorem sameAs_r (l:List Att) (hW:∀ a∈l,a.W) (hl:l.length≤1000):EV G (Tb (bsS bb)) 95 [vl (l.map Att.e),vl (l.map Att.e)] []=some (vb true,[]):=up (sameAs_v l hW hl)
set_option maxHeartbeats 1000000 in
theorem sameRec_v (r:Rec) (hW:r.W):EV G (Tb (bsS bb)) 39 [r.v,r.v] []=some (vb true,[]):=by
 refine EV_run rfl ?_
 have q:=sameAs_r (G:=G) (bb:=bb) r.ats hW.at' (by have:=hW.ln;omega)
 simp (disch:=omega) only [go_sem,h39c,q]
theorem freed_v (r:Rec) (hW:r.W):EV G (Tb (bsS bb)) 17 [r.v] []=some (rcv (frdV r),[]):=by
 refine EV_run rfl ?_
 have q1:=recordErr_v (G:=G) (bb:=bb) r hW
 have q2:=isUsed_v (G:=G) (bb:=bb) r
 have u:=unless9_v (G:=G) (bb:=bb)
 have q3:=first9_2 (G:=G) (bb:=bb)
 unfold frdV
 have hz:∀ e,e=recE r→(e=0→1≤r.sq∧r.sq≤65535):=fun e h1 h2=>(recE_ok (h1 ▸ h2)).num.1
 have hz1:=hz (recE r) rfl
 generalize recE r=e at *
 by_cases c:firstE [e,un (usedB r.fl) 20]=0
 ·rw [if_neg (not_not_intro c)]
  have q4:=after_v (G:=G) (bb:=bb) r.sq (by have:=hz1 (firstE2 c).1;omega)
  simp (disch:=omega) only [go_sem,h17c,q1,q2,u,q3,q4,eq_true c,frdO]
  rfl
 ·rw [if_pos c]
  simp (disch:=omega) only [go_sem,h17c,q1,q2,u,q3,c,Rec.nil]
  rfl
theorem aw9_v:EV G (Tb (bsS true)) 11 [] []=some (vb true,[]):=EV_base rfl rfl
end
section
variable {G:Glob} {bb:Bool}
abbrev Rec.c2 (r:Rec):List Cel:=[.dc (ci r.sq),.dc (ci r.li),.dc (ci r.fl),.dc (ci r.br),.dc (ci r.bq),.dc (ci r.nx),.dc (ci r.ls),.bld 2 r.ats.length]
theorem set_self {α:Type} (l:List α) (k:Nat) (h:k < l.length):l.set k l[k]=l:=List.set_getElem_self h
set_option maxHeartbeats 4000000 in
theorem copied9_v (r:Rec) (hW:r.W):EV G (Tb (bsS bb)) 74 [r.v] []=some (.agg r.c2,[.box r.c2,.box r.c2,.arr 0 11 (r.ats.map Att.e)]):=by
 refine EV_run rfl ?_
 have hl:=hW.ln
 have q:=cloneT_v (G:=G) (bb:=bb) r.ats (by omega)
 simp (disch:=omega) only [go_sem,h74c,q]
 rw [EL_loop (fun k=>⟨(jk 1 (.one (.ptr 0 0)::.one (.ptr 1 0)::jk 7 (vi r.ats.length::vi k::jk 16 []))),[.box [.dc (ci r.sq),.dc (ci r.li),.dc (ci r.fl),.dc (ci r.br),.dc (ci r.bq),.dc (ci r.nx),.dc (ci r.ls),.bld 2 r.ats.length],.box [.dc (ci 0),.dc (ci 0),.dc (ci 0),.dc (ci 0),.dc (ci 0),.dc (ci 0),.dc (ci 0),.dc (.raw (.slice none 0 0))],.arr 0 11 (r.ats.map Att.e)]⟩) r.ats.length ?_ ?_]
 ·simp (disch:=omega) only [go_sem,h74l0,List.length_map]
 ·rfl
 ·intro k hk
  have q2:=up (clone_v (G:=G) (bb:=bb) r.ats[k].rs (by have:=(hW.at' _ (List.getElem_mem hk)).rl;omega))
  have e:=ixA r.ats k hk
  have hs:(r.ats.map Att.e).set k r.ats[k].e=r.ats.map Att.e:=by
   have:=set_self (r.ats.map Att.e) k (by rw [List.length_map];exact hk)
   rwa [List.getElem_map] at this
  simp (disch:=omega) only [go_sem,h74l0,List.length_map,e,Att.e,q2]
  rw [hs]
theorem hasF_v (a b:Att) (ha:Byts a.nm) (hb:Byts b.nm):EV G (Tb (bsS bb)) 131 [b.v,.one (.ptr 0 0)] [.box a.c]=some (vb (keyB a b),[.box a.c]):=by
 refine EV_run rfl ?_
 have e:=str_inj ha hb
 unfold keyB
 by_cases c1:a.ty=b.ty
 ·by_cases c2:a.nm=b.nm
  ·rw [eq_true c2] at e
   simp (disch:=omega) only [go_sem,h131c,eq_true c1,e]
   all_goals simp [c1,c2]
  ·rw [eq_false c2] at e
   simp (disch:=omega) only [go_sem,h131c,eq_true c1,e]
   all_goals simp [c1,c2]
 ·simp (disch:=omega) only [go_sem,h131c,c1]
  all_goals simp [c1]
abbrev Att.dd (a:Att):List DC:=[ci a.ty,.raw (.string (str a.nm)),ci a.id,ci a.fl,.raw (.bool a.res),.raw (.string (str a.va)),ci a.fi,.slc (a.rs.map Run.e),ci a.al,ci a.sz,ci a.vd]
theorem has_v9 (r:Rec) (a:Att) (hW:r.W) (ha:Byts a.nm):EV G (Tb (bsS bb)) 73 [r.v,a.v] []=some (vb (hasB r a),[]):=by
 refine EV_run rfl ?_
 have hl:=hW.ln
 have q:EV G (Tb (bsS bb)) 130 [vl (r.ats.map Att.e),.one (.fn 131 [.ptr 0 0])] [.box a.c]=some (vb (r.ats.any fun b=>keyB a b),[.box a.c]):=
  anyP_v 131 a.dd (fun b=>keyB a b) r.ats (by omega) (fun b hb=>hasF_v a b ha (hW.at' b hb).nm)
 unfold hasB
 by_cases c:a.ty=48
 ·simp (disch:=omega) only [go_sem,h73c,eq_true c]
  all_goals simp [c]
 ·simp (disch:=omega) only [go_sem,h73c,c,q]
  all_goals simp [c]
end
end Go.Proofs.YtcplecjhmnblpaaGreatDoor
