/- Codes with hints are contracts. Conditions: none. -/
import Derived.Test.YtcplecjhmnblpaaGreatDoorNc
namespace Go.Proofs.YtcplecjhmnblpaaGreatDoor
set_option linter.unusedSimpArgs false
set_option linter.unusedVariables false
section
variable {P:Program} {G:Glob} {k:Nat} {st st' s:AS} {call:CallT}
theorem ghE_ok (g:GH) (s:AS):∃ s',Gh k s s'∧norm s'=ghE g (norm s):=by
 cases g with
 | nil d sz=>
  simp only [ghE,ghN]
  split
  ·rename_i hv
   refine ⟨_,Gh.nil (d:=d) sz ?_,by simp [norm,nocap]⟩
   rw [show (norm s).sl=s.sl from rfl,List.getD_eq_getElem?_getD] at hv
   cases h:s.sl[d]? with
   | none=>rw [h] at hv;cases hv
   | some x=>rw [h] at hv;simp only [Option.getD_some] at hv;rw [hv]
  ·exact ⟨s,Gh.refl,rfl⟩
 | nilB d j sz=>
  simp only [ghE,ghB]
  split
  ·rename_i id off hv
   simp only [norm,hpGet_norm]
   unfold ghB1
   split
   ·rename_i cs hb
    unfold ghB2
    split
    ·rename_i hj
     exact ⟨_,Gh.nilB sz (nocap_box hb) hj,by simp [norm,nocap,List.map_set]⟩
    ·exact ⟨s,Gh.refl,rfl⟩
   ·exact ⟨s,Gh.refl,rfl⟩
  ·exact ⟨s,Gh.refl,rfl⟩
 | frz d=>exact frzIds_ok _ s
 | bv d=>exact bvIds_ok _ s
theorem ctC_eq (m:Nat) (c:Cel):ctC m c=killC (fun id=>decide (m≤id)) c:=by
 cases c<;>simp only [ctC,killC,Cel.keep,if_true]
 case ptr j o=>by_cases h:m≤j<;>simp [h]
 case bld j n=>by_cases h:m≤j<;>simp [h]
 case ept j i s o=>by_cases h:m≤j<;>simp [h]
 case bls j i s o=>by_cases h:m≤j<;>simp [h]
theorem ctCs_eq (m:Nat):∀ cs,ctCs m cs=cs.map (killC fun id=>decide (m≤id))
 | []=>rfl
 | c::cs=>by simp [ctCs,ctC_eq,ctCs_eq m cs]
theorem ctV_eq (m:Nat) (v:AV):ctV m v=killV (fun id=>decide (m≤id)) v:=by
 cases v<;>simp only [ctV,killV,ctC_eq,ctCs_eq]
theorem ctO_eq (m:Nat) (o:AObj):ctO m o=killO (fun id=>decide (m≤id)) o:=by
 cases o<;>simp only [ctO,killO,ctCs_eq]
theorem ctH_eq (m:Nat):∀ (n:Nat) (l:List AObj),ctH m n l=(l.take n).map (killO fun id=>decide (m≤id))
 | 0,l=>by simp [ctH]
 | n+1,[]=>by simp [ctH]
 | n+1,o::os=>by simp [ctH,ctO_eq,ctH_eq m n os]
theorem ctS_le (m:Nat):∀ (l:List AV) (L:List Nat),SLe (l.map (killV fun id=>decide (m≤id))) (ctS m L l)
 | [],[]=>trivial
 | [],_::_=>trivial
 | x::xs,[]=>⟨.junk _,ctS_le m xs []⟩
 | x::xs,0::L=>⟨by rw [ctV_eq];exact .refl _,ctS_le m xs L⟩
 | x::xs,(n+1)::L=>⟨.junk _,ctS_le m xs (n::L)⟩
theorem trim_gh (L:List Nat) (m:Nat) (hk:k≤m) (s:AS):Gh k s (trimA L m s):=Gh.dropS m hk (ctS_le m s.sl L) (ctH_eq m m s.hp).symm
theorem ctO_nocap (m:Nat) (o:AObj):nocap (ctO m o)=ctO m (nocap o):=by cases o<;>rfl
theorem ctH_nocap (m:Nat):∀ (n:Nat) (l:List AObj),(ctH m n l).map nocap=ctH m n (l.map nocap)
 | 0,l=>by simp [ctH]
 | n+1,[]=>by simp [ctH]
 | n+1,o::os=>by simp [ctH,ctO_nocap,ctH_nocap m n os]
theorem trim_norm (L:List Nat) (m:Nat) (s:AS):norm (trimA L m s)=trimA L m (norm s):=by
 simp only [norm,trimA,ctH_nocap]
theorem AW.le {x:ACode} {Q:Exit→AS→Prop} (h:k≤st.hp.length→AW P G k x Q st):AW P G k x Q st:=
 fun c hc F γ a w hi hs hg hk=>h (by rw [← hi.len];exact hk) c hc F γ a w hi hs hg hk
theorem EC_ok (hcall:CallOK P G call):∀ (c:HC) (s:AS) (e:Exit) (st':AS),EC call G c (norm s)=some (e,st')→∀ k,AW P G k c.er (fun e' s'=>e'=e∧norm s'=st') s:=by
 intro c
 induction c with
 | bad=>intro s e st' h k;simp only [EC] at h;cases h
 | skip=>intro s e st' h k;simp only [EC,Option.some.injEq,Prod.mk.injEq] at h;obtain ⟨rfl,rfl⟩:=h;exact AW.skip ⟨rfl,rfl⟩
 | ret=>intro s e st' h k;simp only [EC,Option.some.injEq,Prod.mk.injEq] at h;obtain ⟨rfl,rfl⟩:=h;exact AW.ret ⟨rfl,rfl⟩
 | exit id=>intro s e st' h k;simp only [EC,Option.some.injEq,Prod.mk.injEq] at h;obtain ⟨rfl,rfl⟩:=h;exact AW.exit ⟨rfl,rfl⟩
 | region ops=>
  intro s e st' h k
  simp only [EC] at h
  obtain ⟨s1,h1,h2⟩:=nrm_some h
  injection h2 with h2 h3
  subst h2;subst h3
  exact AW.region ((evR_ok hcall ops s st' h1).mono (fun s' h=>⟨rfl,h⟩))
 | regR L ops=>
  intro s e st' h k
  simp only [EC] at h
  obtain ⟨s1,h1,h2⟩:=nrm_some h
  injection h2 with h2 h3
  subst h2;subst h3
  exact AW.region ((evRR_ok hcall ops s st' h1).mono (fun s' h=>⟨rfl,h⟩))
 | drawnT L t ops=>
  intro s e st' h k
  simp only [EC] at h
  obtain ⟨s1,h1,h2⟩:=nrm_some h
  injection h2 with h2 h3
  subst h2;subst h3
  refine AW.prm (AW.drawnT (TW.mono (fun s' ⟨p,g1,g2⟩=>?_) t s (evT_ok hcall t s _ h1)))
  exact ⟨p,by rw [norm_len] at g1;exact g1,rfl,g2⟩
 | drawnF prs ops=>
  intro s e st' h k
  simp only [EC] at h
  obtain ⟨s1,h1,h2⟩:=nrm_some h
  injection h2 with h2 h3
  subst h2;subst h3
  exact AW.le (fun hk=>drawnF_run hcall hk h1 (fun s' h=>⟨rfl,h⟩))
 | drawn ops=>
  intro s e st' h k
  simp only [EC] at h
  obtain ⟨s1,h1,h2⟩:=nrm_some h
  injection h2 with h2 h3
  subst h2;subst h3
  exact AW.drawn (AWL.mono (fun s' h=>⟨rfl,h⟩) _ _ (evDr_ok hcall ops s st' h1))
 | seq a b iha ihb=>
  intro s e st' h k
  simp only [EC] at h
  cases ha:EC call G a (norm s) with
  | none=>rw [ha] at h;cases h
  | some q=>
   obtain ⟨e1,s1⟩:=q
   rw [ha] at h
   refine AW.seq ((iha s e1 s1 ha k).mono ?_)
   rintro e' s' ⟨rfl,rfl⟩
   cases e' with
   | normal=>exact ihb s' e st' h k
   | _=>simp only [Option.some.injEq,Prod.mk.injEq] at h;obtain ⟨rfl,rfl⟩:=h;exact ⟨rfl,rfl⟩
 | cond c a b iha ihb=>
  intro s e st' h k
  simp only [EC] at h
  cases hb:asBool? (evA G (norm s).sl c) with
  | none=>rw [hb] at h;cases h
  | some t=>
   rw [hb] at h
   refine AW.cond hb (fun ht=>?_) (fun ht=>?_)
   ·subst ht;exact iha s e st' h k
   ·subst ht;exact ihb s e st' h k
 | block id a iha=>
  intro s e st' h k
  simp only [EC] at h
  cases ha:EC call G a (norm s) with
  | none=>rw [ha] at h;cases h
  | some q=>
   obtain ⟨e1,s1⟩:=q
   rw [ha] at h
   refine AW.block ((iha s e1 s1 ha k).mono ?_)
   rintro e' s' ⟨rfl,rfl⟩
   cases e' with
   | exit id'=>
    simp only [blkK,blkE] at h ⊢
    split at h
    ·rename_i heq
     simp only [Option.some.injEq,Prod.mk.injEq] at h;obtain ⟨rfl,rfl⟩:=h
     rw [if_pos heq];exact ⟨rfl,rfl⟩
    ·rename_i heq
     simp only [Option.some.injEq,Prod.mk.injEq] at h;obtain ⟨rfl,rfl⟩:=h
     rw [if_neg heq];exact ⟨rfl,rfl⟩
   | _=>simp only [blkK,blkE,Option.some.injEq,Prod.mk.injEq] at h;obtain ⟨rfl,rfl⟩:=h;exact ⟨rfl,rfl⟩
 | loop L a iha=>
  intro s e st' h k
  simp only [EC] at h
  obtain ⟨n,hn⟩:=lim_some h
  have hm:(norm s).hp.length=s.hp.length:=by simp [norm]
  rw [hm,← trim_norm] at hn
  refine AW.le (fun hk=>?_)
  refine AW.loopG (α:=Nat × AS) (fun z=>z.2) (fun z=>lpN (EC call G a) L s.hp.length z.1 (norm z.2)=some (e,st')) (fun z=>z.1) (n,trimA L s.hp.length s) hn (trim_gh L _ hk s) (fun z hz=>?_)
  obtain ⟨i,s1⟩:=z
  cases i with
  | zero=>simp [lpN] at hz
  | succ i=>
   simp only [lpN] at hz
   cases hr:EC call G a (norm s1) with
   | none=>rw [hr] at hz;cases hz
   | some q=>
    obtain ⟨e1,s2⟩:=q
    rw [hr] at hz
    refine (iha s1 e1 s2 hr k).mono ?_
    rintro e' s' ⟨rfl,rfl⟩
    cases e' with
    | normal=>
     simp only [← trim_norm] at hz
     exact RndQ.n (i,trimA L s.hp.length s') hz (Nat.lt_succ_self i) (trim_gh L _ hk s')
    | _=>simp only [Option.some.injEq,Prod.mk.injEq] at hz;obtain ⟨rfl,rfl⟩:=hz;unfold RndQ;exact ⟨rfl,rfl⟩
 | gh g a iha=>
  intro s e st' h k
  simp only [EC] at h
  obtain ⟨s',h1,h2⟩:=ghE_ok (k:=k) g s
  exact AW.ghost h1 (iha s' e st' (by rw [h2];exact h) k)
 | trm L a iha=>
  intro s e st' h k
  simp only [EC] at h
  refine AW.le (fun hk=>?_)
  exact AW.ghost (trim_gh L _ hk s) (iha _ e st' (by rw [trim_norm];simpa [norm] using h) k)
def HTOK (P:Program) (T:HT):Prop:=∀ f h,T.tab f=some h→okF P f=true∧∃ fn,P.funcs[f]?=some fn∧fn.ntmps=h.nt∧fn.body.bind (compileC P)=some h.code.er∧fn.results.toList.mapM (retOf P)=some h.rs
theorem frzIds_hlen:∀ (ids:List Nat) (st:AS),(frzIds ids st).hp.length=st.hp.length
 | [],st=>rfl
 | id::r,st=>by
  simp only [frzIds]
  split
  ·rw [frzIds_hlen r];simp
  ·exact frzIds_hlen r st
theorem nocap_take {n:Nat} {o:List AObj}:(o.take n).map nocap=(o.map nocap).take n:=List.map_take
theorem funE_ok {T:HT} (hT:HTOK P T) (hcall:CallOK P G call) {f:FuncId} {h:HF} (hf:T.tab f=some h) {args:List AV} {hp0:List AObj} {av:AV} {o':List AObj} (he:funE call G h args (hp0.map nocap)=some (av,o')):
  okF P f=true∧AC P G f args hp0 fun a o=>a=av∧o.map nocap=o':=by
 obtain ⟨ho,fn,g1,g2,g3,g4⟩:=hT f h hf
 refine ⟨ho, ?_⟩
 unfold funE at he
 cases hc:EC call G h.code ⟨args++junks (h.nt - args.length),hp0.map nocap⟩ with
 | none=>rw [hc] at he;cases he
 | some q=>
  obtain ⟨e,s1⟩:=q
  rw [hc] at he
  simp only [retZ,List.length_map] at he
  split at he
  ·rename_i hend
   cases hv:retV s1 h.rs with
   | none=>rw [hv] at he;cases he
   | some v=>
    rw [hv] at he
    simp only [retK,Option.some.injEq] at he
    have hA:AC P G f args hp0 (fun a o=>a=v∧o.map nocap=s1.hp):=by
     refine AC.of_codeJ g1 g2 g3 g4 ((EC_ok hcall h.code ⟨args++junks (h.nt - args.length),hp0⟩ e s1 hc hp0.length).mono ?_)
     rintro e' s' ⟨rfl,rfl⟩
     unfold Fin
     refine ⟨?_,by simpa [norm] using hend.2,v,by rw [← retV_norm];exact hv,rfl,rfl⟩
     cases e'<;>simp [isEnd] at hend ⊢
    unfold retW at he
    cases hown:h.own with
    | true=>
     rw [hown,cond_true] at he
     refine AC.nz ?_
     cases hkeep:(keepV (fun id=>decide (hp0.length≤id)) v&&(s1.hp.take hp0.length).all (keepO fun id=>decide (hp0.length≤id))) with
     | true=>
      rw [hkeep,cond_true] at he
      simp only [Prod.mk.injEq] at he
      obtain ⟨rfl,rfl⟩:=he
      simp only [Bool.and_eq_true] at hkeep
      refine hA.gh (fun a o ⟨q1,q2⟩ hl=>?_)
      subst q1
      refine ⟨a,o.take hp0.length, ?_,by simp only [List.length_take];omega,rfl,by rw [nocap_take,q2]⟩
      have:=Gh.drop (k:=hp0.length) (as:=⟨[a],o⟩) hp0.length (Nat.le_refl _)
      have e1:(o.take hp0.length).map (killO fun id=>decide (hp0.length≤id))=o.take hp0.length:=by
       conv=>rhs;rw [← List.map_id (o.take hp0.length)]
       refine List.map_congr_left (fun x hx=>killO_keep ?_)
       have:=List.all_eq_true.1 hkeep.2 (nocap x) (by rw [← q2,← List.map_take];exact List.mem_map.2 ⟨x,hx,rfl⟩)
       rwa [keepO_nocap] at this
      simpa [killV_keep hkeep.1,e1] using this
     | false=>
      rw [hkeep,cond_false] at he
      simp only [Prod.mk.injEq] at he
      obtain ⟨rfl,rfl⟩:=he
      exact hA.gh (fun a o ⟨q1,q2⟩ hl=>⟨a,o,Gh.refl,hl,by rw [q1],q2⟩)
    | false=>
     rw [hown,cond_false] at he
     simp only [Prod.mk.injEq] at he
     obtain ⟨rfl,rfl⟩:=he
     refine AC.nz ?_
     refine hA.gh (fun a o ⟨q1,q2⟩ hl=>?_)
     subst q1
     obtain ⟨s0,hgh0,hn0⟩:=bxW_ok (k:=hp0.length) (Nat.le_refl hp0.length) (idsV a) ⟨[a],o⟩ (blsV a)
     obtain ⟨s2,hgh2,hn⟩:=frzIds_ok (k:=hp0.length) (idsV a) s0
     have hgh:=hgh0.trans hgh2
     have hn':norm s2=frzIds (idsV a) (bxW hp0.length (idsV a) ⟨[a],s1.hp⟩ (blsV a)):=by rw [hn,hn0];simp only [norm,q2]
     have hlen:s2.sl.length=1:=by
      have:=congrArg (fun q=>q.sl.length) hn'
      simp only [norm,frzIds_len,(bxW_len _ _ _ _).1] at this
      simpa using this
     have hhl:s2.hp.length=o.length:=by
      have:=congrArg (fun q=>q.hp.length) hn'
      simp only [norm,frzIds_hlen,List.length_map,(bxW_len _ _ _ _).2] at this
      rw [this,← q2,List.length_map]
     obtain ⟨y,hy⟩:=List.length_eq_one_iff.1 hlen
     have hgd:=Gh.drop (k:=hp0.length) (as:=s2) hp0.length (Nat.le_refl _)
     have hy2:(frzIds (idsV a) (bxW hp0.length (idsV a) ⟨[a],s1.hp⟩ (blsV a))).sl.getD 0 .junk=y:=by rw [← hn'];simp [norm,hy]
     refine ⟨killV (fun id=>decide (hp0.length≤id)) y,(s2.hp.take hp0.length).map (killO fun id=>decide (hp0.length≤id)), ?_,by simp only [List.length_map,List.length_take];omega,by rw [hy2], ?_⟩
     ·have:=hgh.trans hgd
      rw [hy] at this
      simpa using this
     ·rw [← hn',map_kill,nocap_take];simp [norm]
  ·cases he
theorem callN_ok {T:HT} (hT:HTOK P T) (hB:CallOK P G T.base):∀ n,CallOK P G (callN G T n)
 | 0=>fun f args hp av o' h=>by simp [callN] at h
 | n+1=>fun f args hp av o' h hp0 hh=>by
  subst hh
  rw [callN] at h
  cases hf:T.tab f with
  | none=>rw [hf] at h;exact hB f args _ av o' h hp0 rfl
  | some x=>rw [hf] at h;exact funE_ok hT (callN_ok hT hB n) hf h
theorem EV_qc {T:HT} (hT:HTOK P T) (hB:CallOK P G T.base) {f:FuncId} {args:List AV} {r:AV} (h:EV G T f args []=some (r,[])):QC P G f args r:=by
 obtain ⟨n,hn⟩:=lim_some h
 obtain ⟨_,hA⟩:=callN_ok hT hB n f args [] r [] hn [] rfl
 exact hA.gh (fun a o ⟨h1,h2⟩ _=>⟨a,o,Gh.refl,Nat.zero_le _,h1,by simpa using h2⟩)
end
end Go.Proofs.YtcplecjhmnblpaaGreatDoor
