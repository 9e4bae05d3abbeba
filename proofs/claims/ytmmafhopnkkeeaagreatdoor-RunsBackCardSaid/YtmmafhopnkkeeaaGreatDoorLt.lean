/- An interpreter of codes over abstract states: what it answers is a contract. Conditions: none. -/
import Derived.Test.YtmmafhopnkkeeaaGreatDoorMg
namespace Go.Proofs.YtmmafhopnkkeeaaGreatDoor
set_option linter.unusedSimpArgs false
set_option linter.unusedVariables false
section
inductive ACode where
 | skip | ret
 | region (ops:List AOp)
 | drawn (ops:List (Bool × AOp))
 | drawnF (prs:List (Nat × Nat)) (ops:List AOp)
 | drawnT (t:IT) (ops:List AOp)
 | seq (a b:ACode)
 | cond (c:AArg) (a b:ACode)
 | block (id:Nat) (a:ACode)
 | loop (a:ACode)
 | exit (id:Nat)
 | bad
def isWr:AI→Bool
 | .alloc _=>true
 | .store _ _ _=>true
 | .call _ _=>true
 | .cpys _ _=>true
 | _=>false
def isPr (P:Program) (o:AOp):Bool:=match o.ai with
 | .call f _=>match P.funcs[f]? with
  | some fn=>fn.results.isEmpty
  | none=>false
 | .cpys _ _=>true
 | _=>false
def prsF (c:List (List Nat)) (ops:List AOp) (ord:List Nat):List (Nat × Nat):=
 (List.range ord.length).flatMap fun q=>(List.range q).filterMap fun p=>if (c.getD (ord.getD q 0) []).contains (ord.getD p 0)||!(isWr (ops.getD p dummyA).ai||isWr (ops.getD q dummyA).ai) then none else some (p,q)
def statF (c:List (List Nat)) (ops:List AOp) (ord:List Nat):Bool:=
 (List.range ord.length).all fun q=>(List.range q).all fun p=>(c.getD (ord.getD q 0) []).contains (ord.getD p 0)||apartO (ops.getD p dummyA) (ops.getD q dummyA)
def drawFC (opsA:Array Oper) (l:List AOp) (ord:List Nat):Option ACode:=
 if drawOKF opsA.toList l.length ord&&pairsOK (fun i j=>i != j) ord&&statF (cloL opsA.toList []) (ord.map fun i=>l.getD i dummyA) ord then
  some (.drawnF (prsF (cloL opsA.toList []) (ord.map fun i=>l.getD i dummyA) ord) (ord.map fun i=>l.getD i dummyA)) else none
def regD (opsA:Array Oper) (l:List AOp):Option (List (Bool × AOp)):=
 ((drawC (cloL opsA.toList []) opsA.toList (quietsOf (cloL opsA.toList []) l) (orderO (cloL opsA.toList []) ((quietsOf (cloL opsA.toList []) l).map (·.1)) l.length (List.range l.length))).or
  (drawC (cloL opsA.toList []) opsA.toList (quietsOf (cloL opsA.toList []) l) (orderL (cloL opsA.toList []) ((quietsOf (cloL opsA.toList []) l).map (·.1)) (l.map fun o=>lateAI o.ai) l.length (List.range l.length))))
def isTr:AI→Bool
 | .call f _=>trL.contains f
 | _=>false
def drawTC (opsA:Array Oper) (l:List AOp) (t:IT):Option ACode:=
 if drawOKT opsA.toList&&vT (cloL opsA.toList []) l opsA t (List.range l.length) [] then some (.drawnT t l) else none
def regT (opsA:Array Oper) (l:List AOp):Option ACode:=
 (mkT (cloL opsA.toList []) l opsA (l.length+1) (if trL.contains 1 then 1500 else if trL.contains 3 then 6000 else 80) (List.range l.length)).bind fun p=>drawTC opsA l p.1
def regB (P:Program) (opsA:Array Oper) (l:List AOp) (d:Bool):Option ACode:=
 if d then
  if l.any (isPr P) then (drawFC opsA l (orderO (cloL opsA.toList []) [] l.length (List.range l.length))).or ((regD opsA l).map .drawn)
  else ((regD opsA l).map .drawn).or (drawFC opsA l (orderO (cloL opsA.toList []) [] l.length (List.range l.length)))
 else some (.region l)
def isIx:AI→Bool
 | .ixL _ _ _=>true
 | _=>false
def isSt:AI→Bool
 | .store _ _ _=>true
 | _=>false
def isIa:AI→Bool
 | .ixA _ _ _ _=>true
 | _=>false
def isAp:AI→Bool
 | .app _ _ _ _ _=>true
 | _=>false
def defA (l:List AOp):AI→Bool
 | .ixL _ _ _=>true
 | .addo _ (.t m)=>l.any fun o=>o.dst==some m&&isIx o.ai
 | _=>false
def stIx (l:List AOp):AI→Bool
 | .store _ (.t n) _=>l.any fun o=>o.dst==some n&&defA l o.ai
 | _=>false
def regC (P:Program) (opsA:Array Oper) (l:List AOp) (d:Bool):Option ACode:=
 if d&&(l.any (fun o=>isTr o.ai)||(trL.contains 1&&decide (1 < (l.filter fun o=>isAp o.ai).length))||(trL.contains 2&&l.any (fun o=>isIa o.ai)&&decide (1 < (l.filter fun o=>isSt o.ai).length))||(trL.contains 0&&l.any (fun o=>isIx o.ai)&&l.any (fun o=>stIx l o.ai))) then (regT opsA l).or (regB P opsA l d) else regB P opsA l d
theorem regB_form {P:Program} {opsA:Array Oper} {l:List AOp} {d:Bool} {x:ACode} (h:regB P opsA l d=some x):(x=.region l∧d=false)∨(∃ lq lp ord,x=.drawn lp∧d=true∧lq.map (·.2)=l∧drawC (cloL opsA.toList []) opsA.toList lq ord=some lp)∨
  ∃ prs ops ord,x=.drawnF prs ops∧d=true∧drawFC opsA l ord=some x:=by
 unfold regB at h
 cases d with
 | false=>simp_all
 | true=>
  simp only [if_true] at h
  have hA:∀ {x},(regD opsA l).map ACode.drawn=some x→(x=.region l∧true=false)∨(∃ lq lp ord,x=.drawn lp∧true=true∧lq.map (·.2)=l∧drawC (cloL opsA.toList []) opsA.toList lq ord=some lp)∨
    ∃ prs ops ord,x=.drawnF prs ops∧true=true∧drawFC opsA l ord=some x:=by
   intro x h
   unfold regD at h
   obtain ⟨lp,h1,h2⟩:=Option.map_eq_some_iff.1 h
   rcases Option.or_eq_some_iff.1 h1 with h1 | ⟨_,h1⟩
   ·exact .inr (.inl ⟨_,lp,_,h2.symm,rfl,quiets_snd,h1⟩)
   ·exact .inr (.inl ⟨_,lp,_,h2.symm,rfl,quiets_snd,h1⟩)
  have hB:∀ {x ord},drawFC opsA l ord=some x→(x=.region l∧true=false)∨(∃ lq lp ord,x=.drawn lp∧true=true∧lq.map (·.2)=l∧drawC (cloL opsA.toList []) opsA.toList lq ord=some lp)∨
    ∃ prs ops ord,x=.drawnF prs ops∧true=true∧drawFC opsA l ord=some x:=by
   intro x ord h
   have h':=h
   unfold drawFC at h'
   grind
  grind[Option.or_eq_some_iff]
theorem regT_form {opsA:Array Oper} {l:List AOp} {x:ACode} (h:regT opsA l=some x):∃ t,x=.drawnT t l∧drawOKT opsA.toList=true∧vT (cloL opsA.toList []) l opsA t (List.range l.length) []=true:=by
 unfold regT at h
 obtain ⟨p,_,h⟩:=Option.bind_eq_some_iff.1 h
 unfold drawTC at h
 grind
theorem regC_form {P:Program} {opsA:Array Oper} {l:List AOp} {d:Bool} {x:ACode} (h:regC P opsA l d=some x):(x=.region l∧d=false)∨(∃ lq lp ord,x=.drawn lp∧d=true∧lq.map (·.2)=l∧drawC (cloL opsA.toList []) opsA.toList lq ord=some lp)∨
  (∃ prs ops ord,x=.drawnF prs ops∧d=true∧drawFC opsA l ord=some x)∨∃ t,x=.drawnT t l∧d=true∧drawOKT opsA.toList=true∧vT (cloL opsA.toList []) l opsA t (List.range l.length) []=true:=by
 unfold regC at h
 split at h
 ·rename_i hd
  simp only [Bool.and_eq_true] at hd
  rcases Option.or_eq_some_iff.1 h with h | ⟨_,h⟩
  ·grind[regT_form]
  ·rcases regB_form h with h | h | h
   all_goals simp_all
 ·rcases regB_form h with h | h | h
  ·grind
  ·simp_all
  simp_all
def badO:Option ACode→Option ACode
 | some x=>some x
 | none=>some .bad
theorem badO_some {o:Option ACode} {x:ACode} (h:badO o=some x) (hx:x≠.bad):o=some x:=by
 cases o with
 | none=>injection h with h;simp_all
 | some y=>exact h
def compileC (P:Program):Code→Option ACode
 | .skip=>some .skip
 | .ret=>some .ret
 | .region _ ops d=>badO ((compileOps P ops ops.toList).bind fun l=>regC P ops l d)
 | .seq a b=>(compileC P a).bind fun x=>(compileC P b).map fun y=>.seq x y
 | .cond c a b=>(compileC P a).bind fun x=>(compileC P b).map fun y=>.cond (argOf c) x y
 | .block id a=>(compileC P a).map fun x=>.block id x
 | .loop a=>(compileC P a).map fun x=>.loop x
 | .exit id=>some (.exit id)
 | _=>some .bad
def AW (P:Program) (G:Glob) (k:Nat) (ac:ACode) (Q:Exit→AS→Prop) (as:AS):Prop:=
 ∀ c,compileC P c=some ac→∀ F γ a w,Inv F γ as.hp w→Slots F γ as.sl a→GlobOK F G→k≤γ.length→
  ∀ QE:Exit→Act→World→Prop,(∀ e a' w' F' γ' as',Q e as'→Ext k F γ w F' γ' w'→Inv F' γ' as'.hp w'→Slots F' γ' as'.sl a'→k≤γ'.length→QE e a' w')→c.wp P QE a w
section
variable {P:Program} {G:Glob} {k:Nat} {Q:Exit→AS→Prop} {as as':AS} {x y:ACode}
theorem AW.ghost (h:Gh k as as') (hw:AW P G k x Q as'):AW P G k x Q as:=by
 intro c hc F γ a w hi hs hg hk QE hq
 obtain ⟨F',γ',he,hi',hs',hk'⟩:=h F γ a w hi hs hk
 exact hw c hc F' γ' a w hi' hs' (hg.sub he.sub) hk' QE (fun e a' w' F'' γ'' as'' h1 h2 h3 h4=>hq e a' w' F'' γ'' as'' h1 (he.trans h2) h3 h4)
theorem AW.mono {Q':Exit→AS→Prop} (h:AW P G k x Q as) (hq:∀ e as,Q e as→Q' e as):AW P G k x Q' as:=by
 intro c hc F γ a w hi hs hg hk QE hqe
 exact h c hc F γ a w hi hs hg hk QE (fun e a' w' F' γ' as' h1=>hqe e a' w' F' γ' as' (hq _ _ h1))
theorem AW.skip (h:Q .normal as):AW P G k .skip Q as:=by
 intro c hc F γ a w hi hs hg hk QE hq
 cases c<;>simp only [compileC] at hc<;>first | (cases hc;done) | skip
 ·grind[wp_skip,Ext.refl]
 all_goals first | (exfalso;revert hc;simp [Option.bind_eq_some_iff];done) | (exfalso;obtain ⟨l,_,hc⟩:=Option.bind_eq_some_iff.1 (badO_some hc (by simp));rcases regC_form hc with ⟨h,_⟩ | ⟨_,_,_,h,_⟩ | ⟨_,_,_,h,_⟩ | ⟨_,h,_⟩<;>cases h)
 
theorem AW.ret (h:Q .ret as):AW P G k .ret Q as:=by
 intro c hc F γ a w hi hs hg hk QE hq
 cases c<;>simp only [compileC] at hc<;>first | (simp_all) | skip
 case ret=>exact wp_ret (hq .ret a w F γ as h (Ext.refl _ _ _ _) hi hs hk)
 all_goals first | (exfalso;revert hc;simp [Option.bind_eq_some_iff];done) | (exfalso;obtain ⟨l,_,hc⟩:=Option.bind_eq_some_iff.1 (badO_some hc (by simp));rcases regC_form hc with ⟨h,_⟩ | ⟨_,_,_,h,_⟩ | ⟨_,_,_,h,_⟩ | ⟨_,h,_⟩<;>cases h)
theorem AW.exit {id:Nat} (h:Q (.exit id) as):AW P G k (.exit id) Q as:=by
 intro c hc F γ a w hi hs hg hk QE hq
 cases c<;>simp only [compileC] at hc<;>first | (cases hc;done) | skip
 case exit id'=>
  injection hc with hc;injection hc with hc;subst hc
  exact wp_exit (hq (.exit id') a w F γ as h (Ext.refl _ _ _ _) hi hs hk)
 all_goals first | (exfalso;revert hc;simp [Option.bind_eq_some_iff];done) | (exfalso;obtain ⟨l,_,hc⟩:=Option.bind_eq_some_iff.1 (badO_some hc (by simp));rcases regC_form hc with ⟨h,_⟩ | ⟨_,_,_,h,_⟩ | ⟨_,_,_,h,_⟩ | ⟨_,h,_⟩<;>cases h)
theorem AW.region {ops:List AOp} (h:WR P G k ops (Q .normal) as):AW P G k (.region ops) Q as:=by
 intro c hc F γ a w hi hs hg hk QE hq
 cases c<;>simp only [compileC] at hc<;>first | simp_all | skip
 case region id opsA d=>
  have hc:=badO_some hc (by simp)
  cases ho:compileOps P opsA opsA.toList with
  | none=>simp_all
  | some l=>
   simp only [ho,Option.bind_some] at hc
   rcases regC_form hc with ⟨h1,rfl⟩ | ⟨_,_,_,h1,_⟩ | ⟨_,_,_,h1,_⟩ | ⟨_,h1,_⟩
   ·injection h1 with h1;subst h1
    exact wp_region_list (h opsA _ ho F γ a w hi hs hg hk QE (fun a' w' F' γ' as' h1=>hq .normal a' w' F' γ' as' h1))
   all_goals simp_all
 all_goals simp_all[Option.bind_eq_some_iff,badO_some,regC_form]
theorem AW.drawn {ops:List (Bool × AOp)} (h:AWL P G k (Q .normal) ops as):AW P G k (.drawn ops) Q as:=by
 intro c hc F γ a w hi hs hg hk QE hq
 cases c<;>simp only [compileC] at hc<;>first | simp_all | skip
 case region id opsA d=>
  have hc:=badO_some hc (by simp)
  cases ho:compileOps P opsA opsA.toList with
  | none=>simp_all
  | some l=>
   simp only [ho,Option.bind_some] at hc
   rcases regC_form hc with ⟨h1,_⟩ | ⟨lq,lp,ord,h1,rfl,hl,hd⟩ | ⟨_,_,_,h1,_⟩ | ⟨_,h1,_⟩
   all_goals grind[drawn_ok]
 all_goals simp_all[Option.bind_eq_some_iff,badO_some,regC_form]
def dummyE:FE:=(dummyA,[],[])
def dsj (f g:List Nat × List Nat):Bool:=disjF f.1 (g.2++g.1)&&disjF g.1 f.2
theorem StepF.noWr {o:AOp} {st:AS} {v:AV} {u:Option (Nat × AObj)} {R:List Nat} (h:StepF P G k o st v u R) (hw:isWr o.ai=false):u=none:=by
 cases h with
 | skip h=>rfl
 | pur _ _ h hv hR=>rfl
 | call f args cargs r _ h ha hq hn=>rfl
 | lit size len z ps es h ha hf hes hlen=>rfl
 | alloc z id h ha hd hk=>rw [ha] at hw;cases hw
 | callB f args cargs id cs cs' h ha hb hac hargs hr=>rw [ha] at hw;cases hw
 | cpy x y id lo n bs cs h ha hx hy hb hle=>rw [ha] at hw;cases hw
 | store size x v id off cs vs h ha hd0 hx hv hb hsz hle=>rw [ha] at hw;cases hw
theorem RunF.noWr {K:AS→Prop}:∀ {l:List FE} {st:AS},RunF P G k K l st→∀ e∈l,isWr e.1.ai=false→e.2.1=[]
 | [],_,_,e,he,_=>by cases he
 | (o,f)::l,st,h,e,he,hw=>by
  obtain ⟨v,u,R,s,e1,e2,h⟩:=h
  rcases List.mem_cons.1 he with rfl | he
  ·rw [← e1,s.noWr hw];rfl
  ·exact RunF.noWr h e he hw
theorem AW.drawnF {prs:List (Nat × Nat)} {ops:List AOp} {L:List FE} (hL:L.map (·.1)=ops) (hp:∀ p∈prs,dsj (L.getD p.1 dummyE).2 (L.getD p.2 dummyE).2=true) (h:RunF P G k (Q .normal) L as):AW P G k (.drawnF prs ops) Q as:=by
 intro c hc F γ a w hi hs hg hk QE hq
 cases c<;>simp only [compileC] at hc<;>first | (cases hc;done) | skip
 case region id opsA d=>
  have hc:=badO_some hc (by simp)
  cases ho:compileOps P opsA opsA.toList with
  | none=>simp [ho] at hc
  | some l=>
   simp only [ho,Option.bind_some] at hc
   rcases regC_form hc with ⟨h1,_⟩ | ⟨_,_,_,h1,_⟩ | ⟨prs',ops',ord,h1,rfl,hd⟩ | ⟨_,h1,_⟩
   ·cases h1
   ·cases h1
   ·unfold drawFC at hd
    split at hd
    ·rename_i hok
     simp only [Bool.and_eq_true] at hok
     obtain ⟨⟨hok1,hnd⟩,hst⟩:=hok
     injection hd with hd
     injection hd with hd1 hd2
     have hpw0:=pairs_ok _ hnd
     have hnodup:ord.Nodup:=hpw0.imp (fun h e=>by simp [e] at h)
     have hok1':=hok1
     simp only [drawOKF,Bool.and_eq_true] at hok1'
     obtain ⟨⟨_,hall⟩,hlt⟩:=hok1'
     have hlen:L.length=ord.length:=by
      have:=congrArg List.length (hL.trans hd2.symm)
      simpa using this
     have hE1:∀ p (hp:p < ord.length),(L[p]'(by omega)).1=l.getD ord[p] dummyA:=fun p hp=>by
      have:(L.map (·.1))[p]?=(ord.map fun i=>l.getD i dummyA)[p]?:=by rw [hL,hd2]
      rw [List.getElem?_map,List.getElem?_map,List.getElem?_eq_getElem (by omega),List.getElem?_eq_getElem hp] at this
      simpa using this
     let E:Nat→FE:=fun i=>L.getD (ord.idxOf i) dummyE
     have hEp:∀ p (hp:p < ord.length),E ord[p]=L[p]'(by omega):=fun p hp=>by
      show L.getD (ord.idxOf ord[p]) dummyE=_
      rw [hnodup.idxOf_getElem p hp,List.getD_eq_getElem?_getD,List.getElem?_eq_getElem (by omega)];rfl
     have hmap:ord.map E=L:=List.ext_getElem (by simp [hlen]) (fun p h1 h2=>by
      rw [List.getElem_map];exact hEp p (by omega))
     refine drawnF_ok (E:=E) ho hok1 (fun i hil=>?_) ?_ (by rw [hmap];exact h) hi hs hg hk (fun a' w' F' γ' as' h1=>hq .normal a' w' F' γ' as' h1)
     ·have hm:i∈ord:=by
       have:=List.all_eq_true.1 hall i (by simpa using hil)
       simpa using this
      have hix:=List.idxOf_lt_length_of_mem hm
      have e1:=hEp _ hix
      have e2:=hE1 _ hix
      rw [List.getElem_idxOf hix] at e1 e2
      rw [e1,e2]
     ·rw [List.pairwise_iff_getElem]
      intro p q hp1 hq1 hpq
      have hne:ord[p]≠ord[q]:=fun e=>by
       have:=(List.pairwise_iff_getElem.1 hnodup) p q hp1 hq1 hpq
       exact this e
      refine ⟨hne, ?_⟩
      have hgp:ord.getD p 0=ord[p]:=by rw [List.getD_eq_getElem?_getD,List.getElem?_eq_getElem hp1];rfl
      have hgq:ord.getD q 0=ord[q]:=by rw [List.getD_eq_getElem?_getD,List.getElem?_eq_getElem hq1];rfl
      cases hcl:((cloL opsA.toList []).getD ord[q] []).contains ord[p] with
      | true=>exact .inl rfl
      | false=>
       right
       rw [hEp p hp1,hEp q hq1]
       have hop:∀ r (hr:r < ord.length),(ord.map fun i=>l.getD i dummyA).getD r dummyA=(L[r]'(by omega)).1:=fun r hr=>by
        rw [hE1 r hr,List.getD_eq_getElem?_getD,List.getElem?_map,List.getElem?_eq_getElem hr];rfl
       have hs1:=List.all_eq_true.1 (List.all_eq_true.1 hst q (by simpa using hq1)) p (by simpa using hpq)
       rw [hgp,hgq,hcl,Bool.false_or,hop p hp1,hop q hq1] at hs1
       by_cases hw:(isWr (L[p]'(by omega)).1.ai||isWr (L[q]'(by omega)).1.ai)=true
       ·have hmem:(p,q)∈prs:=by
         rw [← hd1]
         simp only [prsF,List.mem_flatMap,List.mem_filterMap,List.mem_range]
         refine ⟨q,hq1,p,hpq, ?_⟩
         rw [hgp,hgq,hcl,hop p hp1,hop q hq1,hw]
         rfl
        have:=hp _ hmem
        simp only [List.getD_eq_getElem?_getD] at this
        rw [List.getElem?_eq_getElem (show p < L.length by omega),List.getElem?_eq_getElem (show q < L.length by omega)] at this
        simp only [dsj,Option.getD_some,Bool.and_eq_true] at this
        simp only [cmpF,hs1,this.1,this.2,Bool.and_self]
       ·simp only [Bool.or_eq_true,not_or,Bool.not_eq_true] at hw
        have w1:=RunF.noWr h _ (List.getElem_mem (show p < L.length by omega)) hw.1
        have w2:=RunF.noWr h _ (List.getElem_mem (show q < L.length by omega)) hw.2
        simp only [cmpF,hs1,w1,w2,disjF,List.all_nil,Bool.and_self]
    ·cases hd
   ·cases h1
 all_goals first | (simp_all[Option.bind_eq_some_iff]) | (exfalso;obtain ⟨l,_,hc⟩:=Option.bind_eq_some_iff.1 (badO_some hc (by simp));rcases regC_form hc with ⟨h,_⟩ | ⟨_,_,_,h,_⟩ | ⟨_,_,_,h,_⟩ | ⟨_,h,_⟩<;>cases h)
theorem AW.drawnT {t:IT} {ops:List AOp} (h:TW P G k ops (Q .normal) t as):AW P G k (.drawnT t ops) Q as:=by
 intro c hc F γ a w hi hs hg hk QE hq
 cases c<;>simp only [compileC] at hc<;>first | simp_all | skip
 case region id opsA d=>
  have hc:=badO_some hc (by simp)
  cases ho:compileOps P opsA opsA.toList with
  | none=>simp_all
  | some l=>
   simp only [ho,Option.bind_some] at hc
   rcases regC_form hc with ⟨h1,_⟩ | ⟨_,_,_,h1,_⟩ | ⟨_,_,_,h1,_⟩ | ⟨t',h1,rfl,h2,h3⟩
   all_goals grind[drawnT_ok]
 all_goals simp_all[Option.bind_eq_some_iff,badO_some,regC_form]
theorem AW.seq (h:AW P G k x (fun e as=>match e with | .normal=>AW P G k y Q as | e=>Q e as) as):AW P G k (.seq x y) Q as:=by
 intro c hc F γ a w hi hs hg hk QE hq
 cases c<;>simp only [compileC] at hc<;>first | simp_all | skip
 case seq c1 c2=>
  cases h1:compileC P c1 with
  | none=>simp_all
  | some x'=>cases h2:compileC P c2 with
   | none=>simp_all
   | some y'=>
    simp only [h1,h2,Option.bind_some,Option.map_some,Option.some.injEq,ACode.seq.injEq] at hc
    obtain ⟨rfl,rfl⟩:=hc
    refine wp_seq (h c1 h1 F γ a w hi hs hg hk _ (fun e a' w' F' γ' as' q1 q2 q3 q4 q5=>?_))
    cases e with
    | normal=>exact q1 c2 h2 F' γ' a' w' q3 q4 (hg.sub q2.sub) q5 QE (fun e a'' w'' F'' γ'' as'' p1 p2 p3 p4=>hq e a'' w'' F'' γ'' as'' p1 (q2.trans p2) p3 p4)
    | exit id=>exact hq _ a' w' F' γ' as' q1 q2 q3 q4 q5
    | goto l=>exact hq _ a' w' F' γ' as' q1 q2 q3 q4 q5
    | ret=>exact hq _ a' w' F' γ' as' q1 q2 q3 q4 q5
    | panic ch=>exact hq _ a' w' F' γ' as' q1 q2 q3 q4 q5
    | outgrown=>exact hq _ a' w' F' γ' as' q1 q2 q3 q4 q5
 all_goals first | (exfalso;revert hc;simp [Option.bind_eq_some_iff];done) | (exfalso;obtain ⟨l,_,hc⟩:=Option.bind_eq_some_iff.1 (badO_some hc (by simp));rcases regC_form hc with ⟨h,_⟩ | ⟨_,_,_,h,_⟩ | ⟨_,_,_,h,_⟩ | ⟨_,h,_⟩<;>cases h)
theorem AW.cond {c:AArg} {b:Bool} (hb:asBool? (evA G as.sl c)=some b) (h1:b=true→AW P G k x Q as) (h2:b=false→AW P G k y Q as):AW P G k (.cond c x y) Q as:=by
 intro c' hc F γ a w hi hs hg hk QE hq
 cases c'<;>simp only [compileC] at hc<;>first | simp_all | skip
 case cond cc c1 c2=>
  cases g1:compileC P c1 with
  | none=>simp_all
  | some x'=>cases g2:compileC P c2 with
   | none=>simp_all
   | some y'=>
    simp only [g1,g2,Option.bind_some,Option.map_some,Option.some.injEq,ACode.cond.injEq] at hc
    obtain ⟨rfl,rfl,rfl⟩:=hc
    have:=rv_bool (rv_arg hs hg cc) hb
    refine wp_cond_split this (fun e=>?_) (fun e=>?_)
    ·exact h1 e c1 g1 F γ a w hi hs hg hk QE hq
    ·exact h2 e c2 g2 F γ a w hi hs hg hk QE hq
 all_goals first | (exfalso;revert hc;simp [Option.bind_eq_some_iff];done) | (exfalso;obtain ⟨l,_,hc⟩:=Option.bind_eq_some_iff.1 (badO_some hc (by simp));rcases regC_form hc with ⟨h,_⟩ | ⟨_,_,_,h,_⟩ | ⟨_,_,_,h,_⟩ | ⟨_,h,_⟩<;>cases h)
theorem AW.block {id:Nat} (h:AW P G k x (fun e as=>match e with | .exit id'=>if id'=id then Q .normal as else Q (.exit id') as | e=>Q e as) as):AW P G k (.block id x) Q as:=by
 intro c hc F γ a w hi hs hg hk QE hq
 cases c<;>simp only [compileC] at hc<;>first | simp_all | skip
 case block id' c1=>
  cases h1:compileC P c1 with
  | none=>simp_all
  | some x'=>
   simp only [h1,Option.map_some,Option.some.injEq,ACode.block.injEq] at hc
   obtain ⟨rfl,rfl⟩:=hc
   refine wp_block (h c1 h1 F γ a w hi hs hg hk _ (fun e a' w' F' γ' as' q1 q2 q3 q4 q5=>?_))
   cases e with
   | normal=>exact hq _ a' w' F' γ' as' q1 q2 q3 q4 q5
   | exit id2=>
    simp only [Exit.inBlock] at q1 ⊢
    grind
   | goto l=>exact hq _ a' w' F' γ' as' q1 q2 q3 q4 q5
   | ret=>exact hq _ a' w' F' γ' as' q1 q2 q3 q4 q5
   | panic ch=>exact hq _ a' w' F' γ' as' q1 q2 q3 q4 q5
   | outgrown=>exact hq _ a' w' F' γ' as' q1 q2 q3 q4 q5
 all_goals first | (exfalso;revert hc;simp [Option.bind_eq_some_iff];done) | (exfalso;obtain ⟨l,_,hc⟩:=Option.bind_eq_some_iff.1 (badO_some hc (by simp));rcases regC_form hc with ⟨h,_⟩ | ⟨_,_,_,h,_⟩ | ⟨_,_,_,h,_⟩ | ⟨_,h,_⟩<;>cases h)
theorem AW.loop {α:Type} (I:α→AS→Prop) (μ:α→Nat) (x0:α) (h0:I x0 as)
  (round:∀ z as,I z as→AW P G k x (fun e as'=>match e with | .normal=>∃ z',I z' as'∧μ z' < μ z | e=>Q e as') as):AW P G k (.loop x) Q as:=by
 intro c hc F γ a w hi hs hg hk QE hq
 cases c<;>simp only [compileC] at hc<;>first | simp_all | skip
 case loop c1=>
  cases h1:compileC P c1 with
  | none=>simp_all
  | some x'=>
   simp only [h1,Option.map_some,Option.some.injEq,ACode.loop.injEq] at hc
   subst hc
   have key:∀ n z as F' γ' a' w',μ z < n→I z as→Ext k F γ w F' γ' w'→Inv F' γ' as.hp w'→Slots F' γ' as.sl a'→k≤γ'.length→Code.rounds P c1 QE n a' w':=by
    intro n
    induction n with
    | zero=>omega
    | succ n ih=>
     intro z as F' γ' a' w' hn hI hE hInv hS hk'
     rw [rounds_succ]
     refine round z as hI c1 h1 F' γ' a' w' hInv hS (hg.sub hE.sub) hk' _ (fun e a'' w'' F'' γ'' as'' q1 q2 q3 q4 q5=>?_)
     cases e with
     | normal=>
      obtain ⟨z',hz1,hz2⟩:=q1
      exact ih z' as'' F'' γ'' a'' w'' (by omega) hz1 (hE.trans q2) q3 q4 q5
     | exit id=>exact hq _ a'' w'' F'' γ'' as'' q1 (hE.trans q2) q3 q4 q5
     | goto l=>exact hq _ a'' w'' F'' γ'' as'' q1 (hE.trans q2) q3 q4 q5
     | ret=>exact hq _ a'' w'' F'' γ'' as'' q1 (hE.trans q2) q3 q4 q5
     | panic ch=>exact hq _ a'' w'' F'' γ'' as'' q1 (hE.trans q2) q3 q4 q5
     | outgrown=>exact hq _ a'' w'' F'' γ'' as'' q1 (hE.trans q2) q3 q4 q5
   exact wp_loop_rounds (μ x0+1) (key _ x0 as F γ a w (Nat.lt_succ_self _) h0 (Ext.refl _ _ _ _) hi hs hk)
 all_goals first | (exfalso;revert hc;simp [Option.bind_eq_some_iff];done) | (exfalso;obtain ⟨l,_,hc⟩:=Option.bind_eq_some_iff.1 (badO_some hc (by simp));rcases regC_form hc with ⟨h,_⟩ | ⟨_,_,_,h,_⟩ | ⟨_,_,_,h,_⟩ | ⟨_,h,_⟩<;>cases h)
end
inductive RetV where
 | tmp (t:Nat)
 | cell (a:Nat) (isAgg:Bool) (size:Nat)
def retOf (P:Program):ResultVar→Option RetV
 | .tmp t=>some (.tmp t)
 | .cell a t=>(aggP P t).bind fun g=>(sizeP P t).map fun s=>.cell a g (if g then s else 1)
def retOne (as:AS):RetV→Option AV
 | .tmp t=>some (as.sl.getD t .junk)
 | .cell a g s=>loadV as.hp g s (as.sl.getD a .junk)
def toTV:AV→Option TV
 | .one c=>some (.one c)
 | .agg cs=>some (.agg cs)
 | _=>none
def retV (as:AS):List RetV→Option AV
 | [r]=>retOne as r
 | rs=>(rs.mapM fun r=>(retOne as r).bind toTV).map .tup
section
variable {P:Program} {G:Glob} {as:AS} {F:Fz} {γ:List OI} {w:World} {a:Act}
theorem retOne_ok (hi:Inv F γ as.hp w) (hs:Slots F γ as.sl a) {rv:ResultVar} {r:RetV} {av:AV} (hr:retOf P rv=some r) (h:retOne as r=some av):
  ∃ v,(match rv with | .tmp t=>pure (a.tmps.getD t undef) | .cell c t=>do loadVar t (← asAddr (a.tmps.getD c undef)):Sem Value).run P w=.ok v w∧RV F γ av v:=by
 have ra:=fun t=>rv_arg (G:=fun _=>none) hs ⟨(fun g cs h=>by cases h),(fun g cs h=>by cases h)⟩ (.tmp t)
 cases rv with
 | tmp t=>
  simp only [retOf,Option.some.injEq] at hr
  subst hr
  simp only [retOne,Option.some.injEq] at h
  subst h
  exact ⟨_,rfl,ra t⟩
 | cell c t=>
  simp only [retOf] at hr
  cases h1:aggP P t with
  | none=>simp_all
  | some g=>cases h2:sizeP P t with
   | none=>simp_all
   | some s=>
    simp only [h1,h2,Option.bind_some,Option.map_some,Option.some.injEq] at hr
    subst hr
    have hx:=ra c
    obtain ⟨y,hy,hv⟩:=load_ok (P:=P) h hi hx h1 h2 rfl
    obtain ⟨cs,_,_,⟨b,off,vs,hxe,_,_,_⟩⟩:=loadV_mem h hi hx
    grind[undef,Act.eval,loadVar,asAddr,Instr.loadAt,Instr.sureAddr]
theorem retAll_ok (hi:Inv F γ as.hp w) (hs:Slots F γ as.sl a):∀ (rvs:List ResultVar) (rs:List RetV) (l:List TV),rvs.mapM (retOf P)=some rs→(rs.mapM fun r=>(retOne as r).bind toTV)=some l→
  ∃ vs:List Value,(rvs.mapM fun rv=>(match rv with | .tmp t=>pure (a.tmps.getD t undef) | .cell c t=>do loadVar t (← asAddr (a.tmps.getD c undef)):Sem Value)).run P w=.ok vs w∧vs.length=l.length∧
   ∀ (i:Nat) t v,l[i]?=some t→vs[i]?=some v→RT F γ t v
 | [],rs,l,h1,h2=>by
  simp_all
 | rv::rvs,rs,l,h1,h2=>by
  rw [List.mapM_cons] at h1
  cases hr:retOf P rv with
  | none=>simp_all
  | some r=>
   rw [hr] at h1
   cases hrs:rvs.mapM (retOf P) with
   | none=>simp_all
   | some rs'=>
    rw [hrs] at h1
    have e1:r::rs'=rs:=by grind
    subst e1
    rw [List.mapM_cons] at h2
    cases ho:(retOne as r).bind toTV with
    | none=>simp_all
    | some t=>
     rw [ho] at h2
     cases hl:(rs'.mapM fun r=>(retOne as r).bind toTV) with
     | none=>simp_all
     | some l'=>
      rw [hl] at h2
      have e2:t::l'=l:=by grind
      subst e2
      obtain ⟨vs,hv1,hv2,hv3⟩:=retAll_ok hi hs rvs rs' l' hrs hl
      cases ho1:retOne as r with
      | none=>simp_all
      | some av=>
       rw [ho1] at ho
       obtain ⟨v,hv,hrv⟩:=retOne_ok hi hs hr ho1
       refine ⟨v::vs, ?_,by simp [hv2],fun i t' v' h3 h4=>?_⟩
       ·simp_all
       ·cases i with
        | zero=>
         simp at h3 h4;subst h3;subst h4
         cases av with
         | one c=>simp [toTV] at ho;subst ho;cases hrv with | one _ _ h=>exact .one _ _ h
         | agg cs=>simp [toTV] at ho;subst ho;cases hrv with | agg _ vs h h'=>exact .agg _ _ h h'
         | tup _=>grind[toTV]
         | junk=>grind[toTV]
        | succ i=>grind
theorem results_ok {fn:Func} {rs:List RetV} {av:AV} (hi:Inv F γ as.hp w) (hs:Slots F γ as.sl a) (hr:fn.results.toList.mapM (retOf P)=some rs) (h:retV as rs=some av):
  ∃ v,(results fn a.tmps).run P w=.ok v w∧RV F γ av v:=by
 have hmap:(results fn a.tmps)=(do
   let vs ← List.toArray <$> fn.results.toList.mapM fun rv=>(match rv with | .tmp t=>pure (a.tmps.getD t undef) | .cell c t=>do loadVar t (← asAddr (a.tmps.getD c undef)):Sem Value)
   pure (if h:vs.size=1 then vs[0] else .tuple vs)):=by
  unfold results
  rw [Array.mapM_eq_mapM_toList]
  rfl
 rw [hmap]
 by_cases h1:∃ r,rs=[r]
 ·obtain ⟨r,rfl⟩:=h1
  simp only [retV] at h
  have:∃ rv,fn.results.toList=[rv]∧retOf P rv=some r:=by
   cases hl:fn.results.toList with
   | nil=>simp_all
   | cons rv t=>
    rw [hl,List.mapM_cons] at hr
    cases hq:retOf P rv with
    | none=>simp_all
    | some r0=>
     rw [hq] at hr
     cases hq2:t.mapM (retOf P) with
     | none=>simp_all
     | some rs0=>
      rw [hq2] at hr
      have e:r0::rs0=[r]:=by grind
      injection e with e1 e2
      subst e1;subst e2
      cases t with
      | nil=>simp_all
      | cons t1 t2=>
       rw [List.mapM_cons] at hq2
       cases hq3:retOf P t1 with
       | none=>simp_all
       | some z=>
        rw [hq3] at hq2
        cases hq4:t2.mapM (retOf P) with
        | none=>simp_all
        | some z2=>simp_all
  obtain ⟨rv,hl,hrv⟩:=this
  obtain ⟨v,hv,hvv⟩:=retOne_ok hi hs hrv h
  simp_all
 ·have h':(rs.mapM fun r=>(retOne as r).bind toTV).map AV.tup=some av:=by
   cases rs with
   | nil=>exact h
   | cons r t=>cases t with
    | nil=>simp_all
    | cons r2 t2=>exact h
  cases hl:(rs.mapM fun r=>(retOne as r).bind toTV) with
  | none=>simp_all
  | some l=>
   rw [hl] at h'
   injection h' with h'
   subst h'
   obtain ⟨vs,hv1,hv2,hv3⟩:=retAll_ok hi hs fn.results.toList rs l hr hl
   refine ⟨.tuple vs.toArray, ?_,.tup _ _ (by omega) (fun i t v h1 h2=>hv3 i t v h1 (by simp_all))⟩
   simp only [Sem.run_bind,Sem.run_map,hv1,Result.andThen_ok,Sem.run_pure]
   have hne:¬ vs.toArray.size=1:=by
    intro e
    have hll:l.length=rs.length:=by
     clear hv3 hv2 hv1 h h1 hr
     have:∀ (rs:List RetV) (l:List TV),(rs.mapM fun r=>(retOne as r).bind toTV)=some l→l.length=rs.length:=by
      intro rs
      induction rs with
      | nil=>simp_all
      | cons r rs ih=>
       intro l h
       rw [List.mapM_cons] at h
       cases ho:(retOne as r).bind toTV with
       | none=>simp_all
       | some t=>rw [ho] at h;cases hl:(rs.mapM fun r=>(retOne as r).bind toTV) with
        | none=>simp_all
        | some l'=>rw [hl] at h;injection h with h;grind
     grind
    have:rs.length=1:=by simp_all
    match rs,this with
    | [r],_=>simp_all
   simp_all
theorem AC.of_body {f:FuncId} {fn:Func} {c:Code} {n:Nat} {rs:List RetV} {ac:ACode} {args:List AV} {objs:List AObj} {Q:AV→List AObj→Prop} (hf:P.funcs[f]?=some fn) (hb:fn.body=some c) (hn:fn.ntmps=n)
  (hr:fn.results.toList.mapM (retOf P)=some rs) (hc:compileC P c=some ac)
  (h:AW P G objs.length ac (fun e as=>(e=.normal∨e=.ret)∧objs.length≤as.hp.length∧∃ av,retV as rs=some av∧Q av as.hp) ⟨args++List.replicate (n - args.length) .junk,objs⟩):AC P G f args objs Q:=by
 intro F γ vs w hi hg hv
 refine calls_of_wp hf hb ?_
 have hs:Slots F γ (args++List.replicate (n - args.length) .junk) { tmps:=vs++Array.replicate (fn.ntmps - vs.size) undef,defers:=[] }:=by
  refine ⟨rfl,by simp [hn,hv.1],fun i av v h1 h2=>?_⟩
  by_cases hil:i < args.length
  ·rw [List.getElem?_append_left hil] at h1
   simp only at h2
   rw [Array.getElem?_append_left (by rw [hv.1];exact hil)] at h2
   exact hv.2 i av v h1 h2
  ·rw [List.getElem?_append_right (by omega)] at h1
   have:=List.mem_of_getElem? h1
   rw [List.mem_replicate] at this
   rw [this.2]
   exact .junk _
 refine h c hc F γ _ w hi hs hg (by rw [hi.len];omega) _ (fun e a' w' F' γ' as' hq hE hI hS hk=>?_)
 obtain ⟨he,hlen,av,hrv,hQ⟩:=hq
 obtain ⟨v,hv1,hv2⟩:=results_ok hI hS hr hrv
 rcases he with rfl | rfl
 ·exact ⟨hS.1,v,hv1,v,av,as'.hp,F',γ',rfl,hQ,hlen,hE,hI,hv2⟩
 ·exact ⟨hS.1,v,hv1,v,av,as'.hp,F',γ',rfl,hQ,hlen,hE,hI,hv2⟩
end
section
variable {P:Program} {G:Glob} {k:Nat} {as as':AS}
theorem Gh.refl:Gh k as as:=fun F γ _ w hi hs hk=>⟨F,γ,Ext.refl _ _ _ _,hi,hs,hk⟩
theorem Gh.trans {as'':AS} (h:Gh k as as') (h':Gh k as' as''):Gh k as as'':=by
 intro F γ a w hi hs hk
 obtain ⟨F1,γ1,e1,i1,s1,k1⟩:=h F γ a w hi hs hk
 obtain ⟨F2,γ2,e2,i2,s2,k2⟩:=h' F1 γ1 a w i1 s1 k1
 exact ⟨F2,γ2,e1.trans e2,i2,s2,k2⟩
inductive CLe:Cel→Cel→Prop where
 | refl (c:Cel):CLe c c
 | junk (c:Cel):CLe c .junk
 | nil:CLe (rawC (.slice none 0 0)) (.dc (.slc []))
theorem CLe.ok {F:Fz} {γ:List OI} {c d:Cel} {v:Value} (h:CLe c d) (hc:RC F γ c v):RC F γ d v:=by
 cases h with
 | refl=>exact hc
 | junk=>exact .junk _ hc.is1
 | nil=>cases hc with | dc _ _ h=>cases h;exact .dc _ _ (.nil _ _)
def CsLe (cs ds:List Cel):Prop:=cs.length=ds.length∧∀ (i:Nat) c d,cs[i]?=some c→ds[i]?=some d→CLe c d
inductive VLe:AV→AV→Prop where
 | refl (v:AV):VLe v v
 | junk (v:AV):VLe v .junk
 | one {c d:Cel} (h:CLe c d):VLe (.one c) (.one d)
 | agg {cs ds:List Cel} (h:CsLe cs ds):VLe (.agg cs) (.agg ds)
theorem CsLe.ok {F:Fz} {γ:List OI} {cs ds:List Cel} (h:CsLe cs ds) {vs:Array Value} (hr:∀ (i:Nat) c v,cs[i]?=some c→vs[i]?=some v→RC F γ c v):∀ (i:Nat) c v,ds[i]?=some c→vs[i]?=some v→RC F γ c v:=by
 intro i d v hd hv
 have hlt:i < cs.length:=by rw [h.1];grind
 exact (h.2 i _ d (List.getElem?_eq_getElem hlt) hd).ok (hr i _ v (List.getElem?_eq_getElem hlt) hv)
theorem VLe.ok {F:Fz} {γ:List OI} {x y:AV} {v:Value} (h:VLe x y) (hx:RV F γ x v):RV F γ y v:=by
 cases h with
 | refl=>exact hx
 | junk=>exact .junk _
 | one h=>cases hx with | one _ _ hc=>exact .one _ _ (h.ok hc)
 | agg h=>cases hx with | agg _ vs hs hr=>exact .agg _ _ (by rw [hs,h.1]) (h.ok hr)
def SLe:List AV→List AV→Prop
 | [],[]=>True
 | x::xs,y::ys=>VLe x y∧SLe xs ys
 | _,_=>False
theorem SLe.get:∀ {xs ys:List AV},SLe xs ys→xs.length=ys.length∧∀ (i:Nat) y,ys[i]?=some y→∃ x,xs[i]?=some x∧VLe x y
 | [],[],_=>⟨rfl,fun i y h=>by simp at h⟩
 | x::xs,y::ys,h=>by
  obtain ⟨h1,h2⟩:=SLe.get h.2
  refine ⟨by simp [h1],fun i z hz=>?_⟩
  cases i with
  | zero=>simp at hz;subst hz;exact ⟨x,rfl,h.1⟩
  | succ i=>simp_all
 | [],_::_,h=>h.elim
 | _::_,[],h=>h.elim
theorem Slots.le {F:Fz} {γ:List OI} {xs ys:List AV} {a:Act} (h:SLe xs ys) (hs:Slots F γ xs a):Slots F γ ys a:=by
 obtain ⟨h1,h2⟩:=h.get
 refine ⟨hs.1,by rw [hs.2.1,h1],fun i y v hy hv=>?_⟩
 obtain ⟨x,hx,hle⟩:=h2 i y hy
 exact hle.ok (hs.2.2 i x v hx hv)
theorem Gh.slots {ys:List AV} (h:SLe as.sl ys):Gh k as ⟨ys,as.hp⟩:=fun F γ _ w hi hs hk=>⟨F,γ,Ext.refl _ _ _ _,hi,Slots.le h hs,hk⟩
theorem Gh.drop (n:Nat) (hkn:k≤n):Gh k as ⟨as.sl.map (killV fun id=>decide (n≤id)),(as.hp.take n).map (killO fun id=>decide (n≤id))⟩:=by
 intro F γ a w hi hs hk
 have hg:∀ (id:Nat) (o:OI),decide (n≤id)=false→γ[id]?=some o→(γ.take n)[id]?=some o:=by
  simp_all
 have hb:∀ i b,blkAt (γ.take n) i=some b→blkAt γ i=some b:=by
  grind[blkAt_some,blkAt_of]
 refine ⟨F,γ.take n,⟨fun _ _ h=>h,rfl,rfl,rfl,Nat.le_refl _,fun _ _ _=>rfl,fun _ _ h=>.inl h,fun i b h=>.inl ⟨i,hb i b h⟩,fun i hik b h=>?_⟩,⟨hi.fz,by simp [hi.len],fun i j b h1 h2=>hi.nd i j b (hb i b h1) (hb j b h2),fun i b h=>hi.disj i b (hb i b h), ?_⟩,hs.kill (fun _ _ h=>h) hg,by grind⟩
 ·grind
 ·intro i o x h1 h2
  rw [List.getElem?_take] at h2
  split at h2
  ·rename_i hin
   rw [List.getElem?_map,List.getElem?_take,if_pos hin] at h1
   cases ho:as.hp[i]? with
   | none=>simp_all
   | some o0=>
    simp only [ho,Option.map_some,Option.some.injEq] at h1;subst h1
    exact (hi.ok i o0 x ho h2).kill (fun _ _ h=>h) hg (fun _ _=>rfl)
  grind
def frzC (id:Nat) (es:List (List DC)):Cel→Cel
 | .bld j n=>if j=id∧n≤es.length then .dc (.slc (es.take n)) else .bld j n
 | c=>c
def frzT (id:Nat) (es:List (List DC)):TV→TV
 | .one c=>.one (frzC id es c)
 | .agg cs=>.agg (cs.map (frzC id es))
def frzV (id:Nat) (es:List (List DC)):AV→AV
 | .one c=>.one (frzC id es c)
 | .agg cs=>.agg (cs.map (frzC id es))
 | .tup l=>.tup (l.map (frzT id es))
 | .junk=>.junk
def frzO (id:Nat) (es:List (List DC)):AObj→AObj
 | .box cs=>.box (cs.map (frzC id es))
 | o=>o
theorem Gh.nil {d:Nat} (size:Nat) (h:as.sl[d]?=some (rawV (.slice none 0 0))):Gh k as ⟨as.sl.set d (.one (.bld as.hp.length 0)),as.hp++[.arr 0 size []]⟩:=by
 intro F γ a w hi hs hk
 have hext:∀ (id:Nat) (o:OI),γ[id]?=some o→(γ++[OI.arr none 0])[id]?=some o:=fun _ _ h=>get_append_left h
 have hb:∀ i b,blkAt (γ++[OI.arr none 0]) i=some b→blkAt γ i=some b:=by
  intro i b h
  obtain ⟨y,hy,hyb⟩:=blkAt_some h
  rcases append_one hy with h1 | ⟨_,rfl⟩
  all_goals grind[blkAt_of,OI.blk]
 have hlt:d < as.sl.length:=lt_of_get h
 have hlt2:d < a.tmps.size:=hs.2.1 ▸ hlt
 have hv:a.tmps[d]?=some (a.tmps[d]'hlt2):=Array.getElem?_eq_getElem hlt2
 have hval:=rv_raw (hs.2.2 d _ _ h hv)
 refine ⟨F,γ++[OI.arr none 0],⟨fun _ _ h=>h,rfl,rfl,rfl,Nat.le_refl _,fun _ _ _=>rfl,fun _ _ h=>.inl h,fun i b h=>.inl ⟨i,hb i b h⟩,fun i _ b h=>hext _ _ h⟩,
  ⟨hi.fz,by simp [hi.len],fun i j b h1 h2=>hi.nd i j b (hb i b h1) (hb j b h2),fun i b h=>hi.disj i b (hb i b h), ?_⟩, ?_,by grind⟩
 ·intro i o x h1 h2
  rcases append_one h2 with h3 | ⟨h3,rfl⟩
  ·have hl:i < as.hp.length:=by rw [← hi.len];grind
   rw [List.getElem?_append_left hl] at h1
   exact (hi.ok i o x h1 h3).ext (fun _ _ h=>h) hext (fun _ _=>rfl)
  ·rw [h3,hi.len] at h1
   simp at h1
   subst h1
   exact ⟨rfl,rfl,rfl⟩
 ·have hs':=hs.ext (F':=F) (fun _ _ h=>h) hext
  refine ⟨hs.1,by simpa using hs.2.1,fun i av v h1 h2=>?_⟩
  by_cases hdi:d=i
  ·subst hdi
   rw [List.getElem?_set_self hlt] at h1
   injection h1 with h1;subst h1
   rw [hv,hval] at h2
   injection h2 with h2;subst h2
   exact .one _ _ (.bldN _ 0 (by rw [← hi.len];simp))
  ·rw [List.getElem?_set_ne hdi] at h1
   exact hs'.2.2 i av v h1 h2
theorem Gh.dead (n:Nat):Gh k as ⟨as.sl,as.hp++List.replicate n .dead⟩:=by
 intro F γ a w hi hs hk
 have hext:∀ (id:Nat) (o:OI),γ[id]?=some o→(γ++List.replicate n OI.dead)[id]?=some o:=fun _ _ h=>get_append_left h
 have hb:∀ i b,blkAt (γ++List.replicate n OI.dead) i=some b→blkAt γ i=some b:=by
  intro i b h
  obtain ⟨y,hy,hyb⟩:=blkAt_some h
  rcases Nat.lt_or_ge i γ.length with hl | hl
  ·grind[List.getElem?_append_left,blkAt_of]
  ·rw [List.getElem?_append_right hl,List.getElem?_replicate] at hy
   split at hy
   ·injection hy with hy;subst hy;cases hyb
   grind
 refine ⟨F,γ++List.replicate n .dead,⟨fun _ _ h=>h,rfl,rfl,rfl,Nat.le_refl _,fun _ _ _=>rfl,fun _ _ h=>.inl h,fun i b h=>.inl ⟨i,hb i b h⟩,fun i hi b h=>hext i _ h⟩,⟨hi.fz,by simp [hi.len],fun i j b h1 h2=>hi.nd i j b (hb i b h1) (hb j b h2),fun i b h=>hi.disj i b (hb i b h),fun i ob x h1 h2=>?_⟩,hs.ext (fun _ _ h=>h) hext,by grind⟩
 rcases Nat.lt_or_ge i γ.length with hl | hl
 ·rw [List.getElem?_append_left hl] at h2
  rw [List.getElem?_append_left (by rw [← hi.len];exact hl)] at h1
  exact (hi.ok i ob x h1 h2).ext (fun _ _ h=>h) hext (fun _ _=>rfl)
 ·rw [List.getElem?_append_right hl,List.getElem?_replicate] at h2
  rw [List.getElem?_append_right (by rw [← hi.len];exact hl),List.getElem?_replicate] at h1
  split at h1
  ·split at h2
   ·injection h1 with h1;injection h2 with h2;subst h1;subst h2;trivial
   grind
  grind
end
end
section
section
variable {k:Nat} {as:AS} {F:Fz} {γ:List OI} {w:World}
def Fz.add (F:Fz) (w:World) (b:Nat):Fz:=fun b'=>if b'=b then w.heap[b]? else F b'
theorem frz_ok {F':Fz} {γ':List OI} {id cap size:Nat} {es:List (List DC)} (hi:Inv F γ as.hp w) (hb:hpGet as.hp id=.arr cap size es) (hs:F.sub F') (hg:∀ (i:Nat) (o:OI),(i==id)=false→γ[i]?=some o→γ'[i]?=some o)
  (hF:∀ b c,γ[id]?=some (.arr (some b) c)→F' b=w.heap[b]?) {c:Cel} {v:Value} (h:RC F γ c v):RC F' γ' (killC (·==id) (frzC id es c)) v:=by
 by_cases hc:∃ n,c=.bld id n∧n≤es.length
 ·obtain ⟨n,rfl,hn⟩:=hc
  have e1:frzC id es (.bld id n)=.dc (.slc (es.take n)):=by simp [frzC,hn]
  rw [e1]
  have e2:killC (·==id) (.dc (.slc (es.take n)))=.dc (.slc (es.take n)):=by simp [killC,Cel.keep]
  rw [e2]
  refine .dc _ _ ?_
  cases h with
  | bldN _ c hgm=>simp;exact .nil _ _
  | bld _ _ b c hgm=>
   obtain ⟨hcc,hec,hes,vs,T,⟨fz,hh,hnf⟩,hvs,hr⟩:=hi.arr hb hgm
   have hlen:(es.take n).length=n:=by simp;omega
   have hget:∀ (i:Nat) e,(es.take n)[i]?=some e→es[i]?=some e:=by
    intro i e h
    rw [List.getElem?_take] at h
    split at h
    ·exact h
    ·cases h
   have key:∀ (i j:Nat) e d,es[i]?=some e→e[j]?=some d→∃ u,vs[i * size+j]?=some u:=by
    intro i j e d h1 h2
    have hj:j < size:=by have:=lt_of_get h2;have:=hes _ (List.mem_of_getElem? h1);omega
    have:=mul_lt_cap (lt_of_get h1) hec hj
    exact ⟨_,Array.getElem?_eq_getElem (by omega)⟩
   have:=RD.slc (F:=F') b 0 c size (es.take n) (fun i j=>vs.toList.getD (i * size+j) undef) (fun e he=>hes e (List.mem_of_mem_take he)) (fun i j e d h1 h2=>by
     obtain ⟨u,hu⟩:=key i j e d (hget i e h1) h2
     simp only [List.getD_eq_getElem?_getD,Array.getElem?_toList,hu,Option.getD_some]
     exact (hr i j e d u (hget i e h1) h2 hu).mono hs) (fun i j e d h1 h2=>by
     obtain ⟨u,hu⟩:=key i j e d (hget i e h1) h2
     simp only [List.getD_eq_getElem?_getD,Array.getElem?_toList,hu,Option.getD_some,Fz.cell?,Nat.zero_add]
     rw [hF b c hgm,hh]
     simpa using hu) (by rw [hlen];omega)
   rwa [hlen] at this
 ·have e1:frzC id es c=c:=by
   cases c<;>try rfl
   rename_i j n
   simp only [frzC]
   split
   ·rename_i hcond
    obtain ⟨rfl,hn⟩:=hcond
    exact absurd ⟨n,rfl,hn⟩ hc
   ·rfl
  rw [e1]
  exact h.kill hs hg
theorem Gh.freeze {id cap size:Nat} {es:List (List DC)} (hb:hpGet as.hp id=.arr cap size es):
  Gh k as ⟨as.sl.map fun v=>killV (·==id) (frzV id es v),(as.hp.map fun o=>killO (·==id) (frzO id es o)).set id .dead⟩:=by
 intro F γ a w hi hs hk
 have hho:=hpGet_some hb (by simp)
 have hlt:id < γ.length:=by rw [hi.len];exact lt_of_get hho
 have hx:γ[id]?=some (γ[id]'hlt):=List.getElem?_eq_getElem hlt
 generalize hxe:γ[id]'hlt=x at hx
 have hok:=hi.ok id _ _ hho hx
 let F':Fz:=match x.blk with | some b=>F.add w b | none=>F
 have hFb:∀ b,x.blk=some b→F' b=w.heap[b]?:=by intro b hb';simp [F',hb',Fz.add]
 have hFo:∀ b',x.blk≠some b'→F' b'=F b':=by
  intro b' hne
  cases hxb:x.blk with
  | none=>simp [F',hxb]
  | some b=>simp only [F',hxb,Fz.add];rw [if_neg (fun e=>hne (by rw [hxb,e]))]
 have hsub:F.sub F':=by
  intro b o h
  rw [hFo b (fun e=>by rw [hi.disj id b (blkAt_of hx e)] at h;cases h)];exact h
 have hg:∀ (i:Nat) (o:OI),(i==id)=false→γ[i]?=some o→(γ.set id .dead)[i]?=some o:=fun i o h1 h2=>get_set_other h2 h1
 have hF2:∀ b c,γ[id]?=some (.arr (some b) c)→F' b=w.heap[b]?:=fun b c h=>hFb b (by rw [hx] at h;injection h with h;rw [h];rfl)
 have hb:∀ i b,blkAt (γ.set id .dead) i=some b→i≠id∧blkAt γ i=some b:=by
  intro i b h
  obtain ⟨y,hy,hyb⟩:=blkAt_some h
  by_cases hii:id=i
  ·subst hii
   rw [List.getElem?_set_self hlt] at hy
   injection hy with hy;subst hy
   simp [OI.blk] at hyb
  ·rw [List.getElem?_set_ne hii] at hy
   exact ⟨Ne.symm hii,blkAt_of hy hyb⟩
 have frz:=fun {c:Cel} {v:Value} (h:RC F γ c v)=>frz_ok (F':=F') (γ':=γ.set id .dead) hi ‹hpGet as.hp id=_› hsub hg hF2 h
 have frzs:∀ {cs:List Cel} {vs:Array Value},(∀ (i:Nat) c v,cs[i]?=some c→vs[i]?=some v→RC F γ c v)→∀ (i:Nat) c v,((cs.map (frzC id es)).map (killC (·==id)))[i]?=some c→vs[i]?=some v→RC F' (γ.set id .dead) c v:=by
  intro cs vs h i c v hc hv
  rw [List.map_map,List.getElem?_map] at hc
  cases hci:cs[i]? with
  | none=>simp [hci] at hc
  | some c0=>
   simp only [hci,Option.map_some,Option.some.injEq,Function.comp] at hc;subst hc
   exact frz (h i c0 v hci hv)
 refine ⟨F',γ.set id .dead,⟨hsub,rfl,rfl,rfl,Nat.le_refl _,fun _ _ _=>rfl,fun b o h=>?_,fun i b h=>.inl ⟨i,(hb i b h).2⟩,fun i _ b h=>?_⟩,
  ⟨fun b o h=>?_,by simp [hi.len],fun i j b h1 h2=>hi.nd i j b (hb i b h1).2 (hb j b h2).2,fun i b h=>?_,fun i o y h1 h2=>?_⟩, ?_,by simpa using hk⟩
 ·by_cases hxb:x.blk=some b
  ·exact .inr (.inr ⟨id,blkAt_of hx hxb⟩)
  ·rw [hFo b hxb] at h;exact .inl h
 ·by_cases hii:id=i
  ·subst hii
   rw [hx] at h
   injection h with h
   subst h
   exact hok.elim
  ·rw [List.getElem?_set_ne hii];exact h
 ·by_cases hxb:x.blk=some b
  ·rw [hFb b hxb] at h;exact h
  ·rw [hFo b hxb] at h;exact hi.fz b o h
 ·obtain ⟨hne,hbb⟩:=hb i b h
  rw [hFo b (fun e=>hne (hi.nd _ _ _ hbb (blkAt_of hx e)))]
  exact hi.disj i b hbb
 ·by_cases hii:id=i
  ·subst hii
   rw [List.getElem?_set_self hlt] at h2
   rw [List.getElem?_set_self (by rw [List.length_map,← hi.len];exact hlt)] at h1
   injection h1 with h1;injection h2 with h2;subst h1;subst h2
   trivial
  ·rw [List.getElem?_set_ne hii] at h1 h2
   rw [List.getElem?_map] at h1
   cases ho:as.hp[i]? with
   | none=>simp [ho] at h1
   | some o0=>
    simp only [ho,Option.map_some,Option.some.injEq] at h1;subst h1
    have h3:=hi.ok i o0 y ho h2
    cases o0 with
    | box cs=>
     cases y with
     | box b=>
      obtain ⟨vs,T,g1,g2,g3⟩:=h3
      exact ⟨vs,T,g1,by simpa [frzO] using g2,frzs g3⟩
     | arr _ _=>exact h3.elim
     | dead=>exact h3.elim
    | arr c2 s2 es2=>
     have:=h3.kill (p:=(·==id)) (F':=F') (γ':=γ.set id .dead) (w':=w) hsub hg (fun _ _=>rfl)
     exact this
    | dead=>
     have:=h3.kill (p:=(·==id)) (F':=F') (γ':=γ.set id .dead) (w':=w) hsub hg (fun _ _=>rfl)
     exact this
 ·refine ⟨hs.1,by simpa using hs.2.1,fun i av v h1 h2=>?_⟩
  rw [List.getElem?_map] at h1
  cases hsi:as.sl[i]? with
  | none=>simp [hsi] at h1
  | some av0=>
   simp only [hsi,Option.map_some,Option.some.injEq] at h1;subst h1
   have h3:=hs.2.2 i av0 v hsi h2
   cases h3 with
   | one c v h=>exact .one _ _ (frz h)
   | agg cs vs hsz h=>exact .agg _ _ (by simpa [frzV] using hsz) (frzs h)
   | tup l vs hsz h=>
    refine .tup _ _ (by simpa [frzV] using hsz) (fun i t v h1 h2=>?_)
    rw [List.map_map,List.getElem?_map] at h1
    obtain ⟨t0,h4,rfl⟩:=Option.map_eq_some_iff.1 h1
    cases h i t0 v h4 h2 with
    | one c v h=>exact .one _ _ (frz h)
    | agg cs vs hsz h=>exact .agg _ _ (by simpa [frzT] using hsz) (frzs h)
   | junk v=>exact .junk v
end
end
section
section
variable {P:Program} {G:Glob} {k:Nat} {st st':AS} {x y:ACode}
theorem AC.of_code {f:FuncId} {fn:Func} {n:Nat} {rs:List RetV} {ac:ACode} {args:List AV} {objs:List AObj} {Q:AV→List AObj→Prop} (hf:P.funcs[f]?=some fn) (hn:fn.ntmps=n)
  (hc:fn.body.bind (compileC P)=some ac) (hr:fn.results.toList.mapM (retOf P)=some rs)
  (h:AW P G objs.length ac (fun e s=>(e=.normal∨e=.ret)∧objs.length≤s.hp.length∧∃ av,retV s rs=some av∧Q av s.hp) ⟨args++List.replicate (n - args.length) .junk,objs⟩):AC P G f args objs Q:=by
 cases hb:fn.body with
 | none=>rw [hb] at hc;cases hc
 | some c=>rw [hb] at hc;exact AC.of_body hf hb hn hr hc h
def Fin (k:Nat) (rs:List RetV) (Q:AV→List AObj→Prop) (e:Exit) (s:AS):Prop:=
 (e=.normal∨e=.ret)∧k≤s.hp.length∧∃ av,retV s rs=some av∧Q av s.hp
theorem AC.of_codeF {f:FuncId} {fn:Func} {n:Nat} {rs:List RetV} {ac:ACode} {args:List AV} {objs:List AObj} {Q:AV→List AObj→Prop} (hf:P.funcs[f]?=some fn) (hn:fn.ntmps=n)
  (hc:fn.body.bind (compileC P)=some ac) (hr:fn.results.toList.mapM (retOf P)=some rs)
  (h:AW P G objs.length ac (Fin objs.length rs Q) ⟨args++List.replicate (n - args.length) .junk,objs⟩):AC P G f args objs Q:=AC.of_code hf hn hc hr h
theorem Fin.ret {rs:List RetV} {Q:AV→List AObj→Prop} {s:AS} {av:AV} (h1:k≤s.hp.length) (h2:retV s rs=some av) (h3:Q av s.hp):Fin k rs Q .ret s:=⟨.inr rfl,h1,av,h2,h3⟩
theorem Fin.normal {rs:List RetV} {Q:AV→List AObj→Prop} {s:AS} {av:AV} (h1:k≤s.hp.length) (h2:retV s rs=some av) (h3:Q av s.hp):Fin k rs Q .normal s:=⟨.inl rfl,h1,av,h2,h3⟩
def SeqQ (P:Program) (G:Glob) (k:Nat) (y:ACode) (Q:Exit→AS→Prop):Exit→AS→Prop:=fun e s=>match e with | .normal=>AW P G k y Q s | e=>Q e s
def BlkQ (id:Nat) (Q:Exit→AS→Prop):Exit→AS→Prop:=fun e s=>match e with | .exit id'=>if id'=id then Q .normal s else Q (.exit id') s | e=>Q e s
def RndQ (k:Nat) {α:Type} (H:α→AS) (I:α→Prop) (μ:α→Nat) (n:Nat) (Q:Exit→AS→Prop):Exit→AS→Prop:=fun e s=>match e with | .normal=>∃ z',I z'∧μ z' < n∧Gh k s (H z') | e=>Q e s
variable {Q:Exit→AS→Prop}
theorem SeqQ.n (h:AW P G k y Q st):SeqQ P G k y Q .normal st:=h
theorem SeqQ.r (h:Q .ret st):SeqQ P G k y Q .ret st:=h
theorem SeqQ.e {id:Nat} (h:Q (.exit id) st):SeqQ P G k y Q (.exit id) st:=h
theorem BlkQ.n {id:Nat} (h:Q .normal st):BlkQ id Q .normal st:=h
theorem BlkQ.r {id:Nat} (h:Q .ret st):BlkQ id Q .ret st:=h
theorem BlkQ.e {id:Nat} (h:Q .normal st):BlkQ id Q (.exit id) st:=by show (if id=id then _ else _);rw [if_pos rfl];exact h
theorem BlkQ.o {id id':Nat} (hne:¬ id'=id) (h:Q (.exit id') st):BlkQ id Q (.exit id') st:=by show (if id'=id then _ else _);rw [if_neg hne];exact h
theorem RndQ.n {α:Type} {H:α→AS} {I:α→Prop} {μ:α→Nat} {n:Nat} (z:α) (h1:I z) (h2:μ z < n) (h3:Gh k st (H z)):RndQ k H I μ n Q .normal st:=⟨z,h1,h2,h3⟩
theorem RndQ.r {α:Type} {H:α→AS} {I:α→Prop} {μ:α→Nat} {n:Nat} (h:Q .ret st):RndQ k H I μ n Q .ret st:=h
theorem RndQ.e {α:Type} {H:α→AS} {I:α→Prop} {μ:α→Nat} {n id:Nat} (h:Q (.exit id) st):RndQ k H I μ n Q (.exit id) st:=h
theorem AW.loopG {α:Type} (H:α→AS) (I:α→Prop) (μ:α→Nat) (x0:α) (hI:I x0) (h0:Gh k st (H x0)) (round:∀ z,I z→AW P G k x (RndQ k H I μ (μ z) Q) (H z)):AW P G k (.loop x) Q st:=by
 refine AW.loop (fun z s=>I z∧Gh k s (H z)) μ x0 ⟨hI,h0⟩ (fun z s hz=>?_)
 refine AW.ghost hz.2 ((round z hz.1).mono (fun e s' h=>?_))
 cases e with
 | normal=>obtain ⟨z',h1,h2,h3⟩:=h;exact ⟨z',⟨h1,h3⟩,h2⟩
 | exit id=>exact h
 | goto l=>exact h
 | ret=>exact h
 | panic c=>exact h
 | outgrown=>exact h
theorem WR.split {o:AOp} {rest:List AOp} {R:AS→Prop} {g:Nat} {b c:Bool} (_:o.guard=some (g,b)) (_:asBool? (evA G st.sl (.t g))=some c)
  (h1:c=true→WR P G k (o::rest) R st) (h2:c=false→WR P G k (o::rest) R st):WR P G k (o::rest) R st:=by
 cases c with
 | true=>exact h1 rfl
 | false=>exact h2 rfl
theorem Gh.dropS (n:Nat) (hkn:k≤n) {ys:List AV} {hs:List AObj} (h1:SLe (st.sl.map (killV fun id=>decide (n≤id))) ys) (h2:(st.hp.take n).map (killO fun id=>decide (n≤id))=hs):Gh k st ⟨ys,hs⟩:=by
 subst h2
 exact Gh.trans (Gh.drop n hkn) (Gh.slots h1)
end
abbrev vi (n:Int):AV:=.one (.dc (.raw (.int .i64 n)))
abbrev vb (b:Bool):AV:=.one (.dc (.raw (.bool b)))
abbrev ci (n:Int):DC:=.raw (.int .i64 n)
abbrev vl (es:List (List DC)):AV:=.one (.dc (.slc es))
theorem wrap64 {n:Int} (h:-9223372036854775808≤n∧n≤9223372036854775807):IntKind.i64.wrap n=n:=by
 have e1:(2 ^ IntKind.i64.bits:Int)=18446744073709551616:=by decide
 have e2:(2 ^ (IntKind.i64.bits - 1):Int)=9223372036854775808:=by decide
 unfold IntKind.wrap
 simp only [e1,e2,IntKind.signed,Bool.true_and,decide_eq_true_eq]
 split<;>omega
section
variable {P:Program} {G:Glob} {k:Nat} {st st':AS} {R:AS→Prop} {o:AOp} {rest:List AOp}
theorem WR.allocE {zero:List Value} (hgd:gOK G st o.guard) (ha:o.ai=.alloc zero) (hs:(⟨putS st.sl o.dst (.one (.ptr st.hp.length 0)),st.hp++[.box (zero.map rawC)]⟩:AS)=st') (h:WR P G k rest R st'):WR P G k (o::rest) R st:=
 WR.alloc hgd ha (hs ▸ h)
theorem WR.boxE {x:AArg} {cs:List Cel} (hgd:gOK G st o.guard) (ha:o.ai=.box x) (hx:cellsOf (evA G st.sl x)=some cs) (hs:(⟨putS st.sl o.dst (.one (.ptr st.hp.length 0)),st.hp++[.box cs]⟩:AS)=st') (h:WR P G k rest R st'):WR P G k (o::rest) R st:=
 WR.box hgd ha hx (hs ▸ h)
theorem WR.storeX {size id off:Nat} {x v:AArg} {cs vs:List Cel} (hgd:gOK G st o.guard) (ha:o.ai=.store size x v) (hd0:o.dst=none)
  (hx:evA G st.sl x=.one (.ptr id off)) (hv:cellsOf (evA G st.sl v)=some vs) (hb:hpGet st.hp id=.box cs) (hsz:vs.length=size) (hle:off+size≤cs.length)
  (hs:(⟨st.sl,st.hp.set id (.box (putAt cs off vs))⟩:AS)=st') (h:WR P G k rest R st'):WR P G k (o::rest) R st:=WR.store hgd ha hd0 hx hv hb hsz hle (hs ▸ h)
theorem WR.bslcE {size len:Nat} {zero:List Value} {parts:List (Nat × AArg)} {es:List (List DC)} (hgd:gOK G st o.guard) (ha:o.ai=.bslc size len zero parts)
  (hf:fillV ((List.range (len * size)).map fun i=>rawC (zero.getD (i % zero.length) undef)) (parts.map fun (j,x)=>(j * size,size,evA G st.sl x))=some (dcC es.flatten))
  (hes:∀ e∈es,e.length=size) (hlen:es.length=len) (hs:(⟨putS st.sl o.dst (.one (.bld st.hp.length len)),st.hp++[.arr len size es]⟩:AS)=st')
  (h:WR P G k rest R st'):WR P G k (o::rest) R st:=WR.bslc hgd ha hf hes hlen (hs ▸ h)
end
def pureD:AI→Bool
 | .alloc _=>false
 | .box _=>false
 | .store _ _ _=>false
 | .bslc _ _ _ _=>false
 | .call _ _=>false
 | .callv _ _=>false
 | .app _ _ _ _ _=>false
 | .apps _ _=>false
 | .mk _ _ _ _ _=>false
 | .clr _ _ _=>false
 | .cpys _ _=>false
 | .cvsb _=>false
 | .slL _ _ _ _=>false
 | _=>true
theorem pureD_pure {ai:AI} (h:pureD ai=true):ai.isPure=true:=by
 cases ai<;>first | rfl | (simp [pureD] at h;done)
theorem pureD_qhp {ai:AI} (h:pureD ai=true) {hp:List AObj}:qhp ai hp=hp:=by
 cases ai<;>first | rfl | (simp [pureD] at h;done)
def runD (G:Glob):List (Bool × AOp)→AS→Option (List (Bool × AOp) × AS)
 | [],st=>some ([],st)
 | (b,o)::l,st=>if b=true∧o.guard=none∧pureD o.ai=true then (evP G st o.ai).bind fun v=>runD G l ⟨putS st.sl o.dst v,st.hp⟩ else some ((b,o)::l,st)
def runDG (G:Glob) (g:Nat) (c:Bool):List (Bool × AOp)→AS→Option (List (Bool × AOp) × AS)
 | [],st=>some ([],st)
 | (b,o)::l,st=>if b=true∧o.guard=some (g,c)∧pureD o.ai=true∧o.dst≠some g then (evP G st o.ai).bind fun v=>runDG G g c l ⟨putS st.sl o.dst v,st.hp⟩ else some ((b,o)::l,st)
def skipDG (g:Nat) (c:Bool):List (Bool × AOp)→AS→List (Bool × AOp) × AS
 | [],st=>([],st)
 | (b,o)::l,st=>if o.guard=some (g,c)∧o.dst≠some g then skipDG g c l ⟨putS st.sl o.dst (.tup []),st.hp⟩ else ((b,o)::l,st)
section
variable {P:Program} {G:Glob} {k:Nat} {st st':AS} {R:AS→Prop} {o:AOp} {rest ops:List (Bool × AOp)} {Q:Exit→AS→Prop}
theorem WD.nil (h:R st):AWL P G k R [] st:=h
theorem WD.skip {b:Bool} (hg:gNo G st o.guard) (h:AWL P G k R rest ⟨putS st.sl o.dst (.tup []),st.hp⟩):AWL P G k R ((b,o)::rest) st:=by
 cases b with
 | true=>exact ⟨.tup [],.inl ⟨hg,rfl⟩,h⟩
 | false=>exact .inl ⟨hg,h⟩
theorem WD.run:∀ (ops:List (Bool × AOp)) (st:AS) (rest:List (Bool × AOp)) (st':AS),runD G ops st=some (rest,st')→AWL P G k R rest st'→AWL P G k R ops st
 | [],st,rest,st',h,hw=>by simp [runD] at h;obtain ⟨rfl,rfl⟩:=h;exact hw
 | (b,o)::ops,st,rest,st',h,hw=>by
  simp only [runD] at h
  split at h
  ·rename_i hc
   obtain ⟨rfl,hg,hpu⟩:=hc
   cases he:evP G st o.ai with
   | none=>simp [he] at h
   | some v=>
    simp only [he,Option.bind_some] at h
    exact ⟨v,.inr ⟨by rw [hg];trivial,.inl (by rw [pureD_qhp hpu];exact he)⟩,WD.run ops _ rest st' h hw⟩
  ·injection h with h;injection h with h1 h2;subst h1;subst h2;exact hw
theorem WD.runG {g:Nat} {c:Bool}:∀ (ops:List (Bool × AOp)) (st:AS) (rest:List (Bool × AOp)) (st':AS),asBool? (evA G st.sl (.t g))=some c→runDG G g c ops st=some (rest,st')→AWL P G k R rest st'→AWL P G k R ops st
 | [],st,rest,st',hb,h,hw=>by simp [runDG] at h;obtain ⟨rfl,rfl⟩:=h;exact hw
 | (b,o)::ops,st,rest,st',hb,h,hw=>by
  simp only [runDG] at h
  split at h
  ·rename_i hc
   obtain ⟨rfl,hg,hpu,hd⟩:=hc
   cases he:evP G st o.ai with
   | none=>simp [he] at h
   | some v=>
    simp only [he,Option.bind_some] at h
    exact ⟨v,.inr ⟨by rw [hg];exact hb,.inl (by rw [pureD_qhp hpu];exact he)⟩,WD.runG ops _ rest st' (by rw [evA_put hd];exact hb) h hw⟩
  ·injection h with h;injection h with h1 h2;subst h1;subst h2;exact hw
theorem WD.skipG {g:Nat} {c:Bool}:∀ (ops:List (Bool × AOp)) (st:AS) (rest:List (Bool × AOp)) (st':AS),gNo G st (some (g,c))→skipDG g c ops st=(rest,st')→AWL P G k R rest st'→AWL P G k R ops st
 | [],st,rest,st',hb,h,hw=>by simp [skipDG] at h;obtain ⟨rfl,rfl⟩:=h;exact hw
 | (b,o)::ops,st,rest,st',hb,h,hw=>by
  simp only [skipDG] at h
  split at h
  ·rename_i hc
   exact WD.skip (by rw [hc.1];exact hb) (WD.skipG ops _ rest st' (by simp only [gNo];rw [evA_put hc.2];exact hb) h hw)
  ·injection h with h1 h2;subst h1;subst h2;exact hw
theorem WD.split {g:Nat} {b c d:Bool} (_:o.guard=some (g,b)) (_:asBool? (evA G st.sl (.t g))=some c)
  (h1:c=true→AWL P G k R ((d,o)::rest) st) (h2:c=false→AWL P G k R ((d,o)::rest) st):AWL P G k R ((d,o)::rest) st:=by
 cases c with
 | true=>exact h1 rfl
 | false=>exact h2 rfl
theorem WD.allocE {zero:List Value} (hgd:gOK G st o.guard) (ha:o.ai=.alloc zero) (hs:(⟨putS st.sl o.dst (.one (.ptr st.hp.length 0)),st.hp++[.box (zero.map rawC)]⟩:AS)=st') (h:AWL P G k R rest st'):AWL P G k R ((false,o)::rest) st:=by
 subst hs;exact .inr ⟨hgd,by rw [ha];exact h⟩
theorem WD.boxE {x:AArg} {cs:List Cel} (hgd:gOK G st o.guard) (ha:o.ai=.box x) (hx:cellsOf (evA G st.sl x)=some cs) (hs:(⟨putS st.sl o.dst (.one (.ptr st.hp.length 0)),st.hp++[.box cs]⟩:AS)=st') (h:AWL P G k R rest st'):AWL P G k R ((false,o)::rest) st:=by
 subst hs;exact .inr ⟨hgd,by rw [ha];exact ⟨cs,hx,h⟩⟩
theorem WD.storeX {size id off:Nat} {x v:AArg} {cs vs:List Cel} (hgd:gOK G st o.guard) (ha:o.ai=.store size x v) (hd0:o.dst=none)
  (hx:evA G st.sl x=.one (.ptr id off)) (hv:cellsOf (evA G st.sl v)=some vs) (hb:hpGet st.hp id=.box cs) (hsz:vs.length=size) (hle:off+size≤cs.length)
  (hs:(⟨st.sl,st.hp.set id (.box (putAt cs off vs))⟩:AS)=st') (h:AWL P G k R rest st'):AWL P G k R ((false,o)::rest) st:=by
 subst hs;exact .inr ⟨hgd,by rw [ha];exact ⟨hd0,.inl ⟨id,off,cs,vs,hx,hv,hb,hsz,hle,h⟩⟩⟩
theorem WD.bslcE {size len:Nat} {zero:List Value} {parts:List (Nat × AArg)} {es:List (List DC)} (hgd:gOK G st o.guard) (ha:o.ai=.bslc size len zero parts)
  (hf:fillV ((List.range (len * size)).map fun i=>rawC (zero.getD (i % zero.length) undef)) (parts.map fun (j,x)=>(j * size,size,evA G st.sl x))=some (dcC es.flatten))
  (hes:∀ e∈es,e.length=size) (hlen:es.length=len) (hs:(⟨putS st.sl o.dst (.one (.bld st.hp.length len)),st.hp++[.arr len size es]⟩:AS)=st')
  (h:AWL P G k R rest st'):AWL P G k R ((false,o)::rest) st:=by
 subst hs;exact .inr ⟨hgd,by rw [ha];exact .inl ⟨es,hf,hes,hlen,h⟩⟩
theorem WD.app {size bytes id n cap:Nat} {zero:List Value} {s x:AArg} {es news:List (List DC)} (hgd:gOK G st o.guard) (ha:o.ai=.app size bytes zero s x)
  (hs0:evA G st.sl s=.one (.bld id n)) (hb:hpGet st.hp id=.arr cap size es) (hn:n≤es.length) (hsrc:srcV st.hp (evA G st.sl x)=some news) (hns:∀ e∈news,e.length=size)
  (hub:(n+news.length) * bytes≤140737488355328)
  (h:∀ cap',n+news.length≤cap'→AWL P G k R rest ⟨putS (st.sl.map (killV (·==id))) o.dst (.one (.bld id (n+news.length))),(st.hp.map (killO (·==id))).set id (.arr cap' size (es.take n++news))⟩):
  AWL P G k R ((false,o)::rest) st:=.inr ⟨hgd,by rw [ha];exact .inr ⟨id,n,cap,es,news,hs0,hb,hn,hsrc,hns,hub,h⟩⟩
theorem WD.appNil {size bytes:Nat} {zero:List Value} {s x:AArg} {news:List (List DC)} (hgd:gOK G st o.guard) (ha:o.ai=.app size bytes zero s x)
  (hs0:evA G st.sl s=rawV (.slice none 0 0)) (hsrc:srcV st.hp (evA G st.sl x)=some news) (hns:∀ e∈news,e.length=size) (hub:news.length * bytes≤140737488355328)
  (h:∀ cap',news.length≤cap'→AWL P G k R rest ⟨putS st.sl o.dst (.one (.bld st.hp.length news.length)),st.hp.map (killO (·==st.hp.length))++[.arr cap' size news]⟩):
  AWL P G k R ((false,o)::rest) st:=.inr ⟨hgd,by rw [ha];exact .inl ⟨hs0,news,hsrc,hns,hub,h⟩⟩
theorem WD.any (hgd:gOK G st o.guard) (hai:match o.ai with | .callv _ _=>True | _=>False) (h:WR P G k [⟨o.dst,o.ai,none⟩] (AWL P G k R rest) st):AWL P G k R ((false,o)::rest) st:=by
 refine .inr ⟨hgd, ?_⟩
 obtain ⟨d,ai,gd⟩:=o
 cases ai with
 | callv x xs=>exact h
 | _=>cases hai
end
attribute [irreducible] Fin SeqQ BlkQ RndQ
attribute [go_sem] runP runG skipG AI.isPure evP evA avOf rawV rawC vi vb ci vl putS asRaw asInt? asBool? asStr? cellsOf pack binbV eqsV eqCs eqR addoV hpGet loadV fldV ixAV ixLV ixSV bound slSV slLV slAV lenLV fillV extV minV maxV nilcV mpxV mpGet mpR cvbsV bytesC oneOf List.set_cons_succ List.set_cons_zero List.getD_cons_succ List.getD_cons_zero Option.bind_some Option.map_some List.length_cons List.length_nil List.take_succ_cons List.take_zero List.drop_succ_cons List.drop_zero List.getElem?_cons_succ List.getElem?_cons_zero List.map_cons List.map_nil List.getElem?_map List.length_map Nat.zero_add Nat.add_zero decide_eq_true_eq Int.natCast_nonneg true_and and_true renV renT renC renL renO jmap killV killC killT killO Cel.keep keepL List.append_nil List.nil_append List.cons_append Int.toNat_natCast if_true
end
section
def nocap:AObj→AObj
 | .arr _ s es=>.arr 0 s es
 | o=>o
def norm (s:AS):AS:=⟨s.sl,s.hp.map nocap⟩
mutual
def idsC:Cel→List Nat
 | .ptr id _=>[id]
 | .bld id _=>[id]
 | .ept id _ _ _=>[id]
 | .bls id _ _ _=>[id]
 | .fn _ caps=>idsL caps
 | _=>[]
def idsL:List Cel→List Nat
 | []=>[]
 | c::cs=>idsC c++idsL cs
end
def idsT:TV→List Nat
 | .one c=>idsC c
 | .agg cs=>idsL cs
def idsV:AV→List Nat
 | .one c=>idsC c
 | .agg cs=>idsL cs
 | .tup l=>l.flatMap idsT
 | .junk=>[]
def idsO:AObj→List Nat
 | .box cs=>idsL cs
 | _=>[]
def keepT (p:Nat→Bool):TV→Bool
 | .one c=>c.keep p
 | .agg cs=>keepL p cs
def keepV (p:Nat→Bool):AV→Bool
 | .one c=>c.keep p
 | .agg cs=>keepL p cs
 | .tup l=>l.all (keepT p)
 | .junk=>true
def keepO (p:Nat→Bool):AObj→Bool
 | .box cs=>keepL p cs
 | _=>true
def toDCs:List Cel→Option (List DC)
 | []=>some []
 | .dc d::r=>(toDCs r).map (d::·)
 | _=>none
def chunks (size:Nat):Nat→List DC→List (List DC)
 | 0,_=>[]
 | n+1,l=>l.take size::chunks size n (l.drop size)
def idxN:List Nat→Nat→Nat
 | [],_=>0
 | j::J,x=>if x=j then 0 else idxN J x+1
def reach (hp:List AObj):Nat→List Nat→List Nat→List Nat
 | 0,_,J=>J
 | _+1,[],J=>J
 | n+1,id::todo,J=>if J.contains id then reach hp n todo J else reach hp n (idsO (hpGet hp id)++todo) (J++[id])
def frzIds:List Nat→AS→AS
 | [],st=>st
 | id::r,st=>match hpGet st.hp id with
  | .arr _ _ es=>frzIds r ⟨st.sl.map fun v=>killV (·==id) (frzV id es v),(st.hp.map fun o=>killO (·==id) (frzO id es o)).set id .dead⟩
  | _=>frzIds r st
def bldsOf:AV→List Nat
 | .one (.bld id _)=>[id]
 | _=>[]
abbrev CallT:=FuncId→List AV→List AObj→Option (AV × List AObj)
def outJ (J:List Nat) (id:Nat):Bool:=!J.contains id
def okJ (J:List Nat) (hp:List AObj) (avs:List AV):Bool:=
 pairsOK (fun i j=>i != j) J&&J.all (fun j=>decide (j < hp.length)&&keepO (outJ J) (hpGet hp j))&&avs.all (keepV (outJ J))
def evCall (call:CallT) (dst:Option Nat) (f:FuncId) (avs:List AV) (st:AS):Option AS:=
 let J:=reach st.hp 2000 (avs.flatMap idsV) []
 if okJ J st.hp avs then (call f (avs.map (renV (idxN J))) (J.map fun j=>renO (idxN J) (hpGet st.hp j))).map fun r=>afterC J st dst r.1 r.2 else none
def evApp (dst:Option Nat) (size bytes:Nat) (s x:AV) (st:AS):Option AS:=
 match s with
 | .one (.bld id n)=>
  match hpGet st.hp id with
  | .arr _ sz es=>
   (srcV st.hp x).bind fun news=>
    if sz=size∧n≤es.length∧(news.all fun e=>decide (e.length=size))=true∧(n+news.length) * bytes≤140737488355328 then
     some ⟨putS (st.sl.map (killV (·==id))) dst (.one (.bld id (n+news.length))),(st.hp.map (killO (·==id))).set id (.arr 0 size (es.take n++news))⟩
    else none
  | _=>none
 | .one (.dc (.raw (.slice none 0 0)))=>
  (srcV st.hp x).bind fun news=>
   if (news.all fun e=>decide (e.length=size))=true∧news.length * bytes≤140737488355328 then
    some ⟨putS st.sl dst (.one (.bld st.hp.length news.length)),st.hp.map (killO (·==st.hp.length))++[.arr 0 size news]⟩
   else none
 | _=>none
def evStore (size:Nat) (x:AV) (vs:List Cel) (st:AS):Option AS:=
 match x with
 | .one (.ptr id off)=>
  match hpGet st.hp id with
  | .box cs=>if vs.length=size∧off+size≤cs.length then some ⟨st.sl,st.hp.set id (.box (putAt cs off vs))⟩ else none
  | _=>none
 | .one (.ept id i s off)=>
  match hpGet st.hp id with
  | .arr _ s' es=>
   (toDCs vs).bind fun ds=>(es[i]?).bind fun e=>if s'=s∧ds.length=size∧off+size≤e.length then some ⟨st.sl,st.hp.set id (.arr 0 s (es.set i (e.take off++ds++e.drop (off+size))))⟩ else none
  | _=>none
 | _=>none
def evI (G:Glob) (dst:Option Nat) (ai:AI) (st:AS):Option AS:=
 match ai with
 | .alloc z=>some ⟨putS st.sl dst (.one (.ptr st.hp.length 0)),st.hp++[.box (z.map rawC)]⟩
 | .box x=>(cellsOf (evA G st.sl x)).map fun cs=>⟨putS st.sl dst (.one (.ptr st.hp.length 0)),st.hp++[.box cs]⟩
 | .store size x v=>if dst=none then (cellsOf (evA G st.sl v)).bind fun vs=>evStore size (evA G st.sl x) vs st else none
 | .bslc size len zero parts=>
  (fillV ((List.range (len * size)).map fun i=>rawC (zero.getD (i % zero.length) undef)) (parts.map fun (j,x)=>(j * size,size,evA G st.sl x))).bind fun cells=>
   (toDCs cells).bind fun ds=>if ds.length=len * size then some ⟨putS st.sl dst (.one (.bld st.hp.length len)),st.hp++[.arr 0 size (chunks size len ds)]⟩ else none
 | .app size bytes _ s x=>evApp dst size bytes (evA G st.sl s) (evA G st.sl x) st
 | _=>none
def evOp (call:CallT) (G:Glob) (o:AOp) (st:AS):Option AS:=
 match o.ai with
 | .call f args=>let st1:=frzIds (args.flatMap fun x=>bldsOf (evA G st.sl x)) st;evCall call o.dst f (args.map (evA G st1.sl)) st1
 | .callv x args=>let st1:=frzIds (args.flatMap fun x=>bldsOf (evA G st.sl x)) st
  match evA G st1.sl x with
  | .one (.fn f caps)=>evCall call o.dst f (args.map (evA G st1.sl)++caps.map AV.one) st1
  | _=>none
 | .bslc _ _ _ ps=>evI G o.dst o.ai (frzIds (ps.flatMap fun p=>bldsOf (evA G st.sl p.2)) st)
 | ai=>evI G o.dst ai st
def wants (G:Glob) (st:AS):Option (Nat × Bool)→Option Bool
 | none=>some true
 | some (g,b)=>match evA G st.sl (.t g) with
  | .tup []=>some false
  | v=>(asBool? v).map fun c=>c==b
def fN {β:Type} (n:Nat) (k:Nat→β):β:=match n with | 0=>k 0 | m+1=>k (Nat.succ m)
def fI {β:Type} (n:Int) (k:Int→β):β:=match n with | .ofNat m=>fN m fun m=>k (.ofNat m) | .negSucc m=>fN m fun m=>k (.negSucc m)
def fL {α β:Type} (f:α→(α→β)→β):List α→(List α→β)→β
 | [],k=>k []
 | x::xs,k=>f x fun y=>fL f xs fun ys=>k (y::ys)
def fB {β:Type} (s:ByteArray) (k:ByteArray→β):β:=match s with | ⟨⟨l⟩⟩=>fL (fun x k=>k x) l fun l=>k ⟨⟨l⟩⟩
def fVal {β:Type} (v:Value) (k:Value→β):β:=match v with
 | .int kd n=>fI n fun n=>k (.int kd n)
 | .bool true=>k (.bool true)
 | .bool false=>k (.bool false)
 | .string s=>fB s fun s=>k (.string s)
 | v=>k v
def fD {β:Type} (d:DC) (k:DC→β):β:=match d with
 | .raw v=>fVal v fun v=>k (.raw v)
 | .slc es=>fL (fL fun d k=>match d with | .raw v=>fVal v fun v=>k (.raw v) | d=>k d) es fun es=>k (.slc es)
 | .ptr cs=>k (.ptr cs)
def fC {β:Type} (c:Cel) (k:Cel→β):β:=match c with
 | .dc d=>fD d fun d=>k (.dc d)
 | .ptr id o=>fN id fun id=>fN o fun o=>k (.ptr id o)
 | .bld id n=>fN id fun id=>fN n fun n=>k (.bld id n)
 | .ept id i s o=>fN id fun id=>fN i fun i=>fN s fun s=>fN o fun o=>k (.ept id i s o)
 | .bls id i s o=>fN id fun id=>fN i fun i=>fN s fun s=>fN o fun o=>k (.bls id i s o)
 | .ref cs=>fL fD cs fun cs=>k (.ref cs)
 | .mpc es=>k (.mpc es)
 | c=>k c
def fT {β:Type} (c:TV) (k:TV→β):β:=match c with
 | .one c=>fC c fun c=>k (.one c)
 | .agg cs=>fL fC cs fun cs=>k (.agg cs)
def fV {β:Type} (c:AV) (k:AV→β):β:=match c with
 | .one c=>fC c fun c=>k (.one c)
 | .agg cs=>fL fC cs fun cs=>k (.agg cs)
 | .tup l=>fL fT l fun l=>k (.tup l)
 | .junk=>k .junk
def fO {β:Type} (o:AObj) (k:AObj→β):β:=match o with
 | .box cs=>fL fC cs fun cs=>k (.box cs)
 | .arr c s es=>fN c fun c=>fN s fun s=>fL (fL fD) es fun es=>k (.arr c s es)
 | .dead=>k .dead
def fP {β:Type} (d:Option Nat) (v:AV) (s:AS) (k:AS→β):β:=fV v fun v=>fL (fun x k=>k x) (putS s.sl d v) fun sl=>k ⟨sl,s.hp⟩
def fS {β:Type} (s:AS) (k:AS→β):β:=fL fV s.sl fun sl=>fL fO s.hp fun hp=>k ⟨sl,hp⟩
section
variable {β:Type}
theorem fN_eq (n:Nat) (k:Nat→β):fN n k=k n:=by cases n<;>rfl
theorem fI_eq (n:Int) (k:Int→β):fI n k=k n:=by cases n<;>simp [fI,fN_eq]
theorem fL_eq {α:Type} {f:α→(α→β)→β} (hf:∀ x k,f x k=k x):∀ (l:List α) (k:List α→β),fL f l k=k l
 | [],_=>rfl
 | x::xs,k=>by simp only [fL,hf,fL_eq hf xs]
theorem fB_eq (s:ByteArray) (k:ByteArray→β):fB s k=k s:=by obtain ⟨⟨l⟩⟩:=s;simp only [fB];rw [fL_eq (fun _ _=>rfl)]
theorem fVal_eq (v:Value) (k:Value→β):fVal v k=k v:=by unfold fVal;split<;>simp [fI_eq,fB_eq]
theorem fD_eq (d:DC) (k:DC→β):fD d k=k d:=by
 cases d with
 | raw v=>simp [fD,fVal_eq]
 | slc es=>
  simp only [fD]
  rw [fL_eq]
  intro x k
  rw [fL_eq]
  intro d k
  split<;>simp [fVal_eq]
 | ptr cs=>rfl
theorem fC_eq (c:Cel) (k:Cel→β):fC c k=k c:=by cases c<;>simp [fC,fN_eq,fD_eq,fL_eq]
theorem fT_eq (c:TV) (k:TV→β):fT c k=k c:=by cases c<;>simp [fT,fC_eq,fL_eq]
theorem fV_eq (c:AV) (k:AV→β):fV c k=k c:=by cases c<;>simp [fV,fC_eq,fT_eq,fL_eq]
theorem fO_eq (c:AObj) (k:AObj→β):fO c k=k c:=by cases c<;>simp [fO,fN_eq,fC_eq,fD_eq,fL_eq]
theorem fP_eq (d:Option Nat) (v:AV) (s:AS) (k:AS→β):fP d v s k=k ⟨putS s.sl d v,s.hp⟩:=by simp only [fP,fV_eq];rw [fL_eq (fun _ _=>rfl)]
theorem fS_eq (s:AS) (k:AS→β):fS s k=k s:=by simp [fS,fL_eq,fV_eq,fO_eq]
end
def wrapF (k:IntKind) (n:Int):Int:=match k with
 | .i64=>if -9223372036854775808≤n then (if n≤9223372036854775807 then n else IntKind.i64.wrap n) else IntKind.i64.wrap n
 | k=>k.wrap n
theorem wrapF_eq (k:IntKind) (n:Int):wrapF k n=k.wrap n:=by
 cases k<;>simp only [wrapF]
 split
 ·split
  ·exact (wrap64 ⟨by assumption,by assumption⟩).symm
  ·rfl
 ·rfl
def evF (G:Glob) (st:AS) (ai:AI):Option AV:=
 match ai with
 | .bin .add x y=>match evA G st.sl x,evA G st.sl y with
  | .one (.dc (.raw (.int .i64 a))),.one (.dc (.raw (.int .i64 b)))=>some (rawV (.int .i64 (wrapF .i64 (a+b))))
  | _,_=>evP G st (.bin .add x y)
 | .bin .sub x y=>match evA G st.sl x,evA G st.sl y with
  | .one (.dc (.raw (.int .i64 a))),.one (.dc (.raw (.int .i64 b)))=>some (rawV (.int .i64 (wrapF .i64 (a - b))))
  | _,_=>evP G st (.bin .sub x y)
 | ai=>evP G st ai
def evOps (call:CallT) (G:Glob):List AOp→AS→Option AS
 | [],st=>some st
 | o::l,st=>(wants G st o.guard).bind fun b=>
  if b then (if o.ai.isPure then (evF G st o.ai).bind fun v=>fP o.dst v st fun st'=>evOps call G l st' else (evOp call G o st).bind fun st'=>fS st' fun st'=>evOps call G l st')
  else fP o.dst (.tup []) st fun st'=>evOps call G l st'
def evQ (call:CallT) (G:Glob) (o:AOp) (st:AS):Option AV:=
 match o.ai with
 | .call f args=>
  if (args.map (evA G st.sl)).all (keepV fun _=>true) then (call f (args.map (evA G st.sl)) []).bind fun r=>
   let v:=killV (fun id=>decide (0≤id)) ((frzIds (idsV r.1) ⟨[r.1],r.2⟩).sl.getD 0 .junk)
   if keepV (fun _=>true) v then some v else none
  else none
 | _=>none
def evD (call:CallT) (G:Glob):List (Bool × AOp)→AS→Option AS
 | [],st=>some st
 | (b,o)::l,st=>(wants G st o.guard).bind fun c=>
  if c then (if b then (if o.ai.isPure then evF G ⟨st.sl,qhp o.ai st.hp⟩ o.ai else evQ call G o st).bind fun v=>fP o.dst v st fun st'=>evD call G l st'
   else (match o.ai with
   | .call _ _=>(evQ call G o st).map fun v=>(⟨putS st.sl o.dst v,st.hp⟩:AS)
   | .callv _ _=>evOp call G o st
   | ai=>evI G o.dst ai st).bind fun st'=>fS st' fun st'=>evD call G l st')
  else fP o.dst (.tup []) st fun st'=>evD call G l st'
abbrev Tbl:=FuncId→Option (ACode × List RetV × Nat)
def isEnd:Exit→Bool
 | .normal=>true
 | .ret=>true
 | _=>false
def callF (T:Tbl) (run:ACode→AS→Option (Exit × AS)):CallT:=fun f args hp=>
 match T f with
 | some (c,rs,nt)=>(run c ⟨args++List.replicate (nt - args.length) .junk,hp⟩).bind fun r=>if isEnd r.1&&decide (hp.length≤r.2.hp.length) then (retV r.2 rs).map fun av=>if keepV (fun id=>decide (hp.length≤id)) av&&(r.2.hp.take hp.length).all (keepO fun id=>decide (hp.length≤id)) then (av,r.2.hp.take hp.length) else (av,r.2.hp) else none
 | none=>none
def evC (G:Glob) (T:Tbl):Nat→ACode→AS→Option (Exit × AS)
 | 0,_,_=>none
 | n+1,c,st=>
  match c with
  | .skip=>some (.normal,st)
  | .ret=>some (.ret,st)
  | .exit id=>some (.exit id,st)
  | .bad=>none
  | .drawnF _ _=>none
  | .drawnT _ _=>none
  | .region ops=>(evOps (callF T (evC G T n)) G ops st).map fun s=>(.normal,s)
  | .drawn ops=>(evD (callF T (evC G T n)) G ops st).map fun s=>(.normal,s)
  | .seq a b=>(evC G T n a st).bind fun r=>match r.1 with
   | .normal=>evC G T n b r.2
   | e=>some (e,r.2)
  | .cond c a b=>(asBool? (evA G st.sl c)).bind fun t=>if t then evC G T n a st else evC G T n b st
  | .block id a=>(evC G T n a st).map fun r=>match r.1 with
   | .exit id'=>if id'=id then (.normal,r.2) else (.exit id',r.2)
   | e=>(e,r.2)
  | .loop a=>(evC G T n a st).bind fun r=>match r.1 with
   | .normal=>evC G T n (.loop a) r.2
   | e=>some (e,r.2)
end
end Go.Proofs.YtmmafhopnkkeeaaGreatDoor
