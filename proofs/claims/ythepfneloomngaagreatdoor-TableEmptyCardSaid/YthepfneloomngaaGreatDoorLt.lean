/- An interpreter of codes over abstract states: what it answers is a contract. Conditions: none. -/
import Derived.Test.YthepfneloomngaaGreatDoorMg
namespace Go.Proofs.YthepfneloomngaaGreatDoor
set_option linter.unusedSimpArgs false
set_option linter.unusedVariables false
section
inductive dP where
 |skip|ret
 |region (ops:List aN)
 |drawn (ops:List (Bool×aN))
 |drawnF (prs:List (Nat×Nat)) (ops:List aN)
 |drawnT (t:IT) (ops:List aN)
 |seq (a b:dP)
 |cond (c:aH) (a b:dP)
 |block (id:Nat) (a:dP)
 |loop (a:dP)
 |exit (id:Nat)
 |bad
def aAj:AI->Bool
 |.alloc _=>true
 |.store _ _ _=>true
 |.call _ _=>true
 |.cpys _ _=>true
 |_=>false
def aVj(P:Program)(o:aN):Bool:=match o.ai with
 | .call f _=>match P.funcs[f]? with
  | some fn=>fn.results.isEmpty
  | none=>false
 |.cpys _ _=>true
 |_=>false
def aQT(c:List (List Nat))(ops:List aN)(ord:List Nat):List (Nat×Nat):=
 (List.range ord.length).flatMap fun q=>(List.range q).filterMap fun p=>if (c.getD (ord.getD q 0) []).contains (ord.getD p 0)||!(aAj (ops.getD p kX).ai||aAj (ops.getD q kX).ai) then none else some (p,q)
def aQU(c:List (List Nat))(ops:List aN)(ord:List Nat):Bool:=
 (List.range ord.length).all fun q=>(List.range q).all fun p=>(c.getD (ord.getD q 0) []).contains (ord.getD p 0)||Th (ops.getD p kX) (ops.getD q kX)
def qV(opsA:Array Oper)(l:List aN)(ord:List Nat):Option dP:=
 if Fl opsA.toList l.length ord&&mX (fun i j=>i != j) ord&&aQU (jO opsA.toList []) (ord.map fun i=>l.getD i kX) ord then
  some (.drawnF (aQT (jO opsA.toList []) (ord.map fun i=>l.getD i kX) ord) (ord.map fun i=>l.getD i kX)) else none
def aHu(opsA:Array Oper)(l:List aN):Option (List (Bool×aN)):=
 ((D6 (jO opsA.toList []) opsA.toList (pU (jO opsA.toList []) l) (Mc (jO opsA.toList []) ((pU (jO opsA.toList []) l).map (·.1)) l.length (List.range l.length))).or
  (D6 (jO opsA.toList []) opsA.toList (pU (jO opsA.toList []) l) (aCK (jO opsA.toList []) ((pU (jO opsA.toList []) l).map (·.1)) (l.map fun o=>C0 o.ai) l.length (List.range l.length))))
def aVk:AI->Bool
 |.call f _=>trL.contains f
 |_=>false
def aC1(opsA:Array Oper)(l:List aN)(t:IT):Option dP:=
 if Fm opsA.toList&&vT (jO opsA.toList []) l opsA t (List.range l.length) [] then some (.drawnT t l) else none
def aML(opsA:Array Oper)(l:List aN):Option dP:=
 (mkT (jO opsA.toList []) l opsA (l.length+1) (if trL.contains 1 then 1500 else if trL.contains 3 then 6000 else 80) (List.range l.length)).bind fun p=>aC1 opsA l p.1
def aHv(P:Program)(opsA:Array Oper)(l:List aN)(d:Bool):Option dP:=
 if d then
  if l.any (aVj P) then (qV opsA l (Mc (jO opsA.toList []) [] l.length (List.range l.length))).or ((aHu opsA l).map .drawn)
  else ((aHu opsA l).map .drawn).or (qV opsA l (Mc (jO opsA.toList []) [] l.length (List.range l.length)))
 else some (.region l)
def aQV:AI->Bool
 |.ixL _ _ _=>true
 |_=>false
def aVl:AI->Bool
 |.store _ _ _=>true
 |_=>false
def aVm:AI->Bool
 |.ixA _ _ _ _=>true
 |_=>false
def aVn:AI->Bool
 |.app _ _ _ _ _=>true
 |_=>false
def aVo(l:List aN):AI->Bool
 |.ixL _ _ _=>true
 |.addo _ (.t m)=>l.any fun o=>o.dst==some m&&aQV o.ai
 |_=>false
def aVp(l:List aN):AI->Bool
 |.store _ (.t n) _=>l.any fun o=>o.dst==some n&&aVo l o.ai
 |_=>false
def aMM(P:Program)(opsA:Array Oper)(l:List aN)(d:Bool):Option dP:=
 if d&&(l.any (fun o=>aVk o.ai)||(trL.contains 1&&decide (1<(l.filter fun o=>aVn o.ai).length))||(trL.contains 2&&l.any (fun o=>aVm o.ai)&&decide (1<(l.filter fun o=>aVl o.ai).length))||(trL.contains 0&&l.any (fun o=>aQV o.ai)&&l.any (fun o=>aVp l o.ai))) then (aML opsA l).or (aHv P opsA l d) else aHv P opsA l d
theorem Kr{P:Program}{opsA:Array Oper}{l:List aN}{d:Bool}{x:dP}(h:aHv P opsA l d=some x):(x=.region l/\d=false)\/(∃lq lp ord,x=.drawn lp/\d=true/\lq.map (·.2)=l/\D6 (jO opsA.toList []) opsA.toList lq ord=some lp)\/
  ∃prs ops ord,x=.drawnF prs ops/\d=true/\qV opsA l ord=some x:=by
 unfold aHv at h;cases d with
 |false=>simp at h;exact .inl ⟨h.symm,rfl⟩
 |true=>
  simp only[if_true] at h;have hA:∀ {x},(aHu opsA l).map dP.drawn=some x->(x=.region l/\true=false)\/(∃ lq lp ord,x=.drawn lp/\true=true/\lq.map (·.2)=l/\D6 (jO opsA.toList []) opsA.toList lq ord=some lp)\/
    ∃ prs ops ord,x=.drawnF prs ops/\true=true/\qV opsA l ord=some x:=by
   intro x h;unfold aHu at h;obtain⟨lp,h1,h2⟩:=Option.map_eq_some_iff.1 h;rcases Option.or_eq_some_iff.1 h1 with h1 | ⟨_,h1⟩
   ·exact .inr (.inl ⟨_,lp,_,h2.symm,rfl,Gz,h1⟩)
   ·exact .inr (.inl ⟨_,lp,_,h2.symm,rfl,Gz,h1⟩)
  have hB:∀ {x ord},qV opsA l ord=some x->(x=.region l/\true=false)\/(∃ lq lp ord,x=.drawn lp/\true=true/\lq.map (·.2)=l/\D6 (jO opsA.toList []) opsA.toList lq ord=some lp)\/
    ∃ prs ops ord,x=.drawnF prs ops/\true=true/\qV opsA l ord=some x:=by
   intro x ord h;have h':=h;unfold qV at h';split at h'
   ·injection h' with h'
    exact .inr (.inr ⟨_,_,_,h'.symm,rfl,h⟩)
   ·cases h'
  split at h;rcases Option.or_eq_some_iff.1 h with h|⟨_,h⟩
  exact hB h;exact hA h;rcases Option.or_eq_some_iff.1 h with h|⟨_,h⟩
  exact hA h;exact hB h
theorem aAk{opsA:Array Oper}{l:List aN}{x:dP}(h:aML opsA l=some x):∃t,x=.drawnT t l/\Fm opsA.toList=true/\vT (jO opsA.toList []) l opsA t (List.range l.length) []=true:=by
 unfold aML at h;obtain⟨p,_,h⟩:=aYu.1 h;unfold aC1 at h;split at h;rename_i hc;simp only[aXQ] at hc;injection h with h
 exact⟨p.1,h.symm,hc.1,hc.2⟩;cases h
theorem eI{P:Program}{opsA:Array Oper}{l:List aN}{d:Bool}{x:dP}(h:aMM P opsA l d=some x):(x=.region l/\d=false)\/(∃lq lp ord,x=.drawn lp/\d=true/\lq.map (·.2)=l/\D6 (jO opsA.toList []) opsA.toList lq ord=some lp)\/
  (∃prs ops ord,x=.drawnF prs ops/\d=true/\qV opsA l ord=some x)\/∃t,x=.drawnT t l/\d=true/\Fm opsA.toList=true/\vT (jO opsA.toList []) l opsA t (List.range l.length) []=true:=by
 unfold aMM at h;split at h;rename_i hd;simp only[aXQ] at hd;rcases Option.or_eq_some_iff.1 h with h|⟨_,h⟩
 obtain⟨t,h1,h2,h3⟩:=aAk h;exact .inr (.inr (.inr ⟨t,h1,hd.1,h2,h3⟩));rcases Kr h with h|h|h;exact .inl h;exact .inr (.inl h);exact .inr (.inr (.inl h));rcases Kr h with h|h|h;exact .inl h;exact .inr (.inl h);exact .inr (.inr (.inl h))
def aQW:Option dP->Option dP
 |some x=>some x
 |none=>some .bad
theorem eJ{o:Option dP}{x:dP}(h:aQW o=some x)(hx:x≠.bad):o=some x:=by
 cases o with
 |none=>injection h with h;exact absurd h.symm hx
 |some y=>exact h
def bR(P:Program):Code->Option dP
 |.skip=>some .skip
 |.ret=>some .ret
 |.region _ ops d=>aQW ((bE P ops ops.toList).bind fun l=>aMM P ops l d)
 |.seq a b=>(bR P a).bind fun x=>(bR P b).map fun y=>.seq x y
 |.cond c a b=>(bR P a).bind fun x=>(bR P b).map fun y=>.cond (aU c) x y
 |.block id a=>(bR P a).map fun x=>.block id x
 |.loop a=>(bR P a).map fun x=>.loop x
 |.exit id=>some (.exit id)
 |_=>some .bad
def AW(P:Program)(G:aE)(k:Nat)(ac:dP)(Q:Exit->AS->Prop)(as:AS):Prop:=
 ∀c,bR P c=some ac->∀F γ a w,dE F γ as.hp w->bV F γ as.sl a->eU F G->k<=γ.length->
  ∀QE:Exit->Act->World->Prop,(∀e a' w' F' γ' as',Q e as'->gU k F γ w F' γ' w'->dE F' γ' as'.hp w'->bV F' γ' as'.sl a'->k<=γ'.length->QE e a' w')->c.wp P QE a w
section
variable {P:Program}{G:aE}{k:Nat}{Q:Exit->AS->Prop}{as as':AS}{x y:dP}
theorem AW.ghost(h:Gh k as as')(hw:AW P G k x Q as'):AW P G k x Q as:=by
 intro c hc F γ a w hi hs hg hk QE hq;obtain⟨F',γ',he,hi',hs',hk'⟩:=h F γ a w hi hs hk;exact hw c hc F' γ' a w hi' hs' (hg.sub he.sub) hk' QE (fun e a' w' F'' γ'' as'' h1 h2 h3 h4=>hq e a' w' F'' γ'' as'' h1 (he.trans h2) h3 h4)
theorem AW.mono{Q':Exit->AS->Prop}(h:AW P G k x Q as)(hq:∀e as,Q e as->Q' e as):AW P G k x Q' as:=by
 intro c hc F γ a w hi hs hg hk QE hqe;exact h c hc F γ a w hi hs hg hk QE (fun e a' w' F' γ' as' h1=>hqe e a' w' F' γ' as' (hq _ _ h1))
theorem AW.skip(h:Q .normal as):AW P G k .skip Q as:=by
 intro c hc F γ a w hi hs hg hk QE hq;cases c<;>simp only[bR] at hc<;>first|(cases hc;done)|skip
 exact wp_skip (hq .normal a w F γ as h (gU.refl _ _ _ _) hi hs hk);all_goals first|(exfalso;revert hc;simp[aYu];done)|(exfalso;obtain⟨l,_,hc⟩:=aYu.1 (eJ hc (by simp));rcases eI hc with⟨h,_⟩|⟨_,_,_,h,_⟩|⟨_,_,_,h,_⟩|⟨_,h,_⟩<;>cases h)
 
theorem AW.ret(h:Q .ret as):AW P G k .ret Q as:=by
 intro c hc F γ a w hi hs hg hk QE hq;cases c<;>simp only[bR] at hc<;>first|(cases hc;done)|skip
 case ret=>exact wp_ret (hq .ret a w F γ as h (gU.refl _ _ _ _) hi hs hk)
 all_goals first|(exfalso;revert hc;simp[aYu];done)|(exfalso;obtain⟨l,_,hc⟩:=aYu.1 (eJ hc (by simp));rcases eI hc with⟨h,_⟩|⟨_,_,_,h,_⟩|⟨_,_,_,h,_⟩|⟨_,h,_⟩<;>cases h)
theorem AW.exit{id:Nat}(h:Q (.exit id) as):AW P G k (.exit id) Q as:=by
 intro c hc F γ a w hi hs hg hk QE hq;cases c<;>simp only[bR] at hc<;>first|(cases hc;done)|skip
 case exit id'=>
  injection hc with hc;injection hc with hc;subst hc
  exact wp_exit (hq (.exit id') a w F γ as h (gU.refl _ _ _ _) hi hs hk)
 all_goals first|(exfalso;revert hc;simp[aYu];done)|(exfalso;obtain⟨l,_,hc⟩:=aYu.1 (eJ hc (by simp));rcases eI hc with⟨h,_⟩|⟨_,_,_,h,_⟩|⟨_,_,_,h,_⟩|⟨_,h,_⟩<;>cases h)
theorem AW.region{ops:List aN}(h:WR P G k ops (Q .normal) as):AW P G k (.region ops) Q as:=by
 intro c hc F γ a w hi hs hg hk QE hq;cases c<;>simp only[bR] at hc<;>first|(cases hc;done)|skip
 case region id opsA d=>
  have hc:=eJ hc (by simp);cases ho:bE P opsA opsA.toList with
  |none=>simp[ho] at hc
  |some l=>
   simp only[ho,aXP] at hc;rcases eI hc with⟨h1,rfl⟩|⟨_,_,_,h1,_⟩|⟨_,_,_,h1,_⟩|⟨_,h1,_⟩
   injection h1 with h1;subst h1
   exact wp_region_list (h opsA _ ho F γ a w hi hs hg hk QE (fun a' w' F' γ' as' h1=>hq .normal a' w' F' γ' as' h1))
   cases h1;cases h1;cases h1
 all_goals first|(exfalso;revert hc;simp[aYu];done)|(exfalso;obtain⟨l,_,hc⟩:=aYu.1 (eJ hc (by simp));rcases eI hc with⟨h,_⟩|⟨_,_,_,h,_⟩|⟨_,_,_,h,_⟩|⟨_,h,_⟩<;>cases h)
theorem AW.drawn{ops:List (Bool×aN)}(h:jM P G k (Q .normal) ops as):AW P G k (.drawn ops) Q as:=by
 intro c hc F γ a w hi hs hg hk QE hq;cases c<;>simp only[bR] at hc<;>first|(cases hc;done)|skip
 case region id opsA d=>
  have hc:=eJ hc (by simp);cases ho:bE P opsA opsA.toList with
  |none=>simp[ho] at hc
  |some l=>
   simp only[ho,aXP] at hc;rcases eI hc with⟨h1,_⟩|⟨lq,lp,ord,h1,rfl,hl,hd⟩|⟨_,_,_,h1,_⟩|⟨_,h1,_⟩
   cases h1;injection h1 with h1;subst h1
   exact aCT (by rw[hl];exact ho) hd h hi hs hg hk (fun a' w' F' γ' as' h1=>hq .normal a' w' F' γ' as' h1)
   cases h1;cases h1
 all_goals first|(exfalso;revert hc;simp[aYu];done)|(exfalso;obtain⟨l,_,hc⟩:=aYu.1 (eJ hc (by simp));rcases eI hc with⟨h,_⟩|⟨_,_,_,h,_⟩|⟨_,_,_,h,_⟩|⟨_,h,_⟩<;>cases h)
def nW:FE:=(kX,[],[])
def dsj(f g:List Nat×List Nat):Bool:=sV f.1 (g.2++g.1)&&sV g.1 f.2
theorem jX.noWr{o:aN}{st:AS}{v:AV}{u:Option (Nat×aC)}{R:List Nat}(h:jX P G k o st v u R)(hw:aAj o.ai=false):u=none:=by
 cases h with
 |skip h=>rfl
 |pur _ _ h hv hR=>rfl
 |call f args cargs r _ h ha hq hn=>rfl
 |lit size len z ps es h ha hf hes hlen=>rfl
 |alloc z id h ha hd hk=>rw[ha] at hw;cases hw
 |callB f args cargs id cs cs' h ha hb hac hargs hr=>rw[ha] at hw;cases hw
 |cpy x y id lo n bs cs h ha hx hy hb hle=>rw[ha] at hw;cases hw
 |store size x v id off cs vs h ha hd0 hx hv hb hsz hle=>rw[ha] at hw;cases hw
theorem kW.noWr{K:AS->Prop}:∀{l:List FE}{st:AS},kW P G k K l st->∀e∈l,aAj e.1.ai=false->e.2.1=[]
 |[],_,_,e,he,_=>by cases he
 | (o,f)::l,st,h,e,he,hw=>by
  obtain⟨v,u,R,s,e1,e2,h⟩:=h;rcases aYR.1 he with rfl | he
  ·rw[<- e1,s.noWr hw];rfl
  ·exact kW.noWr h e he hw
theorem AW.drawnF{prs:List (Nat×Nat)}{ops:List aN}{L:List FE}(hL:L.map (·.1)=ops)(hp:∀p∈prs,dsj (L.getD p.1 nW).2 (L.getD p.2 nW).2=true)(h:kW P G k (Q .normal) L as):AW P G k (.drawnF prs ops) Q as:=by
 intro c hc F γ a w hi hs hg hk QE hq;cases c<;>simp only[bR] at hc<;>first|(cases hc;done)|skip
 case region id opsA d=>
  have hc:=eJ hc (by simp);cases ho:bE P opsA opsA.toList with
  |none=>simp[ho] at hc
  |some l=>
   simp only[ho,aXP] at hc;rcases eI hc with⟨h1,_⟩|⟨_,_,_,h1,_⟩|⟨prs',ops',ord,h1,rfl,hd⟩|⟨_,h1,_⟩
   cases h1;cases h1;unfold qV at hd;split at hd;rename_i hok;simp only[aXQ] at hok;obtain⟨⟨hok1,hnd⟩,hst⟩:=hok;injection hd with hd
   injection hd with hd1 hd2
   have hpw0:=A6 _ hnd;have hnodup:ord.Nodup:=hpw0.imp (fun h e=>by simp[e] at h)
   have hok1':=hok1;simp only[Fl,aXQ] at hok1';obtain⟨⟨_,hall⟩,hlt⟩:=hok1';have hlen:L.length=ord.length:=by
    have:=congrArg List.length (hL.trans hd2.symm);simpa using this
   have hE1:∀ p (hp:p < ord.length),(L[p]'(by omega)).1=l.getD ord[p] kX:=fun p hp=>by
    have:(L.map (·.1))[p]?=(ord.map fun i=>l.getD i kX)[p]?:=by rw[hL,hd2]
    rw[aXI,aXI,aXJ (by omega),aXJ hp] at this;simpa using this
   let E:Nat->FE:=fun i=>L.getD (ord.idxOf i) nW
   have hEp:∀ p (hp:p < ord.length),E ord[p]=L[p]'(by omega):=fun p hp=>by
    show L.getD (ord.idxOf ord[p]) nW=_;rw[hnodup.idxOf_getElem p hp,aXN,aXJ (by omega)];rfl
   have hmap:ord.map E=L:=List.ext_getElem (by simp[hlen]) (fun p h1 h2=>by
    rw[aYo];exact hEp p (by omega))
   refine aAe (E:=E) ho hok1 (fun i hil=>?_) ?_ (by rw[hmap];exact h) hi hs hg hk (fun a' w' F' γ' as' h1=>hq .normal a' w' F' γ' as' h1)
   have hm:i∈ord:=by
    have:=aY2.1 hall i (by simpa using hil);simpa using this
   have hix:=List.idxOf_lt_length_of_mem hm;have e1:=hEp _ hix;have e2:=hE1 _ hix;rw[List.getElem_idxOf hix] at e1 e2;rw[e1,e2]
   rw[aZe];intro p q hp1 hq1 hpq;have hne:ord[p]≠ord[q]:=fun e=>by
    have:=(aZe.1 hnodup) p q hp1 hq1 hpq;exact this e
   refine⟨hne,?_⟩;have hgp:ord.getD p 0=ord[p]:=by rw[aXN,aXJ hp1];rfl
   have hgq:ord.getD q 0=ord[q]:=by rw[aXN,aXJ hq1];rfl
   cases hcl:((jO opsA.toList []).getD ord[q] []).contains ord[p] with
   |true=>exact .inl rfl
   |false=>
    right
    rw[hEp p hp1,hEp q hq1];have hop:∀ r (hr:r < ord.length),(ord.map fun i=>l.getD i kX).getD r kX=(L[r]'(by omega)).1:=fun r hr=>by
     rw[hE1 r hr,aXN,aXI,aXJ hr];rfl
    have hs1:=aY2.1 (aY2.1 hst q (by simpa using hq1)) p (by simpa using hpq);rw[hgp,hgq,hcl,aYt,hop p hp1,hop q hq1] at hs1;by_cases hw:(aAj (L[p]'(by omega)).1.ai||aAj (L[q]'(by omega)).1.ai)=true
    have hmem:(p,q)∈prs:=by
     rw[<- hd1];simp only[aQT,List.mem_flatMap,List.mem_filterMap,List.mem_range];refine⟨q,hq1,p,hpq,?_⟩;rw[hgp,hgq,hcl,hop p hp1,hop q hq1,hw];rfl
    have:=hp _ hmem;simp only[aXN] at this;rw[aXJ (show p<L.length by omega),aXJ (show q<L.length by omega)] at this;simp only[dsj,aYn,aXQ] at this;simp only[Ti,hs1,this.1,this.2,Bool.and_self];simp only[Bool.or_eq_true,not_or,Bool.not_eq_true] at hw;have w1:=kW.noWr h _ (aXM (show p<L.length by omega)) hw.1;have w2:=kW.noWr h _ (aXM (show q<L.length by omega)) hw.2;simp only[Ti,hs1,w1,w2,sV,List.all_nil,Bool.and_self]
   cases hd;cases h1
 all_goals first|(exfalso;revert hc;simp[aYu];done)|(exfalso;obtain⟨l,_,hc⟩:=aYu.1 (eJ hc (by simp));rcases eI hc with⟨h,_⟩|⟨_,_,_,h,_⟩|⟨_,_,_,h,_⟩|⟨_,h,_⟩<;>cases h)
theorem AW.drawnT{t:IT}{ops:List aN}(h:TW P G k ops (Q .normal) t as):AW P G k (.drawnT t ops) Q as:=by
 intro c hc F γ a w hi hs hg hk QE hq;cases c<;>simp only[bR] at hc<;>first|(cases hc;done)|skip
 case region id opsA d=>
  have hc:=eJ hc (by simp);cases ho:bE P opsA opsA.toList with
  |none=>simp[ho] at hc
  |some l=>
   simp only[ho,aXP] at hc;rcases eI hc with⟨h1,_⟩|⟨_,_,_,h1,_⟩|⟨_,_,_,h1,_⟩|⟨t',h1,rfl,h2,h3⟩
   cases h1;cases h1;cases h1;injection h1 with h1 h4
   subst h1;subst h4;exact aAi ho h2 h3 h hi hs hg hk (fun a' w' F' γ' as' h1=>hq .normal a' w' F' γ' as' h1)
 all_goals first|(exfalso;revert hc;simp[aYu];done)|(exfalso;obtain⟨l,_,hc⟩:=aYu.1 (eJ hc (by simp));rcases eI hc with⟨h,_⟩|⟨_,_,_,h,_⟩|⟨_,_,_,h,_⟩|⟨_,h,_⟩<;>cases h)
theorem AW.seq(h:AW P G k x (fun e as=>match e with|.normal=>AW P G k y Q as|e=>Q e as) as):AW P G k (.seq x y) Q as:=by
 intro c hc F γ a w hi hs hg hk QE hq;cases c<;>simp only[bR] at hc<;>first|(cases hc;done)|skip
 case seq c1 c2=>
  cases h1:bR P c1 with
  |none=>simp[h1] at hc
  | some x'=>cases h2:bR P c2 with
   | none=>simp[h1,h2] at hc
   | some y'=>
    simp only[h1,h2,aXP,aXG,Option.some.injEq,dP.seq.injEq] at hc;obtain⟨rfl,rfl⟩:=hc;refine wp_seq (h c1 h1 F γ a w hi hs hg hk _ (fun e a' w' F' γ' as' q1 q2 q3 q4 q5=>?_))
    cases e with
    | normal=>exact q1 c2 h2 F' γ' a' w' q3 q4 (hg.sub q2.sub) q5 QE (fun e a'' w'' F'' γ'' as'' p1 p2 p3 p4=>hq e a'' w'' F'' γ'' as'' p1 (q2.trans p2) p3 p4)
    | exit id=>exact hq _ a' w' F' γ' as' q1 q2 q3 q4 q5
    | goto l=>exact hq _ a' w' F' γ' as' q1 q2 q3 q4 q5
    | ret=>exact hq _ a' w' F' γ' as' q1 q2 q3 q4 q5
    | panic ch=>exact hq _ a' w' F' γ' as' q1 q2 q3 q4 q5
    | outgrown=>exact hq _ a' w' F' γ' as' q1 q2 q3 q4 q5
 all_goals first|(exfalso;revert hc;simp[aYu];done)|(exfalso;obtain⟨l,_,hc⟩:=aYu.1 (eJ hc (by simp));rcases eI hc with⟨h,_⟩|⟨_,_,_,h,_⟩|⟨_,_,_,h,_⟩|⟨_,h,_⟩<;>cases h)
theorem AW.cond{c:aH}{b:Bool}(hb:cH (aK G as.sl c)=some b)(h1:b=true->AW P G k x Q as)(h2:b=false->AW P G k y Q as):AW P G k (.cond c x y) Q as:=by
 intro c' hc F γ a w hi hs hg hk QE hq;cases c'<;>simp only[bR] at hc<;>first|(cases hc;done)|skip
 case cond cc c1 c2=>
  cases g1:bR P c1 with
  |none=>simp[g1] at hc
  | some x'=>cases g2:bR P c2 with
   | none=>simp[g1,g2] at hc
   | some y'=>
    simp only[g1,g2,aXP,aXG,Option.some.injEq,dP.cond.injEq] at hc;obtain⟨rfl,rfl,rfl⟩:=hc;have:=L6 (cR hs hg cc) hb;refine wp_cond_split this (fun e=>?_) (fun e=>?_)
    ·exact h1 e c1 g1 F γ a w hi hs hg hk QE hq
    ·exact h2 e c2 g2 F γ a w hi hs hg hk QE hq
 all_goals first|(exfalso;revert hc;simp[aYu];done)|(exfalso;obtain⟨l,_,hc⟩:=aYu.1 (eJ hc (by simp));rcases eI hc with⟨h,_⟩|⟨_,_,_,h,_⟩|⟨_,_,_,h,_⟩|⟨_,h,_⟩<;>cases h)
theorem AW.block{id:Nat}(h:AW P G k x (fun e as=>match e with|.exit id'=>if id'=id then Q .normal as else Q (.exit id') as|e=>Q e as) as):AW P G k (.block id x) Q as:=by
 intro c hc F γ a w hi hs hg hk QE hq;cases c<;>simp only[bR] at hc<;>first|(cases hc;done)|skip
 case block id' c1=>
  cases h1:bR P c1 with
  |none=>simp[h1] at hc
  |some x'=>
   simp only[h1,aXG,Option.some.injEq,dP.block.injEq] at hc;obtain⟨rfl,rfl⟩:=hc;refine wp_block (h c1 h1 F γ a w hi hs hg hk _ (fun e a' w' F' γ' as' q1 q2 q3 q4 q5=>?_))
   cases e with
   |normal=>exact hq _ a' w' F' γ' as' q1 q2 q3 q4 q5
   |exit id2=>
    simp only[Exit.inBlock] at q1 ⊢;split;rename_i heq;rw[if_pos heq] at q1;exact hq _ a' w' F' γ' as' q1 q2 q3 q4 q5;rename_i heq;rw[if_neg heq] at q1;exact hq _ a' w' F' γ' as' q1 q2 q3 q4 q5
   |goto l=>exact hq _ a' w' F' γ' as' q1 q2 q3 q4 q5
   |ret=>exact hq _ a' w' F' γ' as' q1 q2 q3 q4 q5
   |panic ch=>exact hq _ a' w' F' γ' as' q1 q2 q3 q4 q5
   |outgrown=>exact hq _ a' w' F' γ' as' q1 q2 q3 q4 q5
 all_goals first|(exfalso;revert hc;simp[aYu];done)|(exfalso;obtain⟨l,_,hc⟩:=aYu.1 (eJ hc (by simp));rcases eI hc with⟨h,_⟩|⟨_,_,_,h,_⟩|⟨_,_,_,h,_⟩|⟨_,h,_⟩<;>cases h)
theorem AW.loop{α:Type}(I:α->AS->Prop)(μ:α->Nat)(x0:α)(h0:I x0 as)
  (round:∀z as,I z as->AW P G k x (fun e as'=>match e with|.normal=>∃z',I z' as'/\μ z'<μ z|e=>Q e as') as):AW P G k (.loop x) Q as:=by
 intro c hc F γ a w hi hs hg hk QE hq;cases c<;>simp only[bR] at hc<;>first|(cases hc;done)|skip
 case loop c1=>
  cases h1:bR P c1 with
  |none=>simp[h1] at hc
  |some x'=>
   simp only[h1,aXG,Option.some.injEq,dP.loop.injEq] at hc;subst hc;have key:∀n z as F' γ' a' w',μ z<n->I z as->gU k F γ w F' γ' w'->dE F' γ' as.hp w'->bV F' γ' as.sl a'->k<=γ'.length->Code.rounds P c1 QE n a' w':=by
    intro n
    induction n with
    |zero=>intro z as F' γ' a' w' h;omega
    |succ n ih=>
     intro z as F' γ' a' w' hn hI hE hInv hS hk';rw[rounds_succ];refine round z as hI c1 h1 F' γ' a' w' hInv hS (hg.sub hE.sub) hk' _ (fun e a'' w'' F'' γ'' as'' q1 q2 q3 q4 q5=>?_)
     cases e with
     |normal=>
      obtain⟨z',hz1,hz2⟩:=q1;exact ih z' as'' F'' γ'' a'' w'' (by omega) hz1 (hE.trans q2) q3 q4 q5
     |exit id=>exact hq _ a'' w'' F'' γ'' as'' q1 (hE.trans q2) q3 q4 q5
     |goto l=>exact hq _ a'' w'' F'' γ'' as'' q1 (hE.trans q2) q3 q4 q5
     |ret=>exact hq _ a'' w'' F'' γ'' as'' q1 (hE.trans q2) q3 q4 q5
     |panic ch=>exact hq _ a'' w'' F'' γ'' as'' q1 (hE.trans q2) q3 q4 q5
     |outgrown=>exact hq _ a'' w'' F'' γ'' as'' q1 (hE.trans q2) q3 q4 q5
   exact wp_loop_rounds (μ x0+1) (key _ x0 as F γ a w (Nat.lt_succ_self _) h0 (gU.refl _ _ _ _) hi hs hk)
 all_goals first|(exfalso;revert hc;simp[aYu];done)|(exfalso;obtain⟨l,_,hc⟩:=aYu.1 (eJ hc (by simp));rcases eI hc with⟨h,_⟩|⟨_,_,_,h,_⟩|⟨_,_,_,h,_⟩|⟨_,h,_⟩<;>cases h)
end
inductive kQ where
 |tmp (t:Nat)
 |cell (a:Nat) (isAgg:Bool) (size:Nat)
def iZ(P:Program):ResultVar->Option kQ
 |.tmp t=>some (.tmp t)
 |.cell a t=>(Cy P t).bind fun g=>(cZ P t).map fun s=>.cell a g (if g then s else 1)
def fW(as:AS):kQ->Option AV
 |.tmp t=>some (as.sl.getD t .junk)
 |.cell a g s=>lG as.hp g s (as.sl.getD a .junk)
def rV:AV->Option TV
 |.one c=>some (.one c)
 |.agg cs=>some (.agg cs)
 |_=>none
def rW(as:AS):List kQ->Option AV
 |[r]=>fW as r
 |rs=>(rs.mapM fun r=>(fW as r).bind rV).map .tup
section
variable {P:Program}{G:aE}{as:AS}{F:Fz}{γ:List OI}{w:World}{a:Act}
theorem Ks(hi:dE F γ as.hp w)(hs:bV F γ as.sl a){rv:ResultVar}{r:kQ}{av:AV}(hr:iZ P rv=some r)(h:fW as r=some av):
  ∃v,(match rv with|.tmp t=>pure (a.tmps.getD t undef)|.cell c t=>do loadVar t (<- asAddr (a.tmps.getD c undef)):Sem Value).run P w=.ok v w/\RV F γ av v:=by
 have ra:=fun t=>cR (G:=fun _=>none) hs ⟨(fun g cs h=>by cases h),(fun g cs h=>by cases h)⟩ (.tmp t)
 cases rv with
 |tmp t=>
  simp only[iZ,Option.some.injEq] at hr;subst hr;simp only[fW,Option.some.injEq] at h;subst h;exact⟨_,rfl,ra t⟩
 |cell c t=>
  simp only[iZ] at hr;cases h1:Cy P t with
  |none=>simp[h1] at hr
  | some g=>cases h2:cZ P t with
   | none=>simp[h1,h2] at hr
   | some s=>
    simp only[h1,h2,aXP,aXG,Option.some.injEq] at hr;subst hr;have hx:=ra c;obtain⟨y,hy,hv⟩:=V7 (P:=P) h hi hx h1 h2 rfl;obtain⟨cs,_,_,⟨b,off,vs,hxe,_,_,_⟩⟩:=Kh h hi hx;refine⟨y, ?_,hv⟩;have hxe':a.tmps.getD c undef=.pointer (some ⟨b,off,none⟩):=hxe;simp only[Act.eval] at hy
    first | rw[hxe'] at hy | skip
    show ((do loadVar t (<- asAddr (a.tmps.getD c undef))):Sem Value).run P w=_
    rw[hxe'];simpa[Instr.loadAt,Instr.sureAddr,asAddr] using hy
theorem Kt(hi:dE F γ as.hp w)(hs:bV F γ as.sl a):∀(rvs:List ResultVar) (rs:List kQ) (l:List TV),rvs.mapM (iZ P)=some rs->(rs.mapM fun r=>(fW as r).bind rV)=some l->
  ∃ vs:List Value,(rvs.mapM fun rv=>(match rv with | .tmp t=>pure (a.tmps.getD t undef) | .cell c t=>do loadVar t (<- asAddr (a.tmps.getD c undef)):Sem Value)).run P w=.ok vs w/\vs.length=l.length/\
   ∀ (i:Nat) t v,l[i]?=some t->vs[i]?=some v->RT F γ t v
 | [],rs,l,h1,h2=>by
  simp at h1;subst h1;simp at h2;subst h2;exact⟨[],rfl,rfl,fun i t v h=>by simp at h⟩
 | rv::rvs,rs,l,h1,h2=>by
  rw[aYw] at h1;cases hr:iZ P rv with
  | none=>rw[hr] at h1;cases h1
  | some r=>
   rw[hr] at h1;cases hrs:rvs.mapM (iZ P) with
   | none=>rw[hrs] at h1;cases h1
   | some rs'=>
    rw[hrs] at h1;have e1:r::rs'=rs:=by injection h1
    subst e1;rw[aYw] at h2;cases ho:(fW as r).bind rV with
    | none=>rw[ho] at h2;cases h2
    | some t=>
     rw[ho] at h2;cases hl:(rs'.mapM fun r=>(fW as r).bind rV) with
     | none=>rw[hl] at h2;cases h2
     | some l'=>
      rw[hl] at h2;have e2:t::l'=l:=by injection h2
      subst e2;obtain⟨vs,hv1,hv2,hv3⟩:=Kt hi hs rvs rs' l' hrs hl;cases ho1:fW as r with
      | none=>rw[ho1] at ho;cases ho
      | some av=>
       rw[ho1] at ho;obtain⟨v,hv,hrv⟩:=Ks hi hs hr ho1;refine⟨v::vs, ?_,by simp[hv2],fun i t' v' h3 h4=>?_⟩
       ·rw[aYw];simp only[Sem.run_bind,hv,Result.andThen_ok,hv1,Sem.run_pure]
       ·cases i with
        | zero=>
         simp at h3 h4;subst h3;subst h4;cases av with
         | one c=>simp[rV] at ho;subst ho;cases hrv with | one _ _ h=>exact .one _ _ h
         | agg cs=>simp[rV] at ho;subst ho;cases hrv with | agg _ vs h h'=>exact .agg _ _ h h'
         | tup _=>simp[rV] at ho
         | junk=>simp[rV] at ho
        | succ i=>exact hv3 i t' v' (by simpa using h3) (by simpa using h4)
theorem Tj{fn:Func}{rs:List kQ}{av:AV}(hi:dE F γ as.hp w)(hs:bV F γ as.sl a)(hr:fn.results.toList.mapM (iZ P)=some rs)(h:rW as rs=some av):
  ∃v,(results fn a.tmps).run P w=.ok v w/\RV F γ av v:=by
 have hmap:(results fn a.tmps)=(do
   let vs <- List.toArray <$> fn.results.toList.mapM fun rv=>(match rv with | .tmp t=>pure (a.tmps.getD t undef) | .cell c t=>do loadVar t (<- asAddr (a.tmps.getD c undef)):Sem Value)
   pure (if h:vs.size=1 then vs[0] else .tuple vs)):=by
  unfold results;rw[Array.mapM_eq_mapM_toList];rfl
 rw[hmap];by_cases h1:∃r,rs=[r];obtain⟨r,rfl⟩:=h1;simp only[rW] at h;have:∃rv,fn.results.toList=[rv]/\iZ P rv=some r:=by
  cases hl:fn.results.toList with
  |nil=>rw[hl] at hr;simp at hr
  |cons rv t=>
   rw[hl,aYw] at hr;cases hq:iZ P rv with
   |none=>rw[hq] at hr;cases hr
   |some r0=>
    rw[hq] at hr;cases hq2:t.mapM (iZ P) with
    |none=>rw[hq2] at hr;cases hr
    |some rs0=>
     rw[hq2] at hr;have e:r0::rs0=[r]:=by injection hr
     injection e with e1 e2
     subst e1;subst e2;cases t with
     |nil=>exact⟨rv,rfl,hq⟩
     |cons t1 t2=>
      rw[aYw] at hq2;cases hq3:iZ P t1 with
      |none=>rw[hq3] at hq2;cases hq2
      |some z=>
       rw[hq3] at hq2;cases hq4:t2.mapM (iZ P) with
       |none=>rw[hq4] at hq2;cases hq2
       |some z2=>rw[hq4] at hq2;injection hq2 with hq2;cases hq2
 obtain⟨rv,hl,hrv⟩:=this;obtain⟨v,hv,hvv⟩:=Ks hi hs hrv h;refine⟨v,?_,hvv⟩;rw[hl,aYw];simp only[Sem.run_bind,Sem.run_map,hv,Result.andThen_ok,List.mapM_nil,Sem.run_pure];rfl
 have h':(rs.mapM fun r=>(fW as r).bind rV).map AV.tup=some av:=by
  cases rs with
  | nil=>exact h
  | cons r t=>cases t with
   | nil=>exact absurd ⟨r,rfl⟩ h1
   | cons r2 t2=>exact h
 cases hl:(rs.mapM fun r=>(fW as r).bind rV) with
 |none=>rw[hl] at h';cases h'
 |some l=>
  rw[hl] at h';injection h' with h'
  subst h';obtain⟨vs,hv1,hv2,hv3⟩:=Kt hi hs fn.results.toList rs l hr hl;refine⟨.tuple vs.toArray,?_,.tup _ _ (by simpa using hv2) (fun i t v h1 h2=>hv3 i t v h1 (by simpa using h2))⟩
  simp only[Sem.run_bind,Sem.run_map,hv1,Result.andThen_ok,Sem.run_pure];have hne:¬ vs.toArray.size=1:=by
   intro e;have hll:l.length=rs.length:=by
    clear hv3 hv2 hv1 h h1 hr;have:∀ (rs:List kQ) (l:List TV),(rs.mapM fun r=>(fW as r).bind rV)=some l->l.length=rs.length:=by
     intro rs
     induction rs with
     | nil=>intro l h;simp at h;subst h;rfl
     | cons r rs ih=>
      intro l h;rw[aYw] at h;cases ho:(fW as r).bind rV with
      | none=>rw[ho] at h;cases h
      | some t=>rw[ho] at h;cases hl:(rs.mapM fun r=>(fW as r).bind rV) with
       | none=>rw[hl] at h;cases h
       | some l'=>rw[hl] at h;injection h with h;subst h;simp[ih l' hl]
    exact this rs l hl
   have:rs.length=1:=by rw[<- hll,<- hv2];simpa using e
   match rs,this with
   |[r],_=>exact h1 ⟨r,rfl⟩
  rw[dif_neg hne]
theorem AC.of_body{f:FuncId}{fn:Func}{c:Code}{n:Nat}{rs:List kQ}{ac:dP}{args:List AV}{objs:List aC}{Q:AV->List aC->Prop}(hf:P.funcs[f]?=some fn)(hb:fn.body=some c)(hn:fn.ntmps=n)
  (hr:fn.results.toList.mapM (iZ P)=some rs) (hc:bR P c=some ac)
  (h:AW P G objs.length ac (fun e as=>(e=.normal\/e=.ret)/\objs.length<=as.hp.length/\∃av,rW as rs=some av/\Q av as.hp) ⟨args++List.replicate (n-args.length) .junk,objs⟩):AC P G f args objs Q:=by
 intro F γ vs w hi hg hv;refine calls_of_wp hf hb ?_;have hs:bV F γ (args++List.replicate (n-args.length) .junk) { tmps:=vs++Array.replicate (fn.ntmps-vs.size) undef,defers:=[] }:=by
  refine⟨rfl,by simp[hn,hv.1],fun i av v h1 h2=>?_⟩
  by_cases hil:i<args.length;rw[aXU hil] at h1;simp only at h2;rw[Array.getElem?_append_left (by rw[hv.1];exact hil)] at h2;exact hv.2 i av v h1 h2;rw[aXY (by omega)] at h1;have:=aX0 h1;rw[List.mem_replicate] at this;rw[this.2];exact .junk _
 refine h c hc F γ _ w hi hs hg (by rw[hi.len];exact aXF _) _ (fun e a' w' F' γ' as' hq hE hI hS hk=>?_)
 obtain⟨he,hlen,av,hrv,hQ⟩:=hq;obtain⟨v,hv1,hv2⟩:=Tj hI hS hr hrv;rcases he with rfl|rfl;exact⟨hS.1,v,hv1,v,av,as'.hp,F',γ',rfl,hQ,hlen,hE,hI,hv2⟩;exact⟨hS.1,v,hv1,v,av,as'.hp,F',γ',rfl,hQ,hlen,hE,hI,hv2⟩
end
section
variable {P:Program}{G:aE}{k:Nat}{as as':AS}
theorem Gh.refl:Gh k as as:=fun F γ _ w hi hs hk=>⟨F,γ,gU.refl _ _ _ _,hi,hs,hk⟩
theorem Gh.trans{as'':AS}(h:Gh k as as')(h':Gh k as' as''):Gh k as as'':=by
 intro F γ a w hi hs hk;obtain⟨F1,γ1,e1,i1,s1,k1⟩:=h F γ a w hi hs hk;obtain⟨F2,γ2,e2,i2,s2,k2⟩:=h' F1 γ1 a w i1 s1 k1;exact⟨F2,γ2,e1.trans e2,i2,s2,k2⟩
inductive CLe:aT->aT->Prop where
 |refl (c:aT):CLe c c
 |junk (c:aT):CLe c .junk
 |nil:CLe (dA (.slice none 0 0)) (.dc (.slc []))
theorem CLe.ok{F:Fz}{γ:List OI}{c d:aT}{v:Value}(h:CLe c d)(hc:RC F γ c v):RC F γ d v:=by
 cases h with
 |refl=>exact hc
 |junk=>exact .junk _ hc.is1
 |nil=>cases hc with|dc _ _ h=>cases h;exact .dc _ _ (.nil _ _)
def aMO(cs ds:List aT):Prop:=cs.length=ds.length/\∀(i:Nat) c d,cs[i]?=some c->ds[i]?=some d->CLe c d
inductive VLe:AV->AV->Prop where
 |refl (v:AV):VLe v v
 |junk (v:AV):VLe v .junk
 |one {c d:aT} (h:CLe c d):VLe (.one c) (.one d)
 |agg {cs ds:List aT} (h:aMO cs ds):VLe (.agg cs) (.agg ds)
theorem aMO.ok{F:Fz}{γ:List OI}{cs ds:List aT}(h:aMO cs ds){vs:Array Value}(hr:∀(i:Nat) c v,cs[i]?=some c->vs[i]?=some v->RC F γ c v):∀(i:Nat) c v,ds[i]?=some c->vs[i]?=some v->RC F γ c v:=by
 intro i d v hd hv;have hlt:i<cs.length:=by rw[h.1];exact aG hd
 exact (h.2 i _ d (aXJ hlt) hd).ok (hr i _ v (aXJ hlt) hv)
theorem VLe.ok{F:Fz}{γ:List OI}{x y:AV}{v:Value}(h:VLe x y)(hx:RV F γ x v):RV F γ y v:=by
 cases h with
 |refl=>exact hx
 |junk=>exact .junk _
 |one h=>cases hx with|one _ _ hc=>exact .one _ _ (h.ok hc)
 |agg h=>cases hx with|agg _ vs hs hr=>exact .agg _ _ (by rw[hs,h.1]) (h.ok hr)
def SLe:List AV->List AV->Prop
 |[],[]=>True
 |x::xs,y::ys=>VLe x y/\SLe xs ys
 |_,_=>False
theorem SLe.get:∀{xs ys:List AV},SLe xs ys->xs.length=ys.length/\∀(i:Nat) y,ys[i]?=some y->∃x,xs[i]?=some x/\VLe x y
 |[],[],_=>⟨rfl,fun i y h=>by simp at h⟩
 | x::xs,y::ys,h=>by
  obtain⟨h1,h2⟩:=SLe.get h.2;refine⟨by simp[h1],fun i z hz=>?_⟩
  cases i with
  | zero=>simp at hz;subst hz;exact⟨x,rfl,h.1⟩
  | succ i=>simpa using h2 i z (by simpa using hz)
 |[],_::_,h=>h.elim
 |_::_,[],h=>h.elim
theorem bV.le{F:Fz}{γ:List OI}{xs ys:List AV}{a:Act}(h:SLe xs ys)(hs:bV F γ xs a):bV F γ ys a:=by
 obtain⟨h1,h2⟩:=h.get;refine⟨hs.1,by rw[hs.2.1,h1],fun i y v hy hv=>?_⟩
 obtain⟨x,hx,hle⟩:=h2 i y hy;exact hle.ok (hs.2.2 i x v hx hv)
theorem Gh.slots{ys:List AV}(h:SLe as.sl ys):Gh k as ⟨ys,as.hp⟩:=fun F γ _ w hi hs hk=>⟨F,γ,gU.refl _ _ _ _,hi,bV.le h hs,hk⟩
theorem Gh.drop(n:Nat)(hkn:k<=n):Gh k as ⟨as.sl.map (bD fun id=>decide (n<=id)),(as.hp.take n).map (cJ fun id=>decide (n<=id))⟩:=by
 intro F γ a w hi hs hk;have hg:∀(id:Nat) (o:OI),decide (n<=id)=false->γ[id]?=some o->(γ.take n)[id]?=some o:=by
  intro id o hp h;simp at hp;rw[aX2,if_pos hp];exact h
 have hb:∀i b,bZ (γ.take n) i=some b->bZ γ i=some b:=by
  intro i b h;obtain⟨y,hy,hyb⟩:=cU h;rw[aX2] at hy;split at hy;exact bM hy hyb;cases hy
 refine⟨F,γ.take n,⟨fun _ _ h=>h,rfl,rfl,rfl,aXF _,fun _ _ _=>rfl,fun _ _ h=>.inl h,fun i b h=>.inl ⟨i,hb i b h⟩,fun i hik b h=>?_⟩,⟨hi.fz,by simp[hi.len],fun i j b h1 h2=>hi.nd i j b (hb i b h1) (hb j b h2),fun i b h=>hi.disj i b (hb i b h),?_⟩,hs.kill (fun _ _ h=>h) hg,by simp;omega⟩
 rw[aX2,if_pos (by omega)];exact h;intro i o x h1 h2;rw[aX2] at h2;split at h2;rename_i hin;rw[aXI,aX2,if_pos hin] at h1;cases ho:as.hp[i]? with
 |none=>simp[ho] at h1
 |some o0=>
  simp only[ho,aXG,Option.some.injEq] at h1;subst h1;exact (hi.ok i o0 x ho h2).kill (fun _ _ h=>h) hg (fun _ _=>rfl)
 cases h2
def Ae(id:Nat)(es:List (List DC)):aT->aT
 |.bld j n=>if j=id/\n<=es.length then .dc (.slc (es.take n)) else .bld j n
 |c=>c
def aMP(id:Nat)(es:List (List DC)):TV->TV
 |.one c=>.one (Ae id es c)
 |.agg cs=>.agg (cs.map (Ae id es))
def aAl(id:Nat)(es:List (List DC)):AV->AV
 |.one c=>.one (Ae id es c)
 |.agg cs=>.agg (cs.map (Ae id es))
 |.tup l=>.tup (l.map (aMP id es))
 |.junk=>.junk
def Tk(id:Nat)(es:List (List DC)):aC->aC
 |.box cs=>.box (cs.map (Ae id es))
 |o=>o
theorem Gh.nil{d:Nat}(size:Nat)(h:as.sl[d]?=some (dG (.slice none 0 0))):Gh k as ⟨as.sl.set d (.one (.bld as.hp.length 0)),as.hp++[.arr 0 size []]⟩:=by
 intro F γ a w hi hs hk;have hext:∀(id:Nat) (o:OI),γ[id]?=some o->(γ++[OI.arr none 0])[id]?=some o:=fun _ _ h=>bQ h
 have hb:∀i b,bZ (γ++[OI.arr none 0]) i=some b->bZ γ i=some b:=by
  intro i b h;obtain⟨y,hy,hyb⟩:=cU h;rcases gW hy with h1|⟨_,rfl⟩
  exact bM h1 hyb;simp[OI.blk] at hyb
 have hlt:d < as.sl.length:=aG h;have hlt2:d < a.tmps.size:=hs.2.1 ▸ hlt;have hv:a.tmps[d]?=some (a.tmps[d]'hlt2):=aX8 hlt2;have hval:=cO (hs.2.2 d _ _ h hv);refine⟨F,γ++[OI.arr none 0],⟨fun _ _ h=>h,rfl,rfl,rfl,aXF _,fun _ _ _=>rfl,fun _ _ h=>.inl h,fun i b h=>.inl ⟨i,hb i b h⟩,fun i _ b h=>hext _ _ h⟩,
  ⟨hi.fz,by simp[hi.len],fun i j b h1 h2=>hi.nd i j b (hb i b h1) (hb j b h2),fun i b h=>hi.disj i b (hb i b h), ?_⟩, ?_,by simp;omega⟩
 intro i o x h1 h2;rcases gW h2 with h3|⟨h3,rfl⟩
 have hl:i<as.hp.length:=by rw[<- hi.len];exact aG h3
 rw[aXU hl] at h1;exact (hi.ok i o x h1 h3).ext (fun _ _ h=>h) hext (fun _ _=>rfl)
 rw[h3,hi.len] at h1;simp at h1;subst h1;exact⟨rfl,rfl,rfl⟩;have hs':=hs.ext (F':=F) (fun _ _ h=>h) hext
 refine⟨hs.1,by simpa using hs.2.1,fun i av v h1 h2=>?_⟩
 by_cases hdi:d=i;subst hdi;rw[aX7 hlt] at h1;injection h1 with h1;subst h1
 rw[hv,hval] at h2;injection h2 with h2;subst h2
 exact .one _ _ (.bldN _ 0 (by rw[<- hi.len];simp));rw[aXW hdi] at h1;exact hs'.2.2 i av v h1 h2
theorem Gh.dead(n:Nat):Gh k as ⟨as.sl,as.hp++List.replicate n .dead⟩:=by
 intro F γ a w hi hs hk;have hext:∀(id:Nat) (o:OI),γ[id]?=some o->(γ++List.replicate n OI.dead)[id]?=some o:=fun _ _ h=>bQ h
 have hb:∀i b,bZ (γ++List.replicate n OI.dead) i=some b->bZ γ i=some b:=by
  intro i b h;obtain⟨y,hy,hyb⟩:=cU h;rcases aYG i γ.length with hl|hl
  rw[aXU hl] at hy;exact bM hy hyb;rw[aXY hl,aYH] at hy;split at hy;injection hy with hy;subst hy;cases hyb
  cases hy
 refine⟨F,γ++List.replicate n .dead,⟨fun _ _ h=>h,rfl,rfl,rfl,aXF _,fun _ _ _=>rfl,fun _ _ h=>.inl h,fun i b h=>.inl ⟨i,hb i b h⟩,fun i hi b h=>hext i _ h⟩,⟨hi.fz,by simp[hi.len],fun i j b h1 h2=>hi.nd i j b (hb i b h1) (hb j b h2),fun i b h=>hi.disj i b (hb i b h),fun i ob x h1 h2=>?_⟩,hs.ext (fun _ _ h=>h) hext,by simp;omega⟩
 rcases aYG i γ.length with hl|hl;rw[aXU hl] at h2;rw[aXU (by rw[<- hi.len];exact hl)] at h1;exact (hi.ok i ob x h1 h2).ext (fun _ _ h=>h) hext (fun _ _=>rfl)
 rw[aXY hl,aYH] at h2;rw[aXY (by rw[<- hi.len];exact hl),aYH] at h1;split at h1;split at h2;injection h1 with h1;injection h2 with h2;subst h1;subst h2;trivial
 cases h2;cases h1
end
end
section
section
variable {k:Nat}{as:AS}{F:Fz}{γ:List OI}{w:World}
def Fz.add(F:Fz)(w:World)(b:Nat):Fz:=fun b'=>if b'=b then w.heap[b]? else F b'
theorem aC2{F':Fz}{γ':List OI}{id cap size:Nat}{es:List (List DC)}(hi:dE F γ as.hp w)(hb:aI as.hp id=.arr cap size es)(hs:F.sub F')(hg:∀(i:Nat) (o:OI),(i==id)=false->γ[i]?=some o->γ'[i]?=some o)
  (hF:∀b c,γ[id]?=some (.arr (some b) c)->F' b=w.heap[b]?) {c:aT}{v:Value} (h:RC F γ c v):RC F' γ' (cG (·==id) (Ae id es c)) v:=by
 by_cases hc:∃n,c=.bld id n/\n<=es.length;obtain⟨n,rfl,hn⟩:=hc;have e1:Ae id es (.bld id n)=.dc (.slc (es.take n)):=by simp[Ae,hn]
 rw[e1];have e2:cG (·==id) (.dc (.slc (es.take n)))=.dc (.slc (es.take n)):=by simp[cG,aT.keep]
 rw[e2];refine .dc _ _ ?_;cases h with
 |bldN _ c hgm=>simp;exact .nil _ _
 |bld _ _ b c hgm=>
  obtain⟨hcc,hec,hes,vs,T,⟨fz,hh,hnf⟩,hvs,hr⟩:=hi.arr hb hgm;have hlen:(es.take n).length=n:=by simp;omega
  have hget:∀(i:Nat) e,(es.take n)[i]?=some e->es[i]?=some e:=by
   intro i e h;rw[aX2] at h;split at h;exact h;cases h
  have key:∀(i j:Nat) e d,es[i]?=some e->e[j]?=some d->∃u,vs[i*size+j]?=some u:=by
   intro i j e d h1 h2;have hj:j<size:=by have:=aG h2;have:=hes _ (aX0 h1);omega
   have:=gV (aG h1) hec hj;exact⟨_,aX8 (by omega)⟩
  have:=RD.slc (F:=F') b 0 c size (es.take n) (fun i j=>vs.toList.getD (i * size+j) undef) (fun e he=>hes e (aX6 he)) (fun i j e d h1 h2=>by
    obtain⟨u,hu⟩:=key i j e d (hget i e h1) h2;simp only[aXN,aYy,hu,aYn];exact (hr i j e d u (hget i e h1) h2 hu).mono hs) (fun i j e d h1 h2=>by
    obtain⟨u,hu⟩:=key i j e d (hget i e h1) h2;simp only[aXN,aYy,hu,aYn,Fz.cell?,aYi];rw[hF b c hgm,hh];simpa using hu) (by rw[hlen];omega)
  rwa[hlen] at this
 have e1:Ae id es c=c:=by
  cases c<;>try rfl
  rename_i j n;simp only[Ae];split;rename_i hcond;obtain⟨rfl,hn⟩:=hcond;exact absurd ⟨n,rfl,hn⟩ hc;rfl
 rw[e1];exact h.kill hs hg
theorem Gh.freeze{id cap size:Nat}{es:List (List DC)}(hb:aI as.hp id=.arr cap size es):
  Gh k as ⟨as.sl.map fun v=>bD (·==id) (aAl id es v),(as.hp.map fun o=>cJ (·==id) (Tk id es o)).set id .dead⟩:=by
 intro F γ a w hi hs hk;have hho:=eG hb (by simp);have hlt:id<γ.length:=by rw[hi.len];exact aG hho
 have hx:γ[id]?=some (γ[id]'hlt):=aXJ hlt;generalize hxe:γ[id]'hlt=x at hx;have hok:=hi.ok id _ _ hho hx
 let F':Fz:=match x.blk with|some b=>F.add w b|none=>F
 have hFb:∀b,x.blk=some b->F' b=w.heap[b]?:=by intro b hb';simp[F',hb',Fz.add]
 have hFo:∀b',x.blk≠some b'->F' b'=F b':=by
  intro b' hne;cases hxb:x.blk with
  |none=>simp[F',hxb]
  |some b=>simp only[F',hxb,Fz.add];rw[if_neg (fun e=>hne (by rw[hxb,e]))]
 have hsub:F.sub F':=by
  intro b o h;rw[hFo b (fun e=>by rw[hi.disj id b (bM hx e)] at h;cases h)];exact h
 have hg:∀(i:Nat) (o:OI),(i==id)=false->γ[i]?=some o->(γ.set id .dead)[i]?=some o:=fun i o h1 h2=>pL h2 h1
 have hF2:∀b c,γ[id]?=some (.arr (some b) c)->F' b=w.heap[b]?:=fun b c h=>hFb b (by rw[hx] at h;injection h with h;rw[h];rfl)
 have hb:∀i b,bZ (γ.set id .dead) i=some b->i≠id/\bZ γ i=some b:=by
  intro i b h;obtain⟨y,hy,hyb⟩:=cU h;by_cases hii:id=i;subst hii;rw[aX7 hlt] at hy;injection hy with hy;subst hy
  simp[OI.blk] at hyb;rw[aXW hii] at hy;exact⟨Ne.symm hii,bM hy hyb⟩
 have frz:=fun {c:aT}{v:Value} (h:RC F γ c v)=>aC2 (F':=F') (γ':=γ.set id .dead) hi ‹aI as.hp id=_› hsub hg hF2 h
 have frzs:∀{cs:List aT}{vs:Array Value},(∀(i:Nat) c v,cs[i]?=some c->vs[i]?=some v->RC F γ c v)->∀(i:Nat) c v,((cs.map (Ae id es)).map (cG (·==id)))[i]?=some c->vs[i]?=some v->RC F' (γ.set id .dead) c v:=by
  intro cs vs h i c v hc hv;rw[aX1,aXI] at hc;cases hci:cs[i]? with
  |none=>simp[hci] at hc
  |some c0=>
   simp only[hci,aXG,Option.some.injEq,Function.comp] at hc;subst hc;exact frz (h i c0 v hci hv)
 refine⟨F',γ.set id .dead,⟨hsub,rfl,rfl,rfl,aXF _,fun _ _ _=>rfl,fun b o h=>?_,fun i b h=>.inl ⟨i,(hb i b h).2⟩,fun i _ b h=>?_⟩,
  ⟨fun b o h=>?_,by simp[hi.len],fun i j b h1 h2=>hi.nd i j b (hb i b h1).2 (hb j b h2).2,fun i b h=>?_,fun i o y h1 h2=>?_⟩, ?_,by simpa using hk⟩
 by_cases hxb:x.blk=some b;exact .inr (.inr ⟨id,bM hx hxb⟩);rw[hFo b hxb] at h;exact .inl h;by_cases hii:id=i;subst hii;rw[hx] at h;injection h with h
 subst h;exact hok.elim;rw[aXW hii];exact h;by_cases hxb:x.blk=some b;rw[hFb b hxb] at h;exact h;rw[hFo b hxb] at h;exact hi.fz b o h;obtain⟨hne,hbb⟩:=hb i b h;rw[hFo b (fun e=>hne (hi.nd _ _ _ hbb (bM hx e)))]
 exact hi.disj i b hbb;by_cases hii:id=i;subst hii;rw[aX7 hlt] at h2;rw[aX7 (by rw[aXC,<- hi.len];exact hlt)] at h1;injection h1 with h1;injection h2 with h2;subst h1;subst h2
 trivial;rw[aXW hii] at h1 h2;rw[aXI] at h1;cases ho:as.hp[i]? with
 |none=>simp[ho] at h1
 |some o0=>
  simp only[ho,aXG,Option.some.injEq] at h1;subst h1;have h3:=hi.ok i o0 y ho h2;cases o0 with
  |box cs=>
   cases y with
   |box b=>
    obtain⟨vs,T,g1,g2,g3⟩:=h3;exact⟨vs,T,g1,by simpa[Tk] using g2,frzs g3⟩
   |arr _ _=>exact h3.elim
   |dead=>exact h3.elim
  |arr c2 s2 es2=>
   have:=h3.kill (p:=(·==id)) (F':=F') (γ':=γ.set id .dead) (w':=w) hsub hg (fun _ _=>rfl)
   exact this
  |dead=>
   have:=h3.kill (p:=(·==id)) (F':=F') (γ':=γ.set id .dead) (w':=w) hsub hg (fun _ _=>rfl)
   exact this
 refine⟨hs.1,by simpa using hs.2.1,fun i av v h1 h2=>?_⟩
 rw[aXI] at h1;cases hsi:as.sl[i]? with
 |none=>simp[hsi] at h1
 |some av0=>
  simp only[hsi,aXG,Option.some.injEq] at h1;subst h1;have h3:=hs.2.2 i av0 v hsi h2;cases h3 with
  |one c v h=>exact .one _ _ (frz h)
  |agg cs vs hsz h=>exact .agg _ _ (by simpa[aAl] using hsz) (frzs h)
  |tup l vs hsz h=>
   refine .tup _ _ (by simpa[aAl] using hsz) (fun i t v h1 h2=>?_)
   rw[aX1,aXI] at h1;obtain⟨t0,h4,rfl⟩:=Option.map_eq_some_iff.1 h1;cases h i t0 v h4 h2 with
   |one c v h=>exact .one _ _ (frz h)
   |agg cs vs hsz h=>exact .agg _ _ (by simpa[aMP] using hsz) (frzs h)
  |junk v=>exact .junk v
end
end
section
section
variable {P:Program}{G:aE}{k:Nat}{st st':AS}{x y:dP}
theorem AC.of_code{f:FuncId}{fn:Func}{n:Nat}{rs:List kQ}{ac:dP}{args:List AV}{objs:List aC}{Q:AV->List aC->Prop}(hf:P.funcs[f]?=some fn)(hn:fn.ntmps=n)
  (hc:fn.body.bind (bR P)=some ac) (hr:fn.results.toList.mapM (iZ P)=some rs)
  (h:AW P G objs.length ac (fun e s=>(e=.normal\/e=.ret)/\objs.length<=s.hp.length/\∃av,rW s rs=some av/\Q av s.hp) ⟨args++List.replicate (n-args.length) .junk,objs⟩):AC P G f args objs Q:=by
 cases hb:fn.body with
 |none=>rw[hb] at hc;cases hc
 |some c=>rw[hb] at hc;exact AC.of_body hf hb hn hr hc h
def Fin(k:Nat)(rs:List kQ)(Q:AV->List aC->Prop)(e:Exit)(s:AS):Prop:=
 (e=.normal\/e=.ret)/\k<=s.hp.length/\∃av,rW s rs=some av/\Q av s.hp
theorem AC.of_codeF{f:FuncId}{fn:Func}{n:Nat}{rs:List kQ}{ac:dP}{args:List AV}{objs:List aC}{Q:AV->List aC->Prop}(hf:P.funcs[f]?=some fn)(hn:fn.ntmps=n)
 (hc:fn.body.bind (bR P)=some ac) (hr:fn.results.toList.mapM (iZ P)=some rs)
 (h:AW P G objs.length ac (Fin objs.length rs Q) ⟨args++List.replicate (n-args.length) .junk,objs⟩):AC P G f args objs Q:=AC.of_code hf hn hc hr h
theorem Fin.ret{rs:List kQ}{Q:AV->List aC->Prop}{s:AS}{av:AV}(h1:k<=s.hp.length)(h2:rW s rs=some av)(h3:Q av s.hp):Fin k rs Q .ret s:=⟨.inr rfl,h1,av,h2,h3⟩
theorem Fin.normal{rs:List kQ}{Q:AV->List aC->Prop}{s:AS}{av:AV}(h1:k<=s.hp.length)(h2:rW s rs=some av)(h3:Q av s.hp):Fin k rs Q .normal s:=⟨.inl rfl,h1,av,h2,h3⟩
def G3(P:Program)(G:aE)(k:Nat)(y:dP)(Q:Exit->AS->Prop):Exit->AS->Prop:=fun e s=>match e with|.normal=>AW P G k y Q s|e=>Q e s
def Mj(id:Nat)(Q:Exit->AS->Prop):Exit->AS->Prop:=fun e s=>match e with|.exit id'=>if id'=id then Q .normal s else Q (.exit id') s|e=>Q e s
def Jv(k:Nat){α:Type}(H:α->AS)(I:α->Prop)(μ:α->Nat)(n:Nat)(Q:Exit->AS->Prop):Exit->AS->Prop:=fun e s=>match e with|.normal=>∃z',I z'/\μ z'<n/\Gh k s (H z')|e=>Q e s
variable {Q:Exit->AS->Prop}
theorem AW.seqv(h:AW P G k x (G3 P G k y Q) st):AW P G k (.seq x y) Q st:=AW.seq h
theorem G3.n(h:AW P G k y Q st):G3 P G k y Q .normal st:=h
theorem G3.r(h:Q .ret st):G3 P G k y Q .ret st:=h
theorem G3.e{id:Nat}(h:Q (.exit id) st):G3 P G k y Q (.exit id) st:=h
theorem Mj.n{id:Nat}(h:Q .normal st):Mj id Q .normal st:=h
theorem Mj.r{id:Nat}(h:Q .ret st):Mj id Q .ret st:=h
theorem Mj.e{id:Nat}(h:Q .normal st):Mj id Q (.exit id) st:=by show (if id=id then _ else _);rw[if_pos rfl];exact h
theorem Mj.o{id id':Nat}(hne:¬ id'=id)(h:Q (.exit id') st):Mj id Q (.exit id') st:=by show (if id'=id then _ else _);rw[if_neg hne];exact h
theorem Jv.n{α:Type}{H:α->AS}{I:α->Prop}{μ:α->Nat}{n:Nat}(z:α)(h1:I z)(h2:μ z<n)(h3:Gh k st (H z)):Jv k H I μ n Q .normal st:=⟨z,h1,h2,h3⟩
theorem Jv.r{α:Type}{H:α->AS}{I:α->Prop}{μ:α->Nat}{n:Nat}(h:Q .ret st):Jv k H I μ n Q .ret st:=h
theorem Jv.e{α:Type}{H:α->AS}{I:α->Prop}{μ:α->Nat}{n id:Nat}(h:Q (.exit id) st):Jv k H I μ n Q (.exit id) st:=h
theorem AW.loopG{α:Type}(H:α->AS)(I:α->Prop)(μ:α->Nat)(x0:α)(hI:I x0)(h0:Gh k st (H x0))(round:∀z,I z->AW P G k x (Jv k H I μ (μ z) Q) (H z)):AW P G k (.loop x) Q st:=by
 refine AW.loop (fun z s=>I z/\Gh k s (H z)) μ x0 ⟨hI,h0⟩ (fun z s hz=>?_)
 refine AW.ghost hz.2 ((round z hz.1).mono (fun e s' h=>?_))
 cases e with
 |normal=>obtain⟨z',h1,h2,h3⟩:=h;exact⟨z',⟨h1,h3⟩,h2⟩
 |exit id=>exact h
 |goto l=>exact h
 |ret=>exact h
 |panic c=>exact h
 |outgrown=>exact h
theorem WR.split{o:aN}{rest:List aN}{R:AS->Prop}{g:Nat}{b c:Bool}(_:o.guard=some (g,b))(_:cH (aK G st.sl (.t g))=some c)
  (h1:c=true->WR P G k (o::rest) R st) (h2:c=false->WR P G k (o::rest) R st):WR P G k (o::rest) R st:=by
 cases c with
 |true=>exact h1 rfl
 |false=>exact h2 rfl
theorem Gh.dropS(n:Nat)(hkn:k<=n){ys:List AV}{hs:List aC}(h1:SLe (st.sl.map (bD fun id=>decide (n<=id))) ys)(h2:(st.hp.take n).map (cJ fun id=>decide (n<=id))=hs):Gh k st ⟨ys,hs⟩:=by
 subst h2;exact Gh.trans (Gh.drop n hkn) (Gh.slots h1)
end
abbrev vi(n:Int):AV:=.one (.dc (.raw (.int .i64 n)))
abbrev vb(b:Bool):AV:=.one (.dc (.raw (.bool b)))
abbrev ci(n:Int):DC:=.raw (.int .i64 n)
abbrev vl(es:List (List DC)):AV:=.one (.dc (.slc es))
theorem C1{n:Int}(h:-9223372036854775808<=n/\n<=9223372036854775807):IntKind.i64.wrap n=n:=by
 have e1:(2 ^ IntKind.i64.bits:Int)=18446744073709551616:=by decide
 have e2:(2 ^ (IntKind.i64.bits-1):Int)=9223372036854775808:=by decide
 unfold IntKind.wrap;simp only[e1,e2,IntKind.signed,aYb,decide_eq_true_eq];split<;>omega
section
variable {P:Program}{G:aE}{k:Nat}{st st':AS}{R:AS->Prop}{o:aN}{rest:List aN}
theorem WR.allocE{zero:List Value}(hgd:iY G st o.guard)(ha:o.ai=.alloc zero)(hs:(⟨aQ st.sl o.dst (.one (.ptr st.hp.length 0)),st.hp++[.box (zero.map dA)]⟩:AS)=st')(h:WR P G k rest R st'):WR P G k (o::rest) R st:=
 WR.alloc hgd ha (hs ▸ h)
theorem WR.boxE{x:aH}{cs:List aT}(hgd:iY G st o.guard)(ha:o.ai=.box x)(hx:cellsOf (aK G st.sl x)=some cs)(hs:(⟨aQ st.sl o.dst (.one (.ptr st.hp.length 0)),st.hp++[.box cs]⟩:AS)=st')(h:WR P G k rest R st'):WR P G k (o::rest) R st:=
 WR.box hgd ha hx (hs ▸ h)
theorem WR.storeX{size id off:Nat}{x v:aH}{cs vs:List aT}(hgd:iY G st o.guard)(ha:o.ai=.store size x v)(hd0:o.dst=none)
 (hx:aK G st.sl x=.one (.ptr id off)) (hv:cellsOf (aK G st.sl v)=some vs) (hb:aI st.hp id=.box cs) (hsz:vs.length=size) (hle:off+size<=cs.length)
 (hs:(⟨st.sl,st.hp.set id (.box (cQ cs off vs))⟩:AS)=st') (h:WR P G k rest R st'):WR P G k (o::rest) R st:=WR.store hgd ha hd0 hx hv hb hsz hle (hs ▸ h)
theorem WR.bslcE{size len:Nat}{zero:List Value}{parts:List (Nat×aH)}{es:List (List DC)}(hgd:iY G st o.guard)(ha:o.ai=.bslc size len zero parts)
 (hf:gX ((List.range (len*size)).map fun i=>dA (zero.getD (i % zero.length) undef)) (parts.map fun (j,x)=>(j*size,size,aK G st.sl x))=some (mD es.flatten))
 (hes:∀e∈es,e.length=size) (hlen:es.length=len) (hs:(⟨aQ st.sl o.dst (.one (.bld st.hp.length len)),st.hp++[.arr len size es]⟩:AS)=st')
 (h:WR P G k rest R st'):WR P G k (o::rest) R st:=WR.bslc hgd ha hf hes hlen (hs ▸ h)
end
def sW:AI->Bool
 |.alloc _=>false
 |.box _=>false
 |.store _ _ _=>false
 |.bslc _ _ _ _=>false
 |.call _ _=>false
 |.callv _ _=>false
 |.app _ _ _ _ _=>false
 |.apps _ _=>false
 |.mk _ _ _ _ _=>false
 |.clr _ _ _=>false
 |.cpys _ _=>false
 |.cvsb _=>false
 |.slL _ _ _ _=>false
 |_=>true
theorem G4{ai:AI}(h:sW ai=true):ai.isPure=true:=by
 cases ai<;>first|rfl|(simp[sW] at h;done)
theorem C2{ai:AI}(h:sW ai=true){hp:List aC}:Md ai hp=hp:=by
 cases ai<;>first|rfl|(simp[sW] at h;done)
def aHw(G:aE):List (Bool×aN)->AS->Option (List (Bool×aN)×AS)
 |[],st=>some ([],st)
 |(b,o)::l,st=>if b=true/\o.guard=none/\sW o.ai=true then (cX G st o.ai).bind fun v=>aHw G l ⟨aQ st.sl o.dst v,st.hp⟩ else some ((b,o)::l,st)
def Ku(G:aE)(g:Nat)(c:Bool):List (Bool×aN)->AS->Option (List (Bool×aN)×AS)
 |[],st=>some ([],st)
 |(b,o)::l,st=>if b=true/\o.guard=some (g,c)/\sW o.ai=true/\o.dst≠some g then (cX G st o.ai).bind fun v=>Ku G g c l ⟨aQ st.sl o.dst v,st.hp⟩ else some ((b,o)::l,st)
def C3(g:Nat)(c:Bool):List (Bool×aN)->AS->List (Bool×aN)×AS
 |[],st=>([],st)
 |(b,o)::l,st=>if o.guard=some (g,c)/\o.dst≠some g then C3 g c l ⟨aQ st.sl o.dst (.tup []),st.hp⟩ else ((b,o)::l,st)
section
variable {P:Program}{G:aE}{k:Nat}{st st':AS}{R:AS->Prop}{o:aN}{rest ops:List (Bool×aN)}{Q:Exit->AS->Prop}
theorem WD.nil(h:R st):jM P G k R [] st:=h
theorem WD.skip{b:Bool}(hg:Es G st o.guard)(h:jM P G k R rest ⟨aQ st.sl o.dst (.tup []),st.hp⟩):jM P G k R ((b,o)::rest) st:=by
 cases b with
 |true=>exact⟨.tup [],.inl ⟨hg,rfl⟩,h⟩
 |false=>exact .inl ⟨hg,h⟩
theorem WD.run:∀(ops:List (Bool×aN)) (st:AS) (rest:List (Bool×aN)) (st':AS),aHw G ops st=some (rest,st')->jM P G k R rest st'->jM P G k R ops st
 |[],st,rest,st',h,hw=>by simp[aHw] at h;obtain⟨rfl,rfl⟩:=h;exact hw
 | (b,o)::ops,st,rest,st',h,hw=>by
  simp only[aHw] at h;split at h
  ·rename_i hc;obtain⟨rfl,hg,hpu⟩:=hc;cases he:cX G st o.ai with
   | none=>simp[he] at h
   | some v=>
    simp only[he,aXP] at h;exact⟨v,.inr ⟨by rw[hg];trivial,.inl (by rw[C2 hpu];exact he)⟩,WD.run ops _ rest st' h hw⟩
  ·injection h with h;injection h with h1 h2;subst h1;subst h2;exact hw
theorem WD.runG{g:Nat}{c:Bool}:∀(ops:List (Bool×aN)) (st:AS) (rest:List (Bool×aN)) (st':AS),cH (aK G st.sl (.t g))=some c->Ku G g c ops st=some (rest,st')->jM P G k R rest st'->jM P G k R ops st
 |[],st,rest,st',hb,h,hw=>by simp[Ku] at h;obtain⟨rfl,rfl⟩:=h;exact hw
 | (b,o)::ops,st,rest,st',hb,h,hw=>by
  simp only[Ku] at h;split at h
  ·rename_i hc;obtain⟨rfl,hg,hpu,hd⟩:=hc;cases he:cX G st o.ai with
   | none=>simp[he] at h
   | some v=>
    simp only[he,aXP] at h;exact⟨v,.inr ⟨by rw[hg];exact hb,.inl (by rw[C2 hpu];exact he)⟩,WD.runG ops _ rest st' (by rw[mW hd];exact hb) h hw⟩
  ·injection h with h;injection h with h1 h2;subst h1;subst h2;exact hw
theorem WD.skipG{g:Nat}{c:Bool}:∀(ops:List (Bool×aN)) (st:AS) (rest:List (Bool×aN)) (st':AS),Es G st (some (g,c))->C3 g c ops st=(rest,st')->jM P G k R rest st'->jM P G k R ops st
 |[],st,rest,st',hb,h,hw=>by simp[C3] at h;obtain⟨rfl,rfl⟩:=h;exact hw
 | (b,o)::ops,st,rest,st',hb,h,hw=>by
  simp only[C3] at h;split at h
  ·rename_i hc;exact WD.skip (by rw[hc.1];exact hb) (WD.skipG ops _ rest st' (by simp only[Es];rw[mW hc.2];exact hb) h hw)
  ·injection h with h1 h2;subst h1;subst h2;exact hw
theorem WD.split{g:Nat}{b c d:Bool}(_:o.guard=some (g,b))(_:cH (aK G st.sl (.t g))=some c)
  (h1:c=true->jM P G k R ((d,o)::rest) st) (h2:c=false->jM P G k R ((d,o)::rest) st):jM P G k R ((d,o)::rest) st:=by
 cases c with
 |true=>exact h1 rfl
 |false=>exact h2 rfl
theorem WD.allocE{zero:List Value}(hgd:iY G st o.guard)(ha:o.ai=.alloc zero)(hs:(⟨aQ st.sl o.dst (.one (.ptr st.hp.length 0)),st.hp++[.box (zero.map dA)]⟩:AS)=st')(h:jM P G k R rest st'):jM P G k R ((false,o)::rest) st:=by
 subst hs;exact .inr ⟨hgd,by rw[ha];exact h⟩
theorem WD.boxE{x:aH}{cs:List aT}(hgd:iY G st o.guard)(ha:o.ai=.box x)(hx:cellsOf (aK G st.sl x)=some cs)(hs:(⟨aQ st.sl o.dst (.one (.ptr st.hp.length 0)),st.hp++[.box cs]⟩:AS)=st')(h:jM P G k R rest st'):jM P G k R ((false,o)::rest) st:=by
 subst hs;exact .inr ⟨hgd,by rw[ha];exact⟨cs,hx,h⟩⟩
theorem WD.storeX{size id off:Nat}{x v:aH}{cs vs:List aT}(hgd:iY G st o.guard)(ha:o.ai=.store size x v)(hd0:o.dst=none)
  (hx:aK G st.sl x=.one (.ptr id off)) (hv:cellsOf (aK G st.sl v)=some vs) (hb:aI st.hp id=.box cs) (hsz:vs.length=size) (hle:off+size<=cs.length)
  (hs:(⟨st.sl,st.hp.set id (.box (cQ cs off vs))⟩:AS)=st') (h:jM P G k R rest st'):jM P G k R ((false,o)::rest) st:=by
 subst hs;exact .inr ⟨hgd,by rw[ha];exact⟨hd0,.inl ⟨id,off,cs,vs,hx,hv,hb,hsz,hle,h⟩⟩⟩
theorem WD.bslcE{size len:Nat}{zero:List Value}{parts:List (Nat×aH)}{es:List (List DC)}(hgd:iY G st o.guard)(ha:o.ai=.bslc size len zero parts)
  (hf:gX ((List.range (len*size)).map fun i=>dA (zero.getD (i % zero.length) undef)) (parts.map fun (j,x)=>(j*size,size,aK G st.sl x))=some (mD es.flatten))
  (hes:∀e∈es,e.length=size) (hlen:es.length=len) (hs:(⟨aQ st.sl o.dst (.one (.bld st.hp.length len)),st.hp++[.arr len size es]⟩:AS)=st')
  (h:jM P G k R rest st'):jM P G k R ((false,o)::rest) st:=by
 subst hs;exact .inr ⟨hgd,by rw[ha];exact .inl ⟨es,hf,hes,hlen,h⟩⟩
theorem WD.app{size bytes id n cap:Nat}{zero:List Value}{s x:aH}{es news:List (List DC)}(hgd:iY G st o.guard)(ha:o.ai=.app size bytes zero s x)
 (hs0:aK G st.sl s=.one (.bld id n)) (hb:aI st.hp id=.arr cap size es) (hn:n<=es.length) (hsrc:qS st.hp (aK G st.sl x)=some news) (hns:∀e∈news,e.length=size)
 (hub:(n+news.length)*bytes<=140737488355328)
 (h:∀cap',n+news.length<=cap'->jM P G k R rest ⟨aQ (st.sl.map (bD (·==id))) o.dst (.one (.bld id (n+news.length))),(st.hp.map (cJ (·==id))).set id (.arr cap' size (es.take n++news))⟩):
 jM P G k R ((false,o)::rest) st:=.inr ⟨hgd,by rw[ha];exact .inr ⟨id,n,cap,es,news,hs0,hb,hn,hsrc,hns,hub,h⟩⟩
theorem WD.appNil{size bytes:Nat}{zero:List Value}{s x:aH}{news:List (List DC)}(hgd:iY G st o.guard)(ha:o.ai=.app size bytes zero s x)
 (hs0:aK G st.sl s=dG (.slice none 0 0)) (hsrc:qS st.hp (aK G st.sl x)=some news) (hns:∀e∈news,e.length=size) (hub:news.length*bytes<=140737488355328)
 (h:∀cap',news.length<=cap'->jM P G k R rest ⟨aQ st.sl o.dst (.one (.bld st.hp.length news.length)),st.hp.map (cJ (·==st.hp.length))++[.arr cap' size news]⟩):
 jM P G k R ((false,o)::rest) st:=.inr ⟨hgd,by rw[ha];exact .inl ⟨hs0,news,hsrc,hns,hub,h⟩⟩
theorem WD.any(hgd:iY G st o.guard)(hai:match o.ai with|.callv _ _=>True|_=>False)(h:WR P G k [⟨o.dst,o.ai,none⟩] (jM P G k R rest) st):jM P G k R ((false,o)::rest) st:=by
 refine .inr ⟨hgd,?_⟩;obtain⟨d,ai,gd⟩:=o;cases ai with
 |callv x xs=>exact h
 |_=>cases hai
end
attribute [irreducible] Fin G3 Mj Jv
attribute [go_sem] aCB runG skipG AI.isPure cX aK aCj dG dA vi vb ci vl aQ aQN bH cH dB cellsOf Ov Kf Ow Cx eqR D0 aI lG aHc aCk At Gm dO Jt kS aHd rR gX S5 aCl aCm Kg Ox zO mpR mU iV hP List.set_cons_succ List.set_cons_zero List.getD_cons_succ List.getD_cons_zero aXP aXG aXE aXH aZb aYQ aY7 aYq aZa List.getElem?_cons_zero aXL aXT aXI aXC aYi aYp decide_eq_true_eq Int.natCast_nonneg true_and and_true cY Gw jN renL dC cF bD cG sG cJ aT.keep keepL aYE aX4 aYd aYm if_true
end
section
def aP:aC->aC
 |.arr _ s es=>.arr 0 s es
 |o=>o
def aD(s:AS):AS:=⟨s.sl,s.hp.map aP⟩
mutual
def aC3:aT->List Nat
 |.ptr id _=>[id]
 |.bld id _=>[id]
 |.ept id _ _ _=>[id]
 |.bls id _ _ _=>[id]
 |.fn _ caps=>idsL caps
 |_=>[]
def idsL:List aT->List Nat
 |[]=>[]
 |c::cs=>aC3 c++idsL cs
end
def aQY:TV->List Nat
 |.one c=>aC3 c
 |.agg cs=>idsL cs
def jE:AV->List Nat
 |.one c=>aC3 c
 |.agg cs=>idsL cs
 |.tup l=>l.flatMap aQY
 |.junk=>[]
def aHx:aC->List Nat
 |.box cs=>idsL cs
 |_=>[]
def Ea(p:Nat->Bool):TV->Bool
 |.one c=>c.keep p
 |.agg cs=>keepL p cs
def cV(p:Nat->Bool):AV->Bool
 |.one c=>c.keep p
 |.agg cs=>keepL p cs
 |.tup l=>l.all (Ea p)
 |.junk=>true
def nX(p:Nat->Bool):aC->Bool
 |.box cs=>keepL p cs
 |_=>true
def G5:List aT->Option (List DC)
 |[]=>some []
 |.dc d::r=>(G5 r).map (d::·)
 |_=>none
def qW(size:Nat):Nat->List DC->List (List DC)
 |0,_=>[]
 |n+1,l=>l.take size::qW size n (l.drop size)
def lE:List Nat->Nat->Nat
 |[],_=>0
 |j::J,x=>if x=j then 0 else lE J x+1
def sX(hp:List aC):Nat->List Nat->List Nat->List Nat
 |0,_,J=>J
 |_+1,[],J=>J
 |n+1,id::todo,J=>if J.contains id then sX hp n todo J else sX hp n (aHx (aI hp id)++todo) (J++[id])
def bU:List Nat->AS->AS
 |[],st=>st
 | id::r,st=>match aI st.hp id with
  | .arr _ _ es=>bU r ⟨st.sl.map fun v=>bD (·==id) (aAl id es v),(st.hp.map fun o=>cJ (·==id) (Tk id es o)).set id .dead⟩
  | _=>bU r st
def Af:AV->List Nat
 |.one (.bld id _)=>[id]
 |_=>[]
abbrev aO:=FuncId->List AV->List aC->Option (AV×List aC)
def kF(J:List Nat)(id:Nat):Bool:=!J.contains id
def okJ(J:List Nat)(hp:List aC)(avs:List AV):Bool:=
 mX (fun i j=>i != j) J&&J.all (fun j=>decide (j<hp.length)&&nX (kF J) (aI hp j))&&avs.all (cV (kF J))
def kG(call:aO)(dst:Option Nat)(f:FuncId)(avs:List AV)(st:AS):Option AS:=
 let J:=sX st.hp 2000 (avs.flatMap jE) []
 if okJ J st.hp avs then (call f (avs.map (cY (lE J))) (J.map fun j=>dC (lE J) (aI st.hp j))).map fun r=>iA J st dst r.1 r.2 else none
def aLD(dst:Option Nat)(size bytes:Nat)(s x:AV)(st:AS):Option AS:=
 match s with
 |.one (.bld id n)=>
  match aI st.hp id with
  |.arr _ sz es=>
   (qS st.hp x).bind fun news=>
    if sz=size/\n<=es.length/\(news.all fun e=>decide (e.length=size))=true/\(n+news.length) * bytes<=140737488355328 then
     some ⟨aQ (st.sl.map (bD (·==id))) dst (.one (.bld id (n+news.length))),(st.hp.map (cJ (·==id))).set id (.arr 0 size (es.take n++news))⟩
    else none
  |_=>none
 |.one (.dc (.raw (.slice none 0 0)))=>
  (qS st.hp x).bind fun news=>
   if (news.all fun e=>decide (e.length=size))=true/\news.length * bytes<=140737488355328 then
    some ⟨aQ st.sl dst (.one (.bld st.hp.length news.length)),st.hp.map (cJ (·==st.hp.length))++[.arr 0 size news]⟩
   else none
 |_=>none
def Wl(size:Nat)(x:AV)(vs:List aT)(st:AS):Option AS:=
 match x with
 |.one (.ptr id off)=>
  match aI st.hp id with
  |.box cs=>if vs.length=size/\off+size<=cs.length then some ⟨st.sl,st.hp.set id (.box (cQ cs off vs))⟩ else none
  |_=>none
 |.one (.ept id i s off)=>
  match aI st.hp id with
  |.arr _ s' es=>
   (G5 vs).bind fun ds=>(es[i]?).bind fun e=>if s'=s/\ds.length=size/\off+size<=e.length then some ⟨st.sl,st.hp.set id (.arr 0 s (es.set i (e.take off++ds++e.drop (off+size))))⟩ else none
  |_=>none
 |_=>none
def evI(G:aE)(dst:Option Nat)(ai:AI)(st:AS):Option AS:=
 match ai with
 |.alloc z=>some ⟨aQ st.sl dst (.one (.ptr st.hp.length 0)),st.hp++[.box (z.map dA)]⟩
 |.box x=>(cellsOf (aK G st.sl x)).map fun cs=>⟨aQ st.sl dst (.one (.ptr st.hp.length 0)),st.hp++[.box cs]⟩
 |.store size x v=>if dst=none then (cellsOf (aK G st.sl v)).bind fun vs=>Wl size (aK G st.sl x) vs st else none
 |.bslc size len zero parts=>
  (gX ((List.range (len*size)).map fun i=>dA (zero.getD (i % zero.length) undef)) (parts.map fun (j,x)=>(j*size,size,aK G st.sl x))).bind fun cells=>
   (G5 cells).bind fun ds=>if ds.length=len*size then some ⟨aQ st.sl dst (.one (.bld st.hp.length len)),st.hp++[.arr 0 size (qW size len ds)]⟩ else none
 |.app size bytes _ s x=>aLD dst size bytes (aK G st.sl s) (aK G st.sl x) st
 |_=>none
def aHz(call:aO)(G:aE)(o:aN)(st:AS):Option AS:=
 match o.ai with
 |.call f args=>let st1:=bU (args.flatMap fun x=>Af (aK G st.sl x)) st;kG call o.dst f (args.map (aK G st1.sl)) st1
 | .callv x args=>let st1:=bU (args.flatMap fun x=>Af (aK G st.sl x)) st
  match aK G st1.sl x with
  | .one (.fn f caps)=>kG call o.dst f (args.map (aK G st1.sl)++caps.map AV.one) st1
  | _=>none
 |.bslc _ _ _ ps=>evI G o.dst o.ai (bU (ps.flatMap fun p=>Af (aK G st.sl p.2)) st)
 |ai=>evI G o.dst ai st
def Pm(G:aE)(st:AS):Option (Nat×Bool)->Option Bool
 |none=>some true
 | some (g,b)=>match aK G st.sl (.t g) with
  | .tup []=>some false
  | v=>(cH v).map fun c=>c==b
def fN{β:Type}(n:Nat)(k:Nat->β):β:=match n with|0=>k 0|m+1=>k (Nat.succ m)
def fI{β:Type}(n:Int)(k:Int->β):β:=match n with|.ofNat m=>fN m fun m=>k (.ofNat m)|.negSucc m=>fN m fun m=>k (.negSucc m)
def fL{α β:Type}(f:α->(α->β)->β):List α->(List α->β)->β
 |[],k=>k []
 |x::xs,k=>f x fun y=>fL f xs fun ys=>k (y::ys)
def fB{β:Type}(s:ByteArray)(k:ByteArray->β):β:=match s with|⟨⟨l⟩⟩=>fL (fun x k=>k x) l fun l=>k ⟨⟨l⟩⟩
def aHA{β:Type}(v:Value)(k:Value->β):β:=match v with
 |.int kd n=>fI n fun n=>k (.int kd n)
 |.bool true=>k (.bool true)
 |.bool false=>k (.bool false)
 |.string s=>fB s fun s=>k (.string s)
 |v=>k v
def fD{β:Type}(d:DC)(k:DC->β):β:=match d with
 |.raw v=>aHA v fun v=>k (.raw v)
 |.slc es=>fL (fL fun d k=>match d with|.raw v=>aHA v fun v=>k (.raw v)|d=>k d) es fun es=>k (.slc es)
 |.ptr cs=>k (.ptr cs)
def fC{β:Type}(c:aT)(k:aT->β):β:=match c with
 |.dc d=>fD d fun d=>k (.dc d)
 |.ptr id o=>fN id fun id=>fN o fun o=>k (.ptr id o)
 |.bld id n=>fN id fun id=>fN n fun n=>k (.bld id n)
 |.ept id i s o=>fN id fun id=>fN i fun i=>fN s fun s=>fN o fun o=>k (.ept id i s o)
 |.bls id i s o=>fN id fun id=>fN i fun i=>fN s fun s=>fN o fun o=>k (.bls id i s o)
 |.ref cs=>fL fD cs fun cs=>k (.ref cs)
 |.mpc es=>k (.mpc es)
 |c=>k c
def fT{β:Type}(c:TV)(k:TV->β):β:=match c with
 |.one c=>fC c fun c=>k (.one c)
 |.agg cs=>fL fC cs fun cs=>k (.agg cs)
def fV{β:Type}(c:AV)(k:AV->β):β:=match c with
 |.one c=>fC c fun c=>k (.one c)
 |.agg cs=>fL fC cs fun cs=>k (.agg cs)
 |.tup l=>fL fT l fun l=>k (.tup l)
 |.junk=>k .junk
def fO{β:Type}(o:aC)(k:aC->β):β:=match o with
 |.box cs=>fL fC cs fun cs=>k (.box cs)
 |.arr c s es=>fN c fun c=>fN s fun s=>fL (fL fD) es fun es=>k (.arr c s es)
 |.dead=>k .dead
def fP{β:Type}(d:Option Nat)(v:AV)(s:AS)(k:AS->β):β:=fV v fun v=>fL (fun x k=>k x) (aQ s.sl d v) fun sl=>k ⟨sl,s.hp⟩
def fS{β:Type}(s:AS)(k:AS->β):β:=fL fV s.sl fun sl=>fL fO s.hp fun hp=>k ⟨sl,hp⟩
section
variable {β:Type}
theorem aC4(n:Nat)(k:Nat->β):fN n k=k n:=by cases n<;>rfl
theorem aQZ(n:Int)(k:Int->β):fI n k=k n:=by cases n<;>simp[fI,aC4]
theorem zR{α:Type}{f:α->(α->β)->β}(hf:∀x k,f x k=k x):∀(l:List α) (k:List α->β),fL f l k=k l
 |[],_=>rfl
 |x::xs,k=>by simp only[fL,hf,zR hf xs]
theorem aQ0(s:ByteArray)(k:ByteArray->β):fB s k=k s:=by obtain⟨⟨l⟩⟩:=s;simp only[fB];rw[zR (fun _ _=>rfl)]
theorem Wm(v:Value)(k:Value->β):aHA v k=k v:=by unfold aHA;split<;>simp[aQZ,aQ0]
theorem aLE(d:DC)(k:DC->β):fD d k=k d:=by
 cases d with
 |raw v=>simp[fD,Wm]
 |slc es=>
  simp only[fD];rw[zR];intro x k;rw[zR];intro d k;split<;>simp[Wm]
 |ptr cs=>rfl
theorem aC5(c:aT)(k:aT->β):fC c k=k c:=by cases c<;>simp[fC,aC4,aLE,zR]
theorem aQ1(c:TV)(k:TV->β):fT c k=k c:=by cases c<;>simp[fT,aC5,zR]
theorem aLF(c:AV)(k:AV->β):fV c k=k c:=by cases c<;>simp[fV,aC5,aQ1,zR]
theorem aQ2(c:aC)(k:aC->β):fO c k=k c:=by cases c<;>simp[fO,aC4,aC5,aLE,zR]
theorem Pn(d:Option Nat)(v:AV)(s:AS)(k:AS->β):fP d v s k=k ⟨aQ s.sl d v,s.hp⟩:=by simp only[fP,aLF];rw[zR (fun _ _=>rfl)]
theorem aLG(s:AS)(k:AS->β):fS s k=k s:=by simp[fS,zR,aLF,aQ2]
end
def Wn(k:IntKind)(n:Int):Int:=match k with
 |.i64=>if -9223372036854775808<=n then (if n<=9223372036854775807 then n else IntKind.i64.wrap n) else IntKind.i64.wrap n
 |k=>k.wrap n
theorem Po(k:IntKind)(n:Int):Wn k n=k.wrap n:=by
 cases k<;>simp only[Wn];split;split;exact (C1 ⟨by assumption,by assumption⟩).symm;rfl;rfl
def evF(G:aE)(st:AS)(ai:AI):Option AV:=
 match ai with
 | .bin .add x y=>match aK G st.sl x,aK G st.sl y with
  | .one (.dc (.raw (.int .i64 a))),.one (.dc (.raw (.int .i64 b)))=>some (dG (.int .i64 (Wn .i64 (a+b))))
  | _,_=>cX G st (.bin .add x y)
 | .bin .sub x y=>match aK G st.sl x,aK G st.sl y with
  | .one (.dc (.raw (.int .i64 a))),.one (.dc (.raw (.int .i64 b)))=>some (dG (.int .i64 (Wn .i64 (a - b))))
  | _,_=>cX G st (.bin .sub x y)
 |ai=>cX G st ai
def G6(call:aO)(G:aE):List aN->AS->Option AS
 |[],st=>some st
 |o::l,st=>(Pm G st o.guard).bind fun b=>
  if b then (if o.ai.isPure then (evF G st o.ai).bind fun v=>fP o.dst v st fun st'=>G6 call G l st' else (aHz call G o st).bind fun st'=>fS st' fun st'=>G6 call G l st')
  else fP o.dst (.tup []) st fun st'=>G6 call G l st'
def evQ(call:aO)(G:aE)(o:aN)(st:AS):Option AV:=
 match o.ai with
 |.call f args=>
  if (args.map (aK G st.sl)).all (cV fun _=>true) then (call f (args.map (aK G st.sl)) []).bind fun r=>
   let v:=bD (fun id=>decide (0<=id)) ((bU (jE r.1) ⟨[r.1],r.2⟩).sl.getD 0 .junk)
   if cV (fun _=>true) v then some v else none
  else none
 |_=>none
def evD(call:aO)(G:aE):List (Bool×aN)->AS->Option AS
 |[],st=>some st
 |(b,o)::l,st=>(Pm G st o.guard).bind fun c=>
  if c then (if b then (if o.ai.isPure then evF G ⟨st.sl,Md o.ai st.hp⟩ o.ai else evQ call G o st).bind fun v=>fP o.dst v st fun st'=>evD call G l st'
   else (match o.ai with
   | .call _ _=>(evQ call G o st).map fun v=>(⟨aQ st.sl o.dst v,st.hp⟩:AS)
   | .callv _ _=>aHz call G o st
   | ai=>evI G o.dst ai st).bind fun st'=>fS st' fun st'=>evD call G l st')
  else fP o.dst (.tup []) st fun st'=>evD call G l st'
abbrev Tbl:=FuncId->Option (dP×List kQ×Nat)
def Kv:Exit->Bool
 |.normal=>true
 |.ret=>true
 |_=>false
def Kw(T:Tbl)(run:dP->AS->Option (Exit×AS)):aO:=fun f args hp=>
 match T f with
 |some (c,rs,nt)=>(run c ⟨args++List.replicate (nt-args.length) .junk,hp⟩).bind fun r=>if Kv r.1&&decide (hp.length<=r.2.hp.length) then (rW r.2 rs).map fun av=>if cV (fun id=>decide (hp.length<=id)) av&&(r.2.hp.take hp.length).all (nX fun id=>decide (hp.length<=id)) then (av,r.2.hp.take hp.length) else (av,r.2.hp) else none
 |none=>none
def C4(G:aE)(T:Tbl):Nat->dP->AS->Option (Exit×AS)
 |0,_,_=>none
 |n+1,c,st=>
  match c with
  |.skip=>some (.normal,st)
  |.ret=>some (.ret,st)
  |.exit id=>some (.exit id,st)
  |.bad=>none
  |.drawnF _ _=>none
  |.drawnT _ _=>none
  |.region ops=>(G6 (Kw T (C4 G T n)) G ops st).map fun s=>(.normal,s)
  |.drawn ops=>(evD (Kw T (C4 G T n)) G ops st).map fun s=>(.normal,s)
  | .seq a b=>(C4 G T n a st).bind fun r=>match r.1 with
   | .normal=>C4 G T n b r.2
   | e=>some (e,r.2)
  |.cond c a b=>(cH (aK G st.sl c)).bind fun t=>if t then C4 G T n a st else C4 G T n b st
  | .block id a=>(C4 G T n a st).map fun r=>match r.1 with
   | .exit id'=>if id'=id then (.normal,r.2) else (.exit id',r.2)
   | e=>(e,r.2)
  | .loop a=>(C4 G T n a st).bind fun r=>match r.1 with
   | .normal=>C4 G T n (.loop a) r.2
   | e=>some (e,r.2)
end
end Go.Proofs.YthepfneloomngaaGreatDoor
