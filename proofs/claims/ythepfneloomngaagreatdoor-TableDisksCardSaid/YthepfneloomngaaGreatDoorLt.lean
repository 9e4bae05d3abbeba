/- An interpreter of codes over abstract states: what it answers is a contract. Conditions: none. -/
import Derived.Test.YthepfneloomngaaGreatDoorMg
namespace Go.Proofs.YthepfneloomngaaGreatDoor
set_option linter.unusedSimpArgs false
set_option linter.unusedVariables false
section
inductive dJ where
 | skip | ret
 | region (ops:List aM)
 | drawn (ops:List (Bool × aM))
 | drawnF (prs:List (Nat × Nat)) (ops:List aM)
 | drawnT (t:IT) (ops:List aM)
 | seq (a b:dJ)
 | cond (c:aH) (a b:dJ)
 | block (id:Nat) (a:dJ)
 | loop (a:dJ)
 | exit (id:Nat)
 | bad
def Ys:AI->Bool
 | .alloc _=>true
 | .store _ _ _=>true
 | .call _ _=>true
 | .cpys _ _=>true
 | _=>false
def aTR(P:Program)(o:aM):Bool:=match o.ai with
 | .call f _=>match P.funcs[f]? with
  | some fn=>fn.results.isEmpty
  | none=>false
 | .cpys _ _=>true
 | _=>false
def aPk(c:List (List Nat))(ops:List aM)(ord:List Nat):List (Nat × Nat):=
 (List.range ord.length).flatMap fun q=>(List.range q).filterMap fun p=>if (c.getD (ord.getD q 0) []).contains (ord.getD p 0)||!(Ys (ops.getD p kN).ai||Ys (ops.getD q kN).ai) then none else some (p,q)
def aPl(c:List (List Nat))(ops:List aM)(ord:List Nat):Bool:=
 (List.range ord.length).all fun q=>(List.range q).all fun p=>(c.getD (ord.getD q 0) []).contains (ord.getD p 0)||Rt (ops.getD p kN) (ops.getD q kN)
def qD(opsA:Array Oper)(l:List aM)(ord:List Nat):Option dJ:=
 if D7 opsA.toList l.length ord&&mH (fun i j=>i != j) ord&&aPl (iW opsA.toList []) (ord.map fun i=>l.getD i kN) ord then
  some (.drawnF (aPk (iW opsA.toList []) (ord.map fun i=>l.getD i kN) ord) (ord.map fun i=>l.getD i kN)) else none
def aGj(opsA:Array Oper)(l:List aM):Option (List (Bool × aM)):=
 ((Cv (iW opsA.toList []) opsA.toList (pF (iW opsA.toList []) l) (Ke (iW opsA.toList []) ((pF (iW opsA.toList []) l).map (·.1)) l.length (List.range l.length))).or
  (Cv (iW opsA.toList []) opsA.toList (pF (iW opsA.toList []) l) (aBC (iW opsA.toList []) ((pF (iW opsA.toList []) l).map (·.1)) (l.map fun o=>Bj o.ai) l.length (List.range l.length))))
def aTS:AI->Bool
 | .call f _=>trL.contains f
 | _=>false
def aBT(opsA:Array Oper)(l:List aM)(t:IT):Option dJ:=
 if D8 opsA.toList&&vT (iW opsA.toList []) l opsA t (List.range l.length) [] then some (.drawnT t l) else none
def aLm(opsA:Array Oper)(l:List aM):Option dJ:=
 (mkT (iW opsA.toList []) l opsA (l.length+1) (if trL.contains 1 then 1500 else if trL.contains 3 then 6000 else 80) (List.range l.length)).bind fun p=>aBT opsA l p.1
def aGk(P:Program)(opsA:Array Oper)(l:List aM)(d:Bool):Option dJ:=
 if d then
  if l.any (aTR P) then (qD opsA l (Ke (iW opsA.toList []) [] l.length (List.range l.length))).or ((aGj opsA l).map .drawn)
  else ((aGj opsA l).map .drawn).or (qD opsA l (Ke (iW opsA.toList []) [] l.length (List.range l.length)))
 else some (.region l)
def aPm:AI->Bool
 | .ixL _ _ _=>true
 | _=>false
def aTT:AI->Bool
 | .store _ _ _=>true
 | _=>false
def aTU:AI->Bool
 | .ixA _ _ _ _=>true
 | _=>false
def aTV:AI->Bool
 | .app _ _ _ _ _=>true
 | _=>false
def aTW(l:List aM):AI->Bool
 | .ixL _ _ _=>true
 | .addo _ (.t m)=>l.any fun o=>o.dst==some m&&aPm o.ai
 | _=>false
def aTX(l:List aM):AI->Bool
 | .store _ (.t n) _=>l.any fun o=>o.dst==some n&&aTW l o.ai
 | _=>false
def aLn(P:Program)(opsA:Array Oper)(l:List aM)(d:Bool):Option dJ:=
 if d&&(l.any (fun o=>aTS o.ai)||(trL.contains 1&&decide (1 < (l.filter fun o=>aTV o.ai).length))||(trL.contains 2&&l.any (fun o=>aTU o.ai)&&decide (1 < (l.filter fun o=>aTT o.ai).length))||(trL.contains 0&&l.any (fun o=>aPm o.ai)&&l.any (fun o=>aTX l o.ai))) then (aLm opsA l).or (aGk P opsA l d) else aGk P opsA l d
theorem I1{P:Program}{opsA:Array Oper}{l:List aM}{d:Bool}{x:dJ}(h:aGk P opsA l d=some x):(x=.region l/\d=false)\/(∃ lq lp ord,x=.drawn lp/\d=true/\lq.map (·.2)=l/\Cv (iW opsA.toList []) opsA.toList lq ord=some lp)\/
  ∃ prs ops ord,x=.drawnF prs ops/\d=true/\qD opsA l ord=some x:=by
 unfold aGk at h;cases d with
 | false=>simp at h;exact .inl ⟨h.symm,rfl⟩
 | true=>
  simp only[if_true] at h;have hA:∀ {x},(aGj opsA l).map dJ.drawn=some x->(x=.region l/\true=false)\/(∃ lq lp ord,x=.drawn lp/\true=true/\lq.map (·.2)=l/\Cv (iW opsA.toList []) opsA.toList lq ord=some lp)\/
    ∃ prs ops ord,x=.drawnF prs ops/\true=true/\qD opsA l ord=some x:=by
   intro x h;unfold aGj at h;obtain⟨lp,h1,h2⟩:=Option.map_eq_some_iff.1 h;rcases Option.or_eq_some_iff.1 h1 with h1 | ⟨_,h1⟩
   ·exact .inr (.inl ⟨_,lp,_,h2.symm,rfl,Fd,h1⟩)
   ·exact .inr (.inl ⟨_,lp,_,h2.symm,rfl,Fd,h1⟩)
  have hB:∀ {x ord},qD opsA l ord=some x->(x=.region l/\true=false)\/(∃ lq lp ord,x=.drawn lp/\true=true/\lq.map (·.2)=l/\Cv (iW opsA.toList []) opsA.toList lq ord=some lp)\/
    ∃ prs ops ord,x=.drawnF prs ops/\true=true/\qD opsA l ord=some x:=by
   intro x ord h;have h':=h;unfold qD at h';split at h'
   ·injection h' with h'
    exact .inr (.inr ⟨_,_,_,h'.symm,rfl,h⟩)
   ·cases h'
  split at h
  ·rcases Option.or_eq_some_iff.1 h with h | ⟨_,h⟩
   ·exact hB h
   ·exact hA h
  ·rcases Option.or_eq_some_iff.1 h with h | ⟨_,h⟩
   ·exact hA h
   ·exact hB h
theorem Yt{opsA:Array Oper}{l:List aM}{x:dJ}(h:aLm opsA l=some x):∃ t,x=.drawnT t l/\D8 opsA.toList=true/\vT (iW opsA.toList []) l opsA t (List.range l.length) []=true:=by
 unfold aLm at h;obtain⟨p,_,h⟩:=aW5.1 h;unfold aBT at h;split at h
 ·rename_i hc;simp only[aWs] at hc;injection h with h
  exact⟨p.1,h.symm,hc.1,hc.2⟩
 ·cases h
theorem dV{P:Program}{opsA:Array Oper}{l:List aM}{d:Bool}{x:dJ}(h:aLn P opsA l d=some x):(x=.region l/\d=false)\/(∃ lq lp ord,x=.drawn lp/\d=true/\lq.map (·.2)=l/\Cv (iW opsA.toList []) opsA.toList lq ord=some lp)\/
  (∃ prs ops ord,x=.drawnF prs ops/\d=true/\qD opsA l ord=some x)\/∃ t,x=.drawnT t l/\d=true/\D8 opsA.toList=true/\vT (iW opsA.toList []) l opsA t (List.range l.length) []=true:=by
 unfold aLn at h;split at h
 ·rename_i hd;simp only[aWs] at hd;rcases Option.or_eq_some_iff.1 h with h | ⟨_,h⟩
  ·obtain⟨t,h1,h2,h3⟩:=Yt h;exact .inr (.inr (.inr ⟨t,h1,hd.1,h2,h3⟩))
  ·rcases I1 h with h | h | h
   ·exact .inl h
   ·exact .inr (.inl h)
   ·exact .inr (.inr (.inl h))
 ·rcases I1 h with h | h | h
  ·exact .inl h
  ·exact .inr (.inl h)
  ·exact .inr (.inr (.inl h))
def aPn:Option dJ->Option dJ
 | some x=>some x
 | none=>some .bad
theorem dX{o:Option dJ}{x:dJ}(h:aPn o=some x)(hx:x≠.bad):o=some x:=by
 cases o with
 | none=>injection h with h;exact absurd h.symm hx
 | some y=>exact h
def bQ(P:Program):Code->Option dJ
 | .skip=>some .skip
 | .ret=>some .ret
 | .region _ ops d=>aPn ((bB P ops ops.toList).bind fun l=>aLn P ops l d)
 | .seq a b=>(bQ P a).bind fun x=>(bQ P b).map fun y=>.seq x y
 | .cond c a b=>(bQ P a).bind fun x=>(bQ P b).map fun y=>.cond (aS c) x y
 | .block id a=>(bQ P a).map fun x=>.block id x
 | .loop a=>(bQ P a).map fun x=>.loop x
 | .exit id=>some (.exit id)
 | _=>some .bad
def AW(P:Program)(G:aF)(k:Nat)(ac:dJ)(Q:Exit->AS->Prop)(as:AS):Prop:=
 ∀ c,bQ P c=some ac->∀ F γ a w,dC F γ as.hp w->bT F γ as.sl a->dS F G->k<=γ.length->
  ∀ QE:Exit->Act->World->Prop,(∀ e a' w' F' γ' as',Q e as'->gA k F γ w F' γ' w'->dC F' γ' as'.hp w'->bT F' γ' as'.sl a'->k<=γ'.length->QE e a' w')->c.wp P QE a w
section
variable {P:Program} {G:aF} {k:Nat} {Q:Exit->AS->Prop} {as as':AS} {x y:dJ}
theorem AW.ghost(h:Gh k as as')(hw:AW P G k x Q as'):AW P G k x Q as:=by
 intro c hc F γ a w hi hs hg hk QE hq;obtain⟨F',γ',he,hi',hs',hk'⟩:=h F γ a w hi hs hk;exact hw c hc F' γ' a w hi' hs' (hg.sub he.sub) hk' QE (fun e a' w' F'' γ'' as'' h1 h2 h3 h4=>hq e a' w' F'' γ'' as'' h1 (he.trans h2) h3 h4)
theorem AW.mono{Q':Exit->AS->Prop}(h:AW P G k x Q as)(hq:∀ e as,Q e as->Q' e as):AW P G k x Q' as:=by
 intro c hc F γ a w hi hs hg hk QE hqe;exact h c hc F γ a w hi hs hg hk QE (fun e a' w' F' γ' as' h1=>hqe e a' w' F' γ' as' (hq _ _ h1))
theorem AW.skip(h:Q .normal as):AW P G k .skip Q as:=by
 intro c hc F γ a w hi hs hg hk QE hq;cases c<;>simp only[bQ] at hc<;>first | (cases hc;done) | skip
 ·exact wp_skip (hq .normal a w F γ as h (gA.refl _ _ _ _) hi hs hk)
 all_goals first | (exfalso;revert hc;simp[aW5];done) | (exfalso;obtain⟨l,_,hc⟩:=aW5.1 (dX hc (by simp));rcases dV hc with⟨h,_⟩ | ⟨_,_,_,h,_⟩ | ⟨_,_,_,h,_⟩ | ⟨_,h,_⟩<;>cases h)
 
theorem AW.ret(h:Q .ret as):AW P G k .ret Q as:=by
 intro c hc F γ a w hi hs hg hk QE hq;cases c<;>simp only[bQ] at hc<;>first | (cases hc;done) | skip
 case ret=>exact wp_ret (hq .ret a w F γ as h (gA.refl _ _ _ _) hi hs hk)
 all_goals first | (exfalso;revert hc;simp[aW5];done) | (exfalso;obtain⟨l,_,hc⟩:=aW5.1 (dX hc (by simp));rcases dV hc with⟨h,_⟩ | ⟨_,_,_,h,_⟩ | ⟨_,_,_,h,_⟩ | ⟨_,h,_⟩<;>cases h)
theorem AW.exit{id:Nat}(h:Q (.exit id) as):AW P G k (.exit id) Q as:=by
 intro c hc F γ a w hi hs hg hk QE hq;cases c<;>simp only[bQ] at hc<;>first | (cases hc;done) | skip
 case exit id'=>
  injection hc with hc;injection hc with hc;subst hc
  exact wp_exit (hq (.exit id') a w F γ as h (gA.refl _ _ _ _) hi hs hk)
 all_goals first | (exfalso;revert hc;simp[aW5];done) | (exfalso;obtain⟨l,_,hc⟩:=aW5.1 (dX hc (by simp));rcases dV hc with⟨h,_⟩ | ⟨_,_,_,h,_⟩ | ⟨_,_,_,h,_⟩ | ⟨_,h,_⟩<;>cases h)
theorem AW.region{ops:List aM}(h:WR P G k ops (Q .normal) as):AW P G k (.region ops) Q as:=by
 intro c hc F γ a w hi hs hg hk QE hq;cases c<;>simp only[bQ] at hc<;>first | (cases hc;done) | skip
 case region id opsA d=>
  have hc:=dX hc (by simp);cases ho:bB P opsA opsA.toList with
  | none=>simp[ho] at hc
  | some l=>
   simp only[ho,aWr] at hc;rcases dV hc with⟨h1,rfl⟩ | ⟨_,_,_,h1,_⟩ | ⟨_,_,_,h1,_⟩ | ⟨_,h1,_⟩
   ·injection h1 with h1;subst h1
    exact wp_region_list (h opsA _ ho F γ a w hi hs hg hk QE (fun a' w' F' γ' as' h1=>hq .normal a' w' F' γ' as' h1))
   ·cases h1
   ·cases h1
   ·cases h1
 all_goals first | (exfalso;revert hc;simp[aW5];done) | (exfalso;obtain⟨l,_,hc⟩:=aW5.1 (dX hc (by simp));rcases dV hc with⟨h,_⟩ | ⟨_,_,_,h,_⟩ | ⟨_,_,_,h,_⟩ | ⟨_,h,_⟩<;>cases h)
theorem AW.drawn{ops:List (Bool × aM)}(h:iU P G k (Q .normal) ops as):AW P G k (.drawn ops) Q as:=by
 intro c hc F γ a w hi hs hg hk QE hq;cases c<;>simp only[bQ] at hc<;>first | (cases hc;done) | skip
 case region id opsA d=>
  have hc:=dX hc (by simp);cases ho:bB P opsA opsA.toList with
  | none=>simp[ho] at hc
  | some l=>
   simp only[ho,aWr] at hc;rcases dV hc with⟨h1,_⟩ | ⟨lq,lp,ord,h1,rfl,hl,hd⟩ | ⟨_,_,_,h1,_⟩ | ⟨_,h1,_⟩
   ·cases h1
   ·injection h1 with h1;subst h1
    exact aBL (by rw[hl];exact ho) hd h hi hs hg hk (fun a' w' F' γ' as' h1=>hq .normal a' w' F' γ' as' h1)
   ·cases h1
   ·cases h1
 all_goals first | (exfalso;revert hc;simp[aW5];done) | (exfalso;obtain⟨l,_,hc⟩:=aW5.1 (dX hc (by simp));rcases dV hc with⟨h,_⟩ | ⟨_,_,_,h,_⟩ | ⟨_,_,_,h,_⟩ | ⟨_,h,_⟩<;>cases h)
def nC:FE:=(kN,[],[])
def dsj(f g:List Nat × List Nat):Bool:=rN f.1 (g.2++g.1)&&rN g.1 f.2
theorem jK.noWr{o:aM}{st:AS}{v:AV}{u:Option (Nat × aD)}{R:List Nat}(h:jK P G k o st v u R)(hw:Ys o.ai=false):u=none:=by
 cases h with
 | skip h=>rfl
 | pur _ _ h hv hR=>rfl
 | call f args cargs r _ h ha hq hn=>rfl
 | lit size len z ps es h ha hf hes hlen=>rfl
 | alloc z id h ha hd hk=>rw[ha] at hw;cases hw
 | callB f args cargs id cs cs' h ha hb hac hargs hr=>rw[ha] at hw;cases hw
 | cpy x y id lo n bs cs h ha hx hy hb hle=>rw[ha] at hw;cases hw
 | store size x v id off cs vs h ha hd0 hx hv hb hsz hle=>rw[ha] at hw;cases hw
theorem kM.noWr{K:AS->Prop}:∀ {l:List FE} {st:AS},kM P G k K l st->∀ e∈l,Ys e.1.ai=false->e.2.1=[]
 | [],_,_,e,he,_=>by cases he
 | (o,f)::l,st,h,e,he,hw=>by
  obtain⟨v,u,R,s,e1,e2,h⟩:=h;rcases aXn.1 he with rfl | he
  ·rw[<- e1,s.noWr hw];rfl
  ·exact kM.noWr h e he hw
theorem AW.drawnF{prs:List (Nat × Nat)}{ops:List aM}{L:List FE}(hL:L.map (·.1)=ops)(hp:∀ p∈prs,dsj (L.getD p.1 nC).2 (L.getD p.2 nC).2=true)(h:kM P G k (Q .normal) L as):AW P G k (.drawnF prs ops) Q as:=by
 intro c hc F γ a w hi hs hg hk QE hq;cases c<;>simp only[bQ] at hc<;>first | (cases hc;done) | skip
 case region id opsA d=>
  have hc:=dX hc (by simp);cases ho:bB P opsA opsA.toList with
  | none=>simp[ho] at hc
  | some l=>
   simp only[ho,aWr] at hc;rcases dV hc with⟨h1,_⟩ | ⟨_,_,_,h1,_⟩ | ⟨prs',ops',ord,h1,rfl,hd⟩ | ⟨_,h1,_⟩
   ·cases h1
   ·cases h1
   ·unfold qD at hd;split at hd
    ·rename_i hok;simp only[aWs] at hok;obtain⟨⟨hok1,hnd⟩,hst⟩:=hok;injection hd with hd
     injection hd with hd1 hd2
     have hpw0:=zK _ hnd;have hnodup:ord.Nodup:=hpw0.imp (fun h e=>by simp[e] at h)
     have hok1':=hok1;simp only[D7,aWs] at hok1';obtain⟨⟨_,hall⟩,hlt⟩:=hok1';have hlen:L.length=ord.length:=by
      have:=congrArg List.length (hL.trans hd2.symm);simpa using this
     have hE1:∀ p (hp:p < ord.length),(L[p]'(by omega)).1=l.getD ord[p] kN:=fun p hp=>by
      have:(L.map (·.1))[p]?=(ord.map fun i=>l.getD i kN)[p]?:=by rw[hL,hd2]
      rw[aWl,aWl,aWo (by omega),aWo hp] at this;simpa using this
     let E:Nat->FE:=fun i=>L.getD (ord.idxOf i) nC
     have hEp:∀ p (hp:p < ord.length),E ord[p]=L[p]'(by omega):=fun p hp=>by
      show L.getD (ord.idxOf ord[p]) nC=_;rw[hnodup.idxOf_getElem p hp,aWn,aWo (by omega)];rfl
     have hmap:ord.map E=L:=List.ext_getElem (by simp[hlen]) (fun p h1 h2=>by
      rw[aW0];exact hEp p (by omega))
     refine Yn (E:=E) ho hok1 (fun i hil=>?_) ?_ (by rw[hmap];exact h) hi hs hg hk (fun a' w' F' γ' as' h1=>hq .normal a' w' F' γ' as' h1)
     ·have hm:i∈ord:=by
       have:=List.all_eq_true.1 hall i (by simpa using hil);simpa using this
      have hix:=List.idxOf_lt_length_of_mem hm;have e1:=hEp _ hix;have e2:=hE1 _ hix;rw[List.getElem_idxOf hix] at e1 e2;rw[e1,e2]
     ·rw[aXR];intro p q hp1 hq1 hpq;have hne:ord[p]≠ord[q]:=fun e=>by
       have:=(aXR.1 hnodup) p q hp1 hq1 hpq;exact this e
      refine⟨hne, ?_⟩;have hgp:ord.getD p 0=ord[p]:=by rw[aWn,aWo hp1];rfl
      have hgq:ord.getD q 0=ord[q]:=by rw[aWn,aWo hq1];rfl
      cases hcl:((iW opsA.toList []).getD ord[q] []).contains ord[p] with
      | true=>exact .inl rfl
      | false=>
       right
       rw[hEp p hp1,hEp q hq1];have hop:∀ r (hr:r < ord.length),(ord.map fun i=>l.getD i kN).getD r kN=(L[r]'(by omega)).1:=fun r hr=>by
        rw[hE1 r hr,aWn,aWl,aWo hr];rfl
       have hs1:=List.all_eq_true.1 (List.all_eq_true.1 hst q (by simpa using hq1)) p (by simpa using hpq);rw[hgp,hgq,hcl,aW4,hop p hp1,hop q hq1] at hs1;by_cases hw:(Ys (L[p]'(by omega)).1.ai||Ys (L[q]'(by omega)).1.ai)=true
       ·have hmem:(p,q)∈prs:=by
         rw[<- hd1];simp only[aPk,List.mem_flatMap,List.mem_filterMap,List.mem_range];refine⟨q,hq1,p,hpq, ?_⟩;rw[hgp,hgq,hcl,hop p hp1,hop q hq1,hw];rfl
        have:=hp _ hmem;simp only[aWn] at this;rw[aWo (show p < L.length by omega),aWo (show q < L.length by omega)] at this;simp only[dsj,aWX,aWs] at this;simp only[Ru,hs1,this.1,this.2,Bool.and_self]
       ·simp only[Bool.or_eq_true,not_or,Bool.not_eq_true] at hw;have w1:=kM.noWr h _ (aWq (show p < L.length by omega)) hw.1;have w2:=kM.noWr h _ (aWq (show q < L.length by omega)) hw.2;simp only[Ru,hs1,w1,w2,rN,List.all_nil,Bool.and_self]
    ·cases hd
   ·cases h1
 all_goals first | (exfalso;revert hc;simp[aW5];done) | (exfalso;obtain⟨l,_,hc⟩:=aW5.1 (dX hc (by simp));rcases dV hc with⟨h,_⟩ | ⟨_,_,_,h,_⟩ | ⟨_,_,_,h,_⟩ | ⟨_,h,_⟩<;>cases h)
theorem AW.drawnT{t:IT}{ops:List aM}(h:TW P G k ops (Q .normal) t as):AW P G k (.drawnT t ops) Q as:=by
 intro c hc F γ a w hi hs hg hk QE hq;cases c<;>simp only[bQ] at hc<;>first | (cases hc;done) | skip
 case region id opsA d=>
  have hc:=dX hc (by simp);cases ho:bB P opsA opsA.toList with
  | none=>simp[ho] at hc
  | some l=>
   simp only[ho,aWr] at hc;rcases dV hc with⟨h1,_⟩ | ⟨_,_,_,h1,_⟩ | ⟨_,_,_,h1,_⟩ | ⟨t',h1,rfl,h2,h3⟩
   ·cases h1
   ·cases h1
   ·cases h1
   ·injection h1 with h1 h4
    subst h1;subst h4;exact Yr ho h2 h3 h hi hs hg hk (fun a' w' F' γ' as' h1=>hq .normal a' w' F' γ' as' h1)
 all_goals first | (exfalso;revert hc;simp[aW5];done) | (exfalso;obtain⟨l,_,hc⟩:=aW5.1 (dX hc (by simp));rcases dV hc with⟨h,_⟩ | ⟨_,_,_,h,_⟩ | ⟨_,_,_,h,_⟩ | ⟨_,h,_⟩<;>cases h)
theorem AW.seq(h:AW P G k x (fun e as=>match e with | .normal=>AW P G k y Q as | e=>Q e as) as):AW P G k (.seq x y) Q as:=by
 intro c hc F γ a w hi hs hg hk QE hq;cases c<;>simp only[bQ] at hc<;>first | (cases hc;done) | skip
 case seq c1 c2=>
  cases h1:bQ P c1 with
  | none=>simp[h1] at hc
  | some x'=>cases h2:bQ P c2 with
   | none=>simp[h1,h2] at hc
   | some y'=>
    simp only[h1,h2,aWr,aWi,Option.some.injEq,dJ.seq.injEq] at hc;obtain⟨rfl,rfl⟩:=hc;refine wp_seq (h c1 h1 F γ a w hi hs hg hk _ (fun e a' w' F' γ' as' q1 q2 q3 q4 q5=>?_))
    cases e with
    | normal=>exact q1 c2 h2 F' γ' a' w' q3 q4 (hg.sub q2.sub) q5 QE (fun e a'' w'' F'' γ'' as'' p1 p2 p3 p4=>hq e a'' w'' F'' γ'' as'' p1 (q2.trans p2) p3 p4)
    | exit id=>exact hq _ a' w' F' γ' as' q1 q2 q3 q4 q5
    | goto l=>exact hq _ a' w' F' γ' as' q1 q2 q3 q4 q5
    | ret=>exact hq _ a' w' F' γ' as' q1 q2 q3 q4 q5
    | panic ch=>exact hq _ a' w' F' γ' as' q1 q2 q3 q4 q5
    | outgrown=>exact hq _ a' w' F' γ' as' q1 q2 q3 q4 q5
 all_goals first | (exfalso;revert hc;simp[aW5];done) | (exfalso;obtain⟨l,_,hc⟩:=aW5.1 (dX hc (by simp));rcases dV hc with⟨h,_⟩ | ⟨_,_,_,h,_⟩ | ⟨_,_,_,h,_⟩ | ⟨_,h,_⟩<;>cases h)
theorem AW.cond{c:aH}{b:Bool}(hb:cF (aJ G as.sl c)=some b)(h1:b=true->AW P G k x Q as)(h2:b=false->AW P G k y Q as):AW P G k (.cond c x y) Q as:=by
 intro c' hc F γ a w hi hs hg hk QE hq;cases c'<;>simp only[bQ] at hc<;>first | (cases hc;done) | skip
 case cond cc c1 c2=>
  cases g1:bQ P c1 with
  | none=>simp[g1] at hc
  | some x'=>cases g2:bQ P c2 with
   | none=>simp[g1,g2] at hc
   | some y'=>
    simp only[g1,g2,aWr,aWi,Option.some.injEq,dJ.cond.injEq] at hc;obtain⟨rfl,rfl,rfl⟩:=hc;have:=J8 (cP hs hg cc) hb;refine wp_cond_split this (fun e=>?_) (fun e=>?_)
    ·exact h1 e c1 g1 F γ a w hi hs hg hk QE hq
    ·exact h2 e c2 g2 F γ a w hi hs hg hk QE hq
 all_goals first | (exfalso;revert hc;simp[aW5];done) | (exfalso;obtain⟨l,_,hc⟩:=aW5.1 (dX hc (by simp));rcases dV hc with⟨h,_⟩ | ⟨_,_,_,h,_⟩ | ⟨_,_,_,h,_⟩ | ⟨_,h,_⟩<;>cases h)
theorem AW.block{id:Nat}(h:AW P G k x (fun e as=>match e with | .exit id'=>if id'=id then Q .normal as else Q (.exit id') as | e=>Q e as) as):AW P G k (.block id x) Q as:=by
 intro c hc F γ a w hi hs hg hk QE hq;cases c<;>simp only[bQ] at hc<;>first | (cases hc;done) | skip
 case block id' c1=>
  cases h1:bQ P c1 with
  | none=>simp[h1] at hc
  | some x'=>
   simp only[h1,aWi,Option.some.injEq,dJ.block.injEq] at hc;obtain⟨rfl,rfl⟩:=hc;refine wp_block (h c1 h1 F γ a w hi hs hg hk _ (fun e a' w' F' γ' as' q1 q2 q3 q4 q5=>?_))
   cases e with
   | normal=>exact hq _ a' w' F' γ' as' q1 q2 q3 q4 q5
   | exit id2=>
    simp only[Exit.inBlock] at q1 ⊢;split
    ·rename_i heq;rw[if_pos heq] at q1;exact hq _ a' w' F' γ' as' q1 q2 q3 q4 q5
    ·rename_i heq;rw[if_neg heq] at q1;exact hq _ a' w' F' γ' as' q1 q2 q3 q4 q5
   | goto l=>exact hq _ a' w' F' γ' as' q1 q2 q3 q4 q5
   | ret=>exact hq _ a' w' F' γ' as' q1 q2 q3 q4 q5
   | panic ch=>exact hq _ a' w' F' γ' as' q1 q2 q3 q4 q5
   | outgrown=>exact hq _ a' w' F' γ' as' q1 q2 q3 q4 q5
 all_goals first | (exfalso;revert hc;simp[aW5];done) | (exfalso;obtain⟨l,_,hc⟩:=aW5.1 (dX hc (by simp));rcases dV hc with⟨h,_⟩ | ⟨_,_,_,h,_⟩ | ⟨_,_,_,h,_⟩ | ⟨_,h,_⟩<;>cases h)
theorem AW.loop{α:Type}(I:α->AS->Prop)(μ:α->Nat)(x0:α)(h0:I x0 as)
  (round:∀ z as,I z as->AW P G k x (fun e as'=>match e with | .normal=>∃ z',I z' as'/\μ z' < μ z | e=>Q e as') as):AW P G k (.loop x) Q as:=by
 intro c hc F γ a w hi hs hg hk QE hq;cases c<;>simp only[bQ] at hc<;>first | (cases hc;done) | skip
 case loop c1=>
  cases h1:bQ P c1 with
  | none=>simp[h1] at hc
  | some x'=>
   simp only[h1,aWi,Option.some.injEq,dJ.loop.injEq] at hc;subst hc;have key:∀ n z as F' γ' a' w',μ z < n->I z as->gA k F γ w F' γ' w'->dC F' γ' as.hp w'->bT F' γ' as.sl a'->k<=γ'.length->Code.rounds P c1 QE n a' w':=by
    intro n
    induction n with
    | zero=>intro z as F' γ' a' w' h;omega
    | succ n ih=>
     intro z as F' γ' a' w' hn hI hE hInv hS hk';rw[rounds_succ];refine round z as hI c1 h1 F' γ' a' w' hInv hS (hg.sub hE.sub) hk' _ (fun e a'' w'' F'' γ'' as'' q1 q2 q3 q4 q5=>?_)
     cases e with
     | normal=>
      obtain⟨z',hz1,hz2⟩:=q1;exact ih z' as'' F'' γ'' a'' w'' (by omega) hz1 (hE.trans q2) q3 q4 q5
     | exit id=>exact hq _ a'' w'' F'' γ'' as'' q1 (hE.trans q2) q3 q4 q5
     | goto l=>exact hq _ a'' w'' F'' γ'' as'' q1 (hE.trans q2) q3 q4 q5
     | ret=>exact hq _ a'' w'' F'' γ'' as'' q1 (hE.trans q2) q3 q4 q5
     | panic ch=>exact hq _ a'' w'' F'' γ'' as'' q1 (hE.trans q2) q3 q4 q5
     | outgrown=>exact hq _ a'' w'' F'' γ'' as'' q1 (hE.trans q2) q3 q4 q5
   exact wp_loop_rounds (μ x0+1) (key _ x0 as F γ a w (Nat.lt_succ_self _) h0 (gA.refl _ _ _ _) hi hs hk)
 all_goals first | (exfalso;revert hc;simp[aW5];done) | (exfalso;obtain⟨l,_,hc⟩:=aW5.1 (dX hc (by simp));rcases dV hc with⟨h,_⟩ | ⟨_,_,_,h,_⟩ | ⟨_,_,_,h,_⟩ | ⟨_,h,_⟩<;>cases h)
end
inductive kE where
 | tmp (t:Nat)
 | cell (a:Nat) (isAgg:Bool) (size:Nat)
def iH(P:Program):ResultVar->Option kE
 | .tmp t=>some (.tmp t)
 | .cell a t=>(Bh P t).bind fun g=>(cX P t).map fun s=>.cell a g (if g then s else 1)
def fA(as:AS):kE->Option AV
 | .tmp t=>some (as.sl.getD t .junk)
 | .cell a g s=>kW as.hp g s (as.sl.getD a .junk)
def qU:AV->Option TV
 | .one c=>some (.one c)
 | .agg cs=>some (.agg cs)
 | _=>none
def qV(as:AS):List kE->Option AV
 | [r]=>fA as r
 | rs=>(rs.mapM fun r=>(fA as r).bind qU).map .tup
section
variable {P:Program} {G:aF} {as:AS} {F:Fz} {γ:List OI} {w:World} {a:Act}
theorem I2(hi:dC F γ as.hp w)(hs:bT F γ as.sl a){rv:ResultVar}{r:kE}{av:AV}(hr:iH P rv=some r)(h:fA as r=some av):
  ∃ v,(match rv with | .tmp t=>pure (a.tmps.getD t undef) | .cell c t=>do loadVar t (<- asAddr (a.tmps.getD c undef)):Sem Value).run P w=.ok v w/\RV F γ av v:=by
 have ra:=fun t=>cP (G:=fun _=>none) hs ⟨(fun g cs h=>by cases h),(fun g cs h=>by cases h)⟩ (.tmp t)
 cases rv with
 | tmp t=>
  simp only[iH,Option.some.injEq] at hr;subst hr;simp only[fA,Option.some.injEq] at h;subst h;exact⟨_,rfl,ra t⟩
 | cell c t=>
  simp only[iH] at hr;cases h1:Bh P t with
  | none=>simp[h1] at hr
  | some g=>cases h2:cX P t with
   | none=>simp[h1,h2] at hr
   | some s=>
    simp only[h1,h2,aWr,aWi,Option.some.injEq] at hr;subst hr;have hx:=ra c;obtain⟨y,hy,hv⟩:=Um (P:=P) h hi hx h1 h2 rfl;obtain⟨cs,_,_,⟨b,off,vs,hxe,_,_,_⟩⟩:=Is h hi hx;refine⟨y, ?_,hv⟩;have hxe':a.tmps.getD c undef=.pointer (some ⟨b,off,none⟩):=hxe;simp only[Act.eval] at hy
    first | rw[hxe'] at hy | skip
    show ((do loadVar t (<- asAddr (a.tmps.getD c undef))):Sem Value).run P w=_
    rw[hxe'];simpa[Instr.loadAt,Instr.sureAddr,asAddr] using hy
theorem I3(hi:dC F γ as.hp w)(hs:bT F γ as.sl a):∀ (rvs:List ResultVar) (rs:List kE) (l:List TV),rvs.mapM (iH P)=some rs->(rs.mapM fun r=>(fA as r).bind qU)=some l->
  ∃ vs:List Value,(rvs.mapM fun rv=>(match rv with | .tmp t=>pure (a.tmps.getD t undef) | .cell c t=>do loadVar t (<- asAddr (a.tmps.getD c undef)):Sem Value)).run P w=.ok vs w/\vs.length=l.length/\
   ∀ (i:Nat) t v,l[i]?=some t->vs[i]?=some v->RT F γ t v
 | [],rs,l,h1,h2=>by
  simp at h1;subst h1;simp at h2;subst h2;exact⟨[],rfl,rfl,fun i t v h=>by simp at h⟩
 | rv::rvs,rs,l,h1,h2=>by
  rw[aW9] at h1;cases hr:iH P rv with
  | none=>rw[hr] at h1;cases h1
  | some r=>
   rw[hr] at h1;cases hrs:rvs.mapM (iH P) with
   | none=>rw[hrs] at h1;cases h1
   | some rs'=>
    rw[hrs] at h1;have e1:r::rs'=rs:=by injection h1
    subst e1;rw[aW9] at h2;cases ho:(fA as r).bind qU with
    | none=>rw[ho] at h2;cases h2
    | some t=>
     rw[ho] at h2;cases hl:(rs'.mapM fun r=>(fA as r).bind qU) with
     | none=>rw[hl] at h2;cases h2
     | some l'=>
      rw[hl] at h2;have e2:t::l'=l:=by injection h2
      subst e2;obtain⟨vs,hv1,hv2,hv3⟩:=I3 hi hs rvs rs' l' hrs hl;cases ho1:fA as r with
      | none=>rw[ho1] at ho;cases ho
      | some av=>
       rw[ho1] at ho;obtain⟨v,hv,hrv⟩:=I2 hi hs hr ho1;refine⟨v::vs, ?_,by simp[hv2],fun i t' v' h3 h4=>?_⟩
       ·rw[aW9];simp only[Sem.run_bind,hv,Result.andThen_ok,hv1,Sem.run_pure]
       ·cases i with
        | zero=>
         simp at h3 h4;subst h3;subst h4;cases av with
         | one c=>simp[qU] at ho;subst ho;cases hrv with | one _ _ h=>exact .one _ _ h
         | agg cs=>simp[qU] at ho;subst ho;cases hrv with | agg _ vs h h'=>exact .agg _ _ h h'
         | tup _=>simp[qU] at ho
         | junk=>simp[qU] at ho
        | succ i=>exact hv3 i t' v' (by simpa using h3) (by simpa using h4)
theorem Rv{fn:Func}{rs:List kE}{av:AV}(hi:dC F γ as.hp w)(hs:bT F γ as.sl a)(hr:fn.results.toList.mapM (iH P)=some rs)(h:qV as rs=some av):
  ∃ v,(results fn a.tmps).run P w=.ok v w/\RV F γ av v:=by
 have hmap:(results fn a.tmps)=(do
   let vs <- List.toArray <$> fn.results.toList.mapM fun rv=>(match rv with | .tmp t=>pure (a.tmps.getD t undef) | .cell c t=>do loadVar t (<- asAddr (a.tmps.getD c undef)):Sem Value)
   pure (if h:vs.size=1 then vs[0] else .tuple vs)):=by
  unfold results;rw[Array.mapM_eq_mapM_toList];rfl
 rw[hmap];by_cases h1:∃ r,rs=[r]
 ·obtain⟨r,rfl⟩:=h1;simp only[qV] at h;have:∃ rv,fn.results.toList=[rv]/\iH P rv=some r:=by
   cases hl:fn.results.toList with
   | nil=>rw[hl] at hr;simp at hr
   | cons rv t=>
    rw[hl,aW9] at hr;cases hq:iH P rv with
    | none=>rw[hq] at hr;cases hr
    | some r0=>
     rw[hq] at hr;cases hq2:t.mapM (iH P) with
     | none=>rw[hq2] at hr;cases hr
     | some rs0=>
      rw[hq2] at hr;have e:r0::rs0=[r]:=by injection hr
      injection e with e1 e2
      subst e1;subst e2;cases t with
      | nil=>exact⟨rv,rfl,hq⟩
      | cons t1 t2=>
       rw[aW9] at hq2;cases hq3:iH P t1 with
       | none=>rw[hq3] at hq2;cases hq2
       | some z=>
        rw[hq3] at hq2;cases hq4:t2.mapM (iH P) with
        | none=>rw[hq4] at hq2;cases hq2
        | some z2=>rw[hq4] at hq2;injection hq2 with hq2;cases hq2
  obtain⟨rv,hl,hrv⟩:=this;obtain⟨v,hv,hvv⟩:=I2 hi hs hrv h;refine⟨v, ?_,hvv⟩;rw[hl,aW9];simp only[Sem.run_bind,Sem.run_map,hv,Result.andThen_ok,List.mapM_nil,Sem.run_pure];rfl
 ·have h':(rs.mapM fun r=>(fA as r).bind qU).map AV.tup=some av:=by
   cases rs with
   | nil=>exact h
   | cons r t=>cases t with
    | nil=>exact absurd ⟨r,rfl⟩ h1
    | cons r2 t2=>exact h
  cases hl:(rs.mapM fun r=>(fA as r).bind qU) with
  | none=>rw[hl] at h';cases h'
  | some l=>
   rw[hl] at h';injection h' with h'
   subst h';obtain⟨vs,hv1,hv2,hv3⟩:=I3 hi hs fn.results.toList rs l hr hl;refine⟨.tuple vs.toArray, ?_,.tup _ _ (by simpa using hv2) (fun i t v h1 h2=>hv3 i t v h1 (by simpa using h2))⟩
   simp only[Sem.run_bind,Sem.run_map,hv1,Result.andThen_ok,Sem.run_pure];have hne:¬ vs.toArray.size=1:=by
    intro e;have hll:l.length=rs.length:=by
     clear hv3 hv2 hv1 h h1 hr;have:∀ (rs:List kE) (l:List TV),(rs.mapM fun r=>(fA as r).bind qU)=some l->l.length=rs.length:=by
      intro rs
      induction rs with
      | nil=>intro l h;simp at h;subst h;rfl
      | cons r rs ih=>
       intro l h;rw[aW9] at h;cases ho:(fA as r).bind qU with
       | none=>rw[ho] at h;cases h
       | some t=>rw[ho] at h;cases hl:(rs.mapM fun r=>(fA as r).bind qU) with
        | none=>rw[hl] at h;cases h
        | some l'=>rw[hl] at h;injection h with h;subst h;simp[ih l' hl]
     exact this rs l hl
    have:rs.length=1:=by rw[<- hll,<- hv2];simpa using e
    match rs,this with
    | [r],_=>exact h1 ⟨r,rfl⟩
   rw[dif_neg hne]
theorem AC.of_body{f:FuncId}{fn:Func}{c:Code}{n:Nat}{rs:List kE}{ac:dJ}{args:List AV}{objs:List aD}{Q:AV->List aD->Prop}(hf:P.funcs[f]?=some fn)(hb:fn.body=some c)(hn:fn.ntmps=n)
  (hr:fn.results.toList.mapM (iH P)=some rs) (hc:bQ P c=some ac)
  (h:AW P G objs.length ac (fun e as=>(e=.normal\/e=.ret)/\objs.length<=as.hp.length/\∃ av,qV as rs=some av/\Q av as.hp) ⟨args++List.replicate (n - args.length) .junk,objs⟩):AC P G f args objs Q:=by
 intro F γ vs w hi hg hv;refine calls_of_wp hf hb ?_;have hs:bT F γ (args++List.replicate (n - args.length) .junk) { tmps:=vs++Array.replicate (fn.ntmps - vs.size) undef,defers:=[] }:=by
  refine⟨rfl,by simp[hn,hv.1],fun i av v h1 h2=>?_⟩
  by_cases hil:i < args.length
  ·rw[aWx hil] at h1;simp only at h2;rw[Array.getElem?_append_left (by rw[hv.1];exact hil)] at h2;exact hv.2 i av v h1 h2
  ·rw[aWB (by omega)] at h1;have:=aWD h1;rw[List.mem_replicate] at this;rw[this.2];exact .junk _
 refine h c hc F γ _ w hi hs hg (by rw[hi.len];exact aWj _) _ (fun e a' w' F' γ' as' hq hE hI hS hk=>?_)
 obtain⟨he,hlen,av,hrv,hQ⟩:=hq;obtain⟨v,hv1,hv2⟩:=Rv hI hS hr hrv;rcases he with rfl | rfl
 ·exact⟨hS.1,v,hv1,v,av,as'.hp,F',γ',rfl,hQ,hlen,hE,hI,hv2⟩
 ·exact⟨hS.1,v,hv1,v,av,as'.hp,F',γ',rfl,hQ,hlen,hE,hI,hv2⟩
end
section
variable {P:Program} {G:aF} {k:Nat} {as as':AS}
theorem Gh.refl:Gh k as as:=fun F γ _ w hi hs hk=>⟨F,γ,gA.refl _ _ _ _,hi,hs,hk⟩
theorem Gh.trans{as'':AS}(h:Gh k as as')(h':Gh k as' as''):Gh k as as'':=by
 intro F γ a w hi hs hk;obtain⟨F1,γ1,e1,i1,s1,k1⟩:=h F γ a w hi hs hk;obtain⟨F2,γ2,e2,i2,s2,k2⟩:=h' F1 γ1 a w i1 s1 k1;exact⟨F2,γ2,e1.trans e2,i2,s2,k2⟩
inductive CLe:aR->aR->Prop where
 | refl (c:aR):CLe c c
 | junk (c:aR):CLe c .junk
 | nil:CLe (cZ (.slice none 0 0)) (.dc (.slc []))
theorem CLe.ok{F:Fz}{γ:List OI}{c d:aR}{v:Value}(h:CLe c d)(hc:RC F γ c v):RC F γ d v:=by
 cases h with
 | refl=>exact hc
 | junk=>exact .junk _ hc.is1
 | nil=>cases hc with | dc _ _ h=>cases h;exact .dc _ _ (.nil _ _)
def aLp(cs ds:List aR):Prop:=cs.length=ds.length/\∀ (i:Nat) c d,cs[i]?=some c->ds[i]?=some d->CLe c d
inductive VLe:AV->AV->Prop where
 | refl (v:AV):VLe v v
 | junk (v:AV):VLe v .junk
 | one {c d:aR} (h:CLe c d):VLe (.one c) (.one d)
 | agg {cs ds:List aR} (h:aLp cs ds):VLe (.agg cs) (.agg ds)
theorem aLp.ok{F:Fz}{γ:List OI}{cs ds:List aR}(h:aLp cs ds){vs:Array Value}(hr:∀ (i:Nat) c v,cs[i]?=some c->vs[i]?=some v->RC F γ c v):∀ (i:Nat) c v,ds[i]?=some c->vs[i]?=some v->RC F γ c v:=by
 intro i d v hd hv;have hlt:i < cs.length:=by rw[h.1];exact aG hd
 exact (h.2 i _ d (aWo hlt) hd).ok (hr i _ v (aWo hlt) hv)
theorem VLe.ok{F:Fz}{γ:List OI}{x y:AV}{v:Value}(h:VLe x y)(hx:RV F γ x v):RV F γ y v:=by
 cases h with
 | refl=>exact hx
 | junk=>exact .junk _
 | one h=>cases hx with | one _ _ hc=>exact .one _ _ (h.ok hc)
 | agg h=>cases hx with | agg _ vs hs hr=>exact .agg _ _ (by rw[hs,h.1]) (h.ok hr)
def SLe:List AV->List AV->Prop
 | [],[]=>True
 | x::xs,y::ys=>VLe x y/\SLe xs ys
 | _,_=>False
theorem SLe.get:∀ {xs ys:List AV},SLe xs ys->xs.length=ys.length/\∀ (i:Nat) y,ys[i]?=some y->∃ x,xs[i]?=some x/\VLe x y
 | [],[],_=>⟨rfl,fun i y h=>by simp at h⟩
 | x::xs,y::ys,h=>by
  obtain⟨h1,h2⟩:=SLe.get h.2;refine⟨by simp[h1],fun i z hz=>?_⟩
  cases i with
  | zero=>simp at hz;subst hz;exact⟨x,rfl,h.1⟩
  | succ i=>simpa using h2 i z (by simpa using hz)
 | [],_::_,h=>h.elim
 | _::_,[],h=>h.elim
theorem bT.le{F:Fz}{γ:List OI}{xs ys:List AV}{a:Act}(h:SLe xs ys)(hs:bT F γ xs a):bT F γ ys a:=by
 obtain⟨h1,h2⟩:=h.get;refine⟨hs.1,by rw[hs.2.1,h1],fun i y v hy hv=>?_⟩
 obtain⟨x,hx,hle⟩:=h2 i y hy;exact hle.ok (hs.2.2 i x v hx hv)
theorem Gh.slots{ys:List AV}(h:SLe as.sl ys):Gh k as ⟨ys,as.hp⟩:=fun F γ _ w hi hs hk=>⟨F,γ,gA.refl _ _ _ _,hi,bT.le h hs,hk⟩
theorem Gh.drop(n:Nat)(hkn:k<=n):Gh k as ⟨as.sl.map (bA fun id=>decide (n<=id)),(as.hp.take n).map (cI fun id=>decide (n<=id))⟩:=by
 intro F γ a w hi hs hk;have hg:∀ (id:Nat) (o:OI),decide (n<=id)=false->γ[id]?=some o->(γ.take n)[id]?=some o:=by
  intro id o hp h;simp at hp;rw[aWH,if_pos hp];exact h
 have hb:∀ i b,bX (γ.take n) i=some b->bX γ i=some b:=by
  intro i b h;obtain⟨y,hy,hyb⟩:=cQ h;rw[aWH] at hy;split at hy
  ·exact bJ hy hyb
  ·cases hy
 refine⟨F,γ.take n,⟨fun _ _ h=>h,rfl,rfl,rfl,aWj _,fun _ _ _=>rfl,fun _ _ h=>.inl h,fun i b h=>.inl ⟨i,hb i b h⟩,fun i hik b h=>?_⟩,⟨hi.fz,by simp[hi.len],fun i j b h1 h2=>hi.nd i j b (hb i b h1) (hb j b h2),fun i b h=>hi.disj i b (hb i b h), ?_⟩,hs.kill (fun _ _ h=>h) hg,by simp;omega⟩
 ·rw[aWH,if_pos (by omega)];exact h
 ·intro i o x h1 h2;rw[aWH] at h2;split at h2
  ·rename_i hin;rw[aWl,aWH,if_pos hin] at h1;cases ho:as.hp[i]? with
   | none=>simp[ho] at h1
   | some o0=>
    simp only[ho,aWi,Option.some.injEq] at h1;subst h1;exact (hi.ok i o0 x ho h2).kill (fun _ _ h=>h) hg (fun _ _=>rfl)
  ·cases h2
def uO(id:Nat)(es:List (List DC)):aR->aR
 | .bld j n=>if j=id/\n<=es.length then .dc (.slc (es.take n)) else .bld j n
 | c=>c
def aLq(id:Nat)(es:List (List DC)):TV->TV
 | .one c=>.one (uO id es c)
 | .agg cs=>.agg (cs.map (uO id es))
def Yu(id:Nat)(es:List (List DC)):AV->AV
 | .one c=>.one (uO id es c)
 | .agg cs=>.agg (cs.map (uO id es))
 | .tup l=>.tup (l.map (aLq id es))
 | .junk=>.junk
def Rw(id:Nat)(es:List (List DC)):aD->aD
 | .box cs=>.box (cs.map (uO id es))
 | o=>o
theorem Gh.nil{d:Nat}(size:Nat)(h:as.sl[d]?=some (dD (.slice none 0 0))):Gh k as ⟨as.sl.set d (.one (.bld as.hp.length 0)),as.hp++[.arr 0 size []]⟩:=by
 intro F γ a w hi hs hk;have hext:∀ (id:Nat) (o:OI),γ[id]?=some o->(γ++[OI.arr none 0])[id]?=some o:=fun _ _ h=>bN h
 have hb:∀ i b,bX (γ++[OI.arr none 0]) i=some b->bX γ i=some b:=by
  intro i b h;obtain⟨y,hy,hyb⟩:=cQ h;rcases gC hy with h1 | ⟨_,rfl⟩
  ·exact bJ h1 hyb
  ·simp[OI.blk] at hyb
 have hlt:d < as.sl.length:=aG h;have hlt2:d < a.tmps.size:=hs.2.1 ▸ hlt;have hv:a.tmps[d]?=some (a.tmps[d]'hlt2):=aWJ hlt2;have hval:=cM (hs.2.2 d _ _ h hv);refine⟨F,γ++[OI.arr none 0],⟨fun _ _ h=>h,rfl,rfl,rfl,aWj _,fun _ _ _=>rfl,fun _ _ h=>.inl h,fun i b h=>.inl ⟨i,hb i b h⟩,fun i _ b h=>hext _ _ h⟩,
  ⟨hi.fz,by simp[hi.len],fun i j b h1 h2=>hi.nd i j b (hb i b h1) (hb j b h2),fun i b h=>hi.disj i b (hb i b h), ?_⟩, ?_,by simp;omega⟩
 ·intro i o x h1 h2;rcases gC h2 with h3 | ⟨h3,rfl⟩
  ·have hl:i < as.hp.length:=by rw[<- hi.len];exact aG h3
   rw[aWx hl] at h1;exact (hi.ok i o x h1 h3).ext (fun _ _ h=>h) hext (fun _ _=>rfl)
  ·rw[h3,hi.len] at h1;simp at h1;subst h1;exact⟨rfl,rfl,rfl⟩
 ·have hs':=hs.ext (F':=F) (fun _ _ h=>h) hext
  refine⟨hs.1,by simpa using hs.2.1,fun i av v h1 h2=>?_⟩
  by_cases hdi:d=i
  ·subst hdi;rw[aWI hlt] at h1;injection h1 with h1;subst h1
   rw[hv,hval] at h2;injection h2 with h2;subst h2
   exact .one _ _ (.bldN _ 0 (by rw[<- hi.len];simp))
  ·rw[aWz hdi] at h1;exact hs'.2.2 i av v h1 h2
theorem Gh.dead(n:Nat):Gh k as ⟨as.sl,as.hp++List.replicate n .dead⟩:=by
 intro F γ a w hi hs hk;have hext:∀ (id:Nat) (o:OI),γ[id]?=some o->(γ++List.replicate n OI.dead)[id]?=some o:=fun _ _ h=>bN h
 have hb:∀ i b,bX (γ++List.replicate n OI.dead) i=some b->bX γ i=some b:=by
  intro i b h;obtain⟨y,hy,hyb⟩:=cQ h;rcases aXk i γ.length with hl | hl
  ·rw[aWx hl] at hy;exact bJ hy hyb
  ·rw[aWB hl,aXh] at hy;split at hy
   ·injection hy with hy;subst hy;cases hyb
   ·cases hy
 refine⟨F,γ++List.replicate n .dead,⟨fun _ _ h=>h,rfl,rfl,rfl,aWj _,fun _ _ _=>rfl,fun _ _ h=>.inl h,fun i b h=>.inl ⟨i,hb i b h⟩,fun i hi b h=>hext i _ h⟩,⟨hi.fz,by simp[hi.len],fun i j b h1 h2=>hi.nd i j b (hb i b h1) (hb j b h2),fun i b h=>hi.disj i b (hb i b h),fun i ob x h1 h2=>?_⟩,hs.ext (fun _ _ h=>h) hext,by simp;omega⟩
 rcases aXk i γ.length with hl | hl
 ·rw[aWx hl] at h2;rw[aWx (by rw[<- hi.len];exact hl)] at h1;exact (hi.ok i ob x h1 h2).ext (fun _ _ h=>h) hext (fun _ _=>rfl)
 ·rw[aWB hl,aXh] at h2;rw[aWB (by rw[<- hi.len];exact hl),aXh] at h1;split at h1
  ·split at h2
   ·injection h1 with h1;injection h2 with h2;subst h1;subst h2;trivial
   ·cases h2
  ·cases h1
end
end
section
section
variable {k:Nat} {as:AS} {F:Fz} {γ:List OI} {w:World}
def Fz.add(F:Fz)(w:World)(b:Nat):Fz:=fun b'=>if b'=b then w.heap[b]? else F b'
theorem aBU{F':Fz}{γ':List OI}{id cap size:Nat}{es:List (List DC)}(hi:dC F γ as.hp w)(hb:aI as.hp id=.arr cap size es)(hs:F.sub F')(hg:∀ (i:Nat) (o:OI),(i==id)=false->γ[i]?=some o->γ'[i]?=some o)
  (hF:∀ b c,γ[id]?=some (.arr (some b) c)->F' b=w.heap[b]?) {c:aR} {v:Value} (h:RC F γ c v):RC F' γ' (cE (·==id) (uO id es c)) v:=by
 by_cases hc:∃ n,c=.bld id n/\n<=es.length
 ·obtain⟨n,rfl,hn⟩:=hc;have e1:uO id es (.bld id n)=.dc (.slc (es.take n)):=by simp[uO,hn]
  rw[e1];have e2:cE (·==id) (.dc (.slc (es.take n)))=.dc (.slc (es.take n)):=by simp[cE,aR.keep]
  rw[e2];refine .dc _ _ ?_;cases h with
  | bldN _ c hgm=>simp;exact .nil _ _
  | bld _ _ b c hgm=>
   obtain⟨hcc,hec,hes,vs,T,⟨fz,hh,hnf⟩,hvs,hr⟩:=hi.arr hb hgm;have hlen:(es.take n).length=n:=by simp;omega
   have hget:∀ (i:Nat) e,(es.take n)[i]?=some e->es[i]?=some e:=by
    intro i e h;rw[aWH] at h;split at h
    ·exact h
    ·cases h
   have key:∀ (i j:Nat) e d,es[i]?=some e->e[j]?=some d->∃ u,vs[i * size+j]?=some u:=by
    intro i j e d h1 h2;have hj:j < size:=by have:=aG h2;have:=hes _ (aWD h1);omega
    have:=gB (aG h1) hec hj;exact⟨_,aWJ (by omega)⟩
   have:=RD.slc (F:=F') b 0 c size (es.take n) (fun i j=>vs.toList.getD (i * size+j) undef) (fun e he=>hes e (aWF he)) (fun i j e d h1 h2=>by
     obtain⟨u,hu⟩:=key i j e d (hget i e h1) h2;simp only[aWn,aXa,hu,aWX];exact (hr i j e d u (hget i e h1) h2 hu).mono hs) (fun i j e d h1 h2=>by
     obtain⟨u,hu⟩:=key i j e d (hget i e h1) h2;simp only[aWn,aXa,hu,aWX,Fz.cell?,aWZ];rw[hF b c hgm,hh];simpa using hu) (by rw[hlen];omega)
   rwa[hlen] at this
 ·have e1:uO id es c=c:=by
   cases c<;>try rfl
   rename_i j n;simp only[uO];split
   ·rename_i hcond;obtain⟨rfl,hn⟩:=hcond;exact absurd ⟨n,rfl,hn⟩ hc
   ·rfl
  rw[e1];exact h.kill hs hg
theorem Gh.freeze{id cap size:Nat}{es:List (List DC)}(hb:aI as.hp id=.arr cap size es):
  Gh k as ⟨as.sl.map fun v=>bA (·==id) (Yu id es v),(as.hp.map fun o=>cI (·==id) (Rw id es o)).set id .dead⟩:=by
 intro F γ a w hi hs hk;have hho:=dU hb (by simp);have hlt:id < γ.length:=by rw[hi.len];exact aG hho
 have hx:γ[id]?=some (γ[id]'hlt):=aWo hlt;generalize hxe:γ[id]'hlt=x at hx;have hok:=hi.ok id _ _ hho hx
 let F':Fz:=match x.blk with | some b=>F.add w b | none=>F
 have hFb:∀ b,x.blk=some b->F' b=w.heap[b]?:=by intro b hb';simp[F',hb',Fz.add]
 have hFo:∀ b',x.blk≠some b'->F' b'=F b':=by
  intro b' hne;cases hxb:x.blk with
  | none=>simp[F',hxb]
  | some b=>simp only[F',hxb,Fz.add];rw[if_neg (fun e=>hne (by rw[hxb,e]))]
 have hsub:F.sub F':=by
  intro b o h;rw[hFo b (fun e=>by rw[hi.disj id b (bJ hx e)] at h;cases h)];exact h
 have hg:∀ (i:Nat) (o:OI),(i==id)=false->γ[i]?=some o->(γ.set id .dead)[i]?=some o:=fun i o h1 h2=>oX h2 h1
 have hF2:∀ b c,γ[id]?=some (.arr (some b) c)->F' b=w.heap[b]?:=fun b c h=>hFb b (by rw[hx] at h;injection h with h;rw[h];rfl)
 have hb:∀ i b,bX (γ.set id .dead) i=some b->i≠id/\bX γ i=some b:=by
  intro i b h;obtain⟨y,hy,hyb⟩:=cQ h;by_cases hii:id=i
  ·subst hii;rw[aWI hlt] at hy;injection hy with hy;subst hy
   simp[OI.blk] at hyb
  ·rw[aWz hii] at hy;exact⟨Ne.symm hii,bJ hy hyb⟩
 have frz:=fun {c:aR} {v:Value} (h:RC F γ c v)=>aBU (F':=F') (γ':=γ.set id .dead) hi ‹aI as.hp id=_› hsub hg hF2 h
 have frzs:∀ {cs:List aR} {vs:Array Value},(∀ (i:Nat) c v,cs[i]?=some c->vs[i]?=some v->RC F γ c v)->∀ (i:Nat) c v,((cs.map (uO id es)).map (cE (·==id)))[i]?=some c->vs[i]?=some v->RC F' (γ.set id .dead) c v:=by
  intro cs vs h i c v hc hv;rw[aWE,aWl] at hc;cases hci:cs[i]? with
  | none=>simp[hci] at hc
  | some c0=>
   simp only[hci,aWi,Option.some.injEq,Function.comp] at hc;subst hc;exact frz (h i c0 v hci hv)
 refine⟨F',γ.set id .dead,⟨hsub,rfl,rfl,rfl,aWj _,fun _ _ _=>rfl,fun b o h=>?_,fun i b h=>.inl ⟨i,(hb i b h).2⟩,fun i _ b h=>?_⟩,
  ⟨fun b o h=>?_,by simp[hi.len],fun i j b h1 h2=>hi.nd i j b (hb i b h1).2 (hb j b h2).2,fun i b h=>?_,fun i o y h1 h2=>?_⟩, ?_,by simpa using hk⟩
 ·by_cases hxb:x.blk=some b
  ·exact .inr (.inr ⟨id,bJ hx hxb⟩)
  ·rw[hFo b hxb] at h;exact .inl h
 ·by_cases hii:id=i
  ·subst hii;rw[hx] at h;injection h with h
   subst h;exact hok.elim
  ·rw[aWz hii];exact h
 ·by_cases hxb:x.blk=some b
  ·rw[hFb b hxb] at h;exact h
  ·rw[hFo b hxb] at h;exact hi.fz b o h
 ·obtain⟨hne,hbb⟩:=hb i b h;rw[hFo b (fun e=>hne (hi.nd _ _ _ hbb (bJ hx e)))]
  exact hi.disj i b hbb
 ·by_cases hii:id=i
  ·subst hii;rw[aWI hlt] at h2;rw[aWI (by rw[aWf,<- hi.len];exact hlt)] at h1;injection h1 with h1;injection h2 with h2;subst h1;subst h2
   trivial
  ·rw[aWz hii] at h1 h2;rw[aWl] at h1;cases ho:as.hp[i]? with
   | none=>simp[ho] at h1
   | some o0=>
    simp only[ho,aWi,Option.some.injEq] at h1;subst h1;have h3:=hi.ok i o0 y ho h2;cases o0 with
    | box cs=>
     cases y with
     | box b=>
      obtain⟨vs,T,g1,g2,g3⟩:=h3;exact⟨vs,T,g1,by simpa[Rw] using g2,frzs g3⟩
     | arr _ _=>exact h3.elim
     | dead=>exact h3.elim
    | arr c2 s2 es2=>
     have:=h3.kill (p:=(·==id)) (F':=F') (γ':=γ.set id .dead) (w':=w) hsub hg (fun _ _=>rfl)
     exact this
    | dead=>
     have:=h3.kill (p:=(·==id)) (F':=F') (γ':=γ.set id .dead) (w':=w) hsub hg (fun _ _=>rfl)
     exact this
 ·refine⟨hs.1,by simpa using hs.2.1,fun i av v h1 h2=>?_⟩
  rw[aWl] at h1;cases hsi:as.sl[i]? with
  | none=>simp[hsi] at h1
  | some av0=>
   simp only[hsi,aWi,Option.some.injEq] at h1;subst h1;have h3:=hs.2.2 i av0 v hsi h2;cases h3 with
   | one c v h=>exact .one _ _ (frz h)
   | agg cs vs hsz h=>exact .agg _ _ (by simpa[Yu] using hsz) (frzs h)
   | tup l vs hsz h=>
    refine .tup _ _ (by simpa[Yu] using hsz) (fun i t v h1 h2=>?_)
    rw[aWE,aWl] at h1;obtain⟨t0,h4,rfl⟩:=Option.map_eq_some_iff.1 h1;cases h i t0 v h4 h2 with
    | one c v h=>exact .one _ _ (frz h)
    | agg cs vs hsz h=>exact .agg _ _ (by simpa[aLq] using hsz) (frzs h)
   | junk v=>exact .junk v
end
end
section
section
variable {P:Program} {G:aF} {k:Nat} {st st':AS} {x y:dJ}
theorem AC.of_code{f:FuncId}{fn:Func}{n:Nat}{rs:List kE}{ac:dJ}{args:List AV}{objs:List aD}{Q:AV->List aD->Prop}(hf:P.funcs[f]?=some fn)(hn:fn.ntmps=n)
  (hc:fn.body.bind (bQ P)=some ac) (hr:fn.results.toList.mapM (iH P)=some rs)
  (h:AW P G objs.length ac (fun e s=>(e=.normal\/e=.ret)/\objs.length<=s.hp.length/\∃ av,qV s rs=some av/\Q av s.hp) ⟨args++List.replicate (n - args.length) .junk,objs⟩):AC P G f args objs Q:=by
 cases hb:fn.body with
 | none=>rw[hb] at hc;cases hc
 | some c=>rw[hb] at hc;exact AC.of_body hf hb hn hr hc h
def Fin(k:Nat)(rs:List kE)(Q:AV->List aD->Prop)(e:Exit)(s:AS):Prop:=
 (e=.normal\/e=.ret)/\k<=s.hp.length/\∃ av,qV s rs=some av/\Q av s.hp
theorem AC.of_codeF{f:FuncId}{fn:Func}{n:Nat}{rs:List kE}{ac:dJ}{args:List AV}{objs:List aD}{Q:AV->List aD->Prop}(hf:P.funcs[f]?=some fn)(hn:fn.ntmps=n)
  (hc:fn.body.bind (bQ P)=some ac) (hr:fn.results.toList.mapM (iH P)=some rs)
  (h:AW P G objs.length ac (Fin objs.length rs Q) ⟨args++List.replicate (n - args.length) .junk,objs⟩):AC P G f args objs Q:=AC.of_code hf hn hc hr h
theorem Fin.ret{rs:List kE}{Q:AV->List aD->Prop}{s:AS}{av:AV}(h1:k<=s.hp.length)(h2:qV s rs=some av)(h3:Q av s.hp):Fin k rs Q .ret s:=⟨.inr rfl,h1,av,h2,h3⟩
theorem Fin.normal{rs:List kE}{Q:AV->List aD->Prop}{s:AS}{av:AV}(h1:k<=s.hp.length)(h2:qV s rs=some av)(h3:Q av s.hp):Fin k rs Q .normal s:=⟨.inl rfl,h1,av,h2,h3⟩
def Fh(P:Program)(G:aF)(k:Nat)(y:dJ)(Q:Exit->AS->Prop):Exit->AS->Prop:=fun e s=>match e with | .normal=>AW P G k y Q s | e=>Q e s
def Km(id:Nat)(Q:Exit->AS->Prop):Exit->AS->Prop:=fun e s=>match e with | .exit id'=>if id'=id then Q .normal s else Q (.exit id') s | e=>Q e s
def H8(k:Nat){α:Type}(H:α->AS)(I:α->Prop)(μ:α->Nat)(n:Nat)(Q:Exit->AS->Prop):Exit->AS->Prop:=fun e s=>match e with | .normal=>∃ z',I z'/\μ z' < n/\Gh k s (H z') | e=>Q e s
variable {Q:Exit->AS->Prop}
theorem AW.seqv(h:AW P G k x (Fh P G k y Q) st):AW P G k (.seq x y) Q st:=AW.seq h
theorem Fh.n(h:AW P G k y Q st):Fh P G k y Q .normal st:=h
theorem Fh.r(h:Q .ret st):Fh P G k y Q .ret st:=h
theorem Fh.e{id:Nat}(h:Q (.exit id) st):Fh P G k y Q (.exit id) st:=h
theorem Km.n{id:Nat}(h:Q .normal st):Km id Q .normal st:=h
theorem Km.r{id:Nat}(h:Q .ret st):Km id Q .ret st:=h
theorem Km.e{id:Nat}(h:Q .normal st):Km id Q (.exit id) st:=by show (if id=id then _ else _);rw[if_pos rfl];exact h
theorem Km.o{id id':Nat}(hne:¬ id'=id)(h:Q (.exit id') st):Km id Q (.exit id') st:=by show (if id'=id then _ else _);rw[if_neg hne];exact h
theorem H8.n{α:Type}{H:α->AS}{I:α->Prop}{μ:α->Nat}{n:Nat}(z:α)(h1:I z)(h2:μ z < n)(h3:Gh k st (H z)):H8 k H I μ n Q .normal st:=⟨z,h1,h2,h3⟩
theorem H8.r{α:Type}{H:α->AS}{I:α->Prop}{μ:α->Nat}{n:Nat}(h:Q .ret st):H8 k H I μ n Q .ret st:=h
theorem H8.e{α:Type}{H:α->AS}{I:α->Prop}{μ:α->Nat}{n id:Nat}(h:Q (.exit id) st):H8 k H I μ n Q (.exit id) st:=h
theorem AW.loopG{α:Type}(H:α->AS)(I:α->Prop)(μ:α->Nat)(x0:α)(hI:I x0)(h0:Gh k st (H x0))(round:∀ z,I z->AW P G k x (H8 k H I μ (μ z) Q) (H z)):AW P G k (.loop x) Q st:=by
 refine AW.loop (fun z s=>I z/\Gh k s (H z)) μ x0 ⟨hI,h0⟩ (fun z s hz=>?_)
 refine AW.ghost hz.2 ((round z hz.1).mono (fun e s' h=>?_))
 cases e with
 | normal=>obtain⟨z',h1,h2,h3⟩:=h;exact⟨z',⟨h1,h3⟩,h2⟩
 | exit id=>exact h
 | goto l=>exact h
 | ret=>exact h
 | panic c=>exact h
 | outgrown=>exact h
theorem WR.split{o:aM}{rest:List aM}{R:AS->Prop}{g:Nat}{b c:Bool}(_:o.guard=some (g,b))(_:cF (aJ G st.sl (.t g))=some c)
  (h1:c=true->WR P G k (o::rest) R st) (h2:c=false->WR P G k (o::rest) R st):WR P G k (o::rest) R st:=by
 cases c with
 | true=>exact h1 rfl
 | false=>exact h2 rfl
theorem Gh.dropS(n:Nat)(hkn:k<=n){ys:List AV}{hs:List aD}(h1:SLe (st.sl.map (bA fun id=>decide (n<=id))) ys)(h2:(st.hp.take n).map (cI fun id=>decide (n<=id))=hs):Gh k st ⟨ys,hs⟩:=by
 subst h2;exact Gh.trans (Gh.drop n hkn) (Gh.slots h1)
end
abbrev vi(n:Int):AV:=.one (.dc (.raw (.int .i64 n)))
abbrev vb(b:Bool):AV:=.one (.dc (.raw (.bool b)))
abbrev ci(n:Int):DC:=.raw (.int .i64 n)
abbrev vl(es:List (List DC)):AV:=.one (.dc (.slc es))
theorem Bk{n:Int}(h:-9223372036854775808<=n/\n<=9223372036854775807):IntKind.i64.wrap n=n:=by
 have e1:(2 ^ IntKind.i64.bits:Int)=18446744073709551616:=by decide
 have e2:(2 ^ (IntKind.i64.bits - 1):Int)=9223372036854775808:=by decide
 unfold IntKind.wrap;simp only[e1,e2,IntKind.signed,aWN,decide_eq_true_eq];split<;>omega
section
variable {P:Program} {G:aF} {k:Nat} {st st':AS} {R:AS->Prop} {o:aM} {rest:List aM}
theorem WR.allocE{zero:List Value}(hgd:iG G st o.guard)(ha:o.ai=.alloc zero)(hs:(⟨aP st.sl o.dst (.one (.ptr st.hp.length 0)),st.hp++[.box (zero.map cZ)]⟩:AS)=st')(h:WR P G k rest R st'):WR P G k (o::rest) R st:=
 WR.alloc hgd ha (hs ▸ h)
theorem WR.boxE{x:aH}{cs:List aR}(hgd:iG G st o.guard)(ha:o.ai=.box x)(hx:cellsOf (aJ G st.sl x)=some cs)(hs:(⟨aP st.sl o.dst (.one (.ptr st.hp.length 0)),st.hp++[.box cs]⟩:AS)=st')(h:WR P G k rest R st'):WR P G k (o::rest) R st:=
 WR.box hgd ha hx (hs ▸ h)
theorem WR.storeX{size id off:Nat}{x v:aH}{cs vs:List aR}(hgd:iG G st o.guard)(ha:o.ai=.store size x v)(hd0:o.dst=none)
  (hx:aJ G st.sl x=.one (.ptr id off)) (hv:cellsOf (aJ G st.sl v)=some vs) (hb:aI st.hp id=.box cs) (hsz:vs.length=size) (hle:off+size<=cs.length)
  (hs:(⟨st.sl,st.hp.set id (.box (cO cs off vs))⟩:AS)=st') (h:WR P G k rest R st'):WR P G k (o::rest) R st:=WR.store hgd ha hd0 hx hv hb hsz hle (hs ▸ h)
theorem WR.bslcE{size len:Nat}{zero:List Value}{parts:List (Nat × aH)}{es:List (List DC)}(hgd:iG G st o.guard)(ha:o.ai=.bslc size len zero parts)
  (hf:gD ((List.range (len * size)).map fun i=>cZ (zero.getD (i % zero.length) undef)) (parts.map fun (j,x)=>(j * size,size,aJ G st.sl x))=some (lQ es.flatten))
  (hes:∀ e∈es,e.length=size) (hlen:es.length=len) (hs:(⟨aP st.sl o.dst (.one (.bld st.hp.length len)),st.hp++[.arr len size es]⟩:AS)=st')
  (h:WR P G k rest R st'):WR P G k (o::rest) R st:=WR.bslc hgd ha hf hes hlen (hs ▸ h)
end
def rO:AI->Bool
 | .alloc _=>false
 | .box _=>false
 | .store _ _ _=>false
 | .bslc _ _ _ _=>false
 | .call _ _=>false
 | .callv _ _=>false
 | .app _ _ _ _ _=>false
 | .apps _ _=>false
 | .mk _ _ _ _ _=>false
 | .clr _ _ _=>false
 | .cpys _ _=>false
 | .cvsb _=>false
 | .slL _ _ _ _=>false
 | _=>true
theorem Fi{ai:AI}(h:rO ai=true):ai.isPure=true:=by
 cases ai<;>first | rfl | (simp[rO] at h;done)
theorem Bl{ai:AI}(h:rO ai=true){hp:List aD}:Kf ai hp=hp:=by
 cases ai<;>first | rfl | (simp[rO] at h;done)
def aGl(G:aF):List (Bool × aM)->AS->Option (List (Bool × aM) × AS)
 | [],st=>some ([],st)
 | (b,o)::l,st=>if b=true/\o.guard=none/\rO o.ai=true then (cW G st o.ai).bind fun v=>aGl G l ⟨aP st.sl o.dst v,st.hp⟩ else some ((b,o)::l,st)
def I4(G:aF)(g:Nat)(c:Bool):List (Bool × aM)->AS->Option (List (Bool × aM) × AS)
 | [],st=>some ([],st)
 | (b,o)::l,st=>if b=true/\o.guard=some (g,c)/\rO o.ai=true/\o.dst≠some g then (cW G st o.ai).bind fun v=>I4 G g c l ⟨aP st.sl o.dst v,st.hp⟩ else some ((b,o)::l,st)
def Bm(g:Nat)(c:Bool):List (Bool × aM)->AS->List (Bool × aM) × AS
 | [],st=>([],st)
 | (b,o)::l,st=>if o.guard=some (g,c)/\o.dst≠some g then Bm g c l ⟨aP st.sl o.dst (.tup []),st.hp⟩ else ((b,o)::l,st)
section
variable {P:Program} {G:aF} {k:Nat} {st st':AS} {R:AS->Prop} {o:aM} {rest ops:List (Bool × aM)} {Q:Exit->AS->Prop}
theorem WD.nil(h:R st):iU P G k R [] st:=h
theorem WD.skip{b:Bool}(hg:Dg G st o.guard)(h:iU P G k R rest ⟨aP st.sl o.dst (.tup []),st.hp⟩):iU P G k R ((b,o)::rest) st:=by
 cases b with
 | true=>exact⟨.tup [],.inl ⟨hg,rfl⟩,h⟩
 | false=>exact .inl ⟨hg,h⟩
theorem WD.run:∀ (ops:List (Bool × aM)) (st:AS) (rest:List (Bool × aM)) (st':AS),aGl G ops st=some (rest,st')->iU P G k R rest st'->iU P G k R ops st
 | [],st,rest,st',h,hw=>by simp[aGl] at h;obtain⟨rfl,rfl⟩:=h;exact hw
 | (b,o)::ops,st,rest,st',h,hw=>by
  simp only[aGl] at h;split at h
  ·rename_i hc;obtain⟨rfl,hg,hpu⟩:=hc;cases he:cW G st o.ai with
   | none=>simp[he] at h
   | some v=>
    simp only[he,aWr] at h;exact⟨v,.inr ⟨by rw[hg];trivial,.inl (by rw[Bl hpu];exact he)⟩,WD.run ops _ rest st' h hw⟩
  ·injection h with h;injection h with h1 h2;subst h1;subst h2;exact hw
theorem WD.runG{g:Nat}{c:Bool}:∀ (ops:List (Bool × aM)) (st:AS) (rest:List (Bool × aM)) (st':AS),cF (aJ G st.sl (.t g))=some c->I4 G g c ops st=some (rest,st')->iU P G k R rest st'->iU P G k R ops st
 | [],st,rest,st',hb,h,hw=>by simp[I4] at h;obtain⟨rfl,rfl⟩:=h;exact hw
 | (b,o)::ops,st,rest,st',hb,h,hw=>by
  simp only[I4] at h;split at h
  ·rename_i hc;obtain⟨rfl,hg,hpu,hd⟩:=hc;cases he:cW G st o.ai with
   | none=>simp[he] at h
   | some v=>
    simp only[he,aWr] at h;exact⟨v,.inr ⟨by rw[hg];exact hb,.inl (by rw[Bl hpu];exact he)⟩,WD.runG ops _ rest st' (by rw[mG hd];exact hb) h hw⟩
  ·injection h with h;injection h with h1 h2;subst h1;subst h2;exact hw
theorem WD.skipG{g:Nat}{c:Bool}:∀ (ops:List (Bool × aM)) (st:AS) (rest:List (Bool × aM)) (st':AS),Dg G st (some (g,c))->Bm g c ops st=(rest,st')->iU P G k R rest st'->iU P G k R ops st
 | [],st,rest,st',hb,h,hw=>by simp[Bm] at h;obtain⟨rfl,rfl⟩:=h;exact hw
 | (b,o)::ops,st,rest,st',hb,h,hw=>by
  simp only[Bm] at h;split at h
  ·rename_i hc;exact WD.skip (by rw[hc.1];exact hb) (WD.skipG ops _ rest st' (by simp only[Dg];rw[mG hc.2];exact hb) h hw)
  ·injection h with h1 h2;subst h1;subst h2;exact hw
theorem WD.split{g:Nat}{b c d:Bool}(_:o.guard=some (g,b))(_:cF (aJ G st.sl (.t g))=some c)
  (h1:c=true->iU P G k R ((d,o)::rest) st) (h2:c=false->iU P G k R ((d,o)::rest) st):iU P G k R ((d,o)::rest) st:=by
 cases c with
 | true=>exact h1 rfl
 | false=>exact h2 rfl
theorem WD.allocE{zero:List Value}(hgd:iG G st o.guard)(ha:o.ai=.alloc zero)(hs:(⟨aP st.sl o.dst (.one (.ptr st.hp.length 0)),st.hp++[.box (zero.map cZ)]⟩:AS)=st')(h:iU P G k R rest st'):iU P G k R ((false,o)::rest) st:=by
 subst hs;exact .inr ⟨hgd,by rw[ha];exact h⟩
theorem WD.boxE{x:aH}{cs:List aR}(hgd:iG G st o.guard)(ha:o.ai=.box x)(hx:cellsOf (aJ G st.sl x)=some cs)(hs:(⟨aP st.sl o.dst (.one (.ptr st.hp.length 0)),st.hp++[.box cs]⟩:AS)=st')(h:iU P G k R rest st'):iU P G k R ((false,o)::rest) st:=by
 subst hs;exact .inr ⟨hgd,by rw[ha];exact⟨cs,hx,h⟩⟩
theorem WD.storeX{size id off:Nat}{x v:aH}{cs vs:List aR}(hgd:iG G st o.guard)(ha:o.ai=.store size x v)(hd0:o.dst=none)
  (hx:aJ G st.sl x=.one (.ptr id off)) (hv:cellsOf (aJ G st.sl v)=some vs) (hb:aI st.hp id=.box cs) (hsz:vs.length=size) (hle:off+size<=cs.length)
  (hs:(⟨st.sl,st.hp.set id (.box (cO cs off vs))⟩:AS)=st') (h:iU P G k R rest st'):iU P G k R ((false,o)::rest) st:=by
 subst hs;exact .inr ⟨hgd,by rw[ha];exact⟨hd0,.inl ⟨id,off,cs,vs,hx,hv,hb,hsz,hle,h⟩⟩⟩
theorem WD.bslcE{size len:Nat}{zero:List Value}{parts:List (Nat × aH)}{es:List (List DC)}(hgd:iG G st o.guard)(ha:o.ai=.bslc size len zero parts)
  (hf:gD ((List.range (len * size)).map fun i=>cZ (zero.getD (i % zero.length) undef)) (parts.map fun (j,x)=>(j * size,size,aJ G st.sl x))=some (lQ es.flatten))
  (hes:∀ e∈es,e.length=size) (hlen:es.length=len) (hs:(⟨aP st.sl o.dst (.one (.bld st.hp.length len)),st.hp++[.arr len size es]⟩:AS)=st')
  (h:iU P G k R rest st'):iU P G k R ((false,o)::rest) st:=by
 subst hs;exact .inr ⟨hgd,by rw[ha];exact .inl ⟨es,hf,hes,hlen,h⟩⟩
theorem WD.app{size bytes id n cap:Nat}{zero:List Value}{s x:aH}{es news:List (List DC)}(hgd:iG G st o.guard)(ha:o.ai=.app size bytes zero s x)
  (hs0:aJ G st.sl s=.one (.bld id n)) (hb:aI st.hp id=.arr cap size es) (hn:n<=es.length) (hsrc:qA st.hp (aJ G st.sl x)=some news) (hns:∀ e∈news,e.length=size)
  (hub:(n+news.length) * bytes<=140737488355328)
  (h:∀ cap',n+news.length<=cap'->iU P G k R rest ⟨aP (st.sl.map (bA (·==id))) o.dst (.one (.bld id (n+news.length))),(st.hp.map (cI (·==id))).set id (.arr cap' size (es.take n++news))⟩):
  iU P G k R ((false,o)::rest) st:=.inr ⟨hgd,by rw[ha];exact .inr ⟨id,n,cap,es,news,hs0,hb,hn,hsrc,hns,hub,h⟩⟩
theorem WD.appNil{size bytes:Nat}{zero:List Value}{s x:aH}{news:List (List DC)}(hgd:iG G st o.guard)(ha:o.ai=.app size bytes zero s x)
  (hs0:aJ G st.sl s=dD (.slice none 0 0)) (hsrc:qA st.hp (aJ G st.sl x)=some news) (hns:∀ e∈news,e.length=size) (hub:news.length * bytes<=140737488355328)
  (h:∀ cap',news.length<=cap'->iU P G k R rest ⟨aP st.sl o.dst (.one (.bld st.hp.length news.length)),st.hp.map (cI (·==st.hp.length))++[.arr cap' size news]⟩):
  iU P G k R ((false,o)::rest) st:=.inr ⟨hgd,by rw[ha];exact .inl ⟨hs0,news,hsrc,hns,hub,h⟩⟩
theorem WD.any(hgd:iG G st o.guard)(hai:match o.ai with | .callv _ _=>True | _=>False)(h:WR P G k [⟨o.dst,o.ai,none⟩] (iU P G k R rest) st):iU P G k R ((false,o)::rest) st:=by
 refine .inr ⟨hgd, ?_⟩;obtain⟨d,ai,gd⟩:=o;cases ai with
 | callv x xs=>exact h
 | _=>cases hai
end
attribute [irreducible] Fin Fh Km H8
attribute [go_sem] aBt runG skipG AI.isPure cW aJ aBb dD cZ vi vb ci vl aP aPe bE cF dA cellsOf Mn Iq Rh Bg eqR Cr aI kW aF1 aBc uZ E1 dI H6 kI aF2 qR gD Ri aBd aBe Ir Mo uD mpR mC hP gO List.set_cons_succ List.set_cons_zero List.getD_cons_succ List.getD_cons_zero aWr aWi aWh aWk aXO aXq aXJ aW7 aXN List.getElem?_cons_zero aWp aWw aWl aWf aWZ aW1 decide_eq_true_eq Int.natCast_nonneg true_and and_true dB Fa iV renL dP cG bA cE qZ cI aR.keep keepL aXr aWL aWR aW6 if_true
end
section
def aN:aD->aD
 | .arr _ s es=>.arr 0 s es
 | o=>o
def aE(s:AS):AS:=⟨s.sl,s.hp.map aN⟩
mutual
def aBV:aR->List Nat
 | .ptr id _=>[id]
 | .bld id _=>[id]
 | .ept id _ _ _=>[id]
 | .bls id _ _ _=>[id]
 | .fn _ caps=>idsL caps
 | _=>[]
def idsL:List aR->List Nat
 | []=>[]
 | c::cs=>aBV c++idsL cs
end
def aPp:TV->List Nat
 | .one c=>aBV c
 | .agg cs=>idsL cs
def iL:AV->List Nat
 | .one c=>aBV c
 | .agg cs=>idsL cs
 | .tup l=>l.flatMap aPp
 | .junk=>[]
def aGm:aD->List Nat
 | .box cs=>idsL cs
 | _=>[]
def Cz(p:Nat->Bool):TV->Bool
 | .one c=>c.keep p
 | .agg cs=>keepL p cs
def cU(p:Nat->Bool):AV->Bool
 | .one c=>c.keep p
 | .agg cs=>keepL p cs
 | .tup l=>l.all (Cz p)
 | .junk=>true
def nD(p:Nat->Bool):aD->Bool
 | .box cs=>keepL p cs
 | _=>true
def Fj:List aR->Option (List DC)
 | []=>some []
 | .dc d::r=>(Fj r).map (d::·)
 | _=>none
def qE(size:Nat):Nat->List DC->List (List DC)
 | 0,_=>[]
 | n+1,l=>l.take size::qE size n (l.drop size)
def kV:List Nat->Nat->Nat
 | [],_=>0
 | j::J,x=>if x=j then 0 else kV J x+1
def rP(hp:List aD):Nat->List Nat->List Nat->List Nat
 | 0,_,J=>J
 | _+1,[],J=>J
 | n+1,id::todo,J=>if J.contains id then rP hp n todo J else rP hp n (aGm (aI hp id)++todo) (J++[id])
def bR:List Nat->AS->AS
 | [],st=>st
 | id::r,st=>match aI st.hp id with
  | .arr _ _ es=>bR r ⟨st.sl.map fun v=>bA (·==id) (Yu id es v),(st.hp.map fun o=>cI (·==id) (Rw id es o)).set id .dead⟩
  | _=>bR r st
def uP:AV->List Nat
 | .one (.bld id _)=>[id]
 | _=>[]
abbrev aO:=FuncId->List AV->List aD->Option (AV × List aD)
def jU(J:List Nat)(id:Nat):Bool:=!J.contains id
def okJ(J:List Nat)(hp:List aD)(avs:List AV):Bool:=
 mH (fun i j=>i != j) J&&J.all (fun j=>decide (j < hp.length)&&nD (jU J) (aI hp j))&&avs.all (cU (jU J))
def jV(call:aO)(dst:Option Nat)(f:FuncId)(avs:List AV)(st:AS):Option AS:=
 let J:=rP st.hp 2000 (avs.flatMap iL) []
 if okJ J st.hp avs then (call f (avs.map (dB (kV J))) (J.map fun j=>dP (kV J) (aI st.hp j))).map fun r=>gR J st dst r.1 r.2 else none
def aKd(dst:Option Nat)(size bytes:Nat)(s x:AV)(st:AS):Option AS:=
 match s with
 | .one (.bld id n)=>
  match aI st.hp id with
  | .arr _ sz es=>
   (qA st.hp x).bind fun news=>
    if sz=size/\n<=es.length/\(news.all fun e=>decide (e.length=size))=true/\(n+news.length) * bytes<=140737488355328 then
     some ⟨aP (st.sl.map (bA (·==id))) dst (.one (.bld id (n+news.length))),(st.hp.map (cI (·==id))).set id (.arr 0 size (es.take n++news))⟩
    else none
  | _=>none
 | .one (.dc (.raw (.slice none 0 0)))=>
  (qA st.hp x).bind fun news=>
   if (news.all fun e=>decide (e.length=size))=true/\news.length * bytes<=140737488355328 then
    some ⟨aP st.sl dst (.one (.bld st.hp.length news.length)),st.hp.map (cI (·==st.hp.length))++[.arr 0 size news]⟩
   else none
 | _=>none
def U2(size:Nat)(x:AV)(vs:List aR)(st:AS):Option AS:=
 match x with
 | .one (.ptr id off)=>
  match aI st.hp id with
  | .box cs=>if vs.length=size/\off+size<=cs.length then some ⟨st.sl,st.hp.set id (.box (cO cs off vs))⟩ else none
  | _=>none
 | .one (.ept id i s off)=>
  match aI st.hp id with
  | .arr _ s' es=>
   (Fj vs).bind fun ds=>(es[i]?).bind fun e=>if s'=s/\ds.length=size/\off+size<=e.length then some ⟨st.sl,st.hp.set id (.arr 0 s (es.set i (e.take off++ds++e.drop (off+size))))⟩ else none
  | _=>none
 | _=>none
def evI(G:aF)(dst:Option Nat)(ai:AI)(st:AS):Option AS:=
 match ai with
 | .alloc z=>some ⟨aP st.sl dst (.one (.ptr st.hp.length 0)),st.hp++[.box (z.map cZ)]⟩
 | .box x=>(cellsOf (aJ G st.sl x)).map fun cs=>⟨aP st.sl dst (.one (.ptr st.hp.length 0)),st.hp++[.box cs]⟩
 | .store size x v=>if dst=none then (cellsOf (aJ G st.sl v)).bind fun vs=>U2 size (aJ G st.sl x) vs st else none
 | .bslc size len zero parts=>
  (gD ((List.range (len * size)).map fun i=>cZ (zero.getD (i % zero.length) undef)) (parts.map fun (j,x)=>(j * size,size,aJ G st.sl x))).bind fun cells=>
   (Fj cells).bind fun ds=>if ds.length=len * size then some ⟨aP st.sl dst (.one (.bld st.hp.length len)),st.hp++[.arr 0 size (qE size len ds)]⟩ else none
 | .app size bytes _ s x=>aKd dst size bytes (aJ G st.sl s) (aJ G st.sl x) st
 | _=>none
def aGo(call:aO)(G:aF)(o:aM)(st:AS):Option AS:=
 match o.ai with
 | .call f args=>let st1:=bR (args.flatMap fun x=>uP (aJ G st.sl x)) st;jV call o.dst f (args.map (aJ G st1.sl)) st1
 | .callv x args=>let st1:=bR (args.flatMap fun x=>uP (aJ G st.sl x)) st
  match aJ G st1.sl x with
  | .one (.fn f caps)=>jV call o.dst f (args.map (aJ G st1.sl)++caps.map AV.one) st1
  | _=>none
 | .bslc _ _ _ ps=>evI G o.dst o.ai (bR (ps.flatMap fun p=>uP (aJ G st.sl p.2)) st)
 | ai=>evI G o.dst ai st
def Ng(G:aF)(st:AS):Option (Nat × Bool)->Option Bool
 | none=>some true
 | some (g,b)=>match aJ G st.sl (.t g) with
  | .tup []=>some false
  | v=>(cF v).map fun c=>c==b
def fN{β:Type}(n:Nat)(k:Nat->β):β:=match n with | 0=>k 0 | m+1=>k (Nat.succ m)
def fI{β:Type}(n:Int)(k:Int->β):β:=match n with | .ofNat m=>fN m fun m=>k (.ofNat m) | .negSucc m=>fN m fun m=>k (.negSucc m)
def fL{α β:Type}(f:α->(α->β)->β):List α->(List α->β)->β
 | [],k=>k []
 | x::xs,k=>f x fun y=>fL f xs fun ys=>k (y::ys)
def fB{β:Type}(s:ByteArray)(k:ByteArray->β):β:=match s with | ⟨⟨l⟩⟩=>fL (fun x k=>k x) l fun l=>k ⟨⟨l⟩⟩
def aGp{β:Type}(v:Value)(k:Value->β):β:=match v with
 | .int kd n=>fI n fun n=>k (.int kd n)
 | .bool true=>k (.bool true)
 | .bool false=>k (.bool false)
 | .string s=>fB s fun s=>k (.string s)
 | v=>k v
def fD{β:Type}(d:DC)(k:DC->β):β:=match d with
 | .raw v=>aGp v fun v=>k (.raw v)
 | .slc es=>fL (fL fun d k=>match d with | .raw v=>aGp v fun v=>k (.raw v) | d=>k d) es fun es=>k (.slc es)
 | .ptr cs=>k (.ptr cs)
def fC{β:Type}(c:aR)(k:aR->β):β:=match c with
 | .dc d=>fD d fun d=>k (.dc d)
 | .ptr id o=>fN id fun id=>fN o fun o=>k (.ptr id o)
 | .bld id n=>fN id fun id=>fN n fun n=>k (.bld id n)
 | .ept id i s o=>fN id fun id=>fN i fun i=>fN s fun s=>fN o fun o=>k (.ept id i s o)
 | .bls id i s o=>fN id fun id=>fN i fun i=>fN s fun s=>fN o fun o=>k (.bls id i s o)
 | .ref cs=>fL fD cs fun cs=>k (.ref cs)
 | .mpc es=>k (.mpc es)
 | c=>k c
def fT{β:Type}(c:TV)(k:TV->β):β:=match c with
 | .one c=>fC c fun c=>k (.one c)
 | .agg cs=>fL fC cs fun cs=>k (.agg cs)
def fV{β:Type}(c:AV)(k:AV->β):β:=match c with
 | .one c=>fC c fun c=>k (.one c)
 | .agg cs=>fL fC cs fun cs=>k (.agg cs)
 | .tup l=>fL fT l fun l=>k (.tup l)
 | .junk=>k .junk
def fO{β:Type}(o:aD)(k:aD->β):β:=match o with
 | .box cs=>fL fC cs fun cs=>k (.box cs)
 | .arr c s es=>fN c fun c=>fN s fun s=>fL (fL fD) es fun es=>k (.arr c s es)
 | .dead=>k .dead
def fP{β:Type}(d:Option Nat)(v:AV)(s:AS)(k:AS->β):β:=fV v fun v=>fL (fun x k=>k x) (aP s.sl d v) fun sl=>k ⟨sl,s.hp⟩
def fS{β:Type}(s:AS)(k:AS->β):β:=fL fV s.sl fun sl=>fL fO s.hp fun hp=>k ⟨sl,hp⟩
section
variable {β:Type}
theorem aBW(n:Nat)(k:Nat->β):fN n k=k n:=by cases n<;>rfl
theorem aPq(n:Int)(k:Int->β):fI n k=k n:=by cases n<;>simp[fI,aBW]
theorem uG{α:Type}{f:α->(α->β)->β}(hf:∀ x k,f x k=k x):∀ (l:List α) (k:List α->β),fL f l k=k l
 | [],_=>rfl
 | x::xs,k=>by simp only[fL,hf,uG hf xs]
theorem aPr(s:ByteArray)(k:ByteArray->β):fB s k=k s:=by obtain⟨⟨l⟩⟩:=s;simp only[fB];rw[uG (fun _ _=>rfl)]
theorem U3(v:Value)(k:Value->β):aGp v k=k v:=by unfold aGp;split<;>simp[aPq,aPr]
theorem aKe(d:DC)(k:DC->β):fD d k=k d:=by
 cases d with
 | raw v=>simp[fD,U3]
 | slc es=>
  simp only[fD];rw[uG];intro x k;rw[uG];intro d k;split<;>simp[U3]
 | ptr cs=>rfl
theorem aBX(c:aR)(k:aR->β):fC c k=k c:=by cases c<;>simp[fC,aBW,aKe,uG]
theorem aPs(c:TV)(k:TV->β):fT c k=k c:=by cases c<;>simp[fT,aBX,uG]
theorem aKf(c:AV)(k:AV->β):fV c k=k c:=by cases c<;>simp[fV,aBX,aPs,uG]
theorem aPt(c:aD)(k:aD->β):fO c k=k c:=by cases c<;>simp[fO,aBW,aBX,aKe,uG]
theorem Nh(d:Option Nat)(v:AV)(s:AS)(k:AS->β):fP d v s k=k ⟨aP s.sl d v,s.hp⟩:=by simp only[fP,aKf];rw[uG (fun _ _=>rfl)]
theorem aKg(s:AS)(k:AS->β):fS s k=k s:=by simp[fS,uG,aKf,aPt]
end
def U4(k:IntKind)(n:Int):Int:=match k with
 | .i64=>if -9223372036854775808<=n then (if n<=9223372036854775807 then n else IntKind.i64.wrap n) else IntKind.i64.wrap n
 | k=>k.wrap n
theorem Ni(k:IntKind)(n:Int):U4 k n=k.wrap n:=by
 cases k<;>simp only[U4];split
 ·split
  ·exact (Bk ⟨by assumption,by assumption⟩).symm
  ·rfl
 ·rfl
def evF(G:aF)(st:AS)(ai:AI):Option AV:=
 match ai with
 | .bin .add x y=>match aJ G st.sl x,aJ G st.sl y with
  | .one (.dc (.raw (.int .i64 a))),.one (.dc (.raw (.int .i64 b)))=>some (dD (.int .i64 (U4 .i64 (a+b))))
  | _,_=>cW G st (.bin .add x y)
 | .bin .sub x y=>match aJ G st.sl x,aJ G st.sl y with
  | .one (.dc (.raw (.int .i64 a))),.one (.dc (.raw (.int .i64 b)))=>some (dD (.int .i64 (U4 .i64 (a - b))))
  | _,_=>cW G st (.bin .sub x y)
 | ai=>cW G st ai
def Fk(call:aO)(G:aF):List aM->AS->Option AS
 | [],st=>some st
 | o::l,st=>(Ng G st o.guard).bind fun b=>
  if b then (if o.ai.isPure then (evF G st o.ai).bind fun v=>fP o.dst v st fun st'=>Fk call G l st' else (aGo call G o st).bind fun st'=>fS st' fun st'=>Fk call G l st')
  else fP o.dst (.tup []) st fun st'=>Fk call G l st'
def evQ(call:aO)(G:aF)(o:aM)(st:AS):Option AV:=
 match o.ai with
 | .call f args=>
  if (args.map (aJ G st.sl)).all (cU fun _=>true) then (call f (args.map (aJ G st.sl)) []).bind fun r=>
   let v:=bA (fun id=>decide (0<=id)) ((bR (iL r.1) ⟨[r.1],r.2⟩).sl.getD 0 .junk)
   if cU (fun _=>true) v then some v else none
  else none
 | _=>none
def evD(call:aO)(G:aF):List (Bool × aM)->AS->Option AS
 | [],st=>some st
 | (b,o)::l,st=>(Ng G st o.guard).bind fun c=>
  if c then (if b then (if o.ai.isPure then evF G ⟨st.sl,Kf o.ai st.hp⟩ o.ai else evQ call G o st).bind fun v=>fP o.dst v st fun st'=>evD call G l st'
   else (match o.ai with
   | .call _ _=>(evQ call G o st).map fun v=>(⟨aP st.sl o.dst v,st.hp⟩:AS)
   | .callv _ _=>aGo call G o st
   | ai=>evI G o.dst ai st).bind fun st'=>fS st' fun st'=>evD call G l st')
  else fP o.dst (.tup []) st fun st'=>evD call G l st'
abbrev Tbl:=FuncId->Option (dJ × List kE × Nat)
def I5:Exit->Bool
 | .normal=>true
 | .ret=>true
 | _=>false
def I6(T:Tbl)(run:dJ->AS->Option (Exit × AS)):aO:=fun f args hp=>
 match T f with
 | some (c,rs,nt)=>(run c ⟨args++List.replicate (nt - args.length) .junk,hp⟩).bind fun r=>if I5 r.1&&decide (hp.length<=r.2.hp.length) then (qV r.2 rs).map fun av=>if cU (fun id=>decide (hp.length<=id)) av&&(r.2.hp.take hp.length).all (nD fun id=>decide (hp.length<=id)) then (av,r.2.hp.take hp.length) else (av,r.2.hp) else none
 | none=>none
def Bn(G:aF)(T:Tbl):Nat->dJ->AS->Option (Exit × AS)
 | 0,_,_=>none
 | n+1,c,st=>
  match c with
  | .skip=>some (.normal,st)
  | .ret=>some (.ret,st)
  | .exit id=>some (.exit id,st)
  | .bad=>none
  | .drawnF _ _=>none
  | .drawnT _ _=>none
  | .region ops=>(Fk (I6 T (Bn G T n)) G ops st).map fun s=>(.normal,s)
  | .drawn ops=>(evD (I6 T (Bn G T n)) G ops st).map fun s=>(.normal,s)
  | .seq a b=>(Bn G T n a st).bind fun r=>match r.1 with
   | .normal=>Bn G T n b r.2
   | e=>some (e,r.2)
  | .cond c a b=>(cF (aJ G st.sl c)).bind fun t=>if t then Bn G T n a st else Bn G T n b st
  | .block id a=>(Bn G T n a st).map fun r=>match r.1 with
   | .exit id'=>if id'=id then (.normal,r.2) else (.exit id',r.2)
   | e=>(e,r.2)
  | .loop a=>(Bn G T n a st).bind fun r=>match r.1 with
   | .normal=>Bn G T n (.loop a) r.2
   | e=>some (e,r.2)
end
end Go.Proofs.YthepfneloomngaaGreatDoor
