/- Part. Conditions: none. -/
import Derived.Test.YtalhnjjchkmfeabGreatDoorMg
namespace Go.Proofs.YtalhnjjchkmfeabGreatDoor
set_option linter.unusedSimpArgs false
set_option linter.unusedVariables false
section
inductive eK where
 |skip|ret
 |region (ops:List aO)
 |drawn (ops:List (Bool×aO))
 |drawnF (prs:List (Nat×Nat)) (ops:List aO)
 |drawnT (t:IT) (ops:List aO)
 |seq (a b:eK)
 |cond (c:aI) (a b:eK)
 |block (id:Nat) (a:eK)
 |loop (a:eK)
 |exit (id:Nat)
 |bad
def aBA:AI->Bool
 |.alloc _=>true
 |.store _ _ _=>true
 |.call _ _=>true
 |.cpys _ _=>true
 |_=>false
def aWU(P:Program)(o:aO):Bool:=match o.ai with
 | .call f _=>match P.funcs[f]? with
  | some b=>b.results.isEmpty
  | none=>false
 |.cpys _ _=>true
 |_=>false
def aSm(c:L (L Nat))(ops:L aO)(b:L Nat):L (Nat×Nat):=
 (List.range b.length).flatMap fun q=>(List.range q).filterMap fun p=>if (c.getD (b.getD q 0) []).contains (b.getD p 0)||!(aBA (ops.getD p mE).ai||aBA (ops.getD q mE).ai) then none else some (p,q)
def aSn(c:L (L Nat))(ops:L aO)(b:L Nat):Bool:=
 (List.range b.length).all fun q=>(List.range q).all fun p=>(c.getD (b.getD q 0) []).contains (b.getD p 0)||Vw (ops.getD p mE) (ops.getD q mE)
def sY(opsA:Array Oper)(l:L aO)(b:L Nat):Option eK:=
 if G0 opsA.toList l.length b&&oU (fun i j=>i != j) b&&aSn (kJ opsA.toList []) (b.map fun i=>l.getD i mE) b then
  some (.drawnF (aSm (kJ opsA.toList []) (b.map fun i=>l.getD i mE) b) (b.map fun i=>l.getD i mE)) else none
def aJf(opsA:Array Oper)(l:L aO):Option (L (Bool×aO)):=
 ((Fw (kJ opsA.toList []) opsA.toList (rR (kJ opsA.toList []) l) (Nz (kJ opsA.toList []) ((rR (kJ opsA.toList []) l).map (·.1)) l.length (List.range l.length))).or
  (Fw (kJ opsA.toList []) opsA.toList (rR (kJ opsA.toList []) l) (aD7 (kJ opsA.toList []) ((rR (kJ opsA.toList []) l).map (·.1)) (l.map fun o=>Es o.ai) l.length (List.range l.length))))
def aWV:AI->Bool
 |.call f _=>trL.contains f
 |_=>false
def aEo(opsA:Array Oper)(l:L aO)(t:IT):Option eK:=
 if G1 opsA.toList&&vT (kJ opsA.toList []) l opsA t (List.range l.length) [] then some (.drawnT t l) else none
def aOc(opsA:Array Oper)(l:L aO):Option eK:=
 (mkT (kJ opsA.toList []) l opsA (l.length+1) (if trL.contains 1 then 1500 else if trL.contains 3 then 6000 else 80) (List.range l.length)).bind fun p=>aEo opsA l p.1
def aJg(P:Program)(opsA:Array Oper)(l:L aO)(d:Bool):Option eK:=
 if d then
  if l.any (aWU P) then (sY opsA l (Nz (kJ opsA.toList []) [] l.length (List.range l.length))).or ((aJf opsA l).map .drawn)
  else ((aJf opsA l).map .drawn).or (sY opsA l (Nz (kJ opsA.toList []) [] l.length (List.range l.length)))
 else some (.region l)
def aSo:AI->Bool
 |.ixL _ _ _=>true
 |_=>false
def aWW:AI->Bool
 |.store _ _ _=>true
 |_=>false
def aWX:AI->Bool
 |.ixA _ _ _ _=>true
 |_=>false
def aWY:AI->Bool
 |.app _ _ _ _ _=>true
 |_=>false
def aWZ(l:L aO):AI->Bool
 |.ixL _ _ _=>true
 |.addo _ (.t m)=>l.any fun o=>o.dst==some m&&aSo o.ai
 |_=>false
def aW0(l:L aO):AI->Bool
 |.store _ (.t n) _=>l.any fun o=>o.dst==some n&&aWZ l o.ai
 |_=>false
def aOd(P:Program)(opsA:Array Oper)(l:L aO)(d:Bool):Option eK:=
 if d&&(l.any (fun o=>aWV o.ai)||(trL.contains 1&&decide (1<(l.filter fun o=>aWY o.ai).length))||(trL.contains 2&&l.any (fun o=>aWX o.ai)&&decide (1<(l.filter fun o=>aWW o.ai).length))||(trL.contains 0&&l.any (fun o=>aSo o.ai)&&l.any (fun o=>aW0 l o.ai))) then (aOc opsA l).or (aJg P opsA l d) else aJg P opsA l d
theorem L8{P:Program}{opsA:Array Oper}{l:L aO}{d:Bool}{x:eK}(h:aJg P opsA l d=some x):(x=.region l/\d=false)\/(∃f c b,x=.drawn c/\d=true/\f.map (·.2)=l/\Fw (kJ opsA.toList []) opsA.toList f b=some c)\/ ∃e ops b,x=.drawnF e ops/\d=true/\sY opsA l b=some x:=by
 unfold aJg at h;cases d with
 |false=>simp_all
 |true=>
  simp only[if_true] at h;have m:∀ {x},(aJf opsA l).map eK.drawn=some x->(x=.region l/\true=false)\/(∃ f c b,x=.drawn c/\true=true/\f.map (·.2)=l/\Fw (kJ opsA.toList []) opsA.toList f b=some c)\/
    ∃ e ops b,x=.drawnF e ops/\true=true/\sY opsA l b=some x:=by
   intro x h;unfold aJf at h;obtain⟨c,g,i⟩:=Option.map_eq_some_iff.1 h;rcases Option.or_eq_some_iff.1 g with g | ⟨_,g⟩
   ·exact .inr (.inl ⟨_,c,_,i.symm,rfl,Ia,g⟩)
   ·exact .inr (.inl ⟨_,c,_,i.symm,rfl,Ia,g⟩)
  have n:∀ {x b},sY opsA l b=some x->(x=.region l/\true=false)\/(∃ f c b,x=.drawn c/\true=true/\f.map (·.2)=l/\Fw (kJ opsA.toList []) opsA.toList f b=some c)\/
    ∃ e ops b,x=.drawnF e ops/\true=true/\sY opsA l b=some x:=by
   intro x b h;have j:=h;unfold sY at j
   grind
  grind[Option.or_eq_some_iff]
theorem aBB{opsA:Array Oper}{l:L aO}{x:eK}(h:aOc opsA l=some x):∃t,x=.drawnT t l/\G1 opsA.toList=true/\vT (kJ opsA.toList []) l opsA t (List.range l.length) []=true:=by
 unfold aOc at h;obtain⟨p,_,h⟩:=aZT.1 h;unfold aEo at h;grind
theorem fM{P:Program}{opsA:Array Oper}{l:L aO}{d:Bool}{x:eK}(h:aOd P opsA l d=some x):(x=.region l/\d=false)\/(∃f e b,x=.drawn e/\d=true/\f.map (·.2)=l/\Fw (kJ opsA.toList []) opsA.toList f b=some e)\/ (∃c ops b,x=.drawnF c ops/\d=true/\sY opsA l b=some x)\/∃t,x=.drawnT t l/\d=true/\G1 opsA.toList=true/\vT (kJ opsA.toList []) l opsA t (List.range l.length) []=true:=by
 unfold aOd at h;split at h;rename_i g;simp only[aZq] at g;rcases Option.or_eq_some_iff.1 h with h|⟨_,h⟩
 grind[aBB]
 ·rcases L8 h with h|h|h;all_goals simp_all
 rcases L8 h with h|h|h;grind;simp_all;simp_all
def aSp:Option eK->Option eK
 |some x=>some x
 |none=>some .bad
theorem fQ{o:Option eK}{x:eK}(h:aSp o=some x)(b:x≠.bad):o=some x:=by
 cases o with
 |none=>injection h with h;simp_all
 |some y=>exact h
def bN(P:Program):Code->Option eK
 |.skip=>some .skip
 |.ret=>some .ret
 |.region _ ops d=>aSp ((bF P ops ops.toList).bind fun l=>aOd P ops l d)
 |.seq a b=>(bN P a).bind fun x=>(bN P b).map fun y=>.seq x y
 |.cond c a b=>(bN P a).bind fun x=>(bN P b).map fun y=>.cond (aW c) x y
 |.block id a=>(bN P a).map fun x=>.block id x
 |.loop a=>(bN P a).map fun x=>.loop x
 |.exit id=>some (.exit id)
 |_=>some .bad
def AW(P:Program)(G:aE)(k:Nat)(f:eK)(Q:Exit->AS->Prop)(as:AS):Prop:=
 ∀c,bN P c=some f->∀F γ a w,eG F γ as.hp w->bY F γ as.sl a->fZ F G->k<=γ.length->
  ∀b:Exit->Act->World->Prop,(∀e d w' F' γ' as',Q e as'->iU k F γ w F' γ' w'->eG F' γ' as'.hp w'->bY F' γ' as'.sl d->k<=γ'.length->b e d w')->c.wp P b a w
section
variable {P:Program}{G:aE}{k:Nat}{Q:Exit->AS->Prop}{as as':AS}{x y:eK}
theorem AW.ghost(h:Gh k as as')(A:AW P G k x Q as'):AW P G k x Q as:=by
 intro c r F γ a w t z s u m v;obtain⟨F',γ',l,g,j,i⟩:=h F γ a w t z u;exact A c r F' γ' a w g j (s.sub l.sub) i m (fun e n w' f d b p q h3 h4=>v e n w' f d b p (l.trans q) h3 h4)
theorem AW.mono{d:Exit->AS->Prop}(h:AW P G k x Q as)(p:∀e as,Q e as->d e as):AW P G k x d as:=by
 intro c j F γ a w m q l n f b;exact h c j F γ a w m q l n f (fun e g w' F' γ' as' i=>b e g w' F' γ' as' (p _ _ i))
theorem AW.skip(h:Q .normal as):AW P G k .skip Q as:=by
 intro c b F γ a w f j e g d i;cases c<;>simp only[bN] at b<;>first|(cases b;done)|skip
 grind[wp_skip,iU.refl]
 all_goals first|(exfalso;revert b;simp[aZT];done)|(exfalso;obtain⟨l,_,b⟩:=aZT.1 (fQ b (by simp));rcases fM b with⟨h,_⟩|⟨_,_,_,h,_⟩|⟨_,_,_,h,_⟩|⟨_,h,_⟩<;>cases h)
 
theorem AW.ret(h:Q .ret as):AW P G k .ret Q as:=by
 intro c b F γ a w d g j e i f;cases c<;>simp only[bN] at b<;>first|(simp_all)|skip
 case ret=>exact wp_ret (f .ret a w F γ as h (iU.refl _ _ _ _) d g e)
 all_goals first|(exfalso;revert b;simp[aZT];done)|(exfalso;obtain⟨l,_,b⟩:=aZT.1 (fQ b (by simp));rcases fM b with⟨h,_⟩|⟨_,_,_,h,_⟩|⟨_,_,_,h,_⟩|⟨_,h,_⟩<;>cases h)
theorem AW.exit{id:Nat}(h:Q (.exit id) as):AW P G k (.exit id) Q as:=by
 intro c b F γ a w d g j e i f;cases c<;>simp only[bN] at b<;>first|(cases b;done)|skip
 case exit id'=>
  injection b with b;injection b with b;subst b
  exact wp_exit (f (.exit id') a w F γ as h (iU.refl _ _ _ _) d g e)
 all_goals first|(exfalso;revert b;simp[aZT];done)|(exfalso;obtain⟨l,_,b⟩:=aZT.1 (fQ b (by simp));rcases fM b with⟨h,_⟩|⟨_,_,_,h,_⟩|⟨_,_,_,h,_⟩|⟨_,h,_⟩<;>cases h)
theorem AW.region{ops:L aO}(h:WR P G k ops (Q .normal) as):AW P G k (.region ops) Q as:=by
 intro c e F γ a w m q j n g p;cases c<;>simp only[bN] at e<;>first|simp_all|skip
 case region id opsA d=>
  have e:=fQ e (by simp);cases f:bF P opsA opsA.toList with
  |none=>simp_all
  |some l=>
   simp only[f,aZs] at e;rcases fM e with⟨b,rfl⟩|⟨_,_,_,b,_⟩|⟨_,_,_,b,_⟩|⟨_,b,_⟩
   injection b with b;subst b
   exact wp_region_list (h opsA _ f F γ a w m q j n g (fun i w' F' γ' as' b=>p .normal i w' F' γ' as' b))
   all_goals simp_all
 all_goals simp_all[aZT,fQ,fM]
theorem AW.drawn{ops:L (Bool×aO)}(h:kH P G k (Q .normal) ops as):AW P G k (.drawn ops) Q as:=by
 intro c b F γ a w n s m p i r;cases c<;>simp only[bN] at b<;>first|simp_all|skip
 case region id opsA d=>
  have b:=fQ b (by simp);cases f:bF P opsA opsA.toList with
  |none=>simp_all
  |some l=>
   simp only[f,aZs] at b;rcases fM b with⟨e,_⟩|⟨u,t,g,e,rfl,q,j⟩|⟨_,_,_,e,_⟩|⟨_,e,_⟩
   all_goals grind[aEg]
 all_goals simp_all[aZT,fQ,fM]
def pP:FE:=(mE,[],[])
def dsj(f g:L Nat×L Nat):Bool:=uV f.1 (g.2++g.1)&&uV g.1 f.2
theorem kZ.noWr{o:aO}{st:AS}{v:AV}{u:Option (Nat×aD)}{R:L Nat}(h:kZ P G k o st v u R)(c:aBA o.ai=false):u=none:=by
 cases h with
 |skip h=>rfl
 |pur _ _ h A C=>rfl
 |call f e d r _ h b I H=>rfl
 |lit size len z N es h b hf s l=>rfl
 |alloc z id h b D E=>rw[b] at c;cases c
 |callB f e d id cs m h b j p g J=>rw[b] at c;cases c
 |cpy x y id M n bs cs h b B K j i=>rw[b] at c;cases c
 |store size x v id off cs vs h b q B A j t i=>rw[b] at c;cases c
theorem mD.noWr{K:AS->Prop}:∀{l:L FE}{st:AS},mD P G k K l st->∀e∈l,aBA e.1.ai=false->e.2.1=[]
 |[],_,_,e,b,_=>by cases b
 | (o,f)::l,st,h,e,b,c=>by
  obtain⟨v,u,R,s,d,g,h⟩:=h;rcases bAl.1 b with rfl | b
  ·rw[<- d,s.noWr c];rfl
  ·exact mD.noWr h e b c
theorem AW.drawnF{prs:List (Nat×Nat)}{ops:List aO}{L:List FE}(hL:L.map (·.1)=ops)(hp:∀p∈prs,dsj (L.getD p.1 pP).2 (L.getD p.2 pP).2=true)(h:mD P G k (Q .normal) L as):AW P G k (.drawnF prs ops) Q as:=by
 intro c m F γ a w hi hs hg hk QE hq;cases c<;>simp only[bN] at m<;>first|(cases m;done)|skip
 case region id opsA d=>
  have m:=fQ m (by simp);cases Z:bF P opsA opsA.toList with
  |none=>simp[Z] at m
  |some l=>
   simp only[Z,aZs] at m;rcases fM m with⟨n,_⟩|⟨_,_,_,n,_⟩|⟨prs',ops',ord,n,rfl,B⟩|⟨_,n,_⟩
   cases n;cases n;unfold sY at B;split at B;rename_i S;simp only[aZq] at S;obtain⟨⟨u,X⟩,hst⟩:=S;injection B with B
   injection B with V I
   have T:=C3 _ X;have f:ord.Nodup:=T.imp (fun h e=>by simp[e] at h)
   have g:=u;simp only[G0,aZq] at g;obtain⟨⟨_,D⟩,hlt⟩:=g;have M:L.length=ord.length:=by
    have:=congrArg List.length (hL.trans I.symm);simpa using this
   have C:∀ p (hp:p < ord.length),(L[p]'(by omega)).1=l.getD ord[p] mE:=fun p hp=>by
    have:(L.map (·.1))[p]?=(ord.map fun i=>l.getD i mE)[p]?:=by rw[hL,I]
    rw[aZj,aZj,aZi (by omega),aZi hp] at this;simpa using this
   let E:Nat->FE:=fun i=>L.getD (ord.idxOf i) pP
   have s:∀ p (hp:p < ord.length),E ord[p]=L[p]'(by omega):=fun p hp=>by
    show L.getD (ord.idxOf ord[p]) pP=_;rw[f.idxOf_getElem p hp,aZo,aZi (by omega)];rfl
   have N:ord.map E=L:=List.ext_getElem (by simp[M]) (fun p n h2=>by
    rw[aZu];exact s p (by omega))
   refine aBv (E:=E) Z u (fun i W=>?_) ?_ (by rw[N];exact h) hi hs hg hk (fun a' w' F' γ' as' n=>hq .normal a' w' F' γ' as' n)
   have hm:i∈ord:=by
    have:=bAr.1 D i (by simpa using W);simpa using this
   have v:=List.idxOf_lt_length_of_mem hm;have e1:=s _ v;have e2:=C _ v;rw[List.getElem_idxOf v] at e1 e2;rw[e1,e2]
   rw[List.pairwise_iff_getElem];intro p q j b z;have Y:ord[p]≠ord[q]:=fun e=>by
    have:=(List.pairwise_iff_getElem.1 f) p q j b z;exact this e
   refine⟨Y,?_⟩;have J:ord.getD p 0=ord[p]:=by rw[aZo,aZi j];rfl
   have K:ord.getD q 0=ord[q]:=by rw[aZo,aZi b];rfl
   cases H:((kJ opsA.toList []).getD ord[q] []).contains ord[p] with
   |true=>exact .inl rfl
   |false=>
    right
    rw[s p j,s q b];have t:∀ r (hr:r < ord.length),(ord.map fun i=>l.getD i mE).getD r mE=(L[r]'(by omega)).1:=fun r hr=>by
     rw[C r hr,aZo,aZj,aZi hr];rfl
    have A:=bAr.1 (bAr.1 hst q (by simpa using b)) p (by simpa using z);rw[J,K,H,aZX,t p j,t q b] at A;by_cases U:(aBA (L[p]'(by omega)).1.ai||aBA (L[q]'(by omega)).1.ai)=true
    have O:(p,q)∈prs:=by
     rw[<- V];simp only[aSm,List.mem_flatMap,List.mem_filterMap,List.mem_range];refine⟨q,b,p,z,?_⟩;rw[J,K,H,t p j,t q b,U];rfl
    have:=hp _ O;simp only[aZo] at this;rw[aZi (show p<L.length by omega),aZi (show q<L.length by omega)] at this;simp only[dsj,aZU,aZq] at this;simp only[Vx,A,this.1,this.2,Bool.and_self];simp only[Bool.or_eq_true,not_or,Bool.not_eq_true] at U;have w1:=mD.noWr h _ (aZk (show p<L.length by omega)) U.1;have w2:=mD.noWr h _ (aZk (show q<L.length by omega)) U.2;simp only[Vx,A,w1,w2,uV,List.all_nil,Bool.and_self]
   cases B;cases n
 all_goals first|(simp_all[aZT])|(exfalso;obtain⟨l,_,m⟩:=aZT.1 (fQ m (by simp));rcases fM m with⟨h,_⟩|⟨_,_,_,h,_⟩|⟨_,_,_,h,_⟩|⟨_,h,_⟩<;>cases h)
theorem AW.drawnT{t:IT}{ops:L aO}(h:TW P G k ops (Q .normal) t as):AW P G k (.drawnT t ops) Q as:=by
 intro c b F γ a w m q j n g p;cases c<;>simp only[bN] at b<;>first|simp_all|skip
 case region id opsA d=>
  have b:=fQ b (by simp);cases f:bF P opsA opsA.toList with
  |none=>simp_all
  |some l=>
   simp only[f,aZs] at b;rcases fM b with⟨e,_⟩|⟨_,_,_,e,_⟩|⟨_,_,_,e,_⟩|⟨r,e,rfl,i,h3⟩
   all_goals grind[aBz]
 all_goals simp_all[aZT,fQ,fM]
theorem AW.seq(h:AW P G k x (fun e as=>match e with|.normal=>AW P G k y Q as|e=>Q e as) as):AW P G k (.seq x y) Q as:=by
 intro c b F γ a w B D z C A g;cases c<;>simp only[bN] at b<;>first|simp_all|skip
 case seq c1 c2=>
  cases u:bN P c1 with
  |none=>simp_all
  | some M=>cases v:bN P c2 with
   | none=>simp_all
   | some N=>
    simp only[u,v,aZs,aZf,Option.some.injEq,eK.seq.injEq] at b;obtain⟨rfl,rfl⟩:=b;refine wp_seq (h c1 u F γ a w B D z C _ (fun e f w' F' γ' as' i d j m n=>?_))
    cases e with
    | normal=>exact i c2 v F' γ' f w' j m (z.sub d.sub) n A (fun e s t r q p E H I J=>g e s t r q p E (d.trans H) I J)
    | exit id=>exact g _ f w' F' γ' as' i d j m n
    | goto l=>exact g _ f w' F' γ' as' i d j m n
    | ret=>exact g _ f w' F' γ' as' i d j m n
    | panic K=>exact g _ f w' F' γ' as' i d j m n
    | outgrown=>exact g _ f w' F' γ' as' i d j m n
 all_goals first|(exfalso;revert b;simp[aZT];done)|(exfalso;obtain⟨l,_,b⟩:=aZT.1 (fQ b (by simp));rcases fM b with⟨h,_⟩|⟨_,_,_,h,_⟩|⟨_,_,_,h,_⟩|⟨_,h,_⟩<;>cases h)
theorem AW.cond{c:aI}{b:Bool}(u:cP (aM G as.sl c)=some b)(s:b=true->AW P G k x Q as)(t:b=false->AW P G k y Q as):AW P G k (.cond c x y) Q as:=by
 intro r d F γ a w n g f p i q;cases r<;>simp only[bN] at d<;>first|simp_all|skip
 case cond cc c1 c2=>
  cases j:bN P c1 with
  |none=>simp_all
  | some v=>cases m:bN P c2 with
   | none=>simp_all
   | some z=>
    simp only[j,m,aZs,aZf,Option.some.injEq,eK.cond.injEq] at d;obtain⟨rfl,rfl,rfl⟩:=d;have:=Nt (dC g f cc) u;refine wp_cond_split this (fun e=>?_) (fun e=>?_)
    ·exact s e c1 j F γ a w n g f p i q
    ·exact t e c2 m F γ a w n g f p i q
 all_goals first|(exfalso;revert d;simp[aZT];done)|(exfalso;obtain⟨l,_,d⟩:=aZT.1 (fQ d (by simp));rcases fM d with⟨h,_⟩|⟨_,_,_,h,_⟩|⟨_,_,_,h,_⟩|⟨_,h,_⟩<;>cases h)
theorem AW.block{id:Nat}(h:AW P G k x (fun e as=>match e with|.exit d=>if d=id then Q .normal as else Q (.exit d) as|e=>Q e as) as):AW P G k (.block id x) Q as:=by
 intro c b F γ a w s u r t z i;cases c<;>simp only[bN] at b<;>first|simp_all|skip
 case block d c1=>
  cases q:bN P c1 with
  |none=>simp_all
  |some B=>
   simp only[q,aZf,Option.some.injEq,eK.block.injEq] at b;obtain⟨rfl,rfl⟩:=b;refine wp_block (h c1 q F γ a w s u r t _ (fun e g w' F' γ' as' f j m n p=>?_))
   cases e with
   |normal=>exact i _ g w' F' γ' as' f j m n p
   |exit v=>
    simp only[Exit.inBlock] at f ⊢;grind
   |goto l=>exact i _ g w' F' γ' as' f j m n p
   |ret=>exact i _ g w' F' γ' as' f j m n p
   |panic A=>exact i _ g w' F' γ' as' f j m n p
   |outgrown=>exact i _ g w' F' γ' as' f j m n p
 all_goals first|(exfalso;revert b;simp[aZT];done)|(exfalso;obtain⟨l,_,b⟩:=aZT.1 (fQ b (by simp));rcases fM b with⟨h,_⟩|⟨_,_,_,h,_⟩|⟨_,_,_,h,_⟩|⟨_,h,_⟩<;>cases h)
theorem AW.loop{α:Type}(I:α->AS->Prop)(D:α->Nat)(K:α)(O:I K as) (p:∀z as,I z as->AW P G k x (fun e as'=>match e with|.normal=>∃C,I C as'/\D C<D z|e=>Q e as') as):AW P G k (.loop x) Q as:=by
 intro c m F γ a w V X U W N A;cases c<;>simp only[bN] at m<;>first|simp_all|skip
 case loop c1=>
  cases M:bN P c1 with
  |none=>simp_all
  |some x'=>
   simp only[M,aZf,Option.some.injEq,eK.loop.injEq] at m;subst m;have J:∀n z as F' γ' B w',D z<n->I z as->iU k F γ w F' γ' w'->eG F' γ' as.hp w'->bY F' γ' as.sl B->k<=γ'.length->Code.rounds P c1 N n B w':=by
    intro n
    induction n with
    |zero=>omega
    |succ n Z=>
     intro z as F' γ' B w' hn S j v T E;rw[rounds_succ];refine p z as S c1 M F' γ' B w' v T (U.sub j.sub) E _ (fun e g i f d b q r s t u=>?_)
     cases e with
     |normal=>
      obtain⟨C,H,Y⟩:=q;exact Z C b f d g i (by omega) H (j.trans r) s t u
     |exit id=>exact A _ g i f d b q (j.trans r) s t u
     |goto l=>exact A _ g i f d b q (j.trans r) s t u
     |ret=>exact A _ g i f d b q (j.trans r) s t u
     |panic ch=>exact A _ g i f d b q (j.trans r) s t u
     |outgrown=>exact A _ g i f d b q (j.trans r) s t u
   exact wp_loop_rounds (D K+1) (J _ K as F γ a w (Nat.lt_succ_self _) O (iU.refl _ _ _ _) V X W)
 all_goals first|(exfalso;revert m;simp[aZT];done)|(exfalso;obtain⟨l,_,m⟩:=aZT.1 (fQ m (by simp));rcases fM m with⟨h,_⟩|⟨_,_,_,h,_⟩|⟨_,_,_,h,_⟩|⟨_,h,_⟩<;>cases h)
end
inductive lK where
 |tmp (t:Nat)
 |cell (a:Nat) (isAgg:Bool) (size:Nat)
def iG(P:Program):ResultVar->Option lK
 |.tmp t=>some (.tmp t)
 |.cell a t=>(Ep P t).bind fun g=>(dL P t).map fun s=>.cell a g (if g then s else 1)
def gU(as:AS):lK->Option AV
 |.tmp t=>some (as.sl.getD t .junk)
 |.cell a g s=>mR as.hp g s (as.sl.getD a .junk)
def uB:AV->Option TV
 |.one c=>some (.one c)
 |.agg cs=>some (.agg cs)
 |_=>none
def uC(as:AS):L lK->Option AV
 |[r]=>gU as r
 |rs=>(rs.mapM fun r=>(gU as r).bind uB).map .tup
section
variable {P:Program}{G:aE}{as:AS}{F:Fz}{γ:L OI}{w:World}{a:Act}
theorem L9(j:eG F γ as.hp w)(n:bY F γ as.sl a){e:ResultVar}{r:lK}{av:AV}(d:iG P e=some r)(h:gU as r=some av):∃v,(match e with|.tmp t=>pure (a.tmps.getD t undef)|.cell c t=>do loadVar t (<- asAddr (a.tmps.getD c undef)):Sem Value).run P w=.ok v w/\RV F γ av v:=by
 have m:=fun t=>dC (G:=fun _=>none) n ⟨(fun g cs h=>by cases h),(fun g cs h=>by cases h)⟩ (.tmp t)
 cases e with
 |tmp t=>
  simp only[iG,Option.some.injEq] at d;subst d;simp only[gU,Option.some.injEq] at h;subst h;exact⟨_,rfl,m t⟩
 |cell c t=>
  simp only[iG] at d;cases f:Ep P t with
  |none=>simp_all
  | some g=>cases i:dL P t with
   | none=>simp_all
   | some s=>
    simp only[f,i,aZs,aZf,Option.some.injEq] at d;subst d;have l:=m c;obtain⟨y,u,q⟩:=Yh (P:=P) h j l f i rfl;obtain⟨cs,_,_,⟨b,off,vs,p,_,_,_⟩⟩:=Ly h j l
    grind[undef,Act.eval,loadVar,asAddr,Instr.loadAt,Instr.sureAddr]
theorem Ma(s:eG F γ as.hp w)(A:bY F γ as.sl a):∀(b:L ResultVar)(rs:L lK)(l:L TV),b.mapM (iG P)=some rs->(rs.mapM fun r=>(gU as r).bind uB)=some l->
  ∃ vs:L Value,(b.mapM fun q=>(match q with | .tmp t=>pure (a.tmps.getD t undef) | .cell c t=>do loadVar t (<- asAddr (a.tmps.getD c undef)):Sem Value)).run P w=.ok vs w/\vs.length=l.length/\
   ∀ (i:Nat) t v,l[i]?=some t->vs[i]?=some v->RT F γ t v
 | [],rs,l,m,n=>by
  simp_all
 | q::b,rs,l,m,n=>by
  rw[aZ8] at m;cases z:iG P q with
  | none=>simp_all
  | some r=>
   rw[z] at m;cases g:b.mapM (iG P) with
   | none=>simp_all
   | some d=>
    rw[g] at m;have C:r::d=rs:=by grind
    subst C;rw[aZ8] at n;cases e:(gU as r).bind uB with
    | none=>simp_all
    | some t=>
     rw[e] at n;cases u:(d.mapM fun r=>(gU as r).bind uB) with
     | none=>simp_all
     | some B=>
      rw[u] at n;have D:t::B=l:=by grind
      subst D;obtain⟨vs,H,p,I⟩:=Ma s A b d B g u;cases f:gU as r with
      | none=>simp_all
      | some av=>
       rw[f] at e;obtain⟨v,J,j⟩:=L9 s A z f;refine⟨v::vs, ?_,by simp[p],fun i K M h3 h4=>?_⟩
       ·simp_all
       ·cases i with
        | zero=>
         simp at h3 h4;subst h3;subst h4;cases av with
         | one c=>simp[uB] at e;subst e;cases j with | one _ _ h=>exact .one _ _ h
         | agg cs=>simp[uB] at e;subst e;cases j with | agg _ vs h E=>exact .agg _ _ h E
         | tup _=>grind[uB]
         | junk=>grind[uB]
        | succ i=>grind
theorem Vy{d:Func}{b:L lK}{av:AV}(D:eG F γ as.hp w)(E:bY F γ as.sl a)(n:d.results.toList.mapM (iG P)=some b)(h:uC as b=some av):∃v,(results d a.tmps).run P w=.ok v w/\RV F γ av v:=by
 have m:(results d a.tmps)=(do
   let vs <- List.toArray <$> d.results.toList.mapM fun j=>(match j with | .tmp t=>pure (a.tmps.getD t undef) | .cell c t=>do loadVar t (<- asAddr (a.tmps.getD c undef)):Sem Value)
   pure (if h:vs.size=1 then vs[0] else .tuple vs)):=by
  unfold results;rw[Array.mapM_eq_mapM_toList];rfl
 rw[m];by_cases u:∃r,b=[r];obtain⟨r,rfl⟩:=u;simp only[uC] at h;have:∃j,d.results.toList=[j]/\iG P j=some r:=by
  cases f:d.results.toList with
  |nil=>simp_all
  |cons j t=>
   rw[f,aZ8] at n;cases O:iG P j with
   |none=>simp_all
   |some U=>
    rw[O] at n;cases g:t.mapM (iG P) with
    |none=>simp_all
    |some rs0=>
     rw[g] at n;have e:U::rs0=[r]:=by grind
     injection e with I J
     subst I;subst J;cases t with
     |nil=>simp_all
     |cons t1 H=>
      rw[aZ8] at g;cases A:iG P t1 with
      |none=>simp_all
      |some z=>
       rw[A] at g;cases S:H.mapM (iG P) with
       |none=>simp_all
       |some z2=>simp_all
 obtain⟨j,f,B⟩:=this;obtain⟨v,W,T⟩:=L9 D E B h;simp_all
 have s:(b.mapM fun r=>(gU as r).bind uB).map AV.tup=some av:=by
  cases b with
  | nil=>exact h
  | cons r t=>cases t with
   | nil=>simp_all
   | cons Z H=>exact h
 cases f:(b.mapM fun r=>(gU as r).bind uB) with
 |none=>simp_all
 |some l=>
  rw[f] at s;injection s with s
  subst s;obtain⟨vs,p,C,q⟩:=Ma D E d.results.toList b l n f;refine⟨.tuple vs.toArray,?_,.tup _ _ (by omega) (fun i t v u V=>q i t v u (by simp_all))⟩
  simp only[Sem.run_bind,Sem.run_map,p,Result.andThen_ok,Sem.run_pure];have M:¬ vs.toArray.size=1:=by
   intro e;have K:l.length=b.length:=by
    clear q C p h u n;have:∀ (b:L lK) (l:L TV),(b.mapM fun r=>(gU as r).bind uB)=some l->l.length=b.length:=by
     intro b
     induction b with
     | nil=>simp_all
     | cons r b X=>
      intro l h;rw[aZ8] at h;cases N:(gU as r).bind uB with
      | none=>simp_all
      | some t=>rw[N] at h;cases f:(b.mapM fun r=>(gU as r).bind uB) with
       | none=>simp_all
       | some Y=>rw[f] at h;injection h with h;grind
    grind
   have:b.length=1:=by simp_all
   match b,this with
   |[r],_=>simp_all
  simp_all
theorem AC.of_body{f:FuncId}{g:Func}{c:Code}{n:Nat}{D:L lK}{z:eK}{b:L AV}{objs:L aD}{Q:AV->L aD->Prop}(hf:P.funcs[f]?=some g)(E:g.body=some c)(K:g.ntmps=n) (N:g.results.toList.mapM (iG P)=some D) (H:bN P c=some z) (h:AW P G objs.length z (fun e as=>(e=.normal\/e=.ret)/\objs.length<=as.hp.length/\∃av,uC as D=some av/\Q av as.hp) ⟨b++List.replicate (n-b.length) .junk,objs⟩):AC P G f b objs Q:=by
 intro F γ vs w C J u;refine calls_of_wp hf E ?_;have O:bY F γ (b++List.replicate (n-b.length) .junk) { tmps:=vs++Array.replicate (g.ntmps-vs.size) undef,defers:=[] }:=by
  refine⟨rfl,by simp[K,u.1],fun i av v p q=>?_⟩
  by_cases j:i<b.length;rw[aZv j] at p;simp only at q;rw[Array.getElem?_append_left (by rw[u.1];exact j)] at q;exact u.2 i av v p q;rw[aZD (by omega)] at p;have:=aZE p;rw[List.mem_replicate] at this;rw[this.2];exact .junk _
 refine h c H F γ _ w C O J (by rw[C.len];omega) _ (fun e S w' F' γ' as' M A r s T=>?_)
 obtain⟨I,d,av,t,B⟩:=M;obtain⟨v,l,m⟩:=Vy r s N t;rcases I with rfl|rfl;exact⟨s.1,v,l,v,av,as'.hp,F',γ',rfl,B,d,A,r,m⟩;exact⟨s.1,v,l,v,av,as'.hp,F',γ',rfl,B,d,A,r,m⟩
end
section
variable {P:Program}{G:aE}{k:Nat}{as as':AS}
theorem Gh.refl:Gh k as as:=fun F γ _ w b d c=>⟨F,γ,iU.refl _ _ _ _,b,d,c⟩
theorem Gh.trans{as'':AS}(h:Gh k as as')(i:Gh k as' as''):Gh k as as'':=by
 intro F γ a w j m l;obtain⟨d,b,f,n,s,q⟩:=h F γ a w j m l;obtain⟨e,c,g,p,t,r⟩:=i d b a w n s q;exact⟨e,c,f.trans g,p,t,r⟩
inductive CLe:aU->aU->Prop where
 |refl (c:aU):CLe c c
 |junk (c:aU):CLe c .junk
 |nil:CLe (cN (.slice none 0 0)) (.dc (.slc []))
theorem CLe.ok{F:Fz}{γ:L OI}{c d:aU}{v:Value}(h:CLe c d)(b:RC F γ c v):RC F γ d v:=by
 cases h with
 |refl=>exact b
 |junk=>exact .junk _ b.is1
 |nil=>cases b with|dc _ _ h=>cases h;exact .dc _ _ (.nil _ _)
def aOf(cs b:L aU):Prop:=cs.length=b.length/\∀(i:Nat) c d,cs[i]?=some c->b[i]?=some d->CLe c d
inductive VLe:AV->AV->Prop where
 |refl (v:AV):VLe v v
 |junk (v:AV):VLe v .junk
 |one {c d:aU} (h:CLe c d):VLe (.one c) (.one d)
 |agg {cs ds:List aU} (h:aOf cs ds):VLe (.agg cs) (.agg ds)
theorem aOf.ok{F:Fz}{γ:L OI}{cs e:L aU}(h:aOf cs e){vs:Array Value}(g:∀(i:Nat) c v,cs[i]?=some c->vs[i]?=some v->RC F γ c v):∀(i:Nat) c v,e[i]?=some c->vs[i]?=some v->RC F γ c v:=by
 intro i d v f j;have b:i<cs.length:=by rw[h.1];grind
 exact (h.2 i _ d (aZi b) f).ok (g i _ v (aZi b) j)
theorem VLe.ok{F:Fz}{γ:L OI}{x y:AV}{v:Value}(h:VLe x y)(b:RV F γ x v):RV F γ y v:=by
 cases h with
 |refl=>exact b
 |junk=>exact .junk _
 |one h=>cases b with|one _ _ c=>exact .one _ _ (h.ok c)
 |agg h=>cases b with|agg _ vs e d=>exact .agg _ _ (by rw[e,h.1]) (h.ok d)
def SLe:L AV->L AV->Prop
 |[],[]=>True
 |x::b,y::c=>VLe x y/\SLe b c
 |_,_=>False
theorem SLe.get:∀{b c:L AV},SLe b c->b.length=c.length/\∀(i:Nat) y,c[i]?=some y->∃x,b[i]?=some x/\VLe x y
 |[],[],_=>⟨rfl,fun i y h=>by simp at h⟩
 | x::b,y::c,h=>by
  obtain⟨e,f⟩:=SLe.get h.2;refine⟨by simp[e],fun i z d=>?_⟩
  cases i with
  | zero=>simp at d;subst d;exact⟨x,rfl,h.1⟩
  | succ i=>simp_all
 |[],_::_,h=>h.elim
 |_::_,[],h=>h.elim
theorem bY.le{F:Fz}{γ:L OI}{d e:L AV}{a:Act}(h:SLe d e)(c:bY F γ d a):bY F γ e a:=by
 obtain⟨f,g⟩:=h.get;refine⟨c.1,by rw[c.2.1,f],fun i y v m j=>?_⟩
 obtain⟨x,l,b⟩:=g i y m;exact b.ok (c.2.2 i x v l j)
theorem Gh.slots{b:L AV}(h:SLe as.sl b):Gh k as ⟨b,as.hp⟩:=fun F γ _ w c e d=>⟨F,γ,iU.refl _ _ _ _,c,bY.le h e,d⟩
theorem Gh.drop(n:Nat)(q:k<=n):Gh k as ⟨as.sl.map (bG fun id=>decide (n<=id)),(as.hp.take n).map (cU fun id=>decide (n<=id))⟩:=by
 intro F γ a w e r t;have l:∀(id:Nat)(o:OI),decide (n<=id)=false->γ[id]?=some o->(γ.take n)[id]?=some o:=by
  simp_all
 have f:∀i b,cG (γ.take n) i=some b->cG γ i=some b:=by
  grind[dD,bV]
 refine⟨F,γ.take n,⟨fun _ _ h=>h,rfl,rfl,rfl,aZe _,fun _ _ _=>rfl,fun _ _ h=>.inl h,fun i b h=>.inl ⟨i,f i b h⟩,fun i p b h=>?_⟩,⟨e.fz,by simp[e.len],fun i j b c d=>e.nd i j b (f i b c) (f j b d),fun i b h=>e.disj i b (f i b h),?_⟩,r.kill (fun _ _ h=>h) l,by grind⟩
 grind
 intro i o x c d;rw[aZL] at d;split at d;rename_i g;rw[aZj,aZL,if_pos g] at c;cases m:as.hp[i]? with
 |none=>simp_all
 |some s=>
  simp only[m,aZf,Option.some.injEq] at c;subst c;exact (e.ok i s x m d).kill (fun _ _ h=>h) l (fun _ _=>rfl)
 grind
def B3(id:Nat)(es:L (L DC)):aU->aU
 |.bld j n=>if j=id/\n<=es.length then .dc (.slc (es.take n)) else .bld j n
 |c=>c
def aOg(id:Nat)(es:L (L DC)):TV->TV
 |.one c=>.one (B3 id es c)
 |.agg cs=>.agg (cs.map (B3 id es))
def aBC(id:Nat)(es:L (L DC)):AV->AV
 |.one c=>.one (B3 id es c)
 |.agg cs=>.agg (cs.map (B3 id es))
 |.tup l=>.tup (l.map (aOg id es))
 |.junk=>.junk
def Vz(id:Nat)(es:L (L DC)):aD->aD
 |.box cs=>.box (cs.map (B3 id es))
 |o=>o
theorem Gh.nil{d:Nat}(size:Nat)(h:as.sl[d]?=some (dS (.slice none 0 0))):Gh k as ⟨as.sl.set d (.one (.bld as.hp.length 0)),as.hp++[.arr 0 size []]⟩:=by
 intro F γ a w g p B;have e:∀(id:Nat)(o:OI),γ[id]?=some o->(γ++[OI.arr none 0])[id]?=some o:=fun _ _ h=>bX h
 have r:∀i b,cG (γ++[OI.arr none 0]) i=some b->cG γ i=some b:=by
  intro i b h;obtain⟨y,z,A⟩:=dD h;rcases iR z with c|⟨_,rfl⟩
  all_goals grind[bV,OI.blk]
 have n:d < as.sl.length:=aJ h;have l:d < a.tmps.size:=p.2.1 ▸ n;have t:a.tmps[d]?=some (a.tmps[d]'l):=aZR l;have q:=cX (p.2.2 d _ _ h t);refine⟨F,γ++[OI.arr none 0],⟨fun _ _ h=>h,rfl,rfl,rfl,aZe _,fun _ _ _=>rfl,fun _ _ h=>.inl h,fun i b h=>.inl ⟨i,r i b h⟩,fun i _ b h=>e _ _ h⟩,
  ⟨g.fz,by simp[g.len],fun i j b c f=>g.nd i j b (r i b c) (r j b f),fun i b h=>g.disj i b (r i b h), ?_⟩, ?_,by grind⟩
 intro i o x c f;rcases iR f with h3|⟨h3,rfl⟩
 have u:i<as.hp.length:=by rw[<- g.len];grind
 rw[aZv u] at c;exact (g.ok i o x c h3).ext (fun _ _ h=>h) e (fun _ _=>rfl)
 rw[h3,g.len] at c;simp at c;subst c;exact⟨rfl,rfl,rfl⟩;have s:=p.ext (F':=F) (fun _ _ h=>h) e
 refine⟨p.1,by simpa using p.2.1,fun i av v c f=>?_⟩
 by_cases m:d=i;subst m;rw[aZH n] at c;injection c with c;subst c
 rw[t,q] at f;injection f with f;subst f
 exact .one _ _ (.bldN _ 0 (by rw[<- g.len];simp));rw[aZw m] at c;exact s.2.2 i av v c f
theorem Gh.dead(n:Nat):Gh k as ⟨as.sl,as.hp++List.replicate n .dead⟩:=by
 intro F γ a w f q s;have c:∀(id:Nat)(o:OI),γ[id]?=some o->(γ++List.replicate n OI.dead)[id]?=some o:=fun _ _ h=>bX h
 have m:∀i b,cG (γ++List.replicate n OI.dead) i=some b->cG γ i=some b:=by
  intro i b h;obtain⟨y,l,p⟩:=dD h;rcases bAp i γ.length with g|g
  grind[List.getElem?_append_left,bV]
  rw[aZD g,bAf] at l;split at l;injection l with l;subst l;cases p
  grind
 refine⟨F,γ++List.replicate n .dead,⟨fun _ _ h=>h,rfl,rfl,rfl,aZe _,fun _ _ _=>rfl,fun _ _ h=>.inl h,fun i b h=>.inl ⟨i,m i b h⟩,fun i f b h=>c i _ h⟩,⟨f.fz,by simp[f.len],fun i j b d e=>f.nd i j b (m i b d) (m j b e),fun i b h=>f.disj i b (m i b h),fun i r x d e=>?_⟩,q.ext (fun _ _ h=>h) c,by grind⟩
 rcases bAp i γ.length with g|g;rw[aZv g] at e;rw[aZv (by rw[<- f.len];exact g)] at d;exact (f.ok i r x d e).ext (fun _ _ h=>h) c (fun _ _=>rfl)
 rw[aZD g,bAf] at e;rw[aZD (by rw[<- f.len];exact g),bAf] at d;split at d;split at e;injection d with d;injection e with e;subst d;subst e;trivial
 grind
 grind
end
end
section
section
variable {k:Nat}{as:AS}{F:Fz}{γ:L OI}{w:World}
def Fz.add(F:Fz)(w:World)(b:Nat):Fz:=fun b'=>if b'=b then w.heap[b]? else F b'
theorem aEp{F':Fz}{γ':L OI}{id cap size:Nat}{es:L (L DC)}(O:eG F γ as.hp w)(I:aL as.hp id=.arr cap size es)(D:F.sub F')(M:∀(i:Nat)(o:OI),(i==id)=false->γ[i]?=some o->γ'[i]?=some o) (H:∀b c,γ[id]?=some (.arr (some b) c)->F' b=w.heap[b]?) {c:aU}{v:Value} (h:RC F γ c v):RC F' γ' (cO (·==id) (B3 id es c)) v:=by
 by_cases C:∃n,c=.bld id n/\n<=es.length;obtain⟨n,rfl,B⟩:=C;have z:B3 id es (.bld id n)=.dc (.slc (es.take n)):=by simp[B3,B]
 rw[z];have E:cO (·==id) (.dc (.slc (es.take n)))=.dc (.slc (es.take n)):=by simp[cO,aU.keep]
 rw[E];refine .dc _ _ ?_;cases h with
 |bldN _ c p=>simp;exact .nil _ _
 |bld _ _ b c p=>
  obtain⟨J,A,r,vs,T,⟨X,N,U⟩,W,V⟩:=O.arr I p;have g:(es.take n).length=n:=by simp;omega
  have f:∀(i:Nat) e,(es.take n)[i]?=some e->es[i]?=some e:=by
   intro i e h;rw[aZL] at h;split at h;exact h;cases h
  have t:∀(i j:Nat) e d,es[i]?=some e->e[j]?=some d->∃u,vs[i*size+j]?=some u:=by
   intro i j e d l q;have S:j<size:=by have:=aJ q;have:=r _ (aZE l);omega
   have:=iQ (aJ l) A S;exact⟨_,aZR (by omega)⟩
  have:=RD.slc (F:=F') b 0 c size (es.take n) (fun i j=>vs.toList.getD (i * size+j) undef) (fun e K=>r e (aZA K)) (fun i j e d l q=>by
    obtain⟨u,s⟩:=t i j e d (f i e l) q;simp only[aZo,bAe,s,aZU];exact (V i j e d u (f i e l) q s).mono D) (fun i j e d l q=>by
    obtain⟨u,s⟩:=t i j e d (f i e l) q;simp only[aZo,bAe,s,aZU,Fz.cell?,aZ0];rw[H b c p,N];simpa using s) (by rw[g];omega)
  rwa[g] at this
 have z:B3 id es c=c:=by
  cases c<;>try rfl
  rename_i j n;simp only[B3];split;rename_i m;obtain⟨rfl,B⟩:=m;exact absurd ⟨n,rfl,B⟩ C;rfl
 rw[z];exact h.kill D M
theorem Gh.freeze{id cap size:Nat}{es:L (L DC)}(H:aL as.hp id=.arr cap size es):Gh k as ⟨as.sl.map fun v=>bG (·==id) (aBC id es v),(as.hp.map fun o=>cU (·==id) (Vz id es o)).set id .dead⟩:=by
 intro F γ a w s Y hk;have M:=fK H (by simp);have q:id<γ.length:=by rw[s.len];exact aJ M
 have E:γ[id]?=some (γ[id]'q):=aZi q;generalize hxe:γ[id]'q=x at E;have X:=s.ok id _ _ M E
 let F':Fz:=match x.blk with|some b=>F.add w b|none=>F
 have J:∀b,x.blk=some b->F' b=w.heap[b]?:=by intro b hb';simp[F',hb',Fz.add]
 have z:∀b',x.blk≠some b'->F' b'=F b':=by
  intro b' C;cases g:x.blk with
  |none=>simp[F',g]
  |some b=>simp only[F',g,Fz.add];rw[if_neg (fun e=>C (by rw[g,e]))]
 have n:F.sub F':=by
  intro b o h;rw[z b (fun e=>by rw[s.disj id b (bV E e)] at h;cases h)];exact h
 have V:∀(i:Nat)(o:OI),(i==id)=false->γ[i]?=some o->(γ.set id .dead)[i]?=some o:=fun i o d m=>rC m d
 have U:∀b c,γ[id]?=some (.arr (some b) c)->F' b=w.heap[b]?:=fun b c h=>J b (by rw[E] at h;injection h with h;rw[h];rfl)
 have H:∀i b,cG (γ.set id .dead) i=some b->i≠id/\cG γ i=some b:=by
  intro i b h;obtain⟨y,I,N⟩:=dD h;by_cases f:id=i;subst f;rw[aZH q] at I;injection I with I;subst I
  simp[OI.blk] at N;rw[aZw f] at I;exact⟨Ne.symm f,bV I N⟩
 have A:=fun {c:aU}{v:Value} (h:RC F γ c v)=>aEp (F':=F') (γ':=γ.set id .dead) s ‹aL as.hp id=_› n V U h
 have r:∀{cs:L aU}{vs:Array Value},(∀(i:Nat) c v,cs[i]?=some c->vs[i]?=some v->RC F γ c v)->∀(i:Nat) c v,((cs.map (B3 id es)).map (cO (·==id)))[i]?=some c->vs[i]?=some v->RC F' (γ.set id .dead) c v:=by
  intro cs vs h i c v O hv;rw[aZG,aZj] at O;cases B:cs[i]? with
  |none=>simp[B] at O
  |some c0=>
   simp only[B,aZf,Option.some.injEq,Function.comp] at O;subst O;exact A (h i c0 v B hv)
 refine⟨F',γ.set id .dead,⟨n,rfl,rfl,rfl,aZe _,fun _ _ _=>rfl,fun b o h=>?_,fun i b h=>.inl ⟨i,(H i b h).2⟩,fun i _ b h=>?_⟩,
  ⟨fun b o h=>?_,by simp[s.len],fun i j b d m=>s.nd i j b (H i b d).2 (H j b m).2,fun i b h=>?_,fun i o y d m=>?_⟩, ?_,by simpa using hk⟩
 by_cases g:x.blk=some b;exact .inr (.inr ⟨id,bV E g⟩);rw[z b g] at h;exact .inl h;by_cases f:id=i;subst f;rw[E] at h;injection h with h
 subst h;exact X.elim;rw[aZw f];exact h;by_cases g:x.blk=some b;rw[J b g] at h;exact h;rw[z b g] at h;exact s.fz b o h;obtain⟨C,K⟩:=H i b h;rw[z b (fun e=>C (s.nd _ _ _ K (bV E e)))]
 exact s.disj i b K;by_cases f:id=i;subst f;rw[aZH q] at m;rw[aZH (by rw[aY9,<- s.len];exact q)] at d;injection d with d;injection m with m;subst d;subst m
 trivial;rw[aZw f] at d m;rw[aZj] at d;cases W:as.hp[i]? with
 |none=>simp[W] at d
 |some Z=>
  simp only[W,aZf,Option.some.injEq] at d;subst d;have h3:=s.ok i Z y W m;cases Z with
  |box cs=>
   cases y with
   |box b=>
    obtain⟨vs,T,g1,g2,g3⟩:=h3;exact⟨vs,T,g1,by simpa[Vz] using g2,r g3⟩
   |arr _ _=>exact h3.elim
   |dead=>exact h3.elim
  |arr c2 s2 es2=>
   have:=h3.kill (p:=(·==id)) (F':=F') (γ':=γ.set id .dead) (w':=w) n V (fun _ _=>rfl)
   exact this
  |dead=>
   have:=h3.kill (p:=(·==id)) (F':=F') (γ':=γ.set id .dead) (w':=w) n V (fun _ _=>rfl)
   exact this
 refine⟨Y.1,by simpa using Y.2.1,fun i av v d m=>?_⟩
 rw[aZj] at d;cases D:as.sl[i]? with
 |none=>simp[D] at d
 |some S=>
  simp only[D,aZf,Option.some.injEq] at d;subst d;have h3:=Y.2.2 i S v D m;cases h3 with
  |one c v h=>exact .one _ _ (A h)
  |agg cs vs u h=>exact .agg _ _ (by simpa[aBC] using u) (r h)
  |tup l vs u h=>
   refine .tup _ _ (by simpa[aBC] using u) (fun i t v d m=>?_)
   rw[aZG,aZj] at d;obtain⟨t0,h4,rfl⟩:=Option.map_eq_some_iff.1 d;cases h i t0 v h4 m with
   |one c v h=>exact .one _ _ (A h)
   |agg cs vs u h=>exact .agg _ _ (by simpa[aOg] using u) (r h)
  |junk v=>exact .junk v
end
end
section
section
variable {P:Program}{G:aE}{k:Nat}{st st':AS}{x y:eK}
theorem AC.of_code{f:FuncId}{d:Func}{n:Nat}{l:L lK}{j:eK}{b:L AV}{objs:L aD}{Q:AV->L aD->Prop}(hf:P.funcs[f]?=some d)(m:d.ntmps=n) (g:d.body.bind (bN P)=some j) (p:d.results.toList.mapM (iG P)=some l) (h:AW P G objs.length j (fun e s=>(e=.normal\/e=.ret)/\objs.length<=s.hp.length/\∃av,uC s l=some av/\Q av s.hp) ⟨b++List.replicate (n-b.length) .junk,objs⟩):AC P G f b objs Q:=by
 cases i:d.body with
 |none=>rw[i] at g;cases g
 |some c=>rw[i] at g;exact AC.of_body hf i m p g h
def Fin(k:Nat)(b:L lK)(Q:AV->L aD->Prop)(e:Exit)(s:AS):Prop:=
 (e=.normal\/e=.ret)/\k<=s.hp.length/\∃av,uC s b=some av/\Q av s.hp
theorem AC.of_codeF{f:FuncId}{c:Func}{n:Nat}{e:L lK}{d:eK}{b:L AV}{objs:L aD}{Q:AV->L aD->Prop}(hf:P.funcs[f]?=some c)(i:c.ntmps=n) (g:c.body.bind (bN P)=some d) (j:c.results.toList.mapM (iG P)=some e) (h:AW P G objs.length d (Fin objs.length e Q) ⟨b++List.replicate (n-b.length) .junk,objs⟩):AC P G f b objs Q:=AC.of_code hf i g j h
theorem Fin.ret{b:L lK}{Q:AV->L aD->Prop}{s:AS}{av:AV}(c:k<=s.hp.length)(d:uC s b=some av)(h3:Q av s.hp):Fin k b Q .ret s:=⟨.inr rfl,c,av,d,h3⟩
theorem Fin.normal{b:L lK}{Q:AV->L aD->Prop}{s:AS}{av:AV}(c:k<=s.hp.length)(d:uC s b=some av)(h3:Q av s.hp):Fin k b Q .normal s:=⟨.inl rfl,c,av,d,h3⟩
def Ig(P:Program)(G:aE)(k:Nat)(y:eK)(Q:Exit->AS->Prop):Exit->AS->Prop:=fun e s=>match e with|.normal=>AW P G k y Q s|e=>Q e s
def N8(id:Nat)(Q:Exit->AS->Prop):Exit->AS->Prop:=fun e s=>match e with|.exit b=>if b=id then Q .normal s else Q (.exit b) s|e=>Q e s
def Le(k:Nat){α:Type}(H:α->AS)(I:α->Prop)(c:α->Nat)(n:Nat)(Q:Exit->AS->Prop):Exit->AS->Prop:=fun e s=>match e with|.normal=>∃b,I b/\c b<n/\Gh k s (H b)|e=>Q e s
variable {Q:Exit->AS->Prop}
theorem AW.seqv(h:AW P G k x (Ig P G k y Q) st):AW P G k (.seq x y) Q st:=AW.seq h
theorem Ig.n(h:AW P G k y Q st):Ig P G k y Q .normal st:=h
theorem Ig.r(h:Q .ret st):Ig P G k y Q .ret st:=h
theorem Ig.e{id:Nat}(h:Q (.exit id) st):Ig P G k y Q (.exit id) st:=h
theorem N8.n{id:Nat}(h:Q .normal st):N8 id Q .normal st:=h
theorem N8.r{id:Nat}(h:Q .ret st):N8 id Q .ret st:=h
theorem N8.e{id:Nat}(h:Q .normal st):N8 id Q (.exit id) st:=by show (if id=id then _ else _);rw[if_pos rfl];exact h
theorem N8.o{id b:Nat}(c:¬ b=id)(h:Q (.exit b) st):N8 id Q (.exit b) st:=by show (if b=id then _ else _);rw[if_neg c];exact h
theorem Le.n{α:Type}{H:α->AS}{I:α->Prop}{b:α->Nat}{n:Nat}(z:α)(c:I z)(d:b z<n)(h3:Gh k st (H z)):Le k H I b n Q .normal st:=⟨z,c,d,h3⟩
theorem Le.r{α:Type}{H:α->AS}{I:α->Prop}{b:α->Nat}{n:Nat}(h:Q .ret st):Le k H I b n Q .ret st:=h
theorem Le.e{α:Type}{H:α->AS}{I:α->Prop}{b:α->Nat}{n id:Nat}(h:Q (.exit id) st):Le k H I b n Q (.exit id) st:=h
theorem AW.loopG{α:Type}(H:α->AS)(I:α->Prop)(f:α->Nat)(d:α)(n:I d)(i:Gh k st (H d))(b:∀z,I z->AW P G k x (Le k H I f (f z) Q) (H z)):AW P G k (.loop x) Q st:=by
 refine AW.loop (fun z s=>I z/\Gh k s (H z)) f d ⟨n,i⟩ (fun z s g=>?_)
 refine AW.ghost g.2 ((b z g.1).mono (fun e q h=>?_))
 cases e with
 |normal=>obtain⟨p,j,m,h3⟩:=h;exact⟨p,⟨j,h3⟩,m⟩
 |exit id=>exact h
 |goto l=>exact h
 |ret=>exact h
 |panic c=>exact h
 |outgrown=>exact h
theorem WR.split{o:aO}{rest:L aO}{R:AS->Prop}{g:Nat}{b c:Bool}(_:o.guard=some (g,b))(_:cP (aM G st.sl (.t g))=some c) (d:c=true->WR P G k (o::rest) R st) (e:c=false->WR P G k (o::rest) R st):WR P G k (o::rest) R st:=by
 cases c with
 |true=>exact d rfl
 |false=>exact e rfl
theorem Gh.dropS(n:Nat)(b:k<=n){d:L AV}{c:L aD}(e:SLe (st.sl.map (bG fun id=>decide (n<=id))) d)(f:(st.hp.take n).map (cU fun id=>decide (n<=id))=c):Gh k st ⟨d,c⟩:=by
 subst f;exact Gh.trans (Gh.drop n b) (Gh.slots e)
end
abbrev vi(n:Int):AV:=.one (.dc (.raw (.int .i64 n)))
abbrev vb(b:Bool):AV:=.one (.dc (.raw (.bool b)))
abbrev ci(n:Int):DC:=.raw (.int .i64 n)
abbrev vl(es:L (L DC)):AV:=.one (.dc (.slc es))
theorem Et{n:Int}(h:-9223372036854775808<=n/\n<=9223372036854775807):IntKind.i64.wrap n=n:=by
 have b:(2 ^ IntKind.i64.bits:Int)=18446744073709551616:=by decide
 have c:(2 ^ (IntKind.i64.bits-1):Int)=9223372036854775808:=by decide
 unfold IntKind.wrap;simp only[b,c,IntKind.signed,aZJ,decide_eq_true_eq];split<;>omega
section
variable {P:Program}{G:aE}{k:Nat}{st st':AS}{R:AS->Prop}{o:aO}{rest:L aO}
theorem WR.allocE{b:L Value}(c:kB G st o.guard)(d:o.ai=.alloc b)(e:(⟨aS st.sl o.dst (.one (.ptr st.hp.length 0)),st.hp++[.box (b.map cN)]⟩:AS)=st')(h:WR P G k rest R st'):WR P G k (o::rest) R st:=
 WR.alloc c d (e ▸ h)
theorem WR.boxE{x:aI}{cs:L aU}(b:kB G st o.guard)(c:o.ai=.box x)(e:cellsOf (aM G st.sl x)=some cs)(d:(⟨aS st.sl o.dst (.one (.ptr st.hp.length 0)),st.hp++[.box cs]⟩:AS)=st')(h:WR P G k rest R st'):WR P G k (o::rest) R st:=
 WR.box b c e (d ▸ h)
theorem WR.storeX{size id off:Nat}{x v:aI}{cs vs:L aU}(c:kB G st o.guard)(f:o.ai=.store size x v)(b:o.dst=none) (l:aM G st.sl x=.one (.ptr id off)) (j:cellsOf (aM G st.sl v)=some vs) (g:aL st.hp id=.box cs) (e:vs.length=size) (d:off+size<=cs.length) (i:(⟨st.sl,st.hp.set id (.box (dB cs off vs))⟩:AS)=st') (h:WR P G k rest R st'):WR P G k (o::rest) R st:=WR.store c f b l j g e d (i ▸ h)
theorem WR.bslcE{size len:Nat}{c:L Value}{b:L (Nat×aI)}{es:L (L DC)}(g:kB G st o.guard)(l:o.ai=.bslc size len c b) (hf:iV ((List.range (len*size)).map fun i=>cN (c.getD (i % c.length) undef)) (b.map fun (j,x)=>(j*size,size,aM G st.sl x))=some (oR es.flatten)) (f:∀e∈es,e.length=size) (d:es.length=len) (m:(⟨aS st.sl o.dst (.one (.bld st.hp.length len)),st.hp++[.arr len size es]⟩:AS)=st') (h:WR P G k rest R st'):WR P G k (o::rest) R st:=WR.bslc g l hf f d (m ▸ h)
end
def uW:AI->Bool
 |.alloc _=>false
 |.box _=>false
 |.store _ _ _=>false
 |.bslc _ _ _ _=>false
 |.call _ _=>false
 |.callv _ _=>false
 |.app _ _ _ _ _=>false
 |.apps _ _=>false
 |.mk _ _ _ _ _=>false
 |.clr _ _ _=>false
 |.cpys _ _=>false
 |.cvsb _=>false
 |.slL _ _ _ _=>false
 |_=>true
theorem Ih{b:AI}(h:uW b=true):b.isPure=true:=by
 cases b<;>first|rfl|(simp[uW] at h;done)
theorem Eu{b:AI}(h:uW b=true){hp:L aD}:N0 b hp=hp:=by
 cases b<;>first|rfl|(simp[uW] at h;done)
def aJh(G:aE):L (Bool×aO)->AS->Option (L (Bool×aO)×AS)
 |[],st=>some ([],st)
 |(b,o)::l,st=>if b=true/\o.guard=none/\uW o.ai=true then (dJ G st o.ai).bind fun v=>aJh G l ⟨aS st.sl o.dst v,st.hp⟩ else some ((b,o)::l,st)
def Mb(G:aE)(g:Nat)(c:Bool):L (Bool×aO)->AS->Option (L (Bool×aO)×AS)
 |[],st=>some ([],st)
 |(b,o)::l,st=>if b=true/\o.guard=some (g,c)/\uW o.ai=true/\o.dst≠some g then (dJ G st o.ai).bind fun v=>Mb G g c l ⟨aS st.sl o.dst v,st.hp⟩ else some ((b,o)::l,st)
def Ev(g:Nat)(c:Bool):L (Bool×aO)->AS->L (Bool×aO)×AS
 |[],st=>([],st)
 |(b,o)::l,st=>if o.guard=some (g,c)/\o.dst≠some g then Ev g c l ⟨aS st.sl o.dst (.tup []),st.hp⟩ else ((b,o)::l,st)
section
variable {P:Program}{G:aE}{k:Nat}{st st':AS}{R:AS->Prop}{o:aO}{rest ops:L (Bool×aO)}{Q:Exit->AS->Prop}
theorem WD.nil(h:R st):kH P G k R [] st:=h
theorem WD.skip{b:Bool}(c:Gf G st o.guard)(h:kH P G k R rest ⟨aS st.sl o.dst (.tup []),st.hp⟩):kH P G k R ((b,o)::rest) st:=by
 cases b with
 |true=>exact⟨.tup [],.inl ⟨c,rfl⟩,h⟩
 |false=>exact .inl ⟨c,h⟩
theorem WD.run:∀(ops:L (Bool×aO)) (st:AS) (rest:L (Bool×aO)) (st':AS),aJh G ops st=some (rest,st')->kH P G k R rest st'->kH P G k R ops st
 |[],st,rest,st',h,c=>by simp[aJh] at h;obtain⟨rfl,rfl⟩:=h;exact c
 | (b,o)::ops,st,rest,st',h,c=>by
  simp only[aJh] at h;split at h
  ·rename_i i;obtain⟨rfl,j,e⟩:=i;cases d:dJ G st o.ai with
   | none=>simp[d] at h
   | some v=>
    simp only[d,aZs] at h;exact⟨v,.inr ⟨by rw[j];trivial,.inl (by rw[Eu e];exact d)⟩,WD.run ops _ rest st' h c⟩
  ·injection h with h;injection h with f g;subst f;subst g;exact c
theorem WD.runG{g:Nat}{c:Bool}:∀(ops:L (Bool×aO)) (st:AS) (rest:L (Bool×aO)) (st':AS),cP (aM G st.sl (.t g))=some c->Mb G g c ops st=some (rest,st')->kH P G k R rest st'->kH P G k R ops st
 |[],st,rest,st',e,h,d=>by simp[Mb] at h;obtain⟨rfl,rfl⟩:=h;exact d
 | (b,o)::ops,st,rest,st',e,h,d=>by
  simp only[Mb] at h;split at h
  ·rename_i m;obtain⟨rfl,p,i,n⟩:=m;cases f:dJ G st o.ai with
   | none=>simp[f] at h
   | some v=>
    simp only[f,aZs] at h;exact⟨v,.inr ⟨by rw[p];exact e,.inl (by rw[Eu i];exact f)⟩,WD.runG ops _ rest st' (by rw[qR n];exact e) h d⟩
  ·injection h with h;injection h with j l;subst j;subst l;exact d
theorem WD.skipG{g:Nat}{c:Bool}:∀(ops:L (Bool×aO)) (st:AS) (rest:L (Bool×aO)) (st':AS),Gf G st (some (g,c))->Ev g c ops st=(rest,st')->kH P G k R rest st'->kH P G k R ops st
 |[],st,rest,st',e,h,d=>by simp[Ev] at h;obtain⟨rfl,rfl⟩:=h;exact d
 | (b,o)::ops,st,rest,st',e,h,d=>by
  simp only[Ev] at h;split at h
  ·rename_i f;exact WD.skip (by rw[f.1];exact e) (WD.skipG ops _ rest st' (by simp only[Gf];rw[qR f.2];exact e) h d)
  ·injection h with i j;subst i;subst j;exact d
theorem WD.split{g:Nat}{b c d:Bool}(_:o.guard=some (g,b))(_:cP (aM G st.sl (.t g))=some c) (e:c=true->kH P G k R ((d,o)::rest) st) (f:c=false->kH P G k R ((d,o)::rest) st):kH P G k R ((d,o)::rest) st:=by
 cases c with
 |true=>exact e rfl
 |false=>exact f rfl
theorem WD.allocE{b:L Value}(c:kB G st o.guard)(d:o.ai=.alloc b)(e:(⟨aS st.sl o.dst (.one (.ptr st.hp.length 0)),st.hp++[.box (b.map cN)]⟩:AS)=st')(h:kH P G k R rest st'):kH P G k R ((false,o)::rest) st:=by
 subst e;exact .inr ⟨c,by rw[d];exact h⟩
theorem WD.boxE{x:aI}{cs:L aU}(b:kB G st o.guard)(c:o.ai=.box x)(e:cellsOf (aM G st.sl x)=some cs)(d:(⟨aS st.sl o.dst (.one (.ptr st.hp.length 0)),st.hp++[.box cs]⟩:AS)=st')(h:kH P G k R rest st'):kH P G k R ((false,o)::rest) st:=by
 subst d;exact .inr ⟨b,by rw[c];exact⟨cs,e,h⟩⟩
theorem WD.storeX{size id off:Nat}{x v:aI}{cs vs:L aU}(c:kB G st o.guard)(f:o.ai=.store size x v)(b:o.dst=none) (l:aM G st.sl x=.one (.ptr id off)) (j:cellsOf (aM G st.sl v)=some vs) (g:aL st.hp id=.box cs) (e:vs.length=size) (d:off+size<=cs.length) (i:(⟨st.sl,st.hp.set id (.box (dB cs off vs))⟩:AS)=st') (h:kH P G k R rest st'):kH P G k R ((false,o)::rest) st:=by
 subst i;exact .inr ⟨c,by rw[f];exact⟨b,.inl ⟨id,off,cs,vs,l,j,g,e,d,h⟩⟩⟩
theorem WD.bslcE{size len:Nat}{c:L Value}{b:L (Nat×aI)}{es:L (L DC)}(g:kB G st o.guard)(l:o.ai=.bslc size len c b)
  (hf:iV ((List.range (len*size)).map fun i=>cN (c.getD (i % c.length) undef)) (b.map fun (j,x)=>(j*size,size,aM G st.sl x))=some (oR es.flatten))
  (f:∀e∈es,e.length=size) (d:es.length=len) (m:(⟨aS st.sl o.dst (.one (.bld st.hp.length len)),st.hp++[.arr len size es]⟩:AS)=st')
  (h:kH P G k R rest st'):kH P G k R ((false,o)::rest) st:=by
 subst m;exact .inr ⟨g,by rw[l];exact .inl ⟨es,hf,f,d,h⟩⟩
theorem WD.app{size bytes id n cap:Nat}{f:L Value}{s x:aI}{es b:L (L DC)}(g:kB G st o.guard)(m:o.ai=.app size bytes f s x) (j:aM G st.sl s=.one (.bld id n)) (p:aL st.hp id=.arr cap size es) (q:n<=es.length) (d:sV st.hp (aM G st.sl x)=some b) (i:∀e∈b,e.length=size) (l:(n+b.length)*bytes<=140737488355328) (h:∀c,n+b.length<=c->kH P G k R rest ⟨aS (st.sl.map (bG (·==id))) o.dst (.one (.bld id (n+b.length))),(st.hp.map (cU (·==id))).set id (.arr c size (es.take n++b))⟩):kH P G k R ((false,o)::rest) st:=.inr ⟨g,by rw[m];exact .inr ⟨id,n,cap,es,b,j,p,q,d,i,l,h⟩⟩
theorem WD.appNil{size bytes:Nat}{f:L Value}{s x:aI}{b:L (L DC)}(g:kB G st o.guard)(m:o.ai=.app size bytes f s x) (j:aM G st.sl s=dS (.slice none 0 0)) (d:sV st.hp (aM G st.sl x)=some b) (i:∀e∈b,e.length=size) (l:b.length*bytes<=140737488355328) (h:∀c,b.length<=c->kH P G k R rest ⟨aS st.sl o.dst (.one (.bld st.hp.length b.length)),st.hp.map (cU (·==st.hp.length))++[.arr c size b]⟩):kH P G k R ((false,o)::rest) st:=.inr ⟨g,by rw[m];exact .inl ⟨j,b,d,i,l,h⟩⟩
theorem WD.any(c:kB G st o.guard)(b:match o.ai with|.callv _ _=>True|_=>False)(h:WR P G k [⟨o.dst,o.ai,none⟩] (kH P G k R rest) st):kH P G k R ((false,o)::rest) st:=by
 refine .inr ⟨c,?_⟩;obtain⟨d,e,f⟩:=o;cases e with
 |callv x g=>exact h
 |_=>cases b
end
attribute [irreducible] Fin Ig N8 Le
attribute [go_sem] aDY runG skipG AI.isPure dJ aM aDG dS cN vi vb ci vl aS aSg bH cP dN cellsOf Qx Lw Qy Eo eqR Fs aL mR aIX aDH Cp Hw eI Lc lV aIY tV iV Vk aDI aDJ Lx Qz Bo mpR oQ jN jM List.set_cons_succ List.set_cons_zero List.getD_cons_succ List.getD_cons_zero aZs aZf aZb aZc bAt bAg bAC aZW bAK List.getElem?_cons_zero aZl aZm aZj aY9 aZ0 aZY decide_eq_true_eq Int.natCast_nonneg true_and and_true dO H7 kT renL eL cQ bG cO uJ cU aU.keep keepL aZ9 aZn aZp aZy if_true
end
section
def aR:aD->aD
 |.arr _ s es=>.arr 0 s es
 |o=>o
def aF(s:AS):AS:=⟨s.sl,s.hp.map aR⟩
mutual
def aEq:aU->L Nat
 |.ptr id _=>[id]
 |.bld id _=>[id]
 |.ept id _ _ _=>[id]
 |.bls id _ _ _=>[id]
 |.fn _ b=>idsL b
 |_=>[]
def idsL:L aU->L Nat
 |[]=>[]
 |c::cs=>aEq c++idsL cs
end
def aSr:TV->L Nat
 |.one c=>aEq c
 |.agg cs=>idsL cs
def kK:AV->L Nat
 |.one c=>aEq c
 |.agg cs=>idsL cs
 |.tup l=>l.flatMap aSr
 |.junk=>[]
def aJi:aD->L Nat
 |.box cs=>idsL cs
 |_=>[]
def F4(p:Nat->Bool):TV->Bool
 |.one c=>c.keep p
 |.agg cs=>keepL p cs
def dH(p:Nat->Bool):AV->Bool
 |.one c=>c.keep p
 |.agg cs=>keepL p cs
 |.tup l=>l.all (F4 p)
 |.junk=>true
def pQ(p:Nat->Bool):aD->Bool
 |.box cs=>keepL p cs
 |_=>true
def Ii:L aU->Option (L DC)
 |[]=>some []
 |.dc d::r=>(Ii r).map (d::·)
 |_=>none
def sZ(size:Nat):Nat->L DC->L (L DC)
 |0,_=>[]
 |n+1,l=>l.take size::sZ size n (l.drop size)
def mO:L Nat->Nat->Nat
 |[],_=>0
 |j::J,x=>if x=j then 0 else mO J x+1
def uX(hp:L aD):Nat->L Nat->L Nat->L Nat
 |0,_,J=>J
 |_+1,[],J=>J
 |n+1,id::b,J=>if J.contains id then uX hp n b J else uX hp n (aJi (aL hp id)++b) (J++[id])
def bZ:L Nat->AS->AS
 |[],st=>st
 | id::r,st=>match aL st.hp id with
  | .arr _ _ es=>bZ r ⟨st.sl.map fun v=>bG (·==id) (aBC id es v),(st.hp.map fun o=>cU (·==id) (Vz id es o)).set id .dead⟩
  | _=>bZ r st
def B4:AV->L Nat
 |.one (.bld id _)=>[id]
 |_=>[]
abbrev aN:=FuncId->L AV->L aD->Option (AV×L aD)
def lL(J:L Nat)(id:Nat):Bool:=!J.contains id
def okJ(J:L Nat)(hp:L aD)(b:L AV):Bool:=
 oU (fun i j=>i != j) J&&J.all (fun j=>decide (j<hp.length)&&pQ (lL J) (aL hp j))&&b.all (dH (lL J))
def lM(call:aN)(c:Option Nat)(f:FuncId)(b:L AV)(st:AS):Option AS:=
 let J:=uX st.hp 2000 (b.flatMap kK) []
 if okJ J st.hp b then (call f (b.map (dO (mO J))) (J.map fun j=>eL (mO J) (aL st.hp j))).map fun r=>jD J st c r.1 r.2 else none
def aNh(c:Option Nat)(size bytes:Nat)(s x:AV)(st:AS):Option AS:=
 match s with
 |.one (.bld id n)=>
  match aL st.hp id with
  |.arr _ sz es=>
   (sV st.hp x).bind fun b=>
    if sz=size/\n<=es.length/\(b.all fun e=>decide (e.length=size))=true/\(n+b.length) * bytes<=140737488355328 then
     some ⟨aS (st.sl.map (bG (·==id))) c (.one (.bld id (n+b.length))),(st.hp.map (cU (·==id))).set id (.arr 0 size (es.take n++b))⟩
    else none
  |_=>none
 |.one (.dc (.raw (.slice none 0 0)))=>
  (sV st.hp x).bind fun b=>
   if (b.all fun e=>decide (e.length=size))=true/\b.length * bytes<=140737488355328 then
    some ⟨aS st.sl c (.one (.bld st.hp.length b.length)),st.hp.map (cU (·==st.hp.length))++[.arr 0 size b]⟩
   else none
 |_=>none
def Yu(size:Nat)(x:AV)(vs:L aU)(st:AS):Option AS:=
 match x with
 |.one (.ptr id off)=>
  match aL st.hp id with
  |.box cs=>if vs.length=size/\off+size<=cs.length then some ⟨st.sl,st.hp.set id (.box (dB cs off vs))⟩ else none
  |_=>none
 |.one (.ept id i s off)=>
  match aL st.hp id with
  |.arr _ c es=>
   (Ii vs).bind fun b=>(es[i]?).bind fun e=>if c=s/\b.length=size/\off+size<=e.length then some ⟨st.sl,st.hp.set id (.arr 0 s (es.set i (e.take off++b++e.drop (off+size))))⟩ else none
  |_=>none
 |_=>none
def evI(G:aE)(b:Option Nat)(g:AI)(st:AS):Option AS:=
 match g with
 |.alloc z=>some ⟨aS st.sl b (.one (.ptr st.hp.length 0)),st.hp++[.box (z.map cN)]⟩
 |.box x=>(cellsOf (aM G st.sl x)).map fun cs=>⟨aS st.sl b (.one (.ptr st.hp.length 0)),st.hp++[.box cs]⟩
 |.store size x v=>if b=none then (cellsOf (aM G st.sl v)).bind fun vs=>Yu size (aM G st.sl x) vs st else none
 |.bslc size len c e=>
  (iV ((List.range (len*size)).map fun i=>cN (c.getD (i % c.length) undef)) (e.map fun (j,x)=>(j*size,size,aM G st.sl x))).bind fun d=>
   (Ii d).bind fun f=>if f.length=len*size then some ⟨aS st.sl b (.one (.bld st.hp.length len)),st.hp++[.arr 0 size (sZ size len f)]⟩ else none
 |.app size bytes _ s x=>aNh b size bytes (aM G st.sl s) (aM G st.sl x) st
 |_=>none
def aJk(call:aN)(G:aE)(o:aO)(st:AS):Option AS:=
 match o.ai with
 |.call f b=>let c:=bZ (b.flatMap fun x=>B4 (aM G st.sl x)) st;lM call o.dst f (b.map (aM G c.sl)) c
 | .callv x b=>let c:=bZ (b.flatMap fun x=>B4 (aM G st.sl x)) st
  match aM G c.sl x with
  | .one (.fn f d)=>lM call o.dst f (b.map (aM G c.sl)++d.map AV.one) c
  | _=>none
 |.bslc _ _ _ e=>evI G o.dst o.ai (bZ (e.flatMap fun p=>B4 (aM G st.sl p.2)) st)
 |ai=>evI G o.dst ai st
def Ro(G:aE)(st:AS):Option (Nat×Bool)->Option Bool
 |none=>some true
 | some (g,b)=>match aM G st.sl (.t g) with
  | .tup []=>some false
  | v=>(cP v).map fun c=>c==b
def fN{β:Type}(n:Nat)(k:Nat->β):β:=match n with|0=>k 0|m+1=>k (Nat.succ m)
def fI{β:Type}(n:Int)(k:Int->β):β:=match n with|.ofNat m=>fN m fun m=>k (.ofNat m)|.negSucc m=>fN m fun m=>k (.negSucc m)
def fL{α β:Type}(f:α->(α->β)->β):L α->(L α->β)->β
 |[],k=>k []
 |x::b,k=>f x fun y=>fL f b fun c=>k (y::c)
def fB{β:Type}(s:ByteArray)(k:ByteArray->β):β:=match s with|⟨⟨l⟩⟩=>fL (fun x k=>k x) l fun l=>k ⟨⟨l⟩⟩
def aJl{β:Type}(v:Value)(k:Value->β):β:=match v with
 |.int b n=>fI n fun n=>k (.int b n)
 |.bool true=>k (.bool true)
 |.bool false=>k (.bool false)
 |.string s=>fB s fun s=>k (.string s)
 |v=>k v
def fD{β:Type}(d:DC)(k:DC->β):β:=match d with
 |.raw v=>aJl v fun v=>k (.raw v)
 |.slc es=>fL (fL fun d k=>match d with|.raw v=>aJl v fun v=>k (.raw v)|d=>k d) es fun es=>k (.slc es)
 |.ptr cs=>k (.ptr cs)
def fC{β:Type}(c:aU)(k:aU->β):β:=match c with
 |.dc d=>fD d fun d=>k (.dc d)
 |.ptr id o=>fN id fun id=>fN o fun o=>k (.ptr id o)
 |.bld id n=>fN id fun id=>fN n fun n=>k (.bld id n)
 |.ept id i s o=>fN id fun id=>fN i fun i=>fN s fun s=>fN o fun o=>k (.ept id i s o)
 |.bls id i s o=>fN id fun id=>fN i fun i=>fN s fun s=>fN o fun o=>k (.bls id i s o)
 |.ref cs=>fL fD cs fun cs=>k (.ref cs)
 |.mpc es=>k (.mpc es)
 |c=>k c
def fT{β:Type}(c:TV)(k:TV->β):β:=match c with
 |.one c=>fC c fun c=>k (.one c)
 |.agg cs=>fL fC cs fun cs=>k (.agg cs)
def fV{β:Type}(c:AV)(k:AV->β):β:=match c with
 |.one c=>fC c fun c=>k (.one c)
 |.agg cs=>fL fC cs fun cs=>k (.agg cs)
 |.tup l=>fL fT l fun l=>k (.tup l)
 |.junk=>k .junk
def fO{β:Type}(o:aD)(k:aD->β):β:=match o with
 |.box cs=>fL fC cs fun cs=>k (.box cs)
 |.arr c s es=>fN c fun c=>fN s fun s=>fL (fL fD) es fun es=>k (.arr c s es)
 |.dead=>k .dead
def fP{β:Type}(d:Option Nat)(v:AV)(s:AS)(k:AS->β):β:=fV v fun v=>fL (fun x k=>k x) (aS s.sl d v) fun sl=>k ⟨sl,s.hp⟩
def fS{β:Type}(s:AS)(k:AS->β):β:=fL fV s.sl fun sl=>fL fO s.hp fun hp=>k ⟨sl,hp⟩
section
variable {β:Type}
theorem aEr(n:Nat)(k:Nat->β):fN n k=k n:=by cases n<;>rfl
theorem aSs(n:Int)(k:Int->β):fI n k=k n:=by cases n<;>simp[fI,aEr]
theorem Br{α:Type}{f:α->(α->β)->β}(hf:∀x k,f x k=k x):∀(l:L α)(k:L α->β),fL f l k=k l
 |[],_=>rfl
 |x::b,k=>by simp only[fL,hf,Br hf b]
theorem aSt(s:ByteArray)(k:ByteArray->β):fB s k=k s:=by obtain⟨⟨l⟩⟩:=s;simp only[fB];rw[Br (fun _ _=>rfl)]
theorem Yv(v:Value)(k:Value->β):aJl v k=k v:=by unfold aJl;split<;>simp[aSs,aSt]
theorem aNi(d:DC)(k:DC->β):fD d k=k d:=by
 cases d with
 |raw v=>simp[fD,Yv]
 |slc es=>
  simp only[fD];rw[Br];intro x k;rw[Br];intro d k;split<;>simp[Yv]
 |ptr cs=>rfl
theorem aEs(c:aU)(k:aU->β):fC c k=k c:=by cases c<;>simp[fC,aEr,aNi,Br]
theorem aSu(c:TV)(k:TV->β):fT c k=k c:=by cases c<;>simp[fT,aEs,Br]
theorem aNj(c:AV)(k:AV->β):fV c k=k c:=by cases c<;>simp[fV,aEs,aSu,Br]
theorem aSv(c:aD)(k:aD->β):fO c k=k c:=by cases c<;>simp[fO,aEr,aEs,aNi,Br]
theorem Rp(d:Option Nat)(v:AV)(s:AS)(k:AS->β):fP d v s k=k ⟨aS s.sl d v,s.hp⟩:=by simp only[fP,aNj];rw[Br (fun _ _=>rfl)]
theorem aNk(s:AS)(k:AS->β):fS s k=k s:=by simp[fS,Br,aNj,aSv]
end
def Yw(k:IntKind)(n:Int):Int:=match k with
 |.i64=>if -9223372036854775808<=n then (if n<=9223372036854775807 then n else IntKind.i64.wrap n) else IntKind.i64.wrap n
 |k=>k.wrap n
theorem Rq(k:IntKind)(n:Int):Yw k n=k.wrap n:=by
 cases k<;>simp only[Yw];split;split;exact (Et ⟨by assumption,by assumption⟩).symm;rfl;rfl
def evF(G:aE)(st:AS)(c:AI):Option AV:=
 match c with
 | .bin .add x y=>match aM G st.sl x,aM G st.sl y with
  | .one (.dc (.raw (.int .i64 a))),.one (.dc (.raw (.int .i64 b)))=>some (dS (.int .i64 (Yw .i64 (a+b))))
  | _,_=>dJ G st (.bin .add x y)
 | .bin .sub x y=>match aM G st.sl x,aM G st.sl y with
  | .one (.dc (.raw (.int .i64 a))),.one (.dc (.raw (.int .i64 b)))=>some (dS (.int .i64 (Yw .i64 (a - b))))
  | _,_=>dJ G st (.bin .sub x y)
 |c=>dJ G st c
def Ij(call:aN)(G:aE):L aO->AS->Option AS
 |[],st=>some st
 |o::l,st=>(Ro G st o.guard).bind fun b=>
  if b then (if o.ai.isPure then (evF G st o.ai).bind fun v=>fP o.dst v st fun st'=>Ij call G l st' else (aJk call G o st).bind fun st'=>fS st' fun st'=>Ij call G l st')
  else fP o.dst (.tup []) st fun st'=>Ij call G l st'
def evQ(call:aN)(G:aE)(o:aO)(st:AS):Option AV:=
 match o.ai with
 |.call f b=>
  if (b.map (aM G st.sl)).all (dH fun _=>true) then (call f (b.map (aM G st.sl)) []).bind fun r=>
   let v:=bG (fun id=>decide (0<=id)) ((bZ (kK r.1) ⟨[r.1],r.2⟩).sl.getD 0 .junk)
   if dH (fun _=>true) v then some v else none
  else none
 |_=>none
def evD(call:aN)(G:aE):L (Bool×aO)->AS->Option AS
 |[],st=>some st
 |(b,o)::l,st=>(Ro G st o.guard).bind fun c=>
  if c then (if b then (if o.ai.isPure then evF G ⟨st.sl,N0 o.ai st.hp⟩ o.ai else evQ call G o st).bind fun v=>fP o.dst v st fun st'=>evD call G l st'
   else (match o.ai with
   | .call _ _=>(evQ call G o st).map fun v=>(⟨aS st.sl o.dst v,st.hp⟩:AS)
   | .callv _ _=>aJk call G o st
   | ai=>evI G o.dst ai st).bind fun st'=>fS st' fun st'=>evD call G l st')
  else fP o.dst (.tup []) st fun st'=>evD call G l st'
abbrev Tbl:=FuncId->Option (eK×L lK×Nat)
def Mc:Exit->Bool
 |.normal=>true
 |.ret=>true
 |_=>false
def Md(T:Tbl)(d:eK->AS->Option (Exit×AS)):aN:=fun f b hp=>
 match T f with
 |some (c,g,e)=>(d c ⟨b++List.replicate (e-b.length) .junk,hp⟩).bind fun r=>if Mc r.1&&decide (hp.length<=r.2.hp.length) then (uC r.2 g).map fun av=>if dH (fun id=>decide (hp.length<=id)) av&&(r.2.hp.take hp.length).all (pQ fun id=>decide (hp.length<=id)) then (av,r.2.hp.take hp.length) else (av,r.2.hp) else none
 |none=>none
def Ew(G:aE)(T:Tbl):Nat->eK->AS->Option (Exit×AS)
 |0,_,_=>none
 |n+1,c,st=>
  match c with
  |.skip=>some (.normal,st)
  |.ret=>some (.ret,st)
  |.exit id=>some (.exit id,st)
  |.bad=>none
  |.drawnF _ _=>none
  |.drawnT _ _=>none
  |.region ops=>(Ij (Md T (Ew G T n)) G ops st).map fun s=>(.normal,s)
  |.drawn ops=>(evD (Md T (Ew G T n)) G ops st).map fun s=>(.normal,s)
  | .seq a b=>(Ew G T n a st).bind fun r=>match r.1 with
   | .normal=>Ew G T n b r.2
   | e=>some (e,r.2)
  |.cond c a b=>(cP (aM G st.sl c)).bind fun t=>if t then Ew G T n a st else Ew G T n b st
  | .block id a=>(Ew G T n a st).map fun r=>match r.1 with
   | .exit d=>if d=id then (.normal,r.2) else (.exit d,r.2)
   | e=>(e,r.2)
  | .loop a=>(Ew G T n a st).bind fun r=>match r.1 with
   | .normal=>Ew G T n (.loop a) r.2
   | e=>some (e,r.2)
