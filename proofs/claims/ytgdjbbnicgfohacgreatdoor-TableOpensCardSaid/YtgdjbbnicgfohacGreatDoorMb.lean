/- Part. Conditions: none. -/
import Derived.Test.YtgdjbbnicgfohacGreatDoorLt
import Derived.ProofKit
namespace Go.Proofs.YtgdjbbnicgfohacGreatDoor
set_option linter.unusedSimpArgs false
set_option linter.unusedVariables false
section
section
variable {P:Program}{G:aF}{k:Nat}{hp:L aD}{s:AS}{K Q:AS->Prop}
theorem bK(id:Nat):aL (hp.map aP) id=aP (aL hp id):=by
 unfold aL;simp only[aZo,aZi];cases hp[id]?<;>rfl
theorem Iy{g:Bool}{n:Nat}{x:AV}:mH (hp.map aP) g n x=mH hp g n x:=by
 unfold mH;split;simp only[bK];cases aL hp _<;>rfl;simp only[bK];cases aL hp _<;>rfl;rfl;rfl
theorem We{x:AV}:nW (hp.map aP) x=nW hp x:=by
 unfold nW;split;rfl;rfl;simp only[bK];cases aL hp _<;>rfl;simp only[bK];cases aL hp _<;>rfl;rfl
theorem aBZ{n:Nat}{x:AV}{i:Int}:Cl (hp.map aP) n x i=Cl hp n x i:=by
 unfold Cl;split;rfl;simp only[bK];cases aL hp _<;>rfl;simp only[bK];cases aL hp _<;>rfl;rfl
theorem aB0{n:Nat}{x:AV}{l r:Option AV}:lK (hp.map aP) n x l r=lK hp n x l r:=by
 unfold lK;split;rfl;rfl;simp only[bK];cases aL hp _<;>cases l<;>rfl;simp only[bK];cases aL hp _<;>rfl;rfl
theorem Am{x:AV}:rZ (hp.map aP) x=rZ hp x:=by
 unfold rZ;split;rfl;rfl;simp only[bK];cases aL hp _<;>rfl;rfl
theorem rB{ai:AI}:dH G (aE s) ai=dH G s ai:=by
 cases ai<;>simp only[dH,aE,Iy,We,aBZ,aB0]
theorem aEO{st:AS}{ai:AI}:evF G st ai=dH G st ai:=by
 unfold evF;split;split;rename_i a b;simp only[dH,a,b,fM,Ru];rfl;rfl;split;rename_i a b;simp only[dH,a,b,fM,Ru];rfl;rfl;rfl
theorem Iz:∀(cs:L aU)(a:L DC),Iw cs=some a->cs=kV a
 |[],a,h=>by simp[Iw] at h;subst h;rfl
 | c::cs,a,h=>by
  cases c with
  | dc d=>
   simp only[Iw] at h;obtain⟨b,e,rfl⟩:=Option.map_eq_some_iff.1 h;rw[Iz cs b e];rfl
  | _=>simp[Iw] at h
theorem Mq{size:Nat}:∀(n:Nat)(l:L DC),l.length=n*size->(sG size n l).flatten=l/\(sG size n l).length=n/\∀e∈sG size n l,e.length=size
 | 0,l,h=>by
  have:l=[]:=bAj (by simpa using h);subst this;exact⟨rfl,rfl,fun e a=>by cases a⟩
 | n+1,l,h=>by
  have d:(n+1) * size=n * size+size:=Nat.succ_mul n size;obtain⟨b,c,h3⟩:=Mq (size:=size) n (l.drop size) (by simp;omega);refine⟨?_,by simp[sG,c],fun e a=>?_⟩
  ·simp only[sG,aZ6,b,bAx]
  ·simp only[sG,bAl] at a;rcases a with rfl | a
   ·simp;omega
   ·exact h3 e a
theorem pC{p:Nat->Bool}(o:aD):aP (cO p o)=cO p (aP o):=by cases o<;>rfl
theorem uK{p:Nat->Bool}(l:L aD):(l.map (cO p)).map aP=(l.map aP).map (cO p):=by
 simp only[aZE];exact aZz (fun o _=>pC o)
theorem oT{ρ:Nat->Nat}(o:aD):aP (dY ρ o)=dY ρ (aP o):=by cases o<;>rfl
theorem rC{cs:L aU}{o:aD}(h:aP o=.box cs):o=.box cs:=by cases o<;>simp_all [aP]
theorem oU{c z:Nat}{es:L (L DC)}{o:aD}(h:aP o=.arr c z es):∃cap,o=.arr cap z es/\c=0:=by
 cases o<;>simp_all [aP]
theorem Ow{t:Option Nat}{y:AI}{st':AS}(h:evI G t y (aE s)=some st')(j:∀D,aE D=st'->K D):uF P G k t y K s.sl s.hp:=by
 cases y with
 |alloc z=>
  simp only[evI,Option.some.injEq] at h;exact j _ (by rw[<- h];simp[aE,aP])
 |box x=>
  simp only[evI] at h;obtain⟨cs,q,d⟩:=Option.map_eq_some_iff.1 h;exact⟨cs,q,j _ (by rw[<- d];simp[aE,aP])⟩
 |bslc size len u C=>
  simp only[evI] at h;obtain⟨A,q,h⟩:=aZV.1 h;obtain⟨w,d,h⟩:=aZV.1 h;split at h;rename_i M;injection h with h
  obtain⟨E,F,I⟩:=Mq len w M;refine .inl ⟨sG size len w,?_,I,F,j _ (by rw[<- h];simp[aE,aP])⟩;rw[E,<- Iz _ _ d];exact q;cases h
 |store size x v=>
  simp only[evI] at h;split at h;rename_i J;subst J;refine⟨rfl,?_⟩;obtain⟨vs,q,h⟩:=aZV.1 h;unfold Zg at h;split at h;rename_i id off p
  left
  split at h;rename_i cs b;split at h;rename_i g;injection h with h
  rw[aE,bK] at b;exact⟨id,off,cs,vs,p,q,rC b,g.1,g.2,j _ (by rw[<- h];simp[aE,aP,aZO])⟩;cases h;cases h;rename_i id i z off p
  right
  split at h;rename_i c N es b;obtain⟨w,d,h⟩:=aZV.1 h;obtain⟨e,h3,h⟩:=aZV.1 h;split at h;rename_i g;injection h with h
  rw[aE,bK] at b;obtain⟨cap,b,_⟩:=oU b;obtain⟨rfl,l,m⟩:=g;refine⟨id,i,N,off,cap,es,e,w,p,?_,b,h3,l,m,j _ (by rw[<- h];simp[aE,aP,aZO])⟩;rw[<- Iz _ _ d];exact q;cases h;cases h;cases h;cases h
 |app size bytes u a x=>
  simp only[evI] at h;unfold aNj at h;split at h;rename_i id n p
  right
  split at h;rename_i c z es b;obtain⟨f,d,h⟩:=aZV.1 h;split at h;rename_i g;injection h with h
  rw[aE,bK] at b;obtain⟨cap,b,_⟩:=oU b;obtain⟨rfl,l,m,B⟩:=g;rw[aE,Am] at d;exact⟨id,n,cap,es,f,p,b,l,d,by simpa using m,B,fun r _=>j _ (by rw[<- h];simp only[aE,aZO,uK];rfl)⟩
  cases h;cases h;rename_i p
  left
  obtain⟨f,d,h⟩:=aZV.1 h;split at h;rename_i g;injection h with h;rw[aE,Am] at d;exact⟨p,f,d,by simpa using g.1,g.2,fun r _=>j _ (by rw[<- h];simp only[aE,aZR,uK,aZa];rfl)⟩
  cases h;cases h
 |_=>cases h
theorem I0{id:Nat}{es:L (L DC)}(o:aD):aP (Wd id es o)=Wd id es (aP o):=by cases o<;>rfl
theorem fX:∀(d:L Nat)(s:AS),∃b,Gh k s b/\aE b=bV d (aE s)
 |[],s=>⟨s,Gh.refl,rfl⟩
 | id::r,s=>by
  simp only[bV];split
  ·rename_i c z es a;rw[aE,bK] at a;obtain⟨cap,a,_⟩:=oU a;obtain⟨b,e,f⟩:=fX r ⟨s.sl.map fun v=>bF (·==id) (aBY id es v),(s.hp.map fun o=>cO (·==id) (Wd id es o)).set id .dead⟩
   refine⟨b,(Gh.freeze a).trans e, ?_⟩;rw[f];congr 1;simp only[aE,aZO,aZE,aP];congr 2;exact aZz (fun o _=>by simp only[Function.comp_apply,pC,I0])
  ·exact fX r s
mutual
theorem rtC{J:L Nat}{n:Nat}:(c:aU)->c.keep (kZ J)=true->kA (cN J n) (kA (mG J) c)=c
 |.ptr id o,h=>by simp only[kA,rtN (n:=n) (by simpa[aU.keep,kZ] using h)]
 |.bld id o,h=>by simp only[kA,rtN (n:=n) (by simpa[aU.keep,kZ] using h)]
 |.ept id i z o,h=>by simp only[kA,rtN (n:=n) (by simpa[aU.keep,kZ] using h)]
 |.bls id i z o,h=>by simp only[kA,rtN (n:=n) (by simpa[aU.keep,kZ] using h)]
 |.fn f a,h=>by simp only[kA,rtL a (by simpa[aU.keep] using h)]
 |.dc d,h=>rfl
 |.ref cs,h=>rfl
 |.mpc es,h=>rfl
 |.junk,h=>rfl
theorem rtL{J:L Nat}{n:Nat}:(cs:L aU)->keepL (kZ J) cs=true->renL (cN J n) (renL (mG J) cs)=cs
 |[],h=>rfl
 | c::cs,h=>by
  simp only[keepL,aZp] at h;simp only[renL,rtC c h.1,rtL cs h.2]
theorem rtN{J:L Nat}{n id:Nat}(h:id∈J):cN J n (mG J id)=id:=by
 have:∀J:L Nat,id∈J->J[mG J id]?=some id:=by
  intro J
  induction J with
  |nil=>intro h;cases h
  |cons j J b=>
   intro h;simp only[mG];split;rename_i e;simp[e];rename_i a;rw[bAM];exact b (by rcases bAl.1 h with h|h;exact absurd h a;exact h)
 simp only[cN,this J h]
end
theorem pD{ρ:Nat->Nat}:∀(cs:L aU),renL ρ cs=cs.map (kA ρ)
 |[]=>rfl
 |c::cs=>by simp[renL,pD cs]
theorem rtM{J:L Nat}{n:Nat}(cs:L aU)(h:keepL (kZ J) cs=true):(cs.map (kA (mG J))).map (kA (cN J n))=cs:=by
 rw[<- pD,<- pD];exact rtL cs h
theorem rtT{J:L Nat}{n:Nat}(t:TV)(h:F5 (kZ J) t=true):Il (cN J n) (Il (mG J) t)=t:=by
 cases t with
 |one c=>simp only[Il,rtC c h]
 |agg cs=>simp only[Il,rtM cs h]
theorem rtV{J:L Nat}{n:Nat}(v:AV)(h:dE (kZ J) v=true):dL (cN J n) (dL (mG J) v)=v:=by
 cases v with
 |one c=>simp only[dL,rtC c h]
 |agg cs=>simp only[dL,rtM cs h]
 |tup l=>
  simp only[dL,aZE];congr 1
  conv=>rhs;rw[<- List.map_id l]
  exact aZz (fun t a=>rtT t (bAw.1 h t a))
 |junk=>rfl
theorem rtO{J:L Nat}{n:Nat}(o:aD)(h:pB (kZ J) o=true):dY (cN J n) (dY (mG J) o)=o:=by
 cases o with
 |box cs=>simp only[dY,rtM cs h]
 |_=>rfl
theorem Rv{α b:Type}{f:α->b}:∀(J:L Nat)(a l:L α),(kX J a l).map f=kX J (a.map f) (l.map f)
 |[],_,l=>by simp[kX]
 |j::J,[],l=>by simp[kX]
 |j::J,x::a,l=>by simp only[kX,aZl];rw[Rv J a];simp[aZO]
theorem Rw(o:aD):iR (aP o)=iR o:=by cases o<;>rfl
theorem Wf{J:L Nat}{a:Option Nat}{b:AV}{c:L aD}:aE (iT J s a b c)=iT J (aE s) a b (c.map aP):=by
 have d:∀ρ,aP ∘ dY ρ=dY ρ ∘ aP:=fun ρ=>funext fun o=>oT o
 have e:∀p,aP ∘ cO p=cO p ∘ aP:=fun p=>funext fun o=>pC o
 simp only[iT,aE,aZR,Rv,aZa,bK,Rw,aZE,bAq,d,e]
def cH(P:Program)(G:aF)(call:aO):Prop:=∀f b hp d e,call f b hp=some (d,e)->∀c,c.map aP=hp->Za P f=true/\AC P G f b c fun a o=>a=d/\o.map aP=e
theorem uL{p:Nat->Bool}(o:aD):pB p (aP o)=pB p o:=by cases o<;>rfl
theorem rE{call:aO}(c:cH P G call){d:Option Nat}{f:FuncId}{b:L AV}{st':AS}(h:lA call d f b (aE s)=some st'):
  ∃ (J:L Nat) (objs:L aD) (l:AV) (m:L aD),Za P f=true/\AC P G f (b.map (dL (mG J))) objs (fun a o=>a=l/\o.map aP=m)/\J.Nodup/\objs.length=J.length/\
   (∀ (t j:Nat) o,J[t]?=some j->objs[t]?=some o->s.hp[j]?=some (dY (cN J s.hp.length) o))/\b=(b.map (dL (mG J))).map (dL (cN J s.hp.length))/\
   ∀ a o,a=l/\o.map aP=m->aE (iT J s d a o)=st':=by
 unfold lA at h;simp only at h;generalize uJ (aE s).hp 2000 (b.flatMap jU) []=J at h;split at h;rename_i i;obtain⟨⟨l,m⟩,A,B⟩:=Option.map_eq_some_iff.1 h;simp only[okJ,aZp] at i;obtain⟨⟨q,g⟩,p⟩:=i;have u:=fun j C=>bAw.1 g j C
 simp only[aZp,decide_eq_true_eq,aE,aZa,bK,uL] at u;obtain⟨y,z⟩:=c _ _ _ _ _ A (J.map fun j=>dY (mG J) (aL s.hp j)) (by
  rw[aZE];exact aZz (fun j _=>by simp only[Function.comp_apply,oT,aE,bK]))
 refine⟨J,_,l,m,y,z,(C0 _ q).imp (fun h e=>by simp[e] at h),by simp,fun t j o x r=>?_,?_,fun a o n=>?_⟩
 rw[aZi,x] at r;simp at r;subst r;have w:=u j (aZD x);rw[rtO _ w.2,aL,aZo,aZj w.1];rfl
 ·rw[aZE]
  conv=>lhs;rw[<- List.map_id b]
  exact aZz (fun v D=>(rtV v (bAw.1 p v D)).symm)
 obtain⟨rfl,rfl⟩:=n;rw[Wf];exact B;cases h
theorem I1{a:Option (Nat×Bool)}{b:Bool}(h:Rs G (aE s) a=some b):(b=true->jP G s a)/\(b=false->Gn G s a):=by
 cases a with
 |none=>simp[Rs] at h;subst h;exact⟨fun _=>trivial,fun h=>by cases h⟩
 |some q=>
  obtain⟨g,c⟩:=q;simp only[Rs,aE] at h;split at h;rename_i j;injection h with h;subst h;exact⟨fun h=>by (cases h),fun _=>.inr j⟩
  obtain⟨d,i,e⟩:=Option.map_eq_some_iff.1 h;refine⟨fun f=>?_,fun f=>.inl ?_⟩
  subst f;simp at e;subst e;exact i;subst f;simp at e;rw[i];cases c<;>cases d<;>simp_all
theorem WR.cons{o:aN}{rest:L aN}(h:WR P G k [o] (fun s=>WR P G k rest Q s) s):WR P G k (o::rest) Q s:=by
 intro opsA l C F γ a w D J x E g I;obtain⟨b,y,rfl,c,m,h3,h4⟩:=nX C;have n:bG P opsA [b]=some [o]:=by
  simp[bG,cF,c,m,h3]
 have:=h opsA [b] n F γ a w D J x E (fun e a w=>match e with | .normal=>wpList P opsA g y a w | e=>g e a w)
  (fun i w' F' γ' U A v z B p=>A opsA y h4 F' γ' i w' z B (x.sub v.sub) p g (fun j u f d t M N O S T=>I j u f d t M (v.trans N) O S T))
 simp only[wpList] at this ⊢;split;rename_i r;rw[if_pos r] at this;rcases this with c|⟨c,i,w',m⟩
 exact .inl (wpQ (fun e a w q h=>by cases e<;>first|exact absurd rfl q|exact h) c)
 exact .inr ⟨c,i,w',m⟩;rename_i r;rw[if_neg r] at this;exact this
theorem Zk{call:aO}(c:cH P G call){o:aN}{st':AS}(B:jP G s o.guard)(h:aJk call G o (aE s)=some st')(j:∀w,aE w=st'->K w):WR P G k [o] K s:=by
 refine WR.guard B rfl ?_;unfold aJk at h;split at h;rename_i f b e;rw[e];obtain⟨y,d,i⟩:=fX (k:=k) (b.flatMap fun x=>B5 (aM G (aE s).sl x)) s
 simp only at h;rw[<- i] at h;obtain⟨J,objs,A,D,v,l,m,n,q,r,t⟩:=rE c h;refine WR.ghost d (WR.call (o:=⟨o.dst,.call f b,none⟩) trivial rfl l m n q r (fun a o g=>WR.nil (j _ (t a o g))))
 rename_i x b e;rw[e];obtain⟨y,d,i⟩:=fX (k:=k) (b.flatMap fun x=>B5 (aM G (aE s).sl x)) s
 simp only at h;rw[<- i] at h;split at h;rename_i f u C;obtain⟨J,objs,A,D,v,l,m,n,q,r,t⟩:=rE c h;exact WR.ghost d (WR.callv (o:=⟨o.dst,.callv x b,none⟩) trivial rfl C v l m n q r (fun a o g=>WR.nil (j _ (t a o g))))
 cases h;rename_i size len z E e;obtain⟨y,d,i⟩:=fX (k:=k) (E.flatMap fun p=>B5 (aM G (aE s).sl p.2)) s
 rw[<- i] at h;exact WR.ghost d (uF.run (o:=⟨o.dst,o.ai,none⟩) trivial (Ow h j));exact uF.run (o:=⟨o.dst,o.ai,none⟩) trivial (Ow h j)
theorem C4{call:aO}(a:cH P G call):∀(ops:L aN)(s:AS)(st':AS),Ix call G ops (aE s)=some st'->WR P G k ops (fun g=>aE g=st') s
 |[],s,st',h=>by simp[Ix] at h;exact WR.nil h
 | o::l,s,st',h=>by
  simp only[Ix] at h;obtain⟨b,m,h⟩:=aZV.1 h;have f:=I1 m;split at h
  ·rename_i c;split at h
   ·obtain⟨v,i,h⟩:=aZV.1 h;rw[Rt] at h;rw[aEO,rB] at i;exact WR.pur (f.1 c) i (C4 a l ⟨aQ s.sl o.dst v,s.hp⟩ st' h)
   ·obtain⟨n,j,h⟩:=aZV.1 h;rw[aNm] at h;exact WR.cons (Zk a (f.1 c) j (fun g e=>C4 a l g st' (by rw[e];exact h)))
  ·rename_i d;rw[Rt] at h;exact WR.skip (f.2 (by simpa using d)) (C4 a l ⟨aQ s.sl o.dst (.tup []),s.hp⟩ st' h)
mutual
theorem rnC{ρ:Nat->Nat}:(c:aU)->c.keep (fun _=>true)=true->kA ρ c=c
 |.ptr id o,h=>by simp[aU.keep] at h
 |.bld id o,h=>by simp[aU.keep] at h
 |.ept id i z o,h=>by simp[aU.keep] at h
 |.bls id i z o,h=>by simp[aU.keep] at h
 |.fn f a,h=>by simp only[kA,rnL a (by simpa[aU.keep] using h)]
 |.dc d,h=>rfl
 |.ref cs,h=>rfl
 |.mpc es,h=>rfl
 |.junk,h=>rfl
theorem rnL{ρ:Nat->Nat}:(cs:L aU)->keepL (fun _=>true) cs=true->renL ρ cs=cs
 |[],h=>rfl
 | c::cs,h=>by
  simp only[keepL,aZp] at h;simp only[renL,rnC c h.1,rnL cs h.2]
end
theorem rnT{ρ:Nat->Nat}(t:TV)(h:F5 (fun _=>true) t=true):Il ρ t=t:=by
 cases t with
 |one c=>simp only[Il,rnC c h]
 |agg cs=>simp only[Il,<- pD,rnL cs h]
theorem rnV{ρ:Nat->Nat}(v:AV)(h:dE (fun _=>true) v=true):dL ρ v=v:=by
 cases v with
 |one c=>simp only[dL,rnC c h]
 |agg cs=>simp only[dL,<- pD,rnL cs h]
 |tup l=>
  simp only[dL];congr 1
  conv=>rhs;rw[<- List.map_id l]
  exact aZz (fun t a=>rnT t (bAw.1 h t a))
 |junk=>rfl
theorem An{p:Nat->Bool}:∀(cs:L aU),keepL p cs=true->cs.map (cJ p)=cs
 |[],_=>rfl
 | c::cs,h=>by
  simp only[keepL,aZp] at h;rw[aZl,An cs h.2];simp[cJ,h.1]
theorem I2{p:Nat->Bool}{v:AV}(h:dE p v=true):bF p v=v:=by
 cases v with
 |one c=>simp only[dE] at h;simp[bF,cJ,h]
 |agg cs=>simp only[bF,An cs h]
 |tup l=>
  simp only[bF];congr 1
  conv=>rhs;rw[<- List.map_id l]
  exact aZz (fun t a=>by
   have:=bAw.1 h t a;cases t with
   | one c=>simp only[F5] at this;simp[tV,cJ,this]
   | agg cs=>simp only[tV,An cs this,id_eq])
 |junk=>rfl
theorem I3{p:Nat->Bool}{o:aD}(h:pB p o=true):cO p o=o:=by
 cases o with
 |box cs=>simp only[cO,An cs h]
 |_=>rfl
theorem AC.gh{f:FuncId}{c:L AV}{objs:L aD}{R R':AV->L aD->Prop}(h:AC P G f c objs R)(M:∀j o,R j o->objs.length<=o.length->∃b d,Gh objs.length ⟨[j],o⟩ ⟨[b],d⟩/\objs.length<=d.length/\R' b d):AC P G f c objs R':=by
 intro F γ vs w I E N;refine (h F γ vs w I E N).mono ?_;rintro e w' ⟨r,j,o,F',γ',rfl,C,A,B,z,D⟩;obtain⟨b,d,t,u,x⟩:=M j o C A;obtain⟨l,g,n,p,q,J⟩:=t F' γ' { tmps:=#[r],defers:=[] } w' z ⟨rfl,rfl,fun i a v m y=>by
  cases i with
  | zero=>simp at m y;subst m;subst y;exact D
  | succ i=>simp at m⟩ (by rw[z.len];exact A)
 exact⟨r,b,d,l,g,rfl,x,u,B.trans n,p,q.2.2 0 b r rfl rfl⟩
theorem mR:∀(a:L Nat)(st:AS),(bV a st).sl.length=st.sl.length
 |[],st=>rfl
 | id::r,st=>by
  simp only[bV];split
  ·rw[mR r];simp
  ·exact mR r st
theorem aEP{call:aO}(d:cH P G call){o:aN}{v:AV}(h:evQ call G o (aE s)=some v):∃f b c r,o.ai=.call f b/\QC P G f c r/\∀n,b.map (aM G s.sl)=c.map (dL (cN [] n))/\v=dL (cN [] n) r:=by
 unfold evQ at h;split at h;rename_i f b i;split at h;rename_i m;obtain⟨⟨E,D⟩,z,h⟩:=aZV.1 h;simp only at h;split at h;rename_i p;injection h with h
 obtain⟨_,w⟩:=d _ _ _ _ _ z [] rfl;refine⟨f,b,b.map (aM G s.sl),v,i,w.gh (fun a o ⟨h3,h4⟩ _=>?_),fun n=>⟨?_,?_⟩⟩
 subst h3;obtain⟨t,l,A⟩:=fX (k:=0) (jU a) ⟨[a],o⟩;have g:aE t=bV (jU a) ⟨[a],D⟩:=by rw[A];simp only[aE,h4]
 have e:t.sl.length=1:=by
  have:=congrArg (fun q=>q.sl.length) g
  simp only[aE,mR] at this;simpa using this
 obtain⟨y,u⟩:=List.length_eq_one_iff.1 e;have j:=Gh.drop (k:=0) (as:=t) 0 (aZe _);refine⟨v,[], ?_,aZv _,rfl,rfl⟩;have B:v=bF (fun id=>decide (0<=id)) y:=by
  rw[<- h,<- g];simp[aE,u]
 have:=l.trans j;rw[u] at this;simpa[B] using this
 ·conv=>lhs;rw[<- List.map_id (b.map (aM G s.sl))]
  exact aZz (fun x C=>(rnV x (bAw.1 m x C)).symm)
 exact (rnV v (by rw[<- h];exact p)).symm;cases h;cases h;cases h
theorem I4{call:aO}(a:cH P G call):∀(ops:L (Bool×aN)) (s:AS) (st':AS),evD call G ops (aE s)=some st'->jZ P G k (fun s'=>aE s'=st') ops s
 |[],s,st',h=>by simp[evD] at h;exact h
 | (true,o)::l,s,st',h=>by
  simp only[evD] at h;obtain⟨c,q,h⟩:=aZV.1 h;have b:=I1 q;cases c with
  | true=>
   simp only[if_true] at h;obtain⟨v,d,h⟩:=aZV.1 h;rw[Rt] at h;refine⟨v,.inr ⟨b.1 rfl, ?_⟩,I4 a l ⟨aQ s.sl o.dst v,s.hp⟩ st' h⟩;split at d
   ·have e:(⟨(aE s).sl,Oj o.ai (aE s).hp⟩:AS)=aE ⟨s.sl,Oj o.ai s.hp⟩:=by cases o.ai<;>rfl
    rw[aEO,e,rB] at d;exact .inl d
   ·exact .inr (aEP a d)
  | false=>
   simp only[bAo,if_false,Rt] at h;exact WD.skip (b.2 rfl) (I4 a l ⟨aQ s.sl o.dst (.tup []),s.hp⟩ st' h)
 | (false,o)::l,s,st',h=>by
  simp only[evD] at h;obtain⟨c,q,h⟩:=aZV.1 h;have b:=I1 q;cases c with
  | true=>
   simp only[if_true,bAo,if_false] at h;obtain⟨C,j,h⟩:=aZV.1 h;rw[aNm] at h;have p:∀ s',aE s'=C->jZ P G k (fun s'=>aE s'=st') l s':=fun s' t=>I4 a l s' st' (by rw[t];exact h)
   split at j
   ·rename_i f g i;obtain⟨v,d,A⟩:=Option.map_eq_some_iff.1 j;obtain⟨E,m,n,r,y,z,u⟩:=aEP a d;refine .inr ⟨b.1 rfl, ?_⟩;rw[y];refine⟨_,Cx.of z (u _).1,⟨_,_,r,[],⟨rfl,rfl⟩,rfl,rfl⟩, ?_⟩;rintro D os ⟨w,B,⟨rfl,rfl⟩,rfl,rfl⟩;rw[<- (u s.hp.length).2];refine p _ ?_;rw[<- A];simp[aE]
   ·rename_i x g i;exact WD.any (b.1 rfl) (by rw[i];trivial) (Zk a (o:=⟨o.dst,o.ai,none⟩) trivial j p)
   ·exact .inr ⟨b.1 rfl,Ow j p⟩
  | false=>
   simp only[bAo,if_false,Rt] at h;exact WD.skip (b.2 rfl) (I4 a l ⟨aQ s.sl o.dst (.tup []),s.hp⟩ st' h)
theorem jZ.mono{R b:AS->Prop}(a:∀s,R s->b s):∀(ops:L (Bool×aN)) (s:AS),jZ P G k R ops s->jZ P G k b ops s
 |[],s,h=>a s h
 |(true,o)::l,s,h=>by obtain⟨v,d,h⟩:=h;exact⟨v,d,jZ.mono a l _ h⟩
 |(false,o)::l,s,h=>Eff.mono (fun e c=>jZ.mono a l e c) h
theorem Ew{rs:L kY}:tJ (aE s) rs=tJ s rs:=by
 have a:∀r,gQ (aE s) r=gQ s r:=by
  intro r;cases r<;>simp only[gQ,aE,Iy]
 have b:gQ (aE s)=gQ s:=funext a;unfold tJ;split<;>simp only[b]
def TOK(P:Program)(T:Tbl):Prop:=∀f c d b,T f=some (c,d,b)->Za P f=true/\∃a,P.funcs[f]?=some a/\a.ntmps=b/\a.body.bind (bU P)=some c/\a.results.toList.mapM (jQ P)=some d
theorem Rz{T:Tbl}{l:eG->AS->Option (Exit×AS)}(F:TOK P T)(j:∀c s e st',l c (aE s)=some (e,st')->∀k,AW P G k c (fun m u=>m=e/\aE u=st') s):cH P G (Mp T l):=by
 intro f g hp O V h b p;subst p;unfold Mp at h;split at h;rename_i c N r n;obtain⟨I,S,z,A,B,C⟩:=F f c N r n;refine⟨I,?_⟩;obtain⟨⟨e,w⟩,D,h⟩:=aZV.1 h;simp only at h;split at h
 rename_i i;simp only[aZp,decide_eq_true_eq,aZa] at i;obtain⟨v,E,h⟩:=Option.map_eq_some_iff.1 h;have q:AC P G f g b (fun a o=>a=v/\o.map aP=w.hp):=by
  refine AC.of_code z A B C ((j c ⟨g++List.replicate (r - g.length) .junk,b⟩ e w (by simpa[aE] using D) b.length).mono ?_);rintro m u ⟨rfl,rfl⟩;refine⟨?_,by simpa[aE] using i.2,v,by rw[<- Ew];exact E,rfl,rfl⟩;cases m<;>simp[Mo] at i ⊢
 split at h;rename_i d;injection h with h3 h4
 subst h3;simp only[aZp,aZa] at d;refine q.gh (fun a o ⟨M,t⟩ U=>?_)
 subst M;refine⟨a,o.take b.length,?_,by simp only[aZf];omega,rfl,?_⟩
 have:=Gh.drop (k:=b.length) (as:=⟨[a],o⟩) b.length (aZe _);have y:(o.take b.length).map (cO fun id=>decide (b.length<=id))=o.take b.length:=by
  conv=>rhs;rw[<- List.map_id (o.take b.length)]
  refine aZz (fun x J=>I3 ?_)
  have:=bAw.1 d.2 (aP x) (by rw[<- t,<- aZZ];exact List.mem_map.2 ⟨x,J,rfl⟩);rwa[uL] at this
 simpa[I2 d.1,y] using this;rw[<- h4,aZZ,t,aZa];injection h with h3 h4
 subst h3;subst h4;exact q;cases h;cases h
theorem aOh{T:Tbl}(y:TOK P T):∀(n:Nat)(c:eG)(s:AS)(e:Exit)(st':AS),Ev G T n c (aE s)=some (e,st')->∀k,AW P G k c (fun l i=>l=e/\aE i=st') s:=by
 intro n
 induction n using Nat.strongRecOn with
 |ind A u=>
  intro c s e st' h k;cases A with
  |zero=>simp[Ev] at h
  |succ n=>
  have q:=u n (Nat.lt_succ_self n);have g:cH P G (Mp T (Ev G T n)):=Rz y q;cases c with
  |bad=>simp only[Ev] at h;cases h
  |drawnF B ops=>simp only[Ev] at h;cases h
  |drawnT t ops=>simp only[Ev] at h;cases h
  |skip=>simp only[Ev,Option.some.injEq,Prod.mk.injEq] at h;obtain⟨rfl,rfl⟩:=h;exact AW.skip ⟨rfl,rfl⟩
  |ret=>simp only[Ev,Option.some.injEq,Prod.mk.injEq] at h;obtain⟨rfl,rfl⟩:=h;exact AW.ret ⟨rfl,rfl⟩
  |exit id=>simp only[Ev,Option.some.injEq,Prod.mk.injEq] at h;obtain⟨rfl,rfl⟩:=h;exact AW.exit ⟨rfl,rfl⟩
  |region ops=>
   simp only[Ev] at h;obtain⟨j,f,d⟩:=Option.map_eq_some_iff.1 h;injection d with d h3
   subst d;subst h3;exact AW.region ((C4 g ops s j f).mono (fun i h=>⟨rfl,h⟩))
  |drawn ops=>
   simp only[Ev] at h;obtain⟨j,f,d⟩:=Option.map_eq_some_iff.1 h;injection d with d h3
   subst d;subst h3;exact AW.drawn (jZ.mono (fun i h=>⟨rfl,h⟩) _ _ (I4 g ops s j f))
  |seq a b=>
   simp only[Ev] at h;obtain⟨⟨r,j⟩,f,d⟩:=aZV.1 h;refine AW.seq ((q a s r j f k).mono ?_);rintro l i ⟨rfl,rfl⟩;cases l with
   |normal=>exact q b i e st' d k
   |_=>simp only[Option.some.injEq,Prod.mk.injEq] at d;obtain⟨rfl,rfl⟩:=d;exact⟨rfl,rfl⟩
  |cond c a b=>
   simp only[Ev] at h;obtain⟨t,f,d⟩:=aZV.1 h;refine AW.cond f (fun w=>?_) (fun w=>?_)
   subst w;exact q a s e st' d k;subst w;exact q b s e st' d k
  |block id a=>
   simp only[Ev] at h;obtain⟨⟨r,j⟩,f,d⟩:=Option.map_eq_some_iff.1 h;refine AW.block ((q a s r j f k).mono ?_);rintro l i ⟨rfl,rfl⟩;cases l with
   |exit z=>
    simp only at d ⊢;split at d;rename_i p;injection d with d h3
    subst d;subst h3;rw[if_pos p];exact⟨rfl,rfl⟩;rename_i p;injection d with d h3
    subst d;subst h3;rw[if_neg p];exact⟨rfl,rfl⟩
   |_=>simp only[Prod.mk.injEq] at d;obtain⟨rfl,rfl⟩:=d;exact⟨rfl,rfl⟩
  |loop a=>
   refine AW.loop (α:=Nat) (fun m i=>m<=n+1/\Ev G T m (.loop a) (aE i)=some (e,st')) id (n+1) ⟨aZe _,h⟩ (fun m i x=>?_)
   obtain⟨x,v⟩:=x;cases m with
   |zero=>simp[Ev] at v
   |succ m=>
    simp only[Ev] at v;obtain⟨⟨r,j⟩,f,d⟩:=aZV.1 v;refine (u m (by omega) a i r j f k).mono ?_;rintro l C ⟨rfl,rfl⟩;cases l with
    |normal=>exact⟨m,⟨by omega,d⟩,by simp⟩
    |_=>simp only[Option.some.injEq,Prod.mk.injEq] at d;obtain⟨rfl,rfl⟩:=d;exact⟨rfl,rfl⟩
end
end
section
def Ao(call:aO)(f:FuncId)(a:L AV):Option AV:=
 (call f a []).bind fun r=>
  let v:=bF (fun id=>decide (0<=id)) ((bV (jU r.1) ⟨[r.1],r.2⟩).sl.getD 0 .junk)
  if dE (fun _=>true) v then some v else none
section
variable {P:Program}{G:aF}{k:Nat}
theorem QC.quiet{call:aO}(c:cH P G call){f:FuncId}{b:L AV}{v:AV}(h:Ao call f b=some v):QC P G f b v:=by
 unfold Ao at h;obtain⟨⟨w,u⟩,n,h⟩:=aZV.1 h;simp only at h;split at h;rename_i p;injection h with h
 obtain⟨_,m⟩:=c _ _ _ _ _ n [] rfl;refine m.gh (fun a o ⟨h3,h4⟩ _=>?_)
 subst h3;obtain⟨j,i,r⟩:=fX (k:=0) (jU a) ⟨[a],o⟩;have e:aE j=bV (jU a) ⟨[a],u⟩:=by rw[r];simp only[aE,h4]
 have d:j.sl.length=1:=by
  have:=congrArg (fun q=>q.sl.length) e
  simp only[aE,mR] at this;simpa using this
 obtain⟨y,l⟩:=List.length_eq_one_iff.1 d;have g:=Gh.drop (k:=0) (as:=j) 0 (aZe _);refine⟨v,[], ?_,aZv _,rfl,rfl⟩;have t:v=bF (fun id=>decide (0<=id)) y:=by
  rw[<- h,<- e];simp[aE,l]
 have:=i.trans g;rw[l] at this;simpa[t] using this;cases h
theorem QC.run{T:Tbl}(b:TOK P T)(n:Nat){f:FuncId}{a:L AV}{v:AV}(h:Ao (Mp T (Ev G T n)) f a=some v):QC P G f a v:=
 QC.quiet (Rz b (aOh b n)) h
end
end
section
open Go.ChangeShapes Go.WideShapes Go.ChangeAt Go.RowKit
section
variable {H:Type}{enc:TypeId×Value->H}{P:Program}{G:aF}
def iU(W:World):Fz:=fun b=>W.heap[b]?
theorem Hf(W:World):dP (iU W) [] [] W:=⟨fun _ _ h=>h,rfl,fun i _ _ h=>by simp[cE] at h,fun i _ h=>by simp[cE] at h,fun i _ _ h=>by simp at h⟩
theorem Ap{W W':World}{k:Nat}{F':Fz}{γ':L OI}(h:iH k (iU W) [] W F' γ' W'):Below W.heap.size W W':=
 ⟨h.os,h.tape,h.output,h.size,fun b a=>h.far b a (fun i h=>by simp[cE] at h)⟩
theorem aB1{f:FuncId}{b:L AV}{a:Array Value}{W:World}(i:QC P G f b (vb true))(h:fR (iU W) G)(g:mP (iU W) [] b a):Calls P f a W fun e W'=>e=.returned (.bool true)/\Below W.heap.size W W':=by
 refine (i (iU W) [] a W (Hf W) h g).mono ?_;rintro e W' ⟨r,j,o,F',γ',rfl,⟨rfl,rfl⟩,_,c,l,d⟩;exact⟨by rw[cU d],Ap c⟩
theorem Bu(j:laidOutB P=true){W i:World}{c:Nat->Bool}:∀{f:L TypeId}{vs:L Value}{e:L (DataW H)}{b:L MemPlace},(∀t∈f,P.readableRec t=true/\t<P.types.size)-> DataW.TrodAll enc P W 0 (fun _=>true) true f vs e b->(∀x∈b,W.sameAt i x)->(∀x∈b,c x.block=true)->DataW.TrodAll enc P i 0 c true f vs e b
 | [],vs,e,b,_,h,_,_=>by
  obtain⟨rfl,rfl,rfl⟩:=trodAll_nil h;exact h
 | t::f,vs,e,b,g,h,l,hp=>by
  obtain⟨v,u,d,m,p,q,rfl,rfl,rfl,n,r⟩:=trodAll_cons h;exact⟨p,q,WideElems.Trod_stays j (g t aZu).1 (g t aZu).2 n (fun x a=>l x (List.mem_append_left _ a)) (fun x a=>hp x (List.mem_append_left _ a)),
   Bu j (fun t h=>g t (aZC _ h)) r (fun x a=>l x (List.mem_append_right _ a)) (fun x a=>hp x (List.mem_append_right _ a)),rfl⟩
theorem aB2{f:Func}{s:ChangeSpec}{a m c j:Bool}{W W':World}{args:Array Value}{l I:L (DataW H)}{before:L MemPlace}{tb:TypeId}(T:laidOutB P=true) (F:∀t∈f.params.toList,P.readableRec t=true/\t<P.types.size) (w:s.vars=[]) (u:f.resultTypes=#[tb]) (v:P.underlying tb=some .bool)(y:DataW.Whole enc P f.params.toList s.vars a W args.toList l I before) (D:s.fn H (l++I)={ results:=[.lit (.bool true)],args:=l }) (A:Below W.heap.size W W'):s.post enc P f a m c j W args (.bool true) W':=by
 have n:=fun p hp=>y.lt (p:=p) hp
 have z:=y;obtain⟨p,q,O,M,C,X,U⟩:=y;rw[w] at M;obtain⟨rfl,rfl⟩:=trodVars_none M;have B:before=p:=by simpa using C
 subst B;have e:∀x∈before,W.sameAt W' x:=fun x V=>A.same (n x V)
 have d:∀ h:Nat->Bool,(∀ p∈before,h p.block=true)->DataW.TrodAll enc P W' 0 h true f.params.toList args.toList (s.fn H (l++[])).args before:=fun h E=>by
  rw[D];exact Bu T F O e E
 have i:∀ (b:Nat) (h:Nat->Bool) (N:Bool),DataW.TrodAll enc P W' b h N f.resultTypes.toList ((Value.bool true).resultList f.resultTypes.size) (s.fn H (l++[])).results []:=fun b h N=>by
  rw[D,u];exact trodAll_mk1 (shut_bool v true)
 have r:∀p∈before,(fun b=>decide (b<W.heap.size)) p.block=true:=fun p hp=>by simpa using n p hp
 have g:∀ h:Nat->Bool,DataW.TrodVars enc P W' h s.vars (s.fn H (l++[])).vars []:=fun h=>by
  rw[D,w];first | rfl | trivial | exact⟨rfl,rfl⟩
 refine⟨l,[],before,[],before,[],z,i _ _ _,d _ r,g _,A.frame _,fun _=>?_⟩
 refine⟨?_,_,_,([]++before)++[],⟨[]++before,[],trodAll_append (d _ (fun _ _=>rfl)) (i _ _ _),g _,rfl,?_,?_⟩,?_⟩
 exact ok_one u rfl (by simp[Value.okWide,v,Cell.okWide,Cell.ok]);intro b off hp;have J:=X b off (by simpa using hp);have Y:=e (.cell b off) (by simpa using hp);have h3:=A.block b (n (.cell b off) (by simpa using hp));simp only[World.frozen?] at J ⊢;rw[h3];exact J;intro S;simpa using U S;intro p hp _;simpa using hp
end
end
section
variable {G:aF}
theorem Ox:∀(a:L Nat)(s t:AS),s.sl=t.sl->s.hp=t.hp.map aP->(bV a s).sl=(bV a t).sl
 |[],s,t,h,_=>h
 | id::r,s,t,h,b=>by
  simp only[bV,b,bK];cases aL t.hp id with
  | arr c z es=>
   simp only[aP];refine Ox r _ _ (by simp only[h]) ?_;simp only[aZO,aZE,aP];congr 1;exact aZz (fun o _=>by simp only[Function.comp_apply,pC,I0])
  | box cs=>exact Ox r _ _ h b
  | dead=>exact Ox r _ _ h b
theorem QC.frz{P:Program}{f:FuncId}{b:L AV}{v:AV}{R:AV->L aD->Prop}(h:AC P G f b [] R)(n:∀e o,R e o->bF (fun id=>decide (0<=id)) ((bV (jU e) ⟨[e],o⟩).sl.getD 0 .junk)=v):QC P G f b v:=by
 refine h.gh (fun a o q _=>?_)
 obtain⟨l,i,p⟩:=fX (k:=0) (jU a) ⟨[a],o⟩;have j:(bV (jU a) (aE ⟨[a],o⟩)).sl=(bV (jU a) ⟨[a],o⟩).sl:=Ox (jU a) _ _ rfl rfl;have d:l.sl=(bV (jU a) ⟨[a],o⟩).sl:=by rw[<- j,<- p];rfl
 have c:l.sl.length=1:=by rw[d,mR];rfl
 obtain⟨y,m⟩:=List.length_eq_one_iff.1 c;have g:=Gh.drop (k:=0) (as:=l) 0 (aZe _);refine⟨v,[],?_,aZv _,rfl,rfl⟩;have r:v=bF (fun id=>decide (0<=id)) y:=by rw[<- n a o q,<- d,m];rfl
 have:=i.trans g;rw[m] at this;simpa[r] using this
theorem QC.drop{P:Program}{f:FuncId}{b:L AV}{v:AV}(h:AC P G f b [] fun c _=>c=v)(d:bF (fun id=>decide (0<=id)) v=v):QC P G f b v:=by
 refine h.gh (fun a o e _=>?_)
 subst e;refine⟨a,[],?_,aZv _,rfl,rfl⟩;have:=Gh.drop (k:=0) (as:=⟨[a],o⟩) 0 (aZe _);simp only[aZl,aZm,d,bAp] at this;exact this
theorem AC.drop{P:Program}{f:FuncId}{b:L AV}{objs:L aD}{Q:AV->L aD->Prop}(h:AC P G f b objs fun c o=>Q (bF (fun id=>decide (objs.length<=id)) c) ((o.take objs.length).map (cO fun id=>decide (objs.length<=id)))):AC P G f b objs Q:=by
 refine h.gh (fun a o d e=>⟨_,_,(show Gh objs.length ⟨[a],o⟩ _ from Gh.drop objs.length (aZe _)),by simp only[aZa,aZf];omega,d⟩)
end
section
section
variable {P:Program}{G:aF}{k:Nat}{st st':AS}{R:AS->Prop}
structure aB3 (o:aD):Prop where
 ren:∀ρ,dY ρ o=o
 kill:∀p,cO p o=o
theorem aB3.arr(cap size:Nat)(es:L (L DC)):aB3 (.arr cap size es):=⟨fun _=>rfl,fun _=>rfl⟩
theorem aB3.dcs(a:L DC):aB3 (.box (kV a)):=by
 constructor<;>intro p<;>simp only[dY,cO,kV,aZE]<;>congr 1
theorem Wg{a:Option Nat}{b:AV}{o:aD}{j:Nat}(h:iR (aL st.hp j)=true):iT [j] st a b [o]=⟨aQ st.sl a (dL (cN [j] st.hp.length) b),st.hp.set j (dY (cN [j] st.hp.length) o)⟩:=by
 have hp:∀id,(([j]:L Nat).contains id&&!iR (aL st.hp id))=false:=by
  intro id;by_cases h0:id=j;subst h0;simp[h];simp[h0]
 simp only[iT,qY hp,qZ hp,kX,aZl,aZm,bAK,List.drop_nil,aZ7,aZc,aZd]
theorem WR.callB{o:aN}{rest:L aN}{f:FuncId}{b:L aH}{a:L AV}{j:Nat}{d v:aD}{r A:AV}(p:jP G st o.guard)(B:o.ai=.call f b)
  (g:AC P G f a [d] fun w os=>w=r/\os=[v]) (m:aB3 d) (n:aB3 v) (y:aL st.hp j=d) (l:iR d=true)
  (c:b.map (aM G st.sl)=a.map (dL (cN [j] st.hp.length))) (D:dL (cN [j] st.hp.length) r=A)
  (E:(⟨aQ st.sl o.dst A,st.hp.set j v⟩:AS)=st') (h:WR P G k rest R st'):WR P G k (o::rest) R st:=by
 have q:d≠.dead:=by intro e;rw[e] at l;cases l
 refine WR.call (J:=[j]) p B g (by simp) rfl (fun t i x u z=>?_) c (fun w os C=>?_)
 cases t with
 |zero=>simp at u z;subst u;subst z;rw[m.ren];exact fE y q
 |succ t=>simp at u
 obtain⟨rfl,rfl⟩:=C;rw[Wg (by rw[y];exact l),n.ren,D,E];exact h
theorem Gh.nilB{id j:Nat}{cs:L aU}(size:Nat)(D:aL st.hp id=.box cs)(z:cs[j]?=some (cI (.slice none 0 0))):Gh k st ⟨st.sl,st.hp.set id (.box (cs.set j (.bld st.hp.length 0)))++[.arr 0 size []]⟩:=by
 intro F γ a w t J M;have p:=fE D (by simp);have f:id<st.hp.length:=aI p;obtain⟨d,E⟩:=dP.nilp (k:=k) size t;have n:∀(i:Nat)(o:OI),γ[i]?=some o->(γ++[OI.arr none 0])[i]?=some o:=fun _ _ h=>bW h
 refine⟨F,γ++[OI.arr none 0],E,⟨d.fz,by simp[t.len],d.nd,d.disj,fun i o x e y=>?_⟩,J.ext (fun _ _ h=>h) n,by simp;omega⟩
 by_cases q:id=i;subst q;rw[aZw (by simpa using f),aZH f] at e;injection e with e;subst e
 have g:=d.ok id _ x (by rw[aZw f];exact p) y;cases x with
 |box b=>
  obtain⟨vs,T,I,u,B⟩:=g;refine⟨vs,T,I,by simpa using u,fun m c v l C=>?_⟩
  by_cases A:j=m
  ·subst A;rw[aZH (aI z)] at l;injection l with l;subst l
   have h3:=B j _ v z C;cases h3 with|dc _ _ h3=>
   cases h3;exact .bldN _ 0 (by rw[<- t.len];simp)
  rw[aZy A] at l;exact B m c v l C
 |arr b c=>exact g.elim
 |dead=>exact g.elim
 refine d.ok i o x ?_ y;by_cases r:i<st.hp.length;rw[aZw (by simpa using r),aZy q] at e;rw[aZw r];exact e;rw[aZB (by simpa using Nat.le_of_not_lt r)] at e;rw[aZB (Nat.le_of_not_lt r)];simpa using e
end
end
section
def stX(G:aF)(st:AS)(size:Nat)(x v:aH):Option AS:=
 match aM G st.sl x with
 |.one (.ptr id off)=>
  match cellsOf (aM G st.sl v) with
  |some vs=>
   match aL st.hp id with
   |.box cs=>if vs.length=size/\off+size<=cs.length then some ⟨st.sl,st.hp.set id (.box (cY cs off vs))⟩ else none
   |_=>none
  |none=>none
 |.one (.ept id i s off)=>
  match (cellsOf (aM G st.sl v)).bind dcs with
  |some a=>
   match aL st.hp id with
   |.arr cap b es=>
    match es[i]? with
    |some e=>if s=b/\a.length=size/\off+size<=e.length then some ⟨st.sl,st.hp.set id (.arr cap b (es.set i (e.take off++a++e.drop (off+size))))⟩ else none
    |none=>none
   |_=>none
  |none=>none
 |_=>none
def zs(z:L Value):Nat->L aU
 |0=>[]
 |n+1=>zs z n++[cI (z.getD (n % z.length) undef)]
def fY(size:Nat):Nat->L DC->L (L DC)
 |0,_=>[]
 |n+1,a=>a.take size::fY size n (a.drop size)
def bsX(G:aF)(st:AS)(a:Option Nat)(size len:Nat)(z:L Value)(c:L (Nat×aH)):Option AS:=
 match len with
 |0=>if c.isEmpty then some ⟨aQ st.sl a (.one (.bld st.hp.length 0)),st.hp++[.arr 0 size []]⟩ else none
 |len+1=>(iL (zs z ((len+1)*size)) (c.map fun (j,x)=>(j*size,size,aM G st.sl x))).bind fun cs=>(dcs cs).bind fun b=>
  if b.length=(len+1)*size then some ⟨aQ st.sl a (vl (fY size (len+1) b)),st.hp⟩ else none
def exX(G:aF)(st:AS)(o:aN):Option AS:=
 match o.ai with
 |.alloc z=>some ⟨aQ st.sl o.dst (.one (.ptr st.hp.length 0)),st.hp++[.box (z.map cI)]⟩
 |.box x=>(cellsOf (aM G st.sl x)).map fun cs=>⟨aQ st.sl o.dst (.one (.ptr st.hp.length 0)),st.hp++[.box cs]⟩
 |.store size x v=>match o.dst with|none=>stX G st size x v|some _=>none
 |.bslc size len z a=>bsX G st o.dst size len z a
 |ai=>(dH G st ai).map fun v=>⟨aQ st.sl o.dst v,st.hp⟩
def gH(st:AS)(d:Option Nat):Option AV->Option AS
 |some v=>some ⟨aQ st.sl d v,st.hp⟩
 |none=>none
def aOi(st:AS)(d:Option Nat):Option (L aU)->Option AS
 |some cs=>some ⟨aQ st.sl d (.one (.ptr st.hp.length 0)),st.hp++[.box cs]⟩
 |none=>none
def stD(G:aF)(st:AS)(size:Nat)(x v:aH):Option Nat->Option AS
 |none=>stX G st size x v
 |some _=>none
def aOj(n size:Nat)(x:AV):Option Int->Option AV
 |some i=>aD2 n size x i
 |none=>none
def aJm(hp:L aD)(size:Nat)(x:AV):Option Int->Option AV
 |some i=>Cl hp size x i
 |none=>none
def aJn(x:AV):Option Int->Option AV
 |some i=>Ia x i
 |none=>none
def aOk(n:Nat)(x:AV):Option Int->Option AV
 |some i=>V0 n x i
 |none=>none
def Zl(k:IntKind):Option Int->Option AV
 |some n=>some (dQ (.int k (k.wrap n)))
 |none=>none
def Zm:Option ByteArray->Option AV
 |some s=>some (dQ (.int .i64 s.size))
 |none=>none
def aJo:Option (L aU)->Option AV
 |some cs=>some (.agg cs)
 |none=>none
def evX(G:aF)(sl:L AV)(hp:L aD):AI->Option AV
 |.mov x=>some (aM G sl x)
 |.pick c a b=>Cn (aM G sl c) (aM G sl a) (aM G sl b)
 |.load g s x=>mH hp g s (aM G sl x)
 |.bin d x y=>fM d (aM G sl x) (aM G sl y)
 |.un d x=>unV d (aM G sl x)
 |.conv k x=>Zl k (bH (aM G sl x))
 |.addo o x=>Ft o (aM G sl x)
 |.ixA n s x i=>aOj n s (aM G sl x) (bH (aM G sl i))
 |.ixL s x i=>aJm hp s (aM G sl x) (bH (aM G sl i))
 |.ixS x i=>aJn (aM G sl x) (bH (aM G sl i))
 |.ixV n x i=>aOk n (aM G sl x) (bH (aM G sl i))
 |.s2p n x=>aBy n (aM G sl x)
 |.build z e=>aJo (iL (z.map cI) (e.map fun (o,s,x)=>(o,s,aM G sl x)))
 |.ext x n=>Vz (aM G sl x) n
 |.lenS x=>Zm (dJ (aM G sl x))
 |.lenL x=>tA (aM G sl x)
 |ai=>dH G ⟨sl,hp⟩ ai
def Hg(G:aF)(st:AS)(d:Option Nat):AI->Option AS
 |.alloc z=>some ⟨aQ st.sl d (.one (.ptr st.hp.length 0)),st.hp++[.box (z.map cI)]⟩
 |.box x=>aOi st d (cellsOf (aM G st.sl x))
 |.store size x v=>stD G st size x v d
 |.bslc size len z a=>bsX G st d size len z a
 |ai=>gH st d (evX G st.sl st.hp ai)
theorem aEQ(G:aF)(sl:L AV)(hp:L aD)(ai:AI):evX G sl hp ai=dH G ⟨sl,hp⟩ ai:=by
 cases ai<;>first|rfl|skip
 case conv k x=>simp only[evX,dH];cases bH (aM G sl x)<;>rfl
 case ixA n s x i=>simp only[evX,dH];cases bH (aM G sl i)<;>rfl
 case ixL s x i=>simp only[evX,dH];cases bH (aM G sl i)<;>rfl
 case ixS x i=>simp only[evX,dH];cases bH (aM G sl i)<;>rfl
 case ixV n x i=>simp only[evX,dH];cases bH (aM G sl i)<;>rfl
 case build z ps=>simp only[evX,dH];cases iL (z.map cI) (ps.map fun (o,s,x)=>(o,s,aM G sl x))<;>rfl
 case lenS x=>simp only[evX,dH];cases dJ (aM G sl x)<;>rfl
theorem B6(G:aF)(st:AS)(o:aN):Hg G st o.dst o.ai=exX G st o:=by
 obtain⟨d,a,g⟩:=o;have b:gH st d (evX G st.sl st.hp a)=(dH G st a).map fun v=>⟨aQ st.sl d v,st.hp⟩:=by
  rw[aEQ];cases dH G st a<;>rfl
 cases a<;>first|rfl|exact b|skip
 case box x=>simp only[Hg,exX];cases cellsOf (aM G st.sl x)<;>rfl
def AI.isCall:AI->Bool
 |.call _ _=>true
 |.callv _ _=>true
 |.app _ _ _ _ _=>true
 |.apps _ _=>true
 |.mk _ _ _ _ _=>true
 |.clr _ _ _=>true
 |.cpys _ _=>true
 |.cvsb _=>true
 |_=>false
def aB5(G:aF):L aN->AS->Option (L aN×AS)
 |[],st=>some ([],st)
 |o::l,st=>if o.guard=none/\o.ai.isCall=false then (exX G st o).bind fun st'=>aB5 G l st' else some (o::l,st)
def unG:Option (Nat×Bool)->AI->Bool
 |none,a=>!a.isCall
 |some _,_=>false
def aB6(G:aF):L aN->Option AS->Option (L aN×AS)
 |_,none=>none
 |[],some st=>some ([],st)
 |o::l,some st=>bif unG o.guard o.ai then aB6 G l (Hg G st o.dst o.ai) else some (o::l,st)
theorem aB7(G:aF)(l:L aN):aB6 G l none=none:=by cases l<;>rfl
theorem Zn(G:aF):∀(l:L aN)(st:AS),aB6 G l (some st)=aB5 G l st
 |[],st=>rfl
 | o::l,st=>by
  simp only[aB6,aB5,B6];obtain⟨d,a,g⟩:=o;cases g with
  | some g=>simp[unG]
  | none=>
   cases b:a.isCall with
   | true=>simp[unG,b]
   | false=>
    simp only[unG,b,aZG,cond_true,true_and,if_true];cases exX G st ⟨d,a,none⟩ with
    | none=>simp[aB7]
    | some st'=>simp[Zn G l st']
def Mr(G:aF)(g:Nat)(b:Bool):L aN->AS->Option (L aN×AS)
 |[],st=>some ([],st)
 |o::l,st=>if o.guard=some (g,b)/\o.ai.isCall=false/\o.dst≠some g then (exX G st o).bind fun st'=>Mr G g b l st' else some (o::l,st)
theorem mW:∀{cs:L aU}{a:L DC},dcs cs=some a->cs=kV a
 |[],a,h=>by simp[dcs] at h;subst h;rfl
 | .dc d::cs,a,h=>by
  simp only[dcs] at h;cases b:dcs cs with
  | none=>simp_all
  | some c=>
   simp only[b,aZg,Option.some.injEq] at h;subst h;rw[mW b];rfl
 |.ptr _ _::cs,a,h=>by simp[dcs] at h
 |.bld _ _::cs,a,h=>by simp[dcs] at h
 |.ept _ _ _ _::cs,a,h=>by simp[dcs] at h
 |.bls _ _ _ _::cs,a,h=>by simp[dcs] at h
 |.ref _::cs,a,h=>by simp[dcs] at h
 |.mpc _::cs,a,h=>by simp[dcs] at h
 |.fn _ _::cs,a,h=>by simp[dcs] at h
 |.junk::cs,a,h=>by simp[dcs] at h
theorem Ms(z:L Value):∀n,zs z n=(List.range n).map fun i=>cI (z.getD (i % z.length) undef)
 |0=>rfl
 |n+1=>by rw[zs,Ms z n,List.range_succ,aZR];rfl
theorem lB(size:Nat):∀(n:Nat)(a:L DC),a.length=n*size->(fY size n a).flatten=a/\(∀e∈fY size n a,e.length=size)/\(fY size n a).length=n
 |0,a,h=>by grind[fY]
 | n+1,a,h=>by
  have f:a.length=n * size+size:=by grind
  obtain⟨b,d,h3⟩:=lB size n (a.drop size) (by grind);refine⟨by simp[fY,b],fun e c=>?_,by simp[fY,h3]⟩
  simp only[fY,bAl] at c
  grind
section
variable {P:Program}{G:aF}{k:Nat}{st st':AS}{R:AS->Prop}
theorem WR.bsX{o:aN}{rest:L aN}{size len:Nat}{z:L Value}{a:L (Nat×aH)}(b:jP G st o.guard)(d:o.ai=.bslc size len z a)(h:Go.Proofs.YtgdjbbnicgfohacGreatDoor.bsX G st o.dst size len z a=some st') (f:WR P G k rest R st'):WR P G k (o::rest) R st:=by
 unfold Go.Proofs.YtgdjbbnicgfohacGreatDoor.bsX at h;cases len with
 |zero=>
  simp only at h;split at h;rename_i i;injection h with h;subst h
  have c:a=[]:=by simp_all
  subst c;exact WR.bslc (es:=[]) b d (by simp[iL,kV]) (by simp) rfl f;cases h
 |succ len=>
  simp only at h;cases hf:iL (zs z ((len+1)*size)) (a.map fun (j,x)=>(j*size,size,aM G st.sl x)) with
  |none=>simp_all
  |some cs=>
   simp only[hf,aZq] at h;cases e:dcs cs with
   |none=>simp_all
   |some g=>
    simp only[e,aZq] at h;grind[lB,Ms,WR.bslcF,fY,mW]
theorem WR.stX{o:aN}{rest:L aN}{size:Nat}{x v:aH}(d:jP G st o.guard)(f:o.ai=.store size x v)(c:o.dst=none)(h:Go.Proofs.YtgdjbbnicgfohacGreatDoor.stX G st size x v=some st') (q:WR P G k rest R st'):WR P G k (o::rest) R st:=by
 unfold Go.Proofs.YtgdjbbnicgfohacGreatDoor.stX at h;split at h;grind[id,WR.store];rename_i id i s off r;split at h;rename_i t p;split at h;rename_i cap u es g;split at h;rename_i e n;split at h;rename_i j;injection h with h;subst h
 obtain⟨rfl,a,b⟩:=j;obtain⟨cs,l,m⟩:=aZV.1 p;exact WR.storeE d f c r (by grind[mW]) g n a b rfl q;cases h;cases h;cases h;cases h;cases h
theorem WR.exX{o:aN}{rest:L aN}(a:jP G st o.guard)(g:o.ai.isCall=false)(h:Go.Proofs.YtgdjbbnicgfohacGreatDoor.exX G st o=some st')(b:WR P G k rest R st'):WR P G k (o::rest) R st:=by
 obtain⟨c,f,i⟩:=o;cases f<;>first|(simp[AI.isCall] at g;done)|skip
 case alloc z=>simp only[Go.Proofs.YtgdjbbnicgfohacGreatDoor.exX,Option.some.injEq] at h;subst h;exact WR.alloc a rfl b
 case box x=>
  simp only[Go.Proofs.YtgdjbbnicgfohacGreatDoor.exX] at h;obtain⟨cs,e,rfl⟩:=Option.map_eq_some_iff.1 h;exact WR.box a rfl e b
 case store size x v=>
  simp only[Go.Proofs.YtgdjbbnicgfohacGreatDoor.exX] at h;cases c with
  |none=>exact WR.stX a rfl rfl h b
  |some d=>cases h
 case bslc size len z ps=>exact WR.bsX a rfl h b
 all_goals
  simp only[Go.Proofs.YtgdjbbnicgfohacGreatDoor.exX] at h;obtain⟨v,e,rfl⟩:=Option.map_eq_some_iff.1 h;exact WR.pur a e b
theorem aJp{o:aN}{g:Nat}(f:o.ai.isCall=false)(b:o.dst≠some g)(h:exX G st o=some st'):aM G st'.sl (.t g)=aM G st.sl (.t g):=by
 obtain⟨a,c,i⟩:=o;cases c<;>first|(simp[AI.isCall] at f;done)|skip
 case alloc z=>grind[exX,Option.some.injEq,qC]
 case box x=>
  simp only[exX] at h;obtain⟨cs,e,rfl⟩:=Option.map_eq_some_iff.1 h;exact qC b
 case store size x v=>
  simp only[exX] at h;cases a with
  |some d=>cases h
  |none=>
   simp only[stX] at h;grind
 case bslc size len z ps=>
  simp only[exX,bsX] at h;grind[qC,Option.bind_eq_some_iff]
 all_goals
  simp only[exX] at h;obtain⟨v,e,rfl⟩:=Option.map_eq_some_iff.1 h;exact qC b
theorem WR.rX:∀(ops:L aN)(st:AS)(rest:L aN)(st':AS),aB5 G ops st=some (rest,st')->WR P G k rest R st'->WR P G k ops R st
 |[],st,rest,st',h,a=>by simp[aB5] at h;obtain⟨rfl,rfl⟩:=h;exact a
 | o::ops,st,rest,st',h,a=>by
  simp only[aB5] at h;split at h
  ·rename_i b;obtain⟨e,c,d⟩:=aZV.1 h;exact WR.exX (by rw[b.1];trivial) b.2 c (WR.rX ops e rest st' d a)
  ·simp_all
theorem WR.rGX{g:Nat}{b:Bool}:∀(ops:L aN)(st:AS)(rest:L aN)(st':AS),cK (aM G st.sl (.t g))=some b->Mr G g b ops st=some (rest,st')->WR P G k rest R st'->WR P G k ops R st
 |[],st,rest,st',c,h,a=>by simp[Mr] at h;obtain⟨rfl,rfl⟩:=h;exact a
 | o::ops,st,rest,st',c,h,a=>by
  simp only[Mr] at h;split at h
  ·rename_i d;obtain⟨i,e,f⟩:=aZV.1 h;exact WR.exX (by rw[d.1];exact c) d.2.1 e (WR.rGX ops i rest st' (by grind[aJp]) f a)
  ·simp_all
def nq:Nat->Nat->Bool
 |0,0=>true
 |0,_+1=>false
 |_+1,0=>false
 |n+1,m+1=>nq n m
theorem jG:∀a b:Nat,nq a b=(a==b)
 |0,0=>rfl
 |0,b+1=>by simp[nq]
 |a+1,0=>by simp[nq]
 |a+1,b+1=>by simp_all[nq,jG,bAy]
def Wh:Option Nat->Nat->Bool
 |none,_=>true
 |some d,g=>!(nq d g)
def eqb:Bool->Bool->Bool
 |true,true=>true
 |false,false=>true
 |_,_=>false
theorem Oy(d:Option Nat)(g:Nat):Wh d g=decide (d≠some g):=by
 cases d with
 |none=>simp[Wh]
 |some d=>grind[Wh,jG]
theorem Ex(a b:Bool):eqb a b=(a==b):=by cases a<;>cases b<;>rfl
def guG(g:Nat)(b:Bool):Option (Nat×Bool)->Option Nat->AI->Bool
 |some (c,b'),d,a=>nq g c&&(eqb b b'&&!a.isCall&&Wh d g)
 |none,_,_=>false
def Mt(G:aF)(g:Nat)(b:Bool):L aN->Option AS->Option (L aN×AS)
 |_,none=>none
 |[],some st=>some ([],st)
 |o::l,some st=>bif guG g b o.guard o.dst o.ai then Mt G g b l (Hg G st o.dst o.ai) else some (o::l,st)
theorem Wi(G:aF)(g:Nat)(b:Bool)(l:L aN):Mt G g b l none=none:=by cases l<;>rfl
theorem R0(G:aF)(g:Nat)(b:Bool):∀(l:L aN)(st:AS),Mt G g b l (some st)=Mr G g b l st
 |[],st=>rfl
 | o::l,st=>by
  obtain⟨d,a,c⟩:=o;simp only[Mt,Mr];have e:Hg G st d a=exX G st ⟨d,a,c⟩:=B6 G st ⟨d,a,c⟩;rw[e];have h:guG g b c d a=decide (c=some (g,b)/\a.isCall=false/\d≠some g):=by
   cases c with
   | none=>simp[guG]
   | some q=>
    obtain⟨i,b'⟩:=q;simp only[guG,Oy,Ex,jG];rw[bAy];simp only[aZp,beq_iff_eq,bAc,decide_eq_true_eq,Option.some.injEq,Prod.mk.injEq];constructor
    ·simp_all
    ·simp_all
  rw[h];by_cases f:c=some (g,b)/\a.isCall=false/\d≠some g
  ·simp only[decide_eq_true f,cond_true,if_pos f];cases exX G st ⟨d,a,c⟩ with
   | none=>simp[Wi]
   | some st'=>simp[R0 G g b l st']
  ·grind
theorem WR.x1{o:aN}{ops rest:L aN}(_:o.guard=none)(_:o.ai.isCall=false)(h:aB6 G (o::ops) (some st)=some (rest,st'))(a:WR P G k rest R st'):WR P G k (o::ops) R st:=WR.rX _ _ _ _ (by grind[Zn]) a
theorem WR.xg{o:aN}{ops rest:L aN}{g:Nat}{b:Bool}(_:o.guard=some (g,b))(_:o.ai.isCall=false)(a:cK (aM G st.sl (.t g))=some b)(h:Mt G g b (o::ops) (some st)=some (rest,st'))(c:WR P G k rest R st'):WR P G k (o::ops) R st:=WR.rGX _ _ _ _ a (by grind[R0]) c
def aOl:AI->Bool
 |.alloc _=>true
 |.box _=>true
 |.store _ _ _=>true
 |_=>false
def Wj:Bool->AI->Bool
 |true,a=>uI a
 |false,a=>aOl a
def Mu(G:aF):L (Bool×aN)->AS->Option (L (Bool×aN)×AS)
 |[],st=>some ([],st)
 |(b,o)::l,st=>if o.guard=none/\Wj b o.ai=true then (exX G st o).bind fun st'=>Mu G l st' else some ((b,o)::l,st)
def Bv(G:aF):L (Bool×aN)->Option AS->Option (L (Bool×aN)×AS)
 |_,none=>none
 |[],some st=>some ([],st)
 |o::l,some st=>bif unGD o.2.guard o.1 o.2.ai then Bv G l (Hg G st o.2.dst o.2.ai) else some (o::l,st)
where unGD:Option (Nat×Bool)->Bool->AI->Bool
 |none,b,ai=>Wj b ai
 |some _,_,_=>false
theorem Wk(G:aF)(l:L (Bool×aN)):Bv G l none=none:=by cases l<;>rfl
theorem R3(G:aF):∀(l:L (Bool×aN)) (st:AS),Bv G l (some st)=Mu G l st
 |[],st=>rfl
 | o::l,st=>by
  obtain⟨b,d,a,g⟩:=o;simp only[Bv,Mu];have e:Hg G st d a=exX G st ⟨d,a,g⟩:=B6 G st ⟨d,a,g⟩;rw[e];cases g with
  | some g=>simp[Bv.unGD]
  | none=>
   cases c:Wj b a with
   | false=>simp[Bv.unGD,c]
   | true=>
    simp only[Bv.unGD,c,cond_true,true_and,if_true];cases exX G st ⟨d,a,none⟩ with
    | none=>simp[Wk]
    | some st'=>simp[R3 G l st']
theorem R4{o:aN}(h:o.ai.isPure=true):exX G st o=(dH G st o.ai).map fun v=>⟨aQ st.sl o.dst v,st.hp⟩:=by
 obtain⟨b,a,c⟩:=o;cases a<;>first|(simp[AI.isPure] at h;done)|rfl
theorem WD.rX:∀(ops:L (Bool×aN)) (st:AS) (rest:L (Bool×aN)) (st':AS),Mu G ops st=some (rest,st')->jZ P G k R rest st'->jZ P G k R ops st
 |[],st,rest,st',h,t=>by simp[Mu] at h;obtain⟨rfl,rfl⟩:=h;exact t
 | (b,o)::ops,st,rest,st',h,t=>by
  simp only[Mu] at h;split at h
  ·rename_i c;obtain⟨C,a,A⟩:=aZV.1 h;have f:=WD.rX ops C rest st' A t;obtain⟨r,hp⟩:=c;cases b with
   | true=>
    simp only[Wj] at hp;rw[R4 (Iv hp)] at a;obtain⟨v,g,rfl⟩:=Option.map_eq_some_iff.1 a;exact⟨v,.inr ⟨by rw[r];trivial,.inl (by rw[Et hp];exact g)⟩,f⟩
   | false=>
    simp only[Wj] at hp;obtain⟨j,w,D⟩:=o;simp only at r;subst r;cases w<;>first | (grind[aOl]) | skip
    case alloc z=>simp only[exX,Option.some.injEq] at a;subst a;exact WD.allocE trivial rfl rfl f
    case box x=>
     simp only[exX] at a;obtain⟨cs,h3,rfl⟩:=Option.map_eq_some_iff.1 a;exact WD.boxE trivial rfl h3 rfl f
    case store size x v=>
     simp only[exX] at a;cases j with
     | some d=>cases a
     | none=>
      simp only[stX] at a;split at a
      ·rename_i id off u;split at a
       ·rename_i vs g;split at a
        ·rename_i cs l;split at a
         ·rename_i c;injection a with a
          exact WD.storeX trivial rfl rfl u g l c.1 c.2 a f
         ·cases a
        ·cases a
       ·cases a
      ·rename_i id i s off u;split at a
       ·rename_i y g;split at a
        ·rename_i cap E es l;split at a
         ·rename_i e B;split at a
          ·rename_i c;injection a with a;subst a
           obtain⟨rfl,m,n⟩:=c;obtain⟨cs,p,q⟩:=aZV.1 g;exact .inr ⟨trivial,rfl,.inr ⟨id,i,s,off,cap,es,e,y,u,by rw[p,mW q],l,B,m,n,f⟩⟩
          ·cases a
         ·cases a
        ·cases a
       ·cases a
      ·cases a
  ·simp_all
theorem WD.x1{b:Bool}{o:aN}{ops rest:L (Bool×aN)}(_:o.guard=none)(_:Wj b o.ai=true)(h:Bv G ((b,o)::ops) (some st)=some (rest,st'))(a:jZ P G k R rest st'):jZ P G k R ((b,o)::ops) st:=WD.rX _ _ _ _ (by grind[R3]) a
def guD(g:Nat)(c:Bool):Bool->Option (Nat×Bool)->Option Nat->AI->Bool
 |true,some (e,b),d,a=>nq g e&&(eqb c b&&uI a&&Wh d g)
 |_,_,_,_=>false
def Mv(G:aF)(g:Nat)(c:Bool):L (Bool×aN)->Option AS->Option (L (Bool×aN)×AS)
 |_,none=>none
 |[],some st=>some ([],st)
 |o::l,some st=>bif guD g c o.1 o.2.guard o.2.dst o.2.ai then Mv G g c l (Hg G st o.2.dst o.2.ai) else some (o::l,st)
theorem Wl(G:aF)(g:Nat)(c:Bool)(l:L (Bool×aN)):Mv G g c l none=none:=by cases l<;>rfl
theorem R5(G:aF)(g:Nat)(c:Bool):∀(l:L (Bool×aN)) (st:AS),Mv G g c l (some st)=Mn G g c l st
 |[],st=>rfl
 | o::l,st=>by
  obtain⟨b,d,a,f⟩:=o;simp only[Mv,Mn];have i:guD g c b f d a=decide (b=true/\f=some (g,c)/\uI a=true/\d≠some g):=by
   cases f with
   | none=>cases b<;>simp[guD]
   | some q=>
    obtain⟨m,j⟩:=q;cases b with
    | false=>simp[guD]
    | true=>
     simp only[guD,Oy,Ex,jG];rw[bAy];simp only[aZp,beq_iff_eq,decide_eq_true_eq,Option.some.injEq,Prod.mk.injEq,true_and];constructor
     ·simp_all
     ·simp_all
  rw[i];by_cases h:b=true/\f=some (g,c)/\uI a=true/\d≠some g
  ·simp only[decide_eq_true h,cond_true,if_pos h];have e:Hg G st d a=exX G st ⟨d,a,f⟩:=B6 G st ⟨d,a,f⟩;rw[e,R4 (o:=⟨d,a,f⟩) (Iv h.2.2.1)];cases dH G st a with
   | none=>simp[Wl]
   | some v=>simp[R5 G g c l]
  ·grind
theorem WD.xg{b:Bool}{o:aN}{ops rest:L (Bool×aN)}{g:Nat}{c:Bool}(_:o.guard=some (g,c))(_:o.ai.isPure=true)(a:cK (aM G st.sl (.t g))=some c)(h:Mv G g c ((b,o)::ops) (some st)=some (rest,st'))(d:jZ P G k R rest st'):jZ P G k R ((b,o)::ops) st:=WD.runG _ _ _ _ a (by grind[R5]) d
def skO(g:Nat)(c:Bool):Option (Nat×Bool)->Option Nat->Bool
 |some (b,a),d=>nq g b&&(eqb c a&&Wh d g)
 |none,_=>false
theorem aER(g:Nat)(c:Bool)(a:Option (Nat×Bool))(d:Option Nat):skO g c a d=decide (a=some (g,c)/\d≠some g):=by
 cases a with
 |none=>simp[skO]
 |some q=>
  obtain⟨e,b⟩:=q;simp only[skO,Oy,Ex,jG];grind
def skY(g:Nat)(c:Bool):L aN->AS->L aN×AS
 |[],st=>([],st)
 |o::l,st=>bif skO g c o.guard o.dst then skY g c l ⟨aQ st.sl o.dst (.tup []),st.hp⟩ else (o::l,st)
theorem aES(g:Nat)(c:Bool):∀(l:L aN)(st:AS),skY g c l st=skipG g c l st
 |[],st=>rfl
 | o::l,st=>by
  simp only[skY,skipG,aER];by_cases a:o.guard=some (g,c)/\o.dst≠some g
  ·simp_all[decide_eq_true,cond_true,if_pos,aES]
  grind
def aET(g:Nat)(c:Bool):L (Bool×aN)->AS->L (Bool×aN)×AS
 |[],st=>([],st)
 |o::l,st=>bif skO g c o.2.guard o.2.dst then aET g c l ⟨aQ st.sl o.2.dst (.tup []),st.hp⟩ else (o::l,st)
theorem Zo(g:Nat)(c:Bool):∀(l:L (Bool×aN)) (st:AS),aET g c l st=Eu g c l st
 |[],st=>rfl
 | (b,o)::l,st=>by
  simp only[aET,Eu,aER];by_cases a:o.guard=some (g,c)/\o.dst≠some g
  ·simp_all[decide_eq_true,cond_true,if_pos,Zo]
  grind
def gN(c:Bool):AV->Bool
 |.one (.dc (.raw (.bool b)))=>eqb b (!c)
 |.tup []=>true
 |_=>false
theorem aNo{g:Nat}{c:Bool}(h:gN c (aM G st.sl (.t g))=true):Gn G st (some (g,c)):=by
 show cK (aM G st.sl (.t g))=some (!c)\/aM G st.sl (.t g)=.tup [];generalize aM G st.sl (.t g)=v at h;unfold gN at h;split at h;rename_i b;rw[Ex,beq_iff_eq] at h;subst h;exact .inl rfl;all_goals simp_all
theorem WR.xs{o:aN}{ops rest:L aN}{g:Nat}{c:Bool}(_:o.guard=some (g,c))(a:gN c (aM G st.sl (.t g))=true)(h:skY g c (o::ops) st=(rest,st'))(b:WR P G k rest R st'):WR P G k (o::ops) R st:=WR.skipG _ _ _ _ (aNo a) (by grind[aES]) b
theorem WD.xs{b:Bool}{o:aN}{ops rest:L (Bool×aN)}{g:Nat}{c:Bool}(_:o.guard=some (g,c))(a:gN c (aM G st.sl (.t g))=true)(h:aET g c ((b,o)::ops) st=(rest,st'))(d:jZ P G k R rest st'):jZ P G k R ((b,o)::ops) st:=WD.skipG _ _ _ _ (aNo a) (by grind[Zo]) d
end
theorem aW9(a b:Nat):nq a b=decide (a=b):=by rw[jG];rfl
attribute [go_sem] eq_self decide_true decide_false uI aW9 Wh skO skY aET gN Mv guD aB6 Mt Bv Bv.unGD unG guG cond_true cond_false Hg evX stD aOj aJm aJn Zl Zm aJo aOl Wj stX bsX zs fY dcs AI.isCall iL tH bAM List.isEmpty_nil List.isEmpty_cons
end
section
theorem ifp{c:Prop}[Decidable c]{α:Sort _}{a b:α}(h:c):ite c a b=a:=if_pos h
theorem ifn{c:Prop}[Decidable c]{α:Sort _}{a b:α}(h:¬ c):ite c a b=b:=if_neg h
section
variable {P:Program}{G:aF}{k:Nat}{st st':AS}{R:AS->Prop}{o:aN}{rest:L aN}
theorem VLe.int{k:IntKind}{a b:Int}(h:a=b):VLe (.one (.dc (.raw (.int k a)))) (.one (.dc (.raw (.int k b)))):=by subst h;exact .refl _
def tC:Nat->L AV
 |0=>[]
 |n+1=>.junk::tC n
theorem R6:∀n,tC n=List.replicate n .junk
 |0=>rfl
 |n+1=>by rw[tC,R6 n,List.replicate_succ]
theorem AC.of_codeJ{f:FuncId}{b:Func}{n:Nat}{d:L kY}{c:eG}{a:L AV}{objs:L aD}{Q:AV->L aD->Prop}(hf:P.funcs[f]?=some b)(g:b.ntmps=n)(e:b.body.bind (bU P)=some c) (i:b.results.toList.mapM (jQ P)=some d)(h:AW P G objs.length c (Fin objs.length d Q) ⟨a++tC (n-a.length),objs⟩):AC P G f a objs Q:=AC.of_codeF hf g e i (by rw[<- R6];exact h)
def nzC:aU->aU
 |.dc (.raw (.slice none 0 0))=>.dc (.slc [])
 |.dc (.ptr cs)=>.ref cs
 |c=>c
def nzT:TV->TV
 |.one c=>.one (nzC c)
 |.agg cs=>.agg (cs.map nzC)
def Gr:AV->AV
 |.one c=>.one (nzC c)
 |.agg cs=>.agg (cs.map nzC)
 |.tup l=>.tup (l.map nzT)
 |.junk=>.junk
theorem Wm{F:Fz}{γ:L OI}{c:aU}{v:Value}(h:RC F γ c v):RC F γ (nzC c) v:=by
 unfold nzC;split;cases h with|dc _ _ h=>cases h with|raw _ h=>exact .dc _ _ (.nil _ _)
 cases h with|dc _ _ h=>cases h with|ptr _ b off g d a=>exact .ref _ b off g d a
 exact h
theorem Zp{F:Fz}{γ:L OI}{cs:L aU}{vs:Array Value}(h:∀(i:Nat) c v,cs[i]?=some c->vs[i]?=some v->RC F γ c v):∀(i:Nat) c v,(cs.map nzC)[i]?=some c->vs[i]?=some v->RC F γ c v:=by
 intro i c v a d;rw[aZi] at a;obtain⟨b,h0,rfl⟩:=Option.map_eq_some_iff.1 a;exact Wm (h i b v h0 d)
theorem aEV{F:Fz}{γ:L OI}{a:AV}{v:Value}(h:RV F γ a v):RV F γ (Gr a) v:=by
 cases h with
 |one c v h=>exact .one _ _ (Wm h)
 |agg cs vs b h=>exact .agg _ _ (by simpa using b) (Zp h)
 |tup l vs b h=>
  refine .tup _ _ (by simpa using b) (fun i t v d e=>?_)
  rw[aZi] at d;obtain⟨f,h0,rfl⟩:=Option.map_eq_some_iff.1 d;cases h i f v h0 e with
  |one c v h=>exact .one _ _ (Wm h)
  |agg cs vs b h=>exact .agg _ _ (by simpa using b) (Zp h)
 |junk v=>exact .junk v
theorem AC.nz{f:FuncId}{b:L AV}{objs:L aD}{Q:AV->L aD->Prop}(h:AC P G f b objs fun e os=>Q (Gr e) os):AC P G f b objs Q:=by
 refine h.gh (fun a os n m=>⟨Gr a,os,?_,m,n⟩)
 intro F γ p w j d l;refine⟨F,γ,iH.refl _ _ _ _,j,⟨d.1,d.2.1,fun i e v c g=>?_⟩,l⟩
 cases i with
 |zero=>simp at c;subst c;exact aEV (d.2.2 0 a v rfl g)
 |succ i=>simp at c
def bsD(G:aF)(st:AS)(a:Option Nat)(size len:Nat)(z:L Value)(c:L (Nat×aH)):Option AS:=
 (iL (zs z (len*size)) (c.map fun (j,x)=>(j*size,size,aM G st.sl x))).bind fun cs=>(dcs cs).bind fun b=>
  if b.length=len*size then some ⟨aQ st.sl a (.one (.bld st.hp.length len)),st.hp++[.arr len size (fY size len b)]⟩ else none
theorem WD.bs{b:aN}{l:L (Bool×aN)}{size len:Nat}{z:L Value}{d:L (Nat×aH)}(a:jP G st b.guard)(g:b.ai=.bslc size len z d)(h:bsD G st b.dst size len z d=some st') (m:jZ P G k R l st'):jZ P G k R ((false,b)::l) st:=by
 unfold bsD at h;obtain⟨cs,hf,h⟩:=aZV.1 h;obtain⟨c,i,h⟩:=aZV.1 h;split at h;rename_i j;injection h with h
 obtain⟨e,f,h3⟩:=lB size len c j;rw[Ms] at hf;exact WD.bslcE (es:=fY size len c) a g (by rw[e,<- mW i];exact hf) f h3 h m;cases h
def gK(b:Bool):AV->Option Bool
 |.one (.dc (.raw (.bool c)))=>some (eqb c b)
 |.tup []=>some false
 |_=>none
theorem aJr{g:Nat}{b:Bool}(h:gK b (aM G st.sl (.t g))=some true):cK (aM G st.sl (.t g))=some b:=by
 generalize aM G st.sl (.t g)=v at h;unfold gK at h;split at h;rename_i c;injection h with h;rw[Ex,beq_iff_eq] at h;subst h;rfl
 cases h;cases h
theorem aEW{g:Nat}{b:Bool}(h:gK b (aM G st.sl (.t g))=some false):Gn G st (some (g,b)):=by
 show cK (aM G st.sl (.t g))=some (!b)\/aM G st.sl (.t g)=.tup [];generalize aM G st.sl (.t g)=v at h;unfold gK at h;split at h;rename_i c;injection h with h;rw[Ex] at h;left;cases b<;>cases c<;>first|rfl|cases h
 exact .inr rfl;cases h
end
attribute [go_sem] nzC nzT Gr List.map_replicate bsD bAF Int.cast_ofNat_Int decide_true decide_false jP bAo if_false aZF aZG aZI aZS Bool.and_true Bool.and_false Es ifp ifn aZj
attribute [go_sem] decide_eq_false_iff_not aZp Bool.or_eq_true bAc Bool.not_eq_false' beq_iff_eq bne_iff_ne ne_eq beq_eq_false_iff_ne bne_eq_false_iff_eq Bool.true_eq_false Bool.and_eq_false_iff Bool.or_eq_false_iff Decidable.not_not aZ4 Int.natCast_one
attribute [go_sem] aZ3 Nat.one_mul Nat.zero_mul Nat.mul_zero Nat.mod_one Nat.zero_mod aZ8 Int.toNat_zero Int.toNat_one bAL
