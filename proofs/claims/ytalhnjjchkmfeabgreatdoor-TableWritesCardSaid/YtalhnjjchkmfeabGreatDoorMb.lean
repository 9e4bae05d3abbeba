/- Part. Conditions: none. -/
import Derived.Test.YtalhnjjchkmfeabGreatDoorLt
import Derived.ProofKit
namespace Go.Proofs.YtalhnjjchkmfeabGreatDoor
set_option linter.unusedSimpArgs false
set_option linter.unusedVariables false
section
section
variable {P:Program}{G:aE}{k:Nat}{hp:L aD}{s:AS}{K Q:AS->Prop}
theorem bL(id:Nat):aL (hp.map aR) id=aR (aL hp id):=by
 unfold aL;simp only[aZo,aZj];cases hp[id]?<;>rfl
theorem Ik{g:Bool}{n:Nat}{x:AV}:mR (hp.map aR) g n x=mR hp g n x:=by
 unfold mR;split;simp only[bL];cases aL hp _<;>rfl;simp only[bL];cases aL hp _<;>rfl;rfl;rfl
theorem V0{x:AV}:oQ (hp.map aR) x=oQ hp x:=by
 unfold oQ;split;rfl;rfl;simp only[bL];cases aL hp _<;>rfl;simp only[bL];cases aL hp _<;>rfl;rfl
theorem aBD{n:Nat}{x:AV}{i:Int}:Cp (hp.map aR) n x i=Cp hp n x i:=by
 unfold Cp;split;rfl;simp only[bL];cases aL hp _<;>rfl;simp only[bL];cases aL hp _<;>rfl;rfl
theorem aBE{n:Nat}{x:AV}{l r:Option AV}:lV (hp.map aR) n x l r=lV hp n x l r:=by
 unfold lV;split;rfl;rfl;simp only[bL];cases aL hp _<;>cases l<;>rfl;simp only[bL];cases aL hp _<;>rfl;rfl
theorem Aq{x:AV}:sV (hp.map aR) x=sV hp x:=by
 unfold sV;split;rfl;rfl;simp only[bL];cases aL hp _<;>rfl;rfl
theorem rS{ai:AI}:dJ G (aF s) ai=dJ G s ai:=by
 cases ai<;>simp only[dJ,aF,Ik,V0,aBD,aBE]
theorem aEt{st:AS}{ai:AI}:evF G st ai=dJ G st ai:=by
 unfold evF;split;split;rename_i a b;simp only[dJ,a,b,fX,Rq];rfl;rfl;split;rename_i a b;simp only[dJ,a,b,fX,Rq];rfl;rfl;rfl
theorem Il:∀(cs:L aU)(a:L DC),Ii cs=some a->cs=oR a
 |[],a,h=>by simp[Ii] at h;subst h;rfl
 | c::cs,a,h=>by
  cases c with
  | dc d=>
   simp only[Ii] at h;obtain⟨b,e,rfl⟩:=Option.map_eq_some_iff.1 h;rw[Il cs b e];rfl
  | _=>simp[Ii] at h
theorem Me{size:Nat}:∀(n:Nat)(l:L DC),l.length=n*size->(sZ size n l).flatten=l/\(sZ size n l).length=n/\∀e∈sZ size n l,e.length=size
 | 0,l,h=>by
  have:l=[]:=bAk (by simpa using h);subst this;exact⟨rfl,rfl,fun e a=>by cases a⟩
 | n+1,l,h=>by
  have d:(n+1) * size=n * size+size:=Nat.succ_mul n size;obtain⟨b,c,h3⟩:=Me (size:=size) n (l.drop size) (by simp;omega);refine⟨?_,by simp[sZ,c],fun e a=>?_⟩
  ·simp only[sZ,aZ7,b,bAc]
  ·simp only[sZ,bAl] at a;rcases a with rfl | a
   ·simp;omega
   ·exact h3 e a
theorem pR{p:Nat->Bool}(o:aD):aR (cU p o)=cU p (aR o):=by cases o<;>rfl
theorem uY{p:Nat->Bool}(l:L aD):(l.map (cU p)).map aR=(l.map aR).map (cU p):=by
 simp only[aZG];exact aZC (fun o _=>pR o)
theorem pE{ρ:Nat->Nat}(o:aD):aR (eL ρ o)=eL ρ (aR o):=by cases o<;>rfl
theorem rT{cs:L aU}{o:aD}(h:aR o=.box cs):o=.box cs:=by cases o<;>simp_all [aR]
theorem pF{c z:Nat}{es:L (L DC)}{o:aD}(h:aR o=.arr c z es):∃cap,o=.arr cap z es/\c=0:=by
 cases o<;>simp_all [aR]
theorem N9{t:Option Nat}{y:AI}{st':AS}(h:evI G t y (aF s)=some st')(j:∀D,aF D=st'->K D):uT P G k t y K s.sl s.hp:=by
 cases y with
 |alloc z=>
  simp only[evI,Option.some.injEq] at h;exact j _ (by rw[<- h];simp[aF,aR])
 |box x=>
  simp only[evI] at h;obtain⟨cs,q,d⟩:=Option.map_eq_some_iff.1 h;exact⟨cs,q,j _ (by rw[<- d];simp[aF,aR])⟩
 |bslc size len u C=>
  simp only[evI] at h;obtain⟨A,q,h⟩:=aZT.1 h;obtain⟨w,d,h⟩:=aZT.1 h;split at h;rename_i M;injection h with h
  obtain⟨E,F,I⟩:=Me len w M;refine .inl ⟨sZ size len w,?_,I,F,j _ (by rw[<- h];simp[aF,aR])⟩;rw[E,<- Il _ _ d];exact q;cases h
 |store size x v=>
  simp only[evI] at h;split at h;rename_i J;subst J;refine⟨rfl,?_⟩;obtain⟨vs,q,h⟩:=aZT.1 h;unfold Yu at h;split at h;rename_i id off p
  left
  split at h;rename_i cs b;split at h;rename_i g;injection h with h
  rw[aF,bL] at b;exact⟨id,off,cs,vs,p,q,rT b,g.1,g.2,j _ (by rw[<- h];simp[aF,aR,aZN])⟩;cases h;cases h;rename_i id i z off p
  right
  split at h;rename_i c N es b;obtain⟨w,d,h⟩:=aZT.1 h;obtain⟨e,h3,h⟩:=aZT.1 h;split at h;rename_i g;injection h with h
  rw[aF,bL] at b;obtain⟨cap,b,_⟩:=pF b;obtain⟨rfl,l,m⟩:=g;refine⟨id,i,N,off,cap,es,e,w,p,?_,b,h3,l,m,j _ (by rw[<- h];simp[aF,aR,aZN])⟩;rw[<- Il _ _ d];exact q;cases h;cases h;cases h;cases h
 |app size bytes u a x=>
  simp only[evI] at h;unfold aNh at h;split at h;rename_i id n p
  right
  split at h;rename_i c z es b;obtain⟨f,d,h⟩:=aZT.1 h;split at h;rename_i g;injection h with h
  rw[aF,bL] at b;obtain⟨cap,b,_⟩:=pF b;obtain⟨rfl,l,m,B⟩:=g;rw[aF,Aq] at d;exact⟨id,n,cap,es,f,p,b,l,d,by simpa using m,B,fun r _=>j _ (by rw[<- h];simp only[aF,aZN,uY];rfl)⟩
  cases h;cases h;rename_i p
  left
  obtain⟨f,d,h⟩:=aZT.1 h;split at h;rename_i g;injection h with h;rw[aF,Aq] at d;exact⟨p,f,d,by simpa using g.1,g.2,fun r _=>j _ (by rw[<- h];simp only[aF,aZQ,uY,aY9];rfl)⟩
  cases h;cases h
 |_=>cases h
theorem Im{id:Nat}{es:L (L DC)}(o:aD):aR (Vz id es o)=Vz id es (aR o):=by cases o<;>rfl
theorem gE:∀(d:L Nat)(s:AS),∃b,Gh k s b/\aF b=bZ d (aF s)
 |[],s=>⟨s,Gh.refl,rfl⟩
 | id::r,s=>by
  simp only[bZ];split
  ·rename_i c z es a;rw[aF,bL] at a;obtain⟨cap,a,_⟩:=pF a;obtain⟨b,e,f⟩:=gE r ⟨s.sl.map fun v=>bG (·==id) (aBC id es v),(s.hp.map fun o=>cU (·==id) (Vz id es o)).set id .dead⟩
   refine⟨b,(Gh.freeze a).trans e, ?_⟩;rw[f];congr 1;simp only[aF,aZN,aZG,aR];congr 2;exact aZC (fun o _=>by simp only[Function.comp_apply,pR,Im])
  ·exact gE r s
mutual
theorem rtC{J:L Nat}{n:Nat}:(c:aU)->c.keep (lL J)=true->kT (cQ J n) (kT (mO J) c)=c
 |.ptr id o,h=>by simp only[kT,rtN (n:=n) (by simpa[aU.keep,lL] using h)]
 |.bld id o,h=>by simp only[kT,rtN (n:=n) (by simpa[aU.keep,lL] using h)]
 |.ept id i z o,h=>by simp only[kT,rtN (n:=n) (by simpa[aU.keep,lL] using h)]
 |.bls id i z o,h=>by simp only[kT,rtN (n:=n) (by simpa[aU.keep,lL] using h)]
 |.fn f a,h=>by simp only[kT,rtL a (by simpa[aU.keep] using h)]
 |.dc d,h=>rfl
 |.ref cs,h=>rfl
 |.mpc es,h=>rfl
 |.junk,h=>rfl
theorem rtL{J:L Nat}{n:Nat}:(cs:L aU)->keepL (lL J) cs=true->renL (cQ J n) (renL (mO J) cs)=cs
 |[],h=>rfl
 | c::cs,h=>by
  simp only[keepL,aZq] at h;simp only[renL,rtC c h.1,rtL cs h.2]
theorem rtN{J:L Nat}{n id:Nat}(h:id∈J):cQ J n (mO J id)=id:=by
 have:∀J:L Nat,id∈J->J[mO J id]?=some id:=by
  intro J
  induction J with
  |nil=>intro h;cases h
  |cons j J b=>
   intro h;simp only[mO];split;rename_i e;simp[e];rename_i a;rw[bAK];exact b (by rcases bAl.1 h with h|h;exact absurd h a;exact h)
 simp only[cQ,this J h]
end
theorem pS{ρ:Nat->Nat}:∀(cs:L aU),renL ρ cs=cs.map (kT ρ)
 |[]=>rfl
 |c::cs=>by simp[renL,pS cs]
theorem rtM{J:L Nat}{n:Nat}(cs:L aU)(h:keepL (lL J) cs=true):(cs.map (kT (mO J))).map (kT (cQ J n))=cs:=by
 rw[<- pS,<- pS];exact rtL cs h
theorem rtT{J:L Nat}{n:Nat}(t:TV)(h:F4 (lL J) t=true):H7 (cQ J n) (H7 (mO J) t)=t:=by
 cases t with
 |one c=>simp only[H7,rtC c h]
 |agg cs=>simp only[H7,rtM cs h]
theorem rtV{J:L Nat}{n:Nat}(v:AV)(h:dH (lL J) v=true):dO (cQ J n) (dO (mO J) v)=v:=by
 cases v with
 |one c=>simp only[dO,rtC c h]
 |agg cs=>simp only[dO,rtM cs h]
 |tup l=>
  simp only[dO,aZG];congr 1
  conv=>rhs;rw[<- List.map_id l]
  exact aZC (fun t a=>rtT t (bAr.1 h t a))
 |junk=>rfl
theorem rtO{J:L Nat}{n:Nat}(o:aD)(h:pQ (lL J) o=true):eL (cQ J n) (eL (mO J) o)=o:=by
 cases o with
 |box cs=>simp only[eL,rtM cs h]
 |_=>rfl
theorem Rr{α b:Type}{f:α->b}:∀(J:L Nat)(a l:L α),(lJ J a l).map f=lJ J (a.map f) (l.map f)
 |[],_,l=>by simp[lJ]
 |j::J,[],l=>by simp[lJ]
 |j::J,x::a,l=>by simp only[lJ,aZl];rw[Rr J a];simp[aZN]
theorem Rs(o:aD):jC (aR o)=jC o:=by cases o<;>rfl
theorem V1{J:L Nat}{a:Option Nat}{av:AV}{b:L aD}:aF (jD J s a av b)=jD J (aF s) a av (b.map aR):=by
 have c:∀ρ,aR ∘ eL ρ=eL ρ ∘ aR:=fun ρ=>funext fun o=>pE o
 have d:∀p,aR ∘ cU p=cU p ∘ aR:=fun p=>funext fun o=>pR o
 simp only[jD,aF,aZQ,Rr,aY9,bL,Rs,aZG,bAu,c,d]
def cJ(P:Program)(G:aE)(call:aN):Prop:=∀f b hp av d,call f b hp=some (av,d)->∀c,c.map aR=hp->Vq P f=true/\AC P G f b c fun a o=>a=av/\o.map aR=d
theorem uZ{p:Nat->Bool}(o:aD):pQ p (aR o)=pQ p o:=by cases o<;>rfl
theorem rU{call:aN}(c:cJ P G call){d:Option Nat}{f:FuncId}{b:L AV}{st':AS}(h:lM call d f b (aF s)=some st'):
  ∃ (J:L Nat) (objs:L aD) (av:AV) (l:L aD),Vq P f=true/\AC P G f (b.map (dO (mO J))) objs (fun a o=>a=av/\o.map aR=l)/\J.Nodup/\objs.length=J.length/\
   (∀ (t j:Nat) o,J[t]?=some j->objs[t]?=some o->s.hp[j]?=some (eL (cQ J s.hp.length) o))/\b=(b.map (dO (mO J))).map (dO (cQ J s.hp.length))/\
   ∀ a o,a=av/\o.map aR=l->aF (jD J s d a o)=st':=by
 unfold lM at h;simp only at h;generalize uX (aF s).hp 2000 (b.flatMap kK) []=J at h;split at h;rename_i i;obtain⟨⟨av,l⟩,z,A⟩:=Option.map_eq_some_iff.1 h;simp only[okJ,aZq] at i;obtain⟨⟨p,g⟩,n⟩:=i;have r:=fun j B=>bAr.1 g j B
 simp only[aZq,decide_eq_true_eq,aF,aY9,bL,uZ] at r;obtain⟨x,y⟩:=c _ _ _ _ _ z (J.map fun j=>eL (mO J) (aL s.hp j)) (by
  rw[aZG];exact aZC (fun j _=>by simp only[Function.comp_apply,pE,aF,bL]))
 refine⟨J,_,av,l,x,y,(C3 _ p).imp (fun h e=>by simp[e] at h),by simp,fun t j o w q=>?_,?_,fun a o m=>?_⟩
 rw[aZj,w] at q;simp at q;subst q;have u:=r j (aZE w);rw[rtO _ u.2,aL,aZo,aZi u.1];rfl
 ·rw[aZG]
  conv=>lhs;rw[<- List.map_id b]
  exact aZC (fun v C=>(rtV v (bAr.1 n v C)).symm)
 obtain⟨rfl,rfl⟩:=m;rw[V1];exact A;cases h
theorem Io{a:Option (Nat×Bool)}{b:Bool}(h:Ro G (aF s) a=some b):(b=true->kB G s a)/\(b=false->Gf G s a):=by
 cases a with
 |none=>simp[Ro] at h;subst h;exact⟨fun _=>trivial,fun h=>by cases h⟩
 |some q=>
  obtain⟨g,c⟩:=q;simp only[Ro,aF] at h;split at h;rename_i j;injection h with h;subst h;exact⟨fun h=>by (cases h),fun _=>.inr j⟩
  obtain⟨d,i,e⟩:=Option.map_eq_some_iff.1 h;refine⟨fun f=>?_,fun f=>.inl ?_⟩
  subst f;simp at e;subst e;exact i;subst f;simp at e;rw[i];cases c<;>cases d<;>simp_all
theorem WR.cons{o:aO}{rest:L aO}(h:WR P G k [o] (fun s=>WR P G k rest Q s) s):WR P G k (o::rest) Q s:=by
 intro opsA l C F γ a w D J x E g I;obtain⟨b,y,rfl,c,m,h3,h4⟩:=oT C;have n:bF P opsA [b]=some [o]:=by
  simp[bF,cH,c,m,h3]
 have:=h opsA [b] n F γ a w D J x E (fun e a w=>match e with | .normal=>wpList P opsA g y a w | e=>g e a w)
  (fun i w' F' γ' U A v z B p=>A opsA y h4 F' γ' i w' z B (x.sub v.sub) p g (fun j u f d t M N O S T=>I j u f d t M (v.trans N) O S T))
 simp only[wpList] at this ⊢;split;rename_i r;rw[if_pos r] at this;rcases this with c|⟨c,i,w',m⟩
 exact .inl (wpQ (fun e a w q h=>by cases e<;>first|exact absurd rfl q|exact h) c)
 exact .inr ⟨c,i,w',m⟩;rename_i r;rw[if_neg r] at this;exact this
theorem Yx{call:aN}(c:cJ P G call){o:aO}{st':AS}(A:kB G s o.guard)(h:aJk call G o (aF s)=some st')(j:∀w,aF w=st'->K w):WR P G k [o] K s:=by
 refine WR.guard A rfl ?_;unfold aJk at h;split at h;rename_i f b e;rw[e];obtain⟨y,d,i⟩:=gE (k:=k) (b.flatMap fun x=>B4 (aM G (aF s).sl x)) s
 simp only at h;rw[<- i] at h;obtain⟨J,objs,av,C,v,l,m,n,q,r,t⟩:=rU c h;refine WR.ghost d (WR.call (o:=⟨o.dst,.call f b,none⟩) trivial rfl l m n q r (fun a o g=>WR.nil (j _ (t a o g))))
 rename_i x b e;rw[e];obtain⟨y,d,i⟩:=gE (k:=k) (b.flatMap fun x=>B4 (aM G (aF s).sl x)) s
 simp only at h;rw[<- i] at h;split at h;rename_i f u B;obtain⟨J,objs,av,C,v,l,m,n,q,r,t⟩:=rU c h;exact WR.ghost d (WR.callv (o:=⟨o.dst,.callv x b,none⟩) trivial rfl B v l m n q r (fun a o g=>WR.nil (j _ (t a o g))))
 cases h;rename_i size len z D e;obtain⟨y,d,i⟩:=gE (k:=k) (D.flatMap fun p=>B4 (aM G (aF s).sl p.2)) s
 rw[<- i] at h;exact WR.ghost d (uT.run (o:=⟨o.dst,o.ai,none⟩) trivial (N9 h j));exact uT.run (o:=⟨o.dst,o.ai,none⟩) trivial (N9 h j)
theorem C7{call:aN}(a:cJ P G call):∀(ops:L aO)(s:AS)(st':AS),Ij call G ops (aF s)=some st'->WR P G k ops (fun g=>aF g=st') s
 |[],s,st',h=>by simp[Ij] at h;exact WR.nil h
 | o::l,s,st',h=>by
  simp only[Ij] at h;obtain⟨b,m,h⟩:=aZT.1 h;have f:=Io m;split at h
  ·rename_i c;split at h
   ·obtain⟨v,i,h⟩:=aZT.1 h;rw[Rp] at h;rw[aEt,rS] at i;exact WR.pur (f.1 c) i (C7 a l ⟨aS s.sl o.dst v,s.hp⟩ st' h)
   ·obtain⟨n,j,h⟩:=aZT.1 h;rw[aNk] at h;exact WR.cons (Yx a (f.1 c) j (fun g e=>C7 a l g st' (by rw[e];exact h)))
  ·rename_i d;rw[Rp] at h;exact WR.skip (f.2 (by simpa using d)) (C7 a l ⟨aS s.sl o.dst (.tup []),s.hp⟩ st' h)
mutual
theorem rnC{ρ:Nat->Nat}:(c:aU)->c.keep (fun _=>true)=true->kT ρ c=c
 |.ptr id o,h=>by simp[aU.keep] at h
 |.bld id o,h=>by simp[aU.keep] at h
 |.ept id i z o,h=>by simp[aU.keep] at h
 |.bls id i z o,h=>by simp[aU.keep] at h
 |.fn f a,h=>by simp only[kT,rnL a (by simpa[aU.keep] using h)]
 |.dc d,h=>rfl
 |.ref cs,h=>rfl
 |.mpc es,h=>rfl
 |.junk,h=>rfl
theorem rnL{ρ:Nat->Nat}:(cs:L aU)->keepL (fun _=>true) cs=true->renL ρ cs=cs
 |[],h=>rfl
 | c::cs,h=>by
  simp only[keepL,aZq] at h;simp only[renL,rnC c h.1,rnL cs h.2]
end
theorem rnT{ρ:Nat->Nat}(t:TV)(h:F4 (fun _=>true) t=true):H7 ρ t=t:=by
 cases t with
 |one c=>simp only[H7,rnC c h]
 |agg cs=>simp only[H7,<- pS,rnL cs h]
theorem rnV{ρ:Nat->Nat}(v:AV)(h:dH (fun _=>true) v=true):dO ρ v=v:=by
 cases v with
 |one c=>simp only[dO,rnC c h]
 |agg cs=>simp only[dO,<- pS,rnL cs h]
 |tup l=>
  simp only[dO];congr 1
  conv=>rhs;rw[<- List.map_id l]
  exact aZC (fun t a=>rnT t (bAr.1 h t a))
 |junk=>rfl
theorem Ar{p:Nat->Bool}:∀(cs:L aU),keepL p cs=true->cs.map (cO p)=cs
 |[],_=>rfl
 | c::cs,h=>by
  simp only[keepL,aZq] at h;rw[aZl,Ar cs h.2];simp[cO,h.1]
theorem Ip{p:Nat->Bool}{v:AV}(h:dH p v=true):bG p v=v:=by
 cases v with
 |one c=>simp only[dH] at h;simp[bG,cO,h]
 |agg cs=>simp only[bG,Ar cs h]
 |tup l=>
  simp only[bG];congr 1
  conv=>rhs;rw[<- List.map_id l]
  exact aZC (fun t a=>by
   have:=bAr.1 h t a;cases t with
   | one c=>simp only[F4] at this;simp[uJ,cO,this]
   | agg cs=>simp only[uJ,Ar cs this,id_eq])
 |junk=>rfl
theorem Iq{p:Nat->Bool}{o:aD}(h:pQ p o=true):cU p o=o:=by
 cases o with
 |box cs=>simp only[cU,Ar cs h]
 |_=>rfl
theorem AC.gh{f:FuncId}{c:L AV}{objs:L aD}{R R':AV->L aD->Prop}(h:AC P G f c objs R) (J:∀av o,R av o->objs.length<=o.length->∃b d,Gh objs.length ⟨[av],o⟩ ⟨[b],d⟩/\objs.length<=d.length/\R' b d):AC P G f c objs R':=by
 intro F γ vs w E D M;refine (h F γ vs w E D M).mono ?_;rintro e w' ⟨r,av,o,F',γ',rfl,B,z,A,y,C⟩;obtain⟨b,d,q,t,u⟩:=J av o B z;obtain⟨j,g,m,n,p,I⟩:=q F' γ' { tmps:=#[r],defers:=[] } w' y ⟨rfl,rfl,fun i a v l x=>by
  cases i with
  | zero=>simp at l x;subst l;subst x;exact C
  | succ i=>simp at l⟩ (by rw[y.len];exact z)
 exact⟨r,b,d,j,g,rfl,u,t,A.trans m,n,p.2.2 0 b r rfl rfl⟩
theorem mZ:∀(a:L Nat)(st:AS),(bZ a st).sl.length=st.sl.length
 |[],st=>rfl
 | id::r,st=>by
  simp only[bZ];split
  ·rw[mZ r];simp
  ·exact mZ r st
theorem aEu{call:aN}(d:cJ P G call){o:aO}{v:AV}(h:evQ call G o (aF s)=some v):∃f b c r,o.ai=.call f b/\QC P G f c r/\∀n,b.map (aM G s.sl)=c.map (dO (cQ [] n))/\v=dO (cQ [] n) r:=by
 unfold evQ at h;split at h;rename_i f b i;split at h;rename_i m;obtain⟨⟨av,D⟩,z,h⟩:=aZT.1 h;simp only at h;split at h;rename_i p;injection h with h
 obtain⟨_,w⟩:=d _ _ _ _ _ z [] rfl;refine⟨f,b,b.map (aM G s.sl),v,i,w.gh (fun a o ⟨h3,h4⟩ _=>?_),fun n=>⟨?_,?_⟩⟩
 subst h3;obtain⟨t,l,A⟩:=gE (k:=0) (kK a) ⟨[a],o⟩;have g:aF t=bZ (kK a) ⟨[a],D⟩:=by rw[A];simp only[aF,h4]
 have e:t.sl.length=1:=by
  have:=congrArg (fun q=>q.sl.length) g
  simp only[aF,mZ] at this;simpa using this
 obtain⟨y,u⟩:=List.length_eq_one_iff.1 e;have j:=Gh.drop (k:=0) (as:=t) 0 (aZe _);refine⟨v,[], ?_,aZx _,rfl,rfl⟩;have B:v=bG (fun id=>decide (0<=id)) y:=by
  rw[<- h,<- g];simp[aF,u]
 have:=l.trans j;rw[u] at this;simpa[B] using this
 ·conv=>lhs;rw[<- List.map_id (b.map (aM G s.sl))]
  exact aZC (fun x C=>(rnV x (bAr.1 m x C)).symm)
 exact (rnV v (by rw[<- h];exact p)).symm;cases h;cases h;cases h
theorem Ir{call:aN}(a:cJ P G call):∀(ops:L (Bool×aO)) (s:AS) (st':AS),evD call G ops (aF s)=some st'->kH P G k (fun s'=>aF s'=st') ops s
 |[],s,st',h=>by simp[evD] at h;exact h
 | (true,o)::l,s,st',h=>by
  simp only[evD] at h;obtain⟨c,q,h⟩:=aZT.1 h;have b:=Io q;cases c with
  | true=>
   simp only[if_true] at h;obtain⟨v,d,h⟩:=aZT.1 h;rw[Rp] at h;refine⟨v,.inr ⟨b.1 rfl, ?_⟩,Ir a l ⟨aS s.sl o.dst v,s.hp⟩ st' h⟩;split at d
   ·have e:(⟨(aF s).sl,N0 o.ai (aF s).hp⟩:AS)=aF ⟨s.sl,N0 o.ai s.hp⟩:=by cases o.ai<;>rfl
    rw[aEt,e,rS] at d;exact .inl d
   ·exact .inr (aEu a d)
  | false=>
   simp only[bAq,if_false,Rp] at h;exact WD.skip (b.2 rfl) (Ir a l ⟨aS s.sl o.dst (.tup []),s.hp⟩ st' h)
 | (false,o)::l,s,st',h=>by
  simp only[evD] at h;obtain⟨c,q,h⟩:=aZT.1 h;have b:=Io q;cases c with
  | true=>
   simp only[if_true,bAq,if_false] at h;obtain⟨C,j,h⟩:=aZT.1 h;rw[aNk] at h;have p:∀ s',aF s'=C->kH P G k (fun s'=>aF s'=st') l s':=fun s' t=>Ir a l s' st' (by rw[t];exact h)
   split at j
   ·rename_i f g i;obtain⟨v,d,A⟩:=Option.map_eq_some_iff.1 j;obtain⟨D,m,n,r,y,z,u⟩:=aEu a d;refine .inr ⟨b.1 rfl, ?_⟩;rw[y];refine⟨_,C0.of z (u _).1,⟨_,_,r,[],⟨rfl,rfl⟩,rfl,rfl⟩, ?_⟩;rintro av os ⟨w,B,⟨rfl,rfl⟩,rfl,rfl⟩;rw[<- (u s.hp.length).2];refine p _ ?_;rw[<- A];simp[aF]
   ·rename_i x g i;exact WD.any (b.1 rfl) (by rw[i];trivial) (Yx a (o:=⟨o.dst,o.ai,none⟩) trivial j p)
   ·exact .inr ⟨b.1 rfl,N9 j p⟩
  | false=>
   simp only[bAq,if_false,Rp] at h;exact WD.skip (b.2 rfl) (Ir a l ⟨aS s.sl o.dst (.tup []),s.hp⟩ st' h)
theorem kH.mono{R b:AS->Prop}(a:∀s,R s->b s):∀(ops:L (Bool×aO)) (s:AS),kH P G k R ops s->kH P G k b ops s
 |[],s,h=>a s h
 |(true,o)::l,s,h=>by obtain⟨v,d,h⟩:=h;exact⟨v,d,kH.mono a l _ h⟩
 |(false,o)::l,s,h=>Eff.mono (fun e c=>kH.mono a l e c) h
theorem Ex{rs:L lK}:uC (aF s) rs=uC s rs:=by
 have a:∀r,gU (aF s) r=gU s r:=by
  intro r;cases r<;>simp only[gU,aF,Ik]
 have b:gU (aF s)=gU s:=funext a;unfold uC;split<;>simp only[b]
def TOK(P:Program)(T:Tbl):Prop:=∀f c d b,T f=some (c,d,b)->Vq P f=true/\∃a,P.funcs[f]?=some a/\a.ntmps=b/\a.body.bind (bN P)=some c/\a.results.toList.mapM (iG P)=some d
theorem Rt{T:Tbl}{l:eK->AS->Option (Exit×AS)}(F:TOK P T)(j:∀c s e st',l c (aF s)=some (e,st')->∀k,AW P G k c (fun m u=>m=e/\aF u=st') s):cJ P G (Md T l):=by
 intro f g hp av U h b p;subst p;unfold Md at h;split at h;rename_i c N r n;obtain⟨I,O,z,A,B,C⟩:=F f c N r n;refine⟨I,?_⟩;obtain⟨⟨e,w⟩,D,h⟩:=aZT.1 h;simp only at h;split at h
 rename_i i;simp only[aZq,decide_eq_true_eq,aY9] at i;obtain⟨v,E,h⟩:=Option.map_eq_some_iff.1 h;have q:AC P G f g b (fun a o=>a=v/\o.map aR=w.hp):=by
  refine AC.of_code z A B C ((j c ⟨g++List.replicate (r - g.length) .junk,b⟩ e w (by simpa[aF] using D) b.length).mono ?_);rintro m u ⟨rfl,rfl⟩;refine⟨?_,by simpa[aF] using i.2,v,by rw[<- Ex];exact E,rfl,rfl⟩;cases m<;>simp[Mc] at i ⊢
 split at h;rename_i d;injection h with h3 h4
 subst h3;simp only[aZq,aY9] at d;refine q.gh (fun a o ⟨M,t⟩ S=>?_)
 subst M;refine⟨a,o.take b.length,?_,by simp only[aZd];omega,rfl,?_⟩
 have:=Gh.drop (k:=b.length) (as:=⟨[a],o⟩) b.length (aZe _);have y:(o.take b.length).map (cU fun id=>decide (b.length<=id))=o.take b.length:=by
  conv=>rhs;rw[<- List.map_id (o.take b.length)]
  refine aZC (fun x J=>Iq ?_)
  have:=bAr.1 d.2 (aR x) (by rw[<- t,<- aZZ];exact List.mem_map.2 ⟨x,J,rfl⟩);rwa[uZ] at this
 simpa[Ip d.1,y] using this;rw[<- h4,aZZ,t,aY9];injection h with h3 h4
 subst h3;subst h4;exact q;cases h;cases h
theorem aOi{T:Tbl}(y:TOK P T):∀(n:Nat)(c:eK)(s:AS)(e:Exit)(st':AS),Ew G T n c (aF s)=some (e,st')->∀k,AW P G k c (fun l i=>l=e/\aF i=st') s:=by
 intro n
 induction n using Nat.strongRecOn with
 |ind n0 u=>
  intro c s e st' h k;cases n0 with
  |zero=>simp[Ew] at h
  |succ n=>
  have q:=u n (Nat.lt_succ_self n);have g:cJ P G (Md T (Ew G T n)):=Rt y q;cases c with
  |bad=>simp only[Ew] at h;cases h
  |drawnF A ops=>simp only[Ew] at h;cases h
  |drawnT t ops=>simp only[Ew] at h;cases h
  |skip=>simp only[Ew,Option.some.injEq,Prod.mk.injEq] at h;obtain⟨rfl,rfl⟩:=h;exact AW.skip ⟨rfl,rfl⟩
  |ret=>simp only[Ew,Option.some.injEq,Prod.mk.injEq] at h;obtain⟨rfl,rfl⟩:=h;exact AW.ret ⟨rfl,rfl⟩
  |exit id=>simp only[Ew,Option.some.injEq,Prod.mk.injEq] at h;obtain⟨rfl,rfl⟩:=h;exact AW.exit ⟨rfl,rfl⟩
  |region ops=>
   simp only[Ew] at h;obtain⟨j,f,d⟩:=Option.map_eq_some_iff.1 h;injection d with d h3
   subst d;subst h3;exact AW.region ((C7 g ops s j f).mono (fun i h=>⟨rfl,h⟩))
  |drawn ops=>
   simp only[Ew] at h;obtain⟨j,f,d⟩:=Option.map_eq_some_iff.1 h;injection d with d h3
   subst d;subst h3;exact AW.drawn (kH.mono (fun i h=>⟨rfl,h⟩) _ _ (Ir g ops s j f))
  |seq a b=>
   simp only[Ew] at h;obtain⟨⟨r,j⟩,f,d⟩:=aZT.1 h;refine AW.seq ((q a s r j f k).mono ?_);rintro l i ⟨rfl,rfl⟩;cases l with
   |normal=>exact q b i e st' d k
   |_=>simp only[Option.some.injEq,Prod.mk.injEq] at d;obtain⟨rfl,rfl⟩:=d;exact⟨rfl,rfl⟩
  |cond c a b=>
   simp only[Ew] at h;obtain⟨t,f,d⟩:=aZT.1 h;refine AW.cond f (fun w=>?_) (fun w=>?_)
   subst w;exact q a s e st' d k;subst w;exact q b s e st' d k
  |block id a=>
   simp only[Ew] at h;obtain⟨⟨r,j⟩,f,d⟩:=Option.map_eq_some_iff.1 h;refine AW.block ((q a s r j f k).mono ?_);rintro l i ⟨rfl,rfl⟩;cases l with
   |exit z=>
    simp only at d ⊢;split at d;rename_i p;injection d with d h3
    subst d;subst h3;rw[if_pos p];exact⟨rfl,rfl⟩;rename_i p;injection d with d h3
    subst d;subst h3;rw[if_neg p];exact⟨rfl,rfl⟩
   |_=>simp only[Prod.mk.injEq] at d;obtain⟨rfl,rfl⟩:=d;exact⟨rfl,rfl⟩
  |loop a=>
   refine AW.loop (α:=Nat) (fun m i=>m<=n+1/\Ew G T m (.loop a) (aF i)=some (e,st')) id (n+1) ⟨aZe _,h⟩ (fun m i x=>?_)
   obtain⟨x,v⟩:=x;cases m with
   |zero=>simp[Ew] at v
   |succ m=>
    simp only[Ew] at v;obtain⟨⟨r,j⟩,f,d⟩:=aZT.1 v;refine (u m (by omega) a i r j f k).mono ?_;rintro l B ⟨rfl,rfl⟩;cases l with
    |normal=>exact⟨m,⟨by omega,d⟩,by simp⟩
    |_=>simp only[Option.some.injEq,Prod.mk.injEq] at d;obtain⟨rfl,rfl⟩:=d;exact⟨rfl,rfl⟩
end
end
section
def As(call:aN)(f:FuncId)(a:L AV):Option AV:=
 (call f a []).bind fun r=>
  let v:=bG (fun id=>decide (0<=id)) ((bZ (kK r.1) ⟨[r.1],r.2⟩).sl.getD 0 .junk)
  if dH (fun _=>true) v then some v else none
section
variable {P:Program}{G:aE}{k:Nat}
theorem QC.quiet{call:aN}(c:cJ P G call){f:FuncId}{b:L AV}{v:AV}(h:As call f b=some v):QC P G f b v:=by
 unfold As at h;obtain⟨⟨av,u⟩,n,h⟩:=aZT.1 h;simp only at h;split at h;rename_i p;injection h with h
 obtain⟨_,m⟩:=c _ _ _ _ _ n [] rfl;refine m.gh (fun a o ⟨h3,h4⟩ _=>?_)
 subst h3;obtain⟨j,i,r⟩:=gE (k:=0) (kK a) ⟨[a],o⟩;have e:aF j=bZ (kK a) ⟨[a],u⟩:=by rw[r];simp only[aF,h4]
 have d:j.sl.length=1:=by
  have:=congrArg (fun q=>q.sl.length) e
  simp only[aF,mZ] at this;simpa using this
 obtain⟨y,l⟩:=List.length_eq_one_iff.1 d;have g:=Gh.drop (k:=0) (as:=j) 0 (aZe _);refine⟨v,[], ?_,aZx _,rfl,rfl⟩;have t:v=bG (fun id=>decide (0<=id)) y:=by
  rw[<- h,<- e];simp[aF,l]
 have:=i.trans g;rw[l] at this;simpa[t] using this;cases h
theorem QC.run{T:Tbl}(b:TOK P T)(n:Nat){f:FuncId}{a:L AV}{v:AV}(h:As (Md T (Ew G T n)) f a=some v):QC P G f a v:=
 QC.quiet (Rt b (aOi b n)) h
end
end
section
open Go.ChangeShapes Go.WideShapes Go.ChangeAt Go.RowKit
section
variable {H:Type}{enc:TypeId×Value->H}{P:Program}{G:aE}
def jE(W:World):Fz:=fun b=>W.heap[b]?
theorem G2(W:World):eG (jE W) [] [] W:=⟨fun _ _ h=>h,rfl,fun i _ _ h=>by simp[cG] at h,fun i _ h=>by simp[cG] at h,fun i _ _ h=>by simp at h⟩
theorem At{W W':World}{k:Nat}{F':Fz}{γ':L OI}(h:iU k (jE W) [] W F' γ' W'):Below W.heap.size W W':=
 ⟨h.os,h.tape,h.output,h.size,fun b a=>h.far b a (fun i h=>by simp[cG] at h)⟩
theorem aBF{f:FuncId}{b:L AV}{a:Array Value}{W:World}(i:QC P G f b (vb true))(h:fZ (jE W) G)(g:mX (jE W) [] b a):Calls P f a W fun e W'=>e=.returned (.bool true)/\Below W.heap.size W W':=by
 refine (i (jE W) [] a W (G2 W) h g).mono ?_;rintro e W' ⟨r,av,o,F',γ',rfl,⟨rfl,rfl⟩,_,c,j,d⟩;exact⟨by rw[cX d],At c⟩
theorem Bs(j:laidOutB P=true){W i:World}{c:Nat->Bool}:∀{f:L TypeId}{vs:L Value}{e:L (DataW H)}{b:L MemPlace},(∀t∈f,P.readableRec t=true/\t<P.types.size)-> DataW.TrodAll enc P W 0 (fun _=>true) true f vs e b->(∀x∈b,W.sameAt i x)->(∀x∈b,c x.block=true)->DataW.TrodAll enc P i 0 c true f vs e b
 | [],vs,e,b,_,h,_,_=>by
  obtain⟨rfl,rfl,rfl⟩:=trodAll_nil h;exact h
 | t::f,vs,e,b,g,h,l,hp=>by
  obtain⟨v,u,d,m,p,q,rfl,rfl,rfl,n,r⟩:=trodAll_cons h;exact⟨p,q,WideElems.Trod_stays j (g t aZt).1 (g t aZt).2 n (fun x a=>l x (List.mem_append_left _ a)) (fun x a=>hp x (List.mem_append_left _ a)),
   Bs j (fun t h=>g t (aZB _ h)) r (fun x a=>l x (List.mem_append_right _ a)) (fun x a=>hp x (List.mem_append_right _ a)),rfl⟩
theorem aBG{f:Func}{s:ChangeSpec}{a m c j:Bool}{W W':World}{args:Array Value}{l I:L (DataW H)}{before:L MemPlace}{tb:TypeId} (T:laidOutB P=true) (F:∀t∈f.params.toList,P.readableRec t=true/\t<P.types.size) (w:s.vars=[]) (u:f.resultTypes=#[tb]) (v:P.underlying tb=some .bool) (y:DataW.Whole enc P f.params.toList s.vars a W args.toList l I before) (D:s.fn H (l++I)={ results:=[.lit (.bool true)],args:=l }) (A:Below W.heap.size W W'):s.post enc P f a m c j W args (.bool true) W':=by
 have n:=fun p hp=>y.lt (p:=p) hp
 have z:=y;obtain⟨p,q,O,M,C,X,U⟩:=y;rw[w] at M;obtain⟨rfl,rfl⟩:=trodVars_none M;have B:before=p:=by simpa using C
 subst B;have e:∀x∈before,W.sameAt W' x:=fun x V=>A.same (n x V)
 have d:∀ h:Nat->Bool,(∀ p∈before,h p.block=true)->DataW.TrodAll enc P W' 0 h true f.params.toList args.toList (s.fn H (l++[])).args before:=fun h E=>by
  rw[D];exact Bs T F O e E
 have i:∀ (b:Nat) (h:Nat->Bool) (N:Bool),DataW.TrodAll enc P W' b h N f.resultTypes.toList ((Value.bool true).resultList f.resultTypes.size) (s.fn H (l++[])).results []:=fun b h N=>by
  rw[D,u];exact trodAll_mk1 (shut_bool v true)
 have r:∀p∈before,(fun b=>decide (b<W.heap.size)) p.block=true:=fun p hp=>by simpa using n p hp
 have g:∀ h:Nat->Bool,DataW.TrodVars enc P W' h s.vars (s.fn H (l++[])).vars []:=fun h=>by
  rw[D,w];first | rfl | trivial | exact⟨rfl,rfl⟩
 refine⟨l,[],before,[],before,[],z,i _ _ _,d _ r,g _,A.frame _,fun _=>?_⟩
 refine⟨?_,_,_,([]++before)++[],⟨[]++before,[],trodAll_append (d _ (fun _ _=>rfl)) (i _ _ _),g _,rfl,?_,?_⟩,?_⟩
 exact ok_one u rfl (by simp[Value.okWide,v,Cell.okWide,Cell.ok]);intro b off hp;have J:=X b off (by simpa using hp);have Y:=e (.cell b off) (by simpa using hp);have h3:=A.block b (n (.cell b off) (by simpa using hp));simp only[World.frozen?] at J ⊢;rw[h3];exact J;intro S;simpa using U S;intro p hp _;simpa using hp
end
end
section
variable {G:aE}
theorem Oa:∀(a:L Nat)(s t:AS),s.sl=t.sl->s.hp=t.hp.map aR->(bZ a s).sl=(bZ a t).sl
 |[],s,t,h,_=>h
 | id::r,s,t,h,b=>by
  simp only[bZ,b,bL];cases aL t.hp id with
  | arr c z es=>
   simp only[aR];refine Oa r _ _ (by simp only[h]) ?_;simp only[aZN,aZG,aR];congr 1;exact aZC (fun o _=>by simp only[Function.comp_apply,pR,Im])
  | box cs=>exact Oa r _ _ h b
  | dead=>exact Oa r _ _ h b
theorem QC.frz{P:Program}{f:FuncId}{b:L AV}{v:AV}{R:AV->L aD->Prop}(h:AC P G f b [] R) (m:∀av o,R av o->bG (fun id=>decide (0<=id)) ((bZ (kK av) ⟨[av],o⟩).sl.getD 0 .junk)=v):QC P G f b v:=by
 refine h.gh (fun a o p _=>?_)
 obtain⟨j,g,n⟩:=gE (k:=0) (kK a) ⟨[a],o⟩;have i:(bZ (kK a) (aF ⟨[a],o⟩)).sl=(bZ (kK a) ⟨[a],o⟩).sl:=Oa (kK a) _ _ rfl rfl;have d:j.sl=(bZ (kK a) ⟨[a],o⟩).sl:=by rw[<- i,<- n];rfl
 have c:j.sl.length=1:=by rw[d,mZ];rfl
 obtain⟨y,l⟩:=List.length_eq_one_iff.1 c;have e:=Gh.drop (k:=0) (as:=j) 0 (aZe _);refine⟨v,[],?_,aZx _,rfl,rfl⟩;have q:v=bG (fun id=>decide (0<=id)) y:=by rw[<- m a o p,<- d,l];rfl
 have:=g.trans e;rw[l] at this;simpa[q] using this
theorem QC.drop{P:Program}{f:FuncId}{b:L AV}{v:AV}(h:AC P G f b [] fun av _=>av=v)(c:bG (fun id=>decide (0<=id)) v=v):QC P G f b v:=by
 refine h.gh (fun a o d _=>?_)
 subst d;refine⟨a,[],?_,aZx _,rfl,rfl⟩;have:=Gh.drop (k:=0) (as:=⟨[a],o⟩) 0 (aZe _);simp only[aZl,aZm,c,bAg] at this;exact this
theorem AC.drop{P:Program}{f:FuncId}{b:L AV}{objs:L aD}{Q:AV->L aD->Prop} (h:AC P G f b objs fun av o=>Q (bG (fun id=>decide (objs.length<=id)) av) ((o.take objs.length).map (cU fun id=>decide (objs.length<=id)))):AC P G f b objs Q:=by
 refine h.gh (fun a o c d=>⟨_,_,(show Gh objs.length ⟨[a],o⟩ _ from Gh.drop objs.length (aZe _)),by simp only[aY9,aZd];omega,c⟩)
end
section
section
variable {P:Program}{G:aE}{k:Nat}{st st':AS}{R:AS->Prop}
structure aBH (o:aD):Prop where
 ren:∀ρ,eL ρ o=o
 kill:∀p,cU p o=o
theorem aBH.arr(cap size:Nat)(es:L (L DC)):aBH (.arr cap size es):=⟨fun _=>rfl,fun _=>rfl⟩
theorem aBH.dcs(a:L DC):aBH (.box (oR a)):=by
 constructor<;>intro p<;>simp only[eL,cU,oR,aZG]<;>congr 1
theorem V2{a:Option Nat}{av:AV}{o:aD}{j:Nat}(h:jC (aL st.hp j)=true):jD [j] st a av [o]=⟨aS st.sl a (dO (cQ [j] st.hp.length) av),st.hp.set j (eL (cQ [j] st.hp.length) o)⟩:=by
 have hp:∀id,(([j]:L Nat).contains id&&!jC (aL st.hp id))=false:=by
  intro id;by_cases b:id=j;subst b;simp[h];simp[b]
 simp only[jD,rP hp,rQ hp,lJ,aZl,aZm,bAC,List.drop_nil,aZ9,aZb,aZc]
theorem WR.callB{o:aO}{rest:L aO}{f:FuncId}{b:L aI}{a:L AV}{j:Nat}{d v:aD}{r z:AV}(p:kB G st o.guard)(A:o.ai=.call f b)
  (g:AC P G f a [d] fun av os=>av=r/\os=[v]) (m:aBH d) (n:aBH v) (w:aL st.hp j=d) (l:jC d=true)
  (c:b.map (aM G st.sl)=a.map (dO (cQ [j] st.hp.length))) (C:dO (cQ [j] st.hp.length) r=z)
  (D:(⟨aS st.sl o.dst z,st.hp.set j v⟩:AS)=st') (h:WR P G k rest R st'):WR P G k (o::rest) R st:=by
 have q:d≠.dead:=by intro e;rw[e] at l;cases l
 refine WR.call (J:=[j]) p A g (by simp) rfl (fun t i x u y=>?_) c (fun av os B=>?_)
 cases t with
 |zero=>simp at u y;subst u;subst y;rw[m.ren];exact fK w q
 |succ t=>simp at u
 obtain⟨rfl,rfl⟩:=B;rw[V2 (by rw[w];exact l),n.ren,C,D];exact h
theorem Gh.nilB{id j:Nat}{cs:L aU}(size:Nat)(D:aL st.hp id=.box cs)(z:cs[j]?=some (cN (.slice none 0 0))):Gh k st ⟨st.sl,st.hp.set id (.box (cs.set j (.bld st.hp.length 0)))++[.arr 0 size []]⟩:=by
 intro F γ a w t J M;have p:=fK D (by simp);have f:id<st.hp.length:=aJ p;obtain⟨d,E⟩:=eG.nilp (k:=k) size t;have n:∀(i:Nat)(o:OI),γ[i]?=some o->(γ++[OI.arr none 0])[i]?=some o:=fun _ _ h=>bX h
 refine⟨F,γ++[OI.arr none 0],E,⟨d.fz,by simp[t.len],d.nd,d.disj,fun i o x e y=>?_⟩,J.ext (fun _ _ h=>h) n,by simp;omega⟩
 by_cases q:id=i;subst q;rw[aZv (by simpa using f),aZH f] at e;injection e with e;subst e
 have g:=d.ok id _ x (by rw[aZv f];exact p) y;cases x with
 |box b=>
  obtain⟨vs,T,I,u,B⟩:=g;refine⟨vs,T,I,by simpa using u,fun m c v l C=>?_⟩
  by_cases A:j=m
  ·subst A;rw[aZH (aJ z)] at l;injection l with l;subst l
   have h3:=B j _ v z C;cases h3 with|dc _ _ h3=>
   cases h3;exact .bldN _ 0 (by rw[<- t.len];simp)
  rw[aZw A] at l;exact B m c v l C
 |arr b c=>exact g.elim
 |dead=>exact g.elim
 refine d.ok i o x ?_ y;by_cases r:i<st.hp.length;rw[aZv (by simpa using r),aZw q] at e;rw[aZv r];exact e;rw[aZD (by simpa using Nat.le_of_not_lt r)] at e;rw[aZD (Nat.le_of_not_lt r)];simpa using e
end
end
section
def stX(G:aE)(st:AS)(size:Nat)(x v:aI):Option AS:=
 match aM G st.sl x with
 |.one (.ptr id off)=>
  match cellsOf (aM G st.sl v) with
  |some vs=>
   match aL st.hp id with
   |.box cs=>if vs.length=size/\off+size<=cs.length then some ⟨st.sl,st.hp.set id (.box (dB cs off vs))⟩ else none
   |_=>none
  |none=>none
 |.one (.ept id i s off)=>
  match (cellsOf (aM G st.sl v)).bind dcs with
  |some a=>
   match aL st.hp id with
   |.arr cap b es=>
    match es[i]? with
    |some e=>if s=b/\a.length=size/\off+size<=e.length then some ⟨st.sl,st.hp.set id (.arr cap b (es.set i (e.take off++a++e.drop (off+size))))⟩ else none
    |none=>none
   |_=>none
  |none=>none
 |_=>none
def zs(z:L Value):Nat->L aU
 |0=>[]
 |n+1=>zs z n++[cN (z.getD (n % z.length) undef)]
def gZ(size:Nat):Nat->L DC->L (L DC)
 |0,_=>[]
 |n+1,a=>a.take size::gZ size n (a.drop size)
def bsX(G:aE)(st:AS)(a:Option Nat)(size len:Nat)(z:L Value)(c:L (Nat×aI)):Option AS:=
 match len with
 |0=>if c.isEmpty then some ⟨aS st.sl a (.one (.bld st.hp.length 0)),st.hp++[.arr 0 size []]⟩ else none
 |len+1=>(iV (zs z ((len+1)*size)) (c.map fun (j,x)=>(j*size,size,aM G st.sl x))).bind fun cs=>(dcs cs).bind fun b=>
  if b.length=(len+1)*size then some ⟨aS st.sl a (vl (gZ size (len+1) b)),st.hp⟩ else none
def exX(G:aE)(st:AS)(o:aO):Option AS:=
 match o.ai with
 |.alloc z=>some ⟨aS st.sl o.dst (.one (.ptr st.hp.length 0)),st.hp++[.box (z.map cN)]⟩
 |.box x=>(cellsOf (aM G st.sl x)).map fun cs=>⟨aS st.sl o.dst (.one (.ptr st.hp.length 0)),st.hp++[.box cs]⟩
 |.store size x v=>match o.dst with|none=>stX G st size x v|some _=>none
 |.bslc size len z a=>bsX G st o.dst size len z a
 |ai=>(dJ G st ai).map fun v=>⟨aS st.sl o.dst v,st.hp⟩
def gO(st:AS)(d:Option Nat):Option AV->Option AS
 |some v=>some ⟨aS st.sl d v,st.hp⟩
 |none=>none
def aOj(st:AS)(d:Option Nat):Option (L aU)->Option AS
 |some cs=>some ⟨aS st.sl d (.one (.ptr st.hp.length 0)),st.hp++[.box cs]⟩
 |none=>none
def stD(G:aE)(st:AS)(size:Nat)(x v:aI):Option Nat->Option AS
 |none=>stX G st size x v
 |some _=>none
def aOk(n size:Nat)(x:AV):Option Int->Option AV
 |some i=>aDH n size x i
 |none=>none
def aJm(hp:L aD)(size:Nat)(x:AV):Option Int->Option AV
 |some i=>Cp hp size x i
 |none=>none
def aJn(x:AV):Option Int->Option AV
 |some i=>Hw x i
 |none=>none
def aOl(n:Nat)(x:AV):Option Int->Option AV
 |some i=>Vl n x i
 |none=>none
def Yy(k:IntKind):Option Int->Option AV
 |some n=>some (dS (.int k (k.wrap n)))
 |none=>none
def Yz:Option ByteArray->Option AV
 |some s=>some (dS (.int .i64 s.size))
 |none=>none
def aJo:Option (L aU)->Option AV
 |some cs=>some (.agg cs)
 |none=>none
def evX(G:aE)(sl:L AV)(hp:L aD):AI->Option AV
 |.mov x=>some (aM G sl x)
 |.pick c a b=>Cq (aM G sl c) (aM G sl a) (aM G sl b)
 |.load g s x=>mR hp g s (aM G sl x)
 |.bin d x y=>fX d (aM G sl x) (aM G sl y)
 |.un d x=>unV d (aM G sl x)
 |.conv k x=>Yy k (bH (aM G sl x))
 |.addo o x=>Fs o (aM G sl x)
 |.ixA n s x i=>aOk n s (aM G sl x) (bH (aM G sl i))
 |.ixL s x i=>aJm hp s (aM G sl x) (bH (aM G sl i))
 |.ixS x i=>aJn (aM G sl x) (bH (aM G sl i))
 |.ixV n x i=>aOl n (aM G sl x) (bH (aM G sl i))
 |.s2p n x=>aBc n (aM G sl x)
 |.build z e=>aJo (iV (z.map cN) (e.map fun (o,s,x)=>(o,s,aM G sl x)))
 |.ext x n=>Vk (aM G sl x) n
 |.lenS x=>Yz (dN (aM G sl x))
 |.lenL x=>tV (aM G sl x)
 |ai=>dJ G ⟨sl,hp⟩ ai
def G3(G:aE)(st:AS)(d:Option Nat):AI->Option AS
 |.alloc z=>some ⟨aS st.sl d (.one (.ptr st.hp.length 0)),st.hp++[.box (z.map cN)]⟩
 |.box x=>aOj st d (cellsOf (aM G st.sl x))
 |.store size x v=>stD G st size x v d
 |.bslc size len z a=>bsX G st d size len z a
 |ai=>gO st d (evX G st.sl st.hp ai)
theorem aEv(G:aE)(sl:L AV)(hp:L aD)(ai:AI):evX G sl hp ai=dJ G ⟨sl,hp⟩ ai:=by
 cases ai<;>first|rfl|skip
 case conv k x=>simp only[evX,dJ];cases bH (aM G sl x)<;>rfl
 case ixA n s x i=>simp only[evX,dJ];cases bH (aM G sl i)<;>rfl
 case ixL s x i=>simp only[evX,dJ];cases bH (aM G sl i)<;>rfl
 case ixS x i=>simp only[evX,dJ];cases bH (aM G sl i)<;>rfl
 case ixV n x i=>simp only[evX,dJ];cases bH (aM G sl i)<;>rfl
 case build z ps=>simp only[evX,dJ];cases iV (z.map cN) (ps.map fun (o,s,x)=>(o,s,aM G sl x))<;>rfl
 case lenS x=>simp only[evX,dJ];cases dN (aM G sl x)<;>rfl
theorem B5(G:aE)(st:AS)(o:aO):G3 G st o.dst o.ai=exX G st o:=by
 obtain⟨d,a,g⟩:=o;have b:gO st d (evX G st.sl st.hp a)=(dJ G st a).map fun v=>⟨aS st.sl d v,st.hp⟩:=by
  rw[aEv];cases dJ G st a<;>rfl
 cases a<;>first|rfl|exact b|skip
 case box x=>simp only[G3,exX];cases cellsOf (aM G st.sl x)<;>rfl
def AI.isCall:AI->Bool
 |.call _ _=>true
 |.callv _ _=>true
 |.app _ _ _ _ _=>true
 |.apps _ _=>true
 |.mk _ _ _ _ _=>true
 |.clr _ _ _=>true
 |.cpys _ _=>true
 |.cvsb _=>true
 |_=>false
def aBJ(G:aE):L aO->AS->Option (L aO×AS)
 |[],st=>some ([],st)
 |o::l,st=>if o.guard=none/\o.ai.isCall=false then (exX G st o).bind fun st'=>aBJ G l st' else some (o::l,st)
def unG:Option (Nat×Bool)->AI->Bool
 |none,a=>!a.isCall
 |some _,_=>false
def aBK(G:aE):L aO->Option AS->Option (L aO×AS)
 |_,none=>none
 |[],some st=>some ([],st)
 |o::l,some st=>bif unG o.guard o.ai then aBK G l (G3 G st o.dst o.ai) else some (o::l,st)
theorem aBL(G:aE)(l:L aO):aBK G l none=none:=by cases l<;>rfl
theorem Y0(G:aE):∀(l:L aO)(st:AS),aBK G l (some st)=aBJ G l st
 |[],st=>rfl
 | o::l,st=>by
  simp only[aBK,aBJ,B5];obtain⟨d,a,g⟩:=o;cases g with
  | some g=>simp[unG]
  | none=>
   cases b:a.isCall with
   | true=>simp[unG,b]
   | false=>
    simp only[unG,b,aZF,cond_true,true_and,if_true];cases exX G st ⟨d,a,none⟩ with
    | none=>simp[aBL]
    | some st'=>simp[Y0 G l st']
def Mf(G:aE)(g:Nat)(b:Bool):L aO->AS->Option (L aO×AS)
 |[],st=>some ([],st)
 |o::l,st=>if o.guard=some (g,b)/\o.ai.isCall=false/\o.dst≠some g then (exX G st o).bind fun st'=>Mf G g b l st' else some (o::l,st)
theorem oV:∀{cs:L aU}{a:L DC},dcs cs=some a->cs=oR a
 |[],a,h=>by simp[dcs] at h;subst h;rfl
 | .dc d::cs,a,h=>by
  simp only[dcs] at h;cases b:dcs cs with
  | none=>simp_all
  | some c=>
   simp only[b,aZf,Option.some.injEq] at h;subst h;rw[oV b];rfl
 |.ptr _ _::cs,a,h=>by simp[dcs] at h
 |.bld _ _::cs,a,h=>by simp[dcs] at h
 |.ept _ _ _ _::cs,a,h=>by simp[dcs] at h
 |.bls _ _ _ _::cs,a,h=>by simp[dcs] at h
 |.ref _::cs,a,h=>by simp[dcs] at h
 |.mpc _::cs,a,h=>by simp[dcs] at h
 |.fn _ _::cs,a,h=>by simp[dcs] at h
 |.junk::cs,a,h=>by simp[dcs] at h
theorem Mg(z:L Value):∀n,zs z n=(List.range n).map fun i=>cN (z.getD (i % z.length) undef)
 |0=>rfl
 |n+1=>by rw[zs,Mg z n,List.range_succ,aZQ];rfl
theorem nA(size:Nat):∀(n:Nat)(a:L DC),a.length=n*size->(gZ size n a).flatten=a/\(∀e∈gZ size n a,e.length=size)/\(gZ size n a).length=n
 |0,a,h=>by grind[gZ]
 | n+1,a,h=>by
  have f:a.length=n * size+size:=by grind
  obtain⟨b,d,h3⟩:=nA size n (a.drop size) (by grind);refine⟨by simp[gZ,b],fun e c=>?_,by simp[gZ,h3]⟩
  simp only[gZ,bAl] at c
  grind
section
variable {P:Program}{G:aE}{k:Nat}{st st':AS}{R:AS->Prop}
theorem WR.bsX{o:aO}{rest:L aO}{size len:Nat}{z:L Value}{a:L (Nat×aI)}(b:kB G st o.guard)(d:o.ai=.bslc size len z a) (h:Go.Proofs.YtalhnjjchkmfeabGreatDoor.bsX G st o.dst size len z a=some st') (f:WR P G k rest R st'):WR P G k (o::rest) R st:=by
 unfold Go.Proofs.YtalhnjjchkmfeabGreatDoor.bsX at h;cases len with
 |zero=>
  simp only at h;split at h;rename_i i;injection h with h;subst h
  have c:a=[]:=by simp_all
  subst c;exact WR.bslc (es:=[]) b d (by simp[iV,oR]) (by simp) rfl f;cases h
 |succ len=>
  simp only at h;cases hf:iV (zs z ((len+1)*size)) (a.map fun (j,x)=>(j*size,size,aM G st.sl x)) with
  |none=>simp_all
  |some cs=>
   simp only[hf,aZs] at h;cases e:dcs cs with
   |none=>simp_all
   |some g=>
    simp only[e,aZs] at h;grind[nA,Mg,WR.bslcF,gZ,oV]
theorem WR.stX{o:aO}{rest:L aO}{size:Nat}{x v:aI}(d:kB G st o.guard)(f:o.ai=.store size x v)(c:o.dst=none) (h:Go.Proofs.YtalhnjjchkmfeabGreatDoor.stX G st size x v=some st') (q:WR P G k rest R st'):WR P G k (o::rest) R st:=by
 unfold Go.Proofs.YtalhnjjchkmfeabGreatDoor.stX at h;split at h;grind[id,WR.store];rename_i id i s off r;split at h;rename_i t p;split at h;rename_i cap u es g;split at h;rename_i e n;split at h;rename_i j;injection h with h;subst h
 obtain⟨rfl,a,b⟩:=j;obtain⟨cs,l,m⟩:=aZT.1 p;exact WR.storeE d f c r (by grind[oV]) g n a b rfl q;cases h;cases h;cases h;cases h;cases h
theorem WR.exX{o:aO}{rest:L aO}(a:kB G st o.guard)(g:o.ai.isCall=false)(h:Go.Proofs.YtalhnjjchkmfeabGreatDoor.exX G st o=some st')(b:WR P G k rest R st'):WR P G k (o::rest) R st:=by
 obtain⟨c,f,i⟩:=o;cases f<;>first|(simp[AI.isCall] at g;done)|skip
 case alloc z=>simp only[Go.Proofs.YtalhnjjchkmfeabGreatDoor.exX,Option.some.injEq] at h;subst h;exact WR.alloc a rfl b
 case box x=>
  simp only[Go.Proofs.YtalhnjjchkmfeabGreatDoor.exX] at h;obtain⟨cs,e,rfl⟩:=Option.map_eq_some_iff.1 h;exact WR.box a rfl e b
 case store size x v=>
  simp only[Go.Proofs.YtalhnjjchkmfeabGreatDoor.exX] at h;cases c with
  |none=>exact WR.stX a rfl rfl h b
  |some d=>cases h
 case bslc size len z ps=>exact WR.bsX a rfl h b
 all_goals
  simp only[Go.Proofs.YtalhnjjchkmfeabGreatDoor.exX] at h;obtain⟨v,e,rfl⟩:=Option.map_eq_some_iff.1 h;exact WR.pur a e b
theorem aJp{o:aO}{g:Nat}(f:o.ai.isCall=false)(b:o.dst≠some g)(h:exX G st o=some st'):aM G st'.sl (.t g)=aM G st.sl (.t g):=by
 obtain⟨a,c,i⟩:=o;cases c<;>first|(simp[AI.isCall] at f;done)|skip
 case alloc z=>grind[exX,Option.some.injEq,qR]
 case box x=>
  simp only[exX] at h;obtain⟨cs,e,rfl⟩:=Option.map_eq_some_iff.1 h;exact qR b
 case store size x v=>
  simp only[exX] at h;cases a with
  |some d=>cases h
  |none=>
   simp only[stX] at h;grind
 case bslc size len z ps=>
  simp only[exX,bsX] at h;grind[qR,Option.bind_eq_some_iff]
 all_goals
  simp only[exX] at h;obtain⟨v,e,rfl⟩:=Option.map_eq_some_iff.1 h;exact qR b
theorem WR.rX:∀(ops:L aO)(st:AS)(rest:L aO)(st':AS),aBJ G ops st=some (rest,st')->WR P G k rest R st'->WR P G k ops R st
 |[],st,rest,st',h,a=>by simp[aBJ] at h;obtain⟨rfl,rfl⟩:=h;exact a
 | o::ops,st,rest,st',h,a=>by
  simp only[aBJ] at h;split at h
  ·rename_i b;obtain⟨e,c,d⟩:=aZT.1 h;exact WR.exX (by rw[b.1];trivial) b.2 c (WR.rX ops e rest st' d a)
  ·simp_all
theorem WR.rGX{g:Nat}{b:Bool}:∀(ops:L aO)(st:AS)(rest:L aO)(st':AS),cP (aM G st.sl (.t g))=some b->Mf G g b ops st=some (rest,st')->WR P G k rest R st'->WR P G k ops R st
 |[],st,rest,st',c,h,a=>by simp[Mf] at h;obtain⟨rfl,rfl⟩:=h;exact a
 | o::ops,st,rest,st',c,h,a=>by
  simp only[Mf] at h;split at h
  ·rename_i d;obtain⟨i,e,f⟩:=aZT.1 h;exact WR.exX (by rw[d.1];exact c) d.2.1 e (WR.rGX ops i rest st' (by grind[aJp]) f a)
  ·simp_all
def nq:Nat->Nat->Bool
 |0,0=>true
 |0,_+1=>false
 |_+1,0=>false
 |n+1,m+1=>nq n m
theorem jT:∀a b:Nat,nq a b=(a==b)
 |0,0=>rfl
 |0,b+1=>by simp[nq]
 |a+1,0=>by simp[nq]
 |a+1,b+1=>by simp_all[nq,jT,bAv]
def V3:Option Nat->Nat->Bool
 |none,_=>true
 |some d,g=>!(nq d g)
def eqb:Bool->Bool->Bool
 |true,true=>true
 |false,false=>true
 |_,_=>false
theorem Ob(d:Option Nat)(g:Nat):V3 d g=decide (d≠some g):=by
 cases d with
 |none=>simp[V3]
 |some d=>grind[V3,jT]
theorem Ey(a b:Bool):eqb a b=(a==b):=by cases a<;>cases b<;>rfl
def guG(g:Nat)(b:Bool):Option (Nat×Bool)->Option Nat->AI->Bool
 |some (c,b'),d,a=>nq g c&&(eqb b b'&&!a.isCall&&V3 d g)
 |none,_,_=>false
def Mh(G:aE)(g:Nat)(b:Bool):L aO->Option AS->Option (L aO×AS)
 |_,none=>none
 |[],some st=>some ([],st)
 |o::l,some st=>bif guG g b o.guard o.dst o.ai then Mh G g b l (G3 G st o.dst o.ai) else some (o::l,st)
theorem V4(G:aE)(g:Nat)(b:Bool)(l:L aO):Mh G g b l none=none:=by cases l<;>rfl
theorem Ru(G:aE)(g:Nat)(b:Bool):∀(l:L aO)(st:AS),Mh G g b l (some st)=Mf G g b l st
 |[],st=>rfl
 | o::l,st=>by
  obtain⟨d,a,c⟩:=o;simp only[Mh,Mf];have e:G3 G st d a=exX G st ⟨d,a,c⟩:=B5 G st ⟨d,a,c⟩;rw[e];have h:guG g b c d a=decide (c=some (g,b)/\a.isCall=false/\d≠some g):=by
   cases c with
   | none=>simp[guG]
   | some q=>
    obtain⟨i,b'⟩:=q;simp only[guG,Ob,Ey,jT];rw[bAv];simp only[aZq,beq_iff_eq,bAb,decide_eq_true_eq,Option.some.injEq,Prod.mk.injEq];constructor
    ·simp_all
    ·simp_all
  rw[h];by_cases f:c=some (g,b)/\a.isCall=false/\d≠some g
  ·simp only[decide_eq_true f,cond_true,if_pos f];cases exX G st ⟨d,a,c⟩ with
   | none=>simp[V4]
   | some st'=>simp[Ru G g b l st']
  ·grind
theorem WR.x1{o:aO}{ops rest:L aO}(_:o.guard=none)(_:o.ai.isCall=false)(h:aBK G (o::ops) (some st)=some (rest,st'))(a:WR P G k rest R st'):WR P G k (o::ops) R st:=WR.rX _ _ _ _ (by grind[Y0]) a
theorem WR.xg{o:aO}{ops rest:L aO}{g:Nat}{b:Bool}(_:o.guard=some (g,b))(_:o.ai.isCall=false)(a:cP (aM G st.sl (.t g))=some b)(h:Mh G g b (o::ops) (some st)=some (rest,st'))(c:WR P G k rest R st'):WR P G k (o::ops) R st:=WR.rGX _ _ _ _ a (by grind[Ru]) c
def aOm:AI->Bool
 |.alloc _=>true
 |.box _=>true
 |.store _ _ _=>true
 |_=>false
def V5:Bool->AI->Bool
 |true,a=>uW a
 |false,a=>aOm a
def Mi(G:aE):L (Bool×aO)->AS->Option (L (Bool×aO)×AS)
 |[],st=>some ([],st)
 |(b,o)::l,st=>if o.guard=none/\V5 b o.ai=true then (exX G st o).bind fun st'=>Mi G l st' else some ((b,o)::l,st)
def Bu(G:aE):L (Bool×aO)->Option AS->Option (L (Bool×aO)×AS)
 |_,none=>none
 |[],some st=>some ([],st)
 |o::l,some st=>bif unGD o.2.guard o.1 o.2.ai then Bu G l (G3 G st o.2.dst o.2.ai) else some (o::l,st)
where unGD:Option (Nat×Bool)->Bool->AI->Bool
 |none,b,ai=>V5 b ai
 |some _,_,_=>false
theorem V6(G:aE)(l:L (Bool×aO)):Bu G l none=none:=by cases l<;>rfl
theorem Rv(G:aE):∀(l:L (Bool×aO)) (st:AS),Bu G l (some st)=Mi G l st
 |[],st=>rfl
 | o::l,st=>by
  obtain⟨b,d,a,g⟩:=o;simp only[Bu,Mi];have e:G3 G st d a=exX G st ⟨d,a,g⟩:=B5 G st ⟨d,a,g⟩;rw[e];cases g with
  | some g=>simp[Bu.unGD]
  | none=>
   cases c:V5 b a with
   | false=>simp[Bu.unGD,c]
   | true=>
    simp only[Bu.unGD,c,cond_true,true_and,if_true];cases exX G st ⟨d,a,none⟩ with
    | none=>simp[V6]
    | some st'=>simp[Rv G l st']
theorem Rw{o:aO}(h:o.ai.isPure=true):exX G st o=(dJ G st o.ai).map fun v=>⟨aS st.sl o.dst v,st.hp⟩:=by
 obtain⟨b,a,c⟩:=o;cases a<;>first|(simp[AI.isPure] at h;done)|rfl
theorem WD.rX:∀(ops:L (Bool×aO)) (st:AS) (rest:L (Bool×aO)) (st':AS),Mi G ops st=some (rest,st')->kH P G k R rest st'->kH P G k R ops st
 |[],st,rest,st',h,t=>by simp[Mi] at h;obtain⟨rfl,rfl⟩:=h;exact t
 | (b,o)::ops,st,rest,st',h,t=>by
  simp only[Mi] at h;split at h
  ·rename_i c;obtain⟨C,a,A⟩:=aZT.1 h;have f:=WD.rX ops C rest st' A t;obtain⟨r,hp⟩:=c;cases b with
   | true=>
    simp only[V5] at hp;rw[Rw (Ih hp)] at a;obtain⟨v,g,rfl⟩:=Option.map_eq_some_iff.1 a;exact⟨v,.inr ⟨by rw[r];trivial,.inl (by rw[Eu hp];exact g)⟩,f⟩
   | false=>
    simp only[V5] at hp;obtain⟨j,w,D⟩:=o;simp only at r;subst r;cases w<;>first | (grind[aOm]) | skip
    case alloc z=>simp only[exX,Option.some.injEq] at a;subst a;exact WD.allocE trivial rfl rfl f
    case box x=>
     simp only[exX] at a;obtain⟨cs,h3,rfl⟩:=Option.map_eq_some_iff.1 a;exact WD.boxE trivial rfl h3 rfl f
    case store size x v=>
     simp only[exX] at a;cases j with
     | some d=>cases a
     | none=>
      simp only[stX] at a;split at a
      ·rename_i id off u;split at a
       ·rename_i vs g;split at a
        ·rename_i cs l;split at a
         ·rename_i c;injection a with a
          exact WD.storeX trivial rfl rfl u g l c.1 c.2 a f
         ·cases a
        ·cases a
       ·cases a
      ·rename_i id i s off u;split at a
       ·rename_i y g;split at a
        ·rename_i cap E es l;split at a
         ·rename_i e B;split at a
          ·rename_i c;injection a with a;subst a
           obtain⟨rfl,m,n⟩:=c;obtain⟨cs,p,q⟩:=aZT.1 g;exact .inr ⟨trivial,rfl,.inr ⟨id,i,s,off,cap,es,e,y,u,by rw[p,oV q],l,B,m,n,f⟩⟩
          ·cases a
         ·cases a
        ·cases a
       ·cases a
      ·cases a
  ·simp_all
theorem WD.x1{b:Bool}{o:aO}{ops rest:L (Bool×aO)}(_:o.guard=none)(_:V5 b o.ai=true)(h:Bu G ((b,o)::ops) (some st)=some (rest,st'))(a:kH P G k R rest st'):kH P G k R ((b,o)::ops) st:=WD.rX _ _ _ _ (by grind[Rv]) a
def guD(g:Nat)(c:Bool):Bool->Option (Nat×Bool)->Option Nat->AI->Bool
 |true,some (e,b),d,a=>nq g e&&(eqb c b&&uW a&&V3 d g)
 |_,_,_,_=>false
def Mj(G:aE)(g:Nat)(c:Bool):L (Bool×aO)->Option AS->Option (L (Bool×aO)×AS)
 |_,none=>none
 |[],some st=>some ([],st)
 |o::l,some st=>bif guD g c o.1 o.2.guard o.2.dst o.2.ai then Mj G g c l (G3 G st o.2.dst o.2.ai) else some (o::l,st)
theorem V7(G:aE)(g:Nat)(c:Bool)(l:L (Bool×aO)):Mj G g c l none=none:=by cases l<;>rfl
theorem Rz(G:aE)(g:Nat)(c:Bool):∀(l:L (Bool×aO)) (st:AS),Mj G g c l (some st)=Mb G g c l st
 |[],st=>rfl
 | o::l,st=>by
  obtain⟨b,d,a,f⟩:=o;simp only[Mj,Mb];have i:guD g c b f d a=decide (b=true/\f=some (g,c)/\uW a=true/\d≠some g):=by
   cases f with
   | none=>cases b<;>simp[guD]
   | some q=>
    obtain⟨m,j⟩:=q;cases b with
    | false=>simp[guD]
    | true=>
     simp only[guD,Ob,Ey,jT];rw[bAv];simp only[aZq,beq_iff_eq,decide_eq_true_eq,Option.some.injEq,Prod.mk.injEq,true_and];constructor
     ·simp_all
     ·simp_all
  rw[i];by_cases h:b=true/\f=some (g,c)/\uW a=true/\d≠some g
  ·simp only[decide_eq_true h,cond_true,if_pos h];have e:G3 G st d a=exX G st ⟨d,a,f⟩:=B5 G st ⟨d,a,f⟩;rw[e,Rw (o:=⟨d,a,f⟩) (Ih h.2.2.1)];cases dJ G st a with
   | none=>simp[V7]
   | some v=>simp[Rz G g c l]
  ·grind
theorem WD.xg{b:Bool}{o:aO}{ops rest:L (Bool×aO)}{g:Nat}{c:Bool}(_:o.guard=some (g,c))(_:o.ai.isPure=true)(a:cP (aM G st.sl (.t g))=some c)(h:Mj G g c ((b,o)::ops) (some st)=some (rest,st'))(d:kH P G k R rest st'):kH P G k R ((b,o)::ops) st:=WD.runG _ _ _ _ a (by grind[Rz]) d
def skO(g:Nat)(c:Bool):Option (Nat×Bool)->Option Nat->Bool
 |some (b,a),d=>nq g b&&(eqb c a&&V3 d g)
 |none,_=>false
theorem aEw(g:Nat)(c:Bool)(a:Option (Nat×Bool))(d:Option Nat):skO g c a d=decide (a=some (g,c)/\d≠some g):=by
 cases a with
 |none=>simp[skO]
 |some q=>
  obtain⟨e,b⟩:=q;simp only[skO,Ob,Ey,jT];grind
def skY(g:Nat)(c:Bool):L aO->AS->L aO×AS
 |[],st=>([],st)
 |o::l,st=>bif skO g c o.guard o.dst then skY g c l ⟨aS st.sl o.dst (.tup []),st.hp⟩ else (o::l,st)
theorem aEx(g:Nat)(c:Bool):∀(l:L aO)(st:AS),skY g c l st=skipG g c l st
 |[],st=>rfl
 | o::l,st=>by
  simp only[skY,skipG,aEw];by_cases a:o.guard=some (g,c)/\o.dst≠some g
  ·simp_all[decide_eq_true,cond_true,if_pos,aEx]
  grind
def aEy(g:Nat)(c:Bool):L (Bool×aO)->AS->L (Bool×aO)×AS
 |[],st=>([],st)
 |o::l,st=>bif skO g c o.2.guard o.2.dst then aEy g c l ⟨aS st.sl o.2.dst (.tup []),st.hp⟩ else (o::l,st)
theorem Y1(g:Nat)(c:Bool):∀(l:L (Bool×aO)) (st:AS),aEy g c l st=Ev g c l st
 |[],st=>rfl
 | (b,o)::l,st=>by
  simp only[aEy,Ev,aEw];by_cases a:o.guard=some (g,c)/\o.dst≠some g
  ·simp_all[decide_eq_true,cond_true,if_pos,Y1]
  grind
def gN(c:Bool):AV->Bool
 |.one (.dc (.raw (.bool b)))=>eqb b (!c)
 |.tup []=>true
 |_=>false
theorem aNm{g:Nat}{c:Bool}(h:gN c (aM G st.sl (.t g))=true):Gf G st (some (g,c)):=by
 show cP (aM G st.sl (.t g))=some (!c)\/aM G st.sl (.t g)=.tup [];generalize aM G st.sl (.t g)=v at h;unfold gN at h;split at h;rename_i b;rw[Ey,beq_iff_eq] at h;subst h;exact .inl rfl;all_goals simp_all
theorem WR.xs{o:aO}{ops rest:L aO}{g:Nat}{c:Bool}(_:o.guard=some (g,c))(a:gN c (aM G st.sl (.t g))=true)(h:skY g c (o::ops) st=(rest,st'))(b:WR P G k rest R st'):WR P G k (o::ops) R st:=WR.skipG _ _ _ _ (aNm a) (by grind[aEx]) b
theorem WD.xs{b:Bool}{o:aO}{ops rest:L (Bool×aO)}{g:Nat}{c:Bool}(_:o.guard=some (g,c))(a:gN c (aM G st.sl (.t g))=true)(h:aEy g c ((b,o)::ops) st=(rest,st'))(d:kH P G k R rest st'):kH P G k R ((b,o)::ops) st:=WD.skipG _ _ _ _ (aNm a) (by grind[Y1]) d
end
theorem aW6(a b:Nat):nq a b=decide (a=b):=by rw[jT];rfl
attribute [go_sem] eq_self decide_true decide_false uW aW6 V3 skO skY aEy gN Mj guD aBK Mh Bu Bu.unGD unG guG cond_true cond_false G3 evX stD aOk aJm aJn Yy Yz aJo aOm V5 stX bsX zs gZ dcs AI.isCall iV uB bAK List.isEmpty_nil List.isEmpty_cons
end
section
theorem ifp{c:Prop}[Decidable c]{α:Sort _}{a b:α}(h:c):ite c a b=a:=if_pos h
theorem ifn{c:Prop}[Decidable c]{α:Sort _}{a b:α}(h:¬ c):ite c a b=b:=if_neg h
section
variable {P:Program}{G:aE}{k:Nat}{st st':AS}{R:AS->Prop}{o:aO}{rest:L aO}
theorem VLe.int{k:IntKind}{a b:Int}(h:a=b):VLe (.one (.dc (.raw (.int k a)))) (.one (.dc (.raw (.int k b)))):=by subst h;exact .refl _
def tW:Nat->L AV
 |0=>[]
 |n+1=>.junk::tW n
theorem R0:∀n,tW n=List.replicate n .junk
 |0=>rfl
 |n+1=>by rw[tW,R0 n,List.replicate_succ]
theorem AC.of_codeJ{f:FuncId}{b:Func}{n:Nat}{d:L lK}{c:eK}{a:L AV}{objs:L aD}{Q:AV->L aD->Prop}(hf:P.funcs[f]?=some b)(g:b.ntmps=n) (e:b.body.bind (bN P)=some c) (i:b.results.toList.mapM (iG P)=some d) (h:AW P G objs.length c (Fin objs.length d Q) ⟨a++tW (n-a.length),objs⟩):AC P G f a objs Q:=AC.of_codeF hf g e i (by rw[<- R0];exact h)
def nzC:aU->aU
 |.dc (.raw (.slice none 0 0))=>.dc (.slc [])
 |.dc (.ptr cs)=>.ref cs
 |c=>c
def nzT:TV->TV
 |.one c=>.one (nzC c)
 |.agg cs=>.agg (cs.map nzC)
def Gj:AV->AV
 |.one c=>.one (nzC c)
 |.agg cs=>.agg (cs.map nzC)
 |.tup l=>.tup (l.map nzT)
 |.junk=>.junk
theorem V8{F:Fz}{γ:L OI}{c:aU}{v:Value}(h:RC F γ c v):RC F γ (nzC c) v:=by
 unfold nzC;split;cases h with|dc _ _ h=>cases h with|raw _ h=>exact .dc _ _ (.nil _ _)
 cases h with|dc _ _ h=>cases h with|ptr _ b off g d a=>exact .ref _ b off g d a
 exact h
theorem Y2{F:Fz}{γ:L OI}{cs:L aU}{vs:Array Value}(h:∀(i:Nat) c v,cs[i]?=some c->vs[i]?=some v->RC F γ c v):∀(i:Nat) c v,(cs.map nzC)[i]?=some c->vs[i]?=some v->RC F γ c v:=by
 intro i c v a e;rw[aZj] at a;obtain⟨b,d,rfl⟩:=Option.map_eq_some_iff.1 a;exact V8 (h i b v d e)
theorem aEA{F:Fz}{γ:L OI}{a:AV}{v:Value}(h:RV F γ a v):RV F γ (Gj a) v:=by
 cases h with
 |one c v h=>exact .one _ _ (V8 h)
 |agg cs vs b h=>exact .agg _ _ (by simpa using b) (Y2 h)
 |tup l vs b h=>
  refine .tup _ _ (by simpa using b) (fun i t v d f=>?_)
  rw[aZj] at d;obtain⟨g,e,rfl⟩:=Option.map_eq_some_iff.1 d;cases h i g v e f with
  |one c v h=>exact .one _ _ (V8 h)
  |agg cs vs b h=>exact .agg _ _ (by simpa using b) (Y2 h)
 |junk v=>exact .junk v
theorem AC.nz{f:FuncId}{b:L AV}{objs:L aD}{Q:AV->L aD->Prop}(h:AC P G f b objs fun av os=>Q (Gj av) os):AC P G f b objs Q:=by
 refine h.gh (fun a os m l=>⟨Gj a,os,?_,l,m⟩)
 intro F γ n w g d j;refine⟨F,γ,iU.refl _ _ _ _,g,⟨d.1,d.2.1,fun i av v c e=>?_⟩,j⟩
 cases i with
 |zero=>simp at c;subst c;exact aEA (d.2.2 0 a v rfl e)
 |succ i=>simp at c
def bsD(G:aE)(st:AS)(a:Option Nat)(size len:Nat)(z:L Value)(c:L (Nat×aI)):Option AS:=
 (iV (zs z (len*size)) (c.map fun (j,x)=>(j*size,size,aM G st.sl x))).bind fun cs=>(dcs cs).bind fun b=>
  if b.length=len*size then some ⟨aS st.sl a (.one (.bld st.hp.length len)),st.hp++[.arr len size (gZ size len b)]⟩ else none
theorem WD.bs{b:aO}{l:L (Bool×aO)}{size len:Nat}{z:L Value}{d:L (Nat×aI)}(a:kB G st b.guard)(g:b.ai=.bslc size len z d) (h:bsD G st b.dst size len z d=some st') (m:kH P G k R l st'):kH P G k R ((false,b)::l) st:=by
 unfold bsD at h;obtain⟨cs,hf,h⟩:=aZT.1 h;obtain⟨c,i,h⟩:=aZT.1 h;split at h;rename_i j;injection h with h
 obtain⟨e,f,h3⟩:=nA size len c j;rw[Mg] at hf;exact WD.bslcE (es:=gZ size len c) a g (by rw[e,<- oV i];exact hf) f h3 h m;cases h
def gK(b:Bool):AV->Option Bool
 |.one (.dc (.raw (.bool c)))=>some (eqb c b)
 |.tup []=>some false
 |_=>none
theorem aJr{g:Nat}{b:Bool}(h:gK b (aM G st.sl (.t g))=some true):cP (aM G st.sl (.t g))=some b:=by
 generalize aM G st.sl (.t g)=v at h;unfold gK at h;split at h;rename_i c;injection h with h;rw[Ey,beq_iff_eq] at h;subst h;rfl
 cases h;cases h
theorem aEB{g:Nat}{b:Bool}(h:gK b (aM G st.sl (.t g))=some false):Gf G st (some (g,b)):=by
 show cP (aM G st.sl (.t g))=some (!b)\/aM G st.sl (.t g)=.tup [];generalize aM G st.sl (.t g)=v at h;unfold gK at h;split at h;rename_i c;injection h with h;rw[Ey] at h;left;cases b<;>cases c<;>first|rfl|cases h
 exact .inr rfl;cases h
end
attribute [go_sem] nzC nzT Gj List.map_replicate bsD bAD Int.cast_ofNat_Int decide_true decide_false kB bAq if_false aZz aZF aZJ aZS Bool.and_true Bool.and_false Et ifp ifn aZi
attribute [go_sem] decide_eq_false_iff_not aZq Bool.or_eq_true bAb Bool.not_eq_false' beq_iff_eq bne_iff_ne ne_eq beq_eq_false_iff_ne bne_eq_false_iff_eq Bool.true_eq_false Bool.and_eq_false_iff Bool.or_eq_false_iff Decidable.not_not aZ3 Int.natCast_one
attribute [go_sem] aZ2 Nat.one_mul Nat.zero_mul Nat.mul_zero Nat.mod_one Nat.zero_mod bAa Int.toNat_zero Int.toNat_one List.length_singleton
