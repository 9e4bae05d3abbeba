/- Part. Conditions: none. -/
import Derived.Test.YtalhnjjchkmfeaaGreatDoorLt
import Derived.ProofKit
namespace Go.Proofs.YtalhnjjchkmfeaaGreatDoor
set_option linter.unusedSimpArgs false
set_option linter.unusedVariables false
section
section
variable {P:Program}{G:aF}{k:Nat}{hp:L aD}{s:AS}{K Q:AS->Prop}
theorem bL(id:Nat):aL (hp.map aP) id=aP (aL hp id):=by
 unfold aL;simp only[aZN,aZI];cases hp[id]?<;>rfl
theorem I5{g:Bool}{n:Nat}{x:AV}:mK (hp.map aP) g n x=mK hp g n x:=by
 unfold mK;split;simp only[bL];cases aL hp _<;>rfl;simp only[bL];cases aL hp _<;>rfl;rfl;rfl
theorem Wz{x:AV}:nZ (hp.map aP) x=nZ hp x:=by
 unfold nZ;split;rfl;rfl;simp only[bL];cases aL hp _<;>rfl;simp only[bL];cases aL hp _<;>rfl;rfl
theorem aCf{n:Nat}{x:AV}{i:Int}:Cv (hp.map aP) n x i=Cv hp n x i:=by
 unfold Cv;split;rfl;simp only[bL];cases aL hp _<;>rfl;simp only[bL];cases aL hp _<;>rfl;rfl
theorem aCg{n:Nat}{x:AV}{l r:Option AV}:lM (hp.map aP) n x l r=lM hp n x l r:=by
 unfold lM;split;rfl;rfl;simp only[bL];cases aL hp _<;>cases l<;>rfl;simp only[bL];cases aL hp _<;>rfl;rfl
theorem Av{x:AV}:sF (hp.map aP) x=sF hp x:=by
 unfold sF;split;rfl;rfl;simp only[bL];cases aL hp _<;>rfl;rfl
theorem rG{ai:AI}:dL G (aE s) ai=dL G s ai:=by
 cases ai<;>simp only[dL,aE,I5,Wz,aCf,aCg]
theorem aE6{st:AS}{ai:AI}:evF G st ai=dL G st ai:=by
 unfold evF;split;split;rename_i a b;simp only[dL,a,b,fX,Sc];rfl;rfl;split;rename_i a b;simp only[dL,a,b,fX,Sc];rfl;rfl;rfl
theorem I6:∀(cs:L aV)(a:L DC),I3 cs=some a->cs=kY a
 |[],a,h=>by simp[I3] at h;subst h;rfl
 | c::cs,a,h=>by
  cases c with
  | dc d=>
   simp only[I3] at h;obtain⟨b,e,rfl⟩:=Option.map_eq_some_iff.1 h;rw[I6 cs b e];rfl
  | _=>simp[I3] at h
theorem M6{size:Nat}:∀(n:Nat)(l:L DC),l.length=n*size->(sK size n l).flatten=l/\(sK size n l).length=n/\∀e∈sK size n l,e.length=size
 | 0,l,h=>by
  have:l=[]:=bAL (by simpa using h);subst this;exact⟨rfl,rfl,fun e a=>by cases a⟩
 | n+1,l,h=>by
  have d:(n+1) * size=n * size+size:=Nat.succ_mul n size;obtain⟨b,c,h3⟩:=M6 (size:=size) n (l.drop size) (by simp;omega);refine⟨?_,by simp[sK,c],fun e a=>?_⟩
  ·simp only[sK,bAx,b,bAH]
  ·simp only[sK,bAQ] at a;rcases a with rfl | a
   ·simp;omega
   ·exact h3 e a
theorem pF{p:Nat->Bool}(o:aD):aP (cU p o)=cU p (aP o):=by cases o<;>rfl
theorem uS{p:Nat->Bool}(l:L aD):(l.map (cU p)).map aP=(l.map aP).map (cU p):=by
 simp only[aZ5];exact aZ1 (fun o _=>pF o)
theorem oW{ρ:Nat->Nat}(o:aD):aP (fA ρ o)=fA ρ (aP o):=by cases o<;>rfl
theorem rH{cs:L aV}{o:aD}(h:aP o=.box cs):o=.box cs:=by cases o<;>simp_all [aP]
theorem oX{c z:Nat}{es:L (L DC)}{o:aD}(h:aP o=.arr c z es):∃cap,o=.arr cap z es/\c=0:=by
 cases o<;>simp_all [aP]
theorem Pb{t:Option Nat}{y:AI}{st':AS}(h:evI G t y (aE s)=some st')(j:∀D,aE D=st'->K D):uN P G k t y K s.sl s.hp:=by
 cases y with
 |alloc z=>
  simp only[evI,Option.some.injEq] at h;exact j _ (by rw[<- h];simp[aE,aP])
 |box x=>
  simp only[evI] at h;obtain⟨cs,q,d⟩:=Option.map_eq_some_iff.1 h;exact⟨cs,q,j _ (by rw[<- d];simp[aE,aP])⟩
 |bslc size len u C=>
  simp only[evI] at h;obtain⟨A,q,h⟩:=bAk.1 h;obtain⟨w,d,h⟩:=bAk.1 h;split at h;rename_i M;injection h with h
  obtain⟨E,F,I⟩:=M6 len w M;refine .inl ⟨sK size len w,?_,I,F,j _ (by rw[<- h];simp[aE,aP])⟩;rw[E,<- I6 _ _ d];exact q;cases h
 |store size x v=>
  simp only[evI] at h;split at h;rename_i J;subst J;refine⟨rfl,?_⟩;obtain⟨vs,q,h⟩:=bAk.1 h;unfold Zz at h;split at h;rename_i id off p
  left
  split at h;rename_i cs b;split at h;rename_i g;injection h with h
  rw[aE,bL] at b;exact⟨id,off,cs,vs,p,q,rH b,g.1,g.2,j _ (by rw[<- h];simp[aE,aP,bAd])⟩;cases h;cases h;rename_i id i z off p
  right
  split at h;rename_i c N es b;obtain⟨w,d,h⟩:=bAk.1 h;obtain⟨e,h3,h⟩:=bAk.1 h;split at h;rename_i g;injection h with h
  rw[aE,bL] at b;obtain⟨cap,b,_⟩:=oX b;obtain⟨rfl,l,m⟩:=g;refine⟨id,i,N,off,cap,es,e,w,p,?_,b,h3,l,m,j _ (by rw[<- h];simp[aE,aP,bAd])⟩;rw[<- I6 _ _ d];exact q;cases h;cases h;cases h;cases h
 |app size bytes u a x=>
  simp only[evI] at h;unfold aNN at h;split at h;rename_i id n p
  right
  split at h;rename_i c z es b;obtain⟨f,d,h⟩:=bAk.1 h;split at h;rename_i g;injection h with h
  rw[aE,bL] at b;obtain⟨cap,b,_⟩:=oX b;obtain⟨rfl,l,m,B⟩:=g;rw[aE,Av] at d;exact⟨id,n,cap,es,f,p,b,l,d,by simpa using m,B,fun r _=>j _ (by rw[<- h];simp only[aE,bAd,uS];rfl)⟩
  cases h;cases h;rename_i p
  left
  obtain⟨f,d,h⟩:=bAk.1 h;split at h;rename_i g;injection h with h;rw[aE,Av] at d;exact⟨p,f,d,by simpa using g.1,g.2,fun r _=>j _ (by rw[<- h];simp only[aE,bAg,uS,aZz];rfl)⟩
  cases h;cases h
 |_=>cases h
theorem I7{id:Nat}{es:L (L DC)}(o:aD):aP (Wy id es o)=Wy id es (aP o):=by cases o<;>rfl
theorem gC:∀(d:L Nat)(s:AS),∃b,Gh k s b/\aE b=bX d (aE s)
 |[],s=>⟨s,Gh.refl,rfl⟩
 | id::r,s=>by
  simp only[bX];split
  ·rename_i c z es a;rw[aE,bL] at a;obtain⟨cap,a,_⟩:=oX a;obtain⟨b,e,f⟩:=gC r ⟨s.sl.map fun v=>bG (·==id) (aCe id es v),(s.hp.map fun o=>cU (·==id) (Wy id es o)).set id .dead⟩
   refine⟨b,(Gh.freeze a).trans e, ?_⟩;rw[f];congr 1;simp only[aE,bAd,aZ5,aP];congr 2;exact aZ1 (fun o _=>by simp only[Function.comp_apply,pF,I7])
  ·exact gC r s
mutual
theorem rtC{J:L Nat}{n:Nat}:(c:aV)->c.keep (lD J)=true->kD (cQ J n) (kD (mJ J) c)=c
 |.ptr id o,h=>by simp only[kD,rtN (n:=n) (by simpa[aV.keep,lD] using h)]
 |.bld id o,h=>by simp only[kD,rtN (n:=n) (by simpa[aV.keep,lD] using h)]
 |.ept id i z o,h=>by simp only[kD,rtN (n:=n) (by simpa[aV.keep,lD] using h)]
 |.bls id i z o,h=>by simp only[kD,rtN (n:=n) (by simpa[aV.keep,lD] using h)]
 |.fn f a,h=>by simp only[kD,rtL a (by simpa[aV.keep] using h)]
 |.dc d,h=>rfl
 |.ref cs,h=>rfl
 |.mpc es,h=>rfl
 |.junk,h=>rfl
theorem rtL{J:L Nat}{n:Nat}:(cs:L aV)->keepL (lD J) cs=true->renL (cQ J n) (renL (mJ J) cs)=cs
 |[],h=>rfl
 | c::cs,h=>by
  simp only[keepL,aZO] at h;simp only[renL,rtC c h.1,rtL cs h.2]
theorem rtN{J:L Nat}{n id:Nat}(h:id∈J):cQ J n (mJ J id)=id:=by
 have:∀J:L Nat,id∈J->J[mJ J id]?=some id:=by
  intro J
  induction J with
  |nil=>intro h;cases h
  |cons j J b=>
   intro h;simp only[mJ];split;rename_i e;simp[e];rename_i a;rw[bBf];exact b (by rcases bAQ.1 h with h|h;exact absurd h a;exact h)
 simp only[cQ,this J h]
end
theorem pG{ρ:Nat->Nat}:∀(cs:L aV),renL ρ cs=cs.map (kD ρ)
 |[]=>rfl
 |c::cs=>by simp[renL,pG cs]
theorem rtM{J:L Nat}{n:Nat}(cs:L aV)(h:keepL (lD J) cs=true):(cs.map (kD (mJ J))).map (kD (cQ J n))=cs:=by
 rw[<- pG,<- pG];exact rtL cs h
theorem rtT{J:L Nat}{n:Nat}(t:TV)(h:Gi (lD J) t=true):It (cQ J n) (It (mJ J) t)=t:=by
 cases t with
 |one c=>simp only[It,rtC c h]
 |agg cs=>simp only[It,rtM cs h]
theorem rtV{J:L Nat}{n:Nat}(v:AV)(h:dH (lD J) v=true):dP (cQ J n) (dP (mJ J) v)=v:=by
 cases v with
 |one c=>simp only[dP,rtC c h]
 |agg cs=>simp only[dP,rtM cs h]
 |tup l=>
  simp only[dP,aZ5];congr 1
  conv=>rhs;rw[<- List.map_id l]
  exact aZ1 (fun t a=>rtT t (bA0.1 h t a))
 |junk=>rfl
theorem rtO{J:L Nat}{n:Nat}(o:aD)(h:pE (lD J) o=true):fA (cQ J n) (fA (mJ J) o)=o:=by
 cases o with
 |box cs=>simp only[fA,rtM cs h]
 |_=>rfl
theorem Sd{α b:Type}{f:α->b}:∀(J:L Nat)(a l:L α),(lB J a l).map f=lB J (a.map f) (l.map f)
 |[],_,l=>by simp[lB]
 |j::J,[],l=>by simp[lB]
 |j::J,x::a,l=>by simp only[lB,aZL];rw[Sd J a];simp[bAd]
theorem Se(o:aD):iW (aP o)=iW o:=by cases o<;>rfl
theorem W0{J:L Nat}{a:Option Nat}{b:AV}{c:L aD}:aE (iX J s a b c)=iX J (aE s) a b (c.map aP):=by
 have d:∀ρ,aP ∘ fA ρ=fA ρ ∘ aP:=fun ρ=>funext fun o=>oW o
 have e:∀p,aP ∘ cU p=cU p ∘ aP:=fun p=>funext fun o=>pF o
 simp only[iX,aE,bAg,Sd,aZz,bL,Se,aZ5,bAV,d,e]
def cI(P:Program)(G:aF)(call:aO):Prop:=∀f b hp d e,call f b hp=some (d,e)->∀c,c.map aP=hp->Zt P f=true/\AC P G f b c fun a o=>a=d/\o.map aP=e
theorem uT{p:Nat->Bool}(o:aD):pE p (aP o)=pE p o:=by cases o<;>rfl
theorem rI{call:aO}(c:cI P G call){d:Option Nat}{f:FuncId}{b:L AV}{st':AS}(h:lE call d f b (aE s)=some st'):
  ∃ (J:L Nat) (objs:L aD) (l:AV) (m:L aD),Zt P f=true/\AC P G f (b.map (dP (mJ J))) objs (fun a o=>a=l/\o.map aP=m)/\J.Nodup/\objs.length=J.length/\
   (∀ (t j:Nat) o,J[t]?=some j->objs[t]?=some o->s.hp[j]?=some (fA (cQ J s.hp.length) o))/\b=(b.map (dP (mJ J))).map (dP (cQ J s.hp.length))/\
   ∀ a o,a=l/\o.map aP=m->aE (iX J s d a o)=st':=by
 unfold lE at h;simp only at h;generalize uR (aE s).hp 2000 (b.flatMap jV) []=J at h;split at h;rename_i i;obtain⟨⟨l,m⟩,A,B⟩:=Option.map_eq_some_iff.1 h;simp only[okJ,aZO] at i;obtain⟨⟨q,g⟩,p⟩:=i;have u:=fun j C=>bA0.1 g j C
 simp only[aZO,decide_eq_true_eq,aE,aZz,bL,uT] at u;obtain⟨y,z⟩:=c _ _ _ _ _ A (J.map fun j=>fA (mJ J) (aL s.hp j)) (by
  rw[aZ5];exact aZ1 (fun j _=>by simp only[Function.comp_apply,oW,aE,bL]))
 refine⟨J,_,l,m,y,z,(C9 _ q).imp (fun h e=>by simp[e] at h),by simp,fun t j o x r=>?_,?_,fun a o n=>?_⟩
 rw[aZI,x] at r;simp at r;subst r;have w:=u j (aZ4 x);rw[rtO _ w.2,aL,aZN,aZJ w.1];rfl
 ·rw[aZ5]
  conv=>lhs;rw[<- List.map_id b]
  exact aZ1 (fun v D=>(rtV v (bA0.1 p v D)).symm)
 obtain⟨rfl,rfl⟩:=n;rw[W0];exact B;cases h
theorem I8{a:Option (Nat×Bool)}{b:Bool}(h:Sa G (aE s) a=some b):(b=true->jR G s a)/\(b=false->G0 G s a):=by
 cases a with
 |none=>simp[Sa] at h;subst h;exact⟨fun _=>trivial,fun h=>by cases h⟩
 |some q=>
  obtain⟨g,c⟩:=q;simp only[Sa,aE] at h;split at h;rename_i j;injection h with h;subst h;exact⟨fun h=>by (cases h),fun _=>.inr j⟩
  obtain⟨d,i,e⟩:=Option.map_eq_some_iff.1 h;refine⟨fun f=>?_,fun f=>.inl ?_⟩
  subst f;simp at e;subst e;exact i;subst f;simp at e;rw[i];cases c<;>cases d<;>simp_all
theorem WR.cons{o:aN}{rest:L aN}(h:WR P G k [o] (fun s=>WR P G k rest Q s) s):WR P G k (o::rest) Q s:=by
 intro opsA l C F γ a w D J x E g I;obtain⟨b,y,rfl,c,m,h3,h4⟩:=oD C;have n:bH P opsA [b]=some [o]:=by
  simp[bH,cG,c,m,h3]
 have:=h opsA [b] n F γ a w D J x E (fun e a w=>match e with | .normal=>wpList P opsA g y a w | e=>g e a w)
  (fun i w' F' γ' U A v z B p=>A opsA y h4 F' γ' i w' z B (x.sub v.sub) p g (fun j u f d t M N O S T=>I j u f d t M (v.trans N) O S T))
 simp only[wpList] at this ⊢;split;rename_i r;rw[if_pos r] at this;rcases this with c|⟨c,i,w',m⟩
 exact .inl (wpQ (fun e a w q h=>by cases e<;>first|exact absurd rfl q|exact h) c)
 exact .inr ⟨c,i,w',m⟩;rename_i r;rw[if_neg r] at this;exact this
theorem Z2{call:aO}(c:cI P G call){o:aN}{st':AS}(B:jR G s o.guard)(h:aJL call G o (aE s)=some st')(j:∀w,aE w=st'->K w):WR P G k [o] K s:=by
 refine WR.guard B rfl ?_;unfold aJL at h;split at h;rename_i f b e;rw[e];obtain⟨y,d,i⟩:=gC (k:=k) (b.flatMap fun x=>Cd (aM G (aE s).sl x)) s
 simp only at h;rw[<- i] at h;obtain⟨J,objs,A,D,v,l,m,n,q,r,t⟩:=rI c h;refine WR.ghost d (WR.call (o:=⟨o.dst,.call f b,none⟩) trivial rfl l m n q r (fun a o g=>WR.nil (j _ (t a o g))))
 rename_i x b e;rw[e];obtain⟨y,d,i⟩:=gC (k:=k) (b.flatMap fun x=>Cd (aM G (aE s).sl x)) s
 simp only at h;rw[<- i] at h;split at h;rename_i f u C;obtain⟨J,objs,A,D,v,l,m,n,q,r,t⟩:=rI c h;exact WR.ghost d (WR.callv (o:=⟨o.dst,.callv x b,none⟩) trivial rfl C v l m n q r (fun a o g=>WR.nil (j _ (t a o g))))
 cases h;rename_i size len z E e;obtain⟨y,d,i⟩:=gC (k:=k) (E.flatMap fun p=>Cd (aM G (aE s).sl p.2)) s
 rw[<- i] at h;exact WR.ghost d (uN.run (o:=⟨o.dst,o.ai,none⟩) trivial (Pb h j));exact uN.run (o:=⟨o.dst,o.ai,none⟩) trivial (Pb h j)
theorem De{call:aO}(a:cI P G call):∀(ops:L aN)(s:AS)(st':AS),I4 call G ops (aE s)=some st'->WR P G k ops (fun g=>aE g=st') s
 |[],s,st',h=>by simp[I4] at h;exact WR.nil h
 | o::l,s,st',h=>by
  simp only[I4] at h;obtain⟨b,m,h⟩:=bAk.1 h;have f:=I8 m;split at h
  ·rename_i c;split at h
   ·obtain⟨v,i,h⟩:=bAk.1 h;rw[Sb] at h;rw[aE6,rG] at i;exact WR.pur (f.1 c) i (De a l ⟨aR s.sl o.dst v,s.hp⟩ st' h)
   ·obtain⟨n,j,h⟩:=bAk.1 h;rw[aNQ] at h;exact WR.cons (Z2 a (f.1 c) j (fun g e=>De a l g st' (by rw[e];exact h)))
  ·rename_i d;rw[Sb] at h;exact WR.skip (f.2 (by simpa using d)) (De a l ⟨aR s.sl o.dst (.tup []),s.hp⟩ st' h)
mutual
theorem rnC{ρ:Nat->Nat}:(c:aV)->c.keep (fun _=>true)=true->kD ρ c=c
 |.ptr id o,h=>by simp[aV.keep] at h
 |.bld id o,h=>by simp[aV.keep] at h
 |.ept id i z o,h=>by simp[aV.keep] at h
 |.bls id i z o,h=>by simp[aV.keep] at h
 |.fn f a,h=>by simp only[kD,rnL a (by simpa[aV.keep] using h)]
 |.dc d,h=>rfl
 |.ref cs,h=>rfl
 |.mpc es,h=>rfl
 |.junk,h=>rfl
theorem rnL{ρ:Nat->Nat}:(cs:L aV)->keepL (fun _=>true) cs=true->renL ρ cs=cs
 |[],h=>rfl
 | c::cs,h=>by
  simp only[keepL,aZO] at h;simp only[renL,rnC c h.1,rnL cs h.2]
end
theorem rnT{ρ:Nat->Nat}(t:TV)(h:Gi (fun _=>true) t=true):It ρ t=t:=by
 cases t with
 |one c=>simp only[It,rnC c h]
 |agg cs=>simp only[It,<- pG,rnL cs h]
theorem rnV{ρ:Nat->Nat}(v:AV)(h:dH (fun _=>true) v=true):dP ρ v=v:=by
 cases v with
 |one c=>simp only[dP,rnC c h]
 |agg cs=>simp only[dP,<- pG,rnL cs h]
 |tup l=>
  simp only[dP];congr 1
  conv=>rhs;rw[<- List.map_id l]
  exact aZ1 (fun t a=>rnT t (bA0.1 h t a))
 |junk=>rfl
theorem Aw{p:Nat->Bool}:∀(cs:L aV),keepL p cs=true->cs.map (cN p)=cs
 |[],_=>rfl
 | c::cs,h=>by
  simp only[keepL,aZO] at h;rw[aZL,Aw cs h.2];simp[cN,h.1]
theorem I9{p:Nat->Bool}{v:AV}(h:dH p v=true):bG p v=v:=by
 cases v with
 |one c=>simp only[dH] at h;simp[bG,cN,h]
 |agg cs=>simp only[bG,Aw cs h]
 |tup l=>
  simp only[bG];congr 1
  conv=>rhs;rw[<- List.map_id l]
  exact aZ1 (fun t a=>by
   have:=bA0.1 h t a;cases t with
   | one c=>simp only[Gi] at this;simp[uD,cN,this]
   | agg cs=>simp only[uD,Aw cs this,id_eq])
 |junk=>rfl
theorem Ja{p:Nat->Bool}{o:aD}(h:pE p o=true):cU p o=o:=by
 cases o with
 |box cs=>simp only[cU,Aw cs h]
 |_=>rfl
theorem AC.gh{f:FuncId}{c:L AV}{objs:L aD}{R R':AV->L aD->Prop}(h:AC P G f c objs R) (M:∀j o,R j o->objs.length<=o.length->∃b d,Gh objs.length ⟨[j],o⟩ ⟨[b],d⟩/\objs.length<=d.length/\R' b d):AC P G f c objs R':=by
 intro F γ vs w I E N;refine (h F γ vs w I E N).mono ?_;rintro e w' ⟨r,j,o,F',γ',rfl,C,A,B,z,D⟩;obtain⟨b,d,t,u,x⟩:=M j o C A;obtain⟨l,g,n,p,q,J⟩:=t F' γ' { tmps:=#[r],defers:=[] } w' z ⟨rfl,rfl,fun i a v m y=>by
  cases i with
  | zero=>simp at m y;subst m;subst y;exact D
  | succ i=>simp at m⟩ (by rw[z.len];exact A)
 exact⟨r,b,d,l,g,rfl,x,u,B.trans n,p,q.2.2 0 b r rfl rfl⟩
theorem mT:∀(a:L Nat)(st:AS),(bX a st).sl.length=st.sl.length
 |[],st=>rfl
 | id::r,st=>by
  simp only[bX];split
  ·rw[mT r];simp
  ·exact mT r st
theorem aE7{call:aO}(d:cI P G call){o:aN}{v:AV}(h:evQ call G o (aE s)=some v):∃f b c r,o.ai=.call f b/\QC P G f c r/\∀n,b.map (aM G s.sl)=c.map (dP (cQ [] n))/\v=dP (cQ [] n) r:=by
 unfold evQ at h;split at h;rename_i f b i;split at h;rename_i m;obtain⟨⟨E,D⟩,z,h⟩:=bAk.1 h;simp only at h;split at h;rename_i p;injection h with h
 obtain⟨_,w⟩:=d _ _ _ _ _ z [] rfl;refine⟨f,b,b.map (aM G s.sl),v,i,w.gh (fun a o ⟨h3,h4⟩ _=>?_),fun n=>⟨?_,?_⟩⟩
 subst h3;obtain⟨t,l,A⟩:=gC (k:=0) (jV a) ⟨[a],o⟩;have g:aE t=bX (jV a) ⟨[a],D⟩:=by rw[A];simp only[aE,h4]
 have e:t.sl.length=1:=by
  have:=congrArg (fun q=>q.sl.length) g
  simp only[aE,mT] at this;simpa using this
 obtain⟨y,u⟩:=List.length_eq_one_iff.1 e;have j:=Gh.drop (k:=0) (as:=t) 0 (aZE _);refine⟨v,[], ?_,aZV _,rfl,rfl⟩;have B:v=bG (fun id=>decide (0<=id)) y:=by
  rw[<- h,<- g];simp[aE,u]
 have:=l.trans j;rw[u] at this;simpa[B] using this
 ·conv=>lhs;rw[<- List.map_id (b.map (aM G s.sl))]
  exact aZ1 (fun x C=>(rnV x (bA0.1 m x C)).symm)
 exact (rnV v (by rw[<- h];exact p)).symm;cases h;cases h;cases h
theorem Jb{call:aO}(a:cI P G call):∀(ops:L (Bool×aN)) (s:AS) (st':AS),evD call G ops (aE s)=some st'->kB P G k (fun s'=>aE s'=st') ops s
 |[],s,st',h=>by simp[evD] at h;exact h
 | (true,o)::l,s,st',h=>by
  simp only[evD] at h;obtain⟨c,q,h⟩:=bAk.1 h;have b:=I8 q;cases c with
  | true=>
   simp only[if_true] at h;obtain⟨v,d,h⟩:=bAk.1 h;rw[Sb] at h;refine⟨v,.inr ⟨b.1 rfl, ?_⟩,Jb a l ⟨aR s.sl o.dst v,s.hp⟩ st' h⟩;split at d
   ·have e:(⟨(aE s).sl,O4 o.ai (aE s).hp⟩:AS)=aE ⟨s.sl,O4 o.ai s.hp⟩:=by cases o.ai<;>rfl
    rw[aE6,e,rG] at d;exact .inl d
   ·exact .inr (aE7 a d)
  | false=>
   simp only[bAU,if_false,Sb] at h;exact WD.skip (b.2 rfl) (Jb a l ⟨aR s.sl o.dst (.tup []),s.hp⟩ st' h)
 | (false,o)::l,s,st',h=>by
  simp only[evD] at h;obtain⟨c,q,h⟩:=bAk.1 h;have b:=I8 q;cases c with
  | true=>
   simp only[if_true,bAU,if_false] at h;obtain⟨C,j,h⟩:=bAk.1 h;rw[aNQ] at h;have p:∀ s',aE s'=C->kB P G k (fun s'=>aE s'=st') l s':=fun s' t=>Jb a l s' st' (by rw[t];exact h)
   split at j
   ·rename_i f g i;obtain⟨v,d,A⟩:=Option.map_eq_some_iff.1 j;obtain⟨E,m,n,r,y,z,u⟩:=aE7 a d;refine .inr ⟨b.1 rfl, ?_⟩;rw[y];refine⟨_,C6.of z (u _).1,⟨_,_,r,[],⟨rfl,rfl⟩,rfl,rfl⟩, ?_⟩;rintro D os ⟨w,B,⟨rfl,rfl⟩,rfl,rfl⟩;rw[<- (u s.hp.length).2];refine p _ ?_;rw[<- A];simp[aE]
   ·rename_i x g i;exact WD.any (b.1 rfl) (by rw[i];trivial) (Z2 a (o:=⟨o.dst,o.ai,none⟩) trivial j p)
   ·exact .inr ⟨b.1 rfl,Pb j p⟩
  | false=>
   simp only[bAU,if_false,Sb] at h;exact WD.skip (b.2 rfl) (Jb a l ⟨aR s.sl o.dst (.tup []),s.hp⟩ st' h)
theorem kB.mono{R b:AS->Prop}(a:∀s,R s->b s):∀(ops:L (Bool×aN)) (s:AS),kB P G k R ops s->kB P G k b ops s
 |[],s,h=>a s h
 |(true,o)::l,s,h=>by obtain⟨v,d,h⟩:=h;exact⟨v,d,kB.mono a l _ h⟩
 |(false,o)::l,s,h=>Eff.mono (fun e c=>kB.mono a l e c) h
theorem E6{rs:L lC}:tQ (aE s) rs=tQ s rs:=by
 have a:∀r,gT (aE s) r=gT s r:=by
  intro r;cases r<;>simp only[gT,aE,I5]
 have b:gT (aE s)=gT s:=funext a;unfold tQ;split<;>simp only[b]
def TOK(P:Program)(T:Tbl):Prop:=∀f c d b,T f=some (c,d,b)->Zt P f=true/\∃a,P.funcs[f]?=some a/\a.ntmps=b/\a.body.bind (bW P)=some c/\a.results.toList.mapM (jS P)=some d
theorem Sf{T:Tbl}{l:eK->AS->Option (Exit×AS)}(F:TOK P T)(j:∀c s e st',l c (aE s)=some (e,st')->∀k,AW P G k c (fun m u=>m=e/\aE u=st') s):cI P G (M5 T l):=by
 intro f g hp O V h b p;subst p;unfold M5 at h;split at h;rename_i c N r n;obtain⟨I,S,z,A,B,C⟩:=F f c N r n;refine⟨I,?_⟩;obtain⟨⟨e,w⟩,D,h⟩:=bAk.1 h;simp only at h;split at h
 rename_i i;simp only[aZO,decide_eq_true_eq,aZz] at i;obtain⟨v,E,h⟩:=Option.map_eq_some_iff.1 h;have q:AC P G f g b (fun a o=>a=v/\o.map aP=w.hp):=by
  refine AC.of_code z A B C ((j c ⟨g++List.replicate (r - g.length) .junk,b⟩ e w (by simpa[aE] using D) b.length).mono ?_);rintro m u ⟨rfl,rfl⟩;refine⟨?_,by simpa[aE] using i.2,v,by rw[<- E6];exact E,rfl,rfl⟩;cases m<;>simp[M4] at i ⊢
 split at h;rename_i d;injection h with h3 h4
 subst h3;simp only[aZO,aZz] at d;refine q.gh (fun a o ⟨M,t⟩ U=>?_)
 subst M;refine⟨a,o.take b.length,?_,by simp only[aZD];omega,rfl,?_⟩
 have:=Gh.drop (k:=b.length) (as:=⟨[a],o⟩) b.length (aZE _);have y:(o.take b.length).map (cU fun id=>decide (b.length<=id))=o.take b.length:=by
  conv=>rhs;rw[<- List.map_id (o.take b.length)]
  refine aZ1 (fun x J=>Ja ?_)
  have:=bA0.1 d.2 (aP x) (by rw[<- t,<- bAo];exact List.mem_map.2 ⟨x,J,rfl⟩);rwa[uT] at this
 simpa[I9 d.1,y] using this;rw[<- h4,bAo,t,aZz];injection h with h3 h4
 subst h3;subst h4;exact q;cases h;cases h
theorem aOK{T:Tbl}(y:TOK P T):∀(n:Nat)(c:eK)(s:AS)(e:Exit)(st':AS),E5 G T n c (aE s)=some (e,st')->∀k,AW P G k c (fun l i=>l=e/\aE i=st') s:=by
 intro n
 induction n using Nat.strongRecOn with
 |ind A u=>
  intro c s e st' h k;cases A with
  |zero=>simp[E5] at h
  |succ n=>
  have q:=u n (Nat.lt_succ_self n);have g:cI P G (M5 T (E5 G T n)):=Sf y q;cases c with
  |bad=>simp only[E5] at h;cases h
  |drawnF B ops=>simp only[E5] at h;cases h
  |drawnT t ops=>simp only[E5] at h;cases h
  |skip=>simp only[E5,Option.some.injEq,Prod.mk.injEq] at h;obtain⟨rfl,rfl⟩:=h;exact AW.skip ⟨rfl,rfl⟩
  |ret=>simp only[E5,Option.some.injEq,Prod.mk.injEq] at h;obtain⟨rfl,rfl⟩:=h;exact AW.ret ⟨rfl,rfl⟩
  |exit id=>simp only[E5,Option.some.injEq,Prod.mk.injEq] at h;obtain⟨rfl,rfl⟩:=h;exact AW.exit ⟨rfl,rfl⟩
  |region ops=>
   simp only[E5] at h;obtain⟨j,f,d⟩:=Option.map_eq_some_iff.1 h;injection d with d h3
   subst d;subst h3;exact AW.region ((De g ops s j f).mono (fun i h=>⟨rfl,h⟩))
  |drawn ops=>
   simp only[E5] at h;obtain⟨j,f,d⟩:=Option.map_eq_some_iff.1 h;injection d with d h3
   subst d;subst h3;exact AW.drawn (kB.mono (fun i h=>⟨rfl,h⟩) _ _ (Jb g ops s j f))
  |seq a b=>
   simp only[E5] at h;obtain⟨⟨r,j⟩,f,d⟩:=bAk.1 h;refine AW.seq ((q a s r j f k).mono ?_);rintro l i ⟨rfl,rfl⟩;cases l with
   |normal=>exact q b i e st' d k
   |_=>simp only[Option.some.injEq,Prod.mk.injEq] at d;obtain⟨rfl,rfl⟩:=d;exact⟨rfl,rfl⟩
  |cond c a b=>
   simp only[E5] at h;obtain⟨t,f,d⟩:=bAk.1 h;refine AW.cond f (fun w=>?_) (fun w=>?_)
   subst w;exact q a s e st' d k;subst w;exact q b s e st' d k
  |block id a=>
   simp only[E5] at h;obtain⟨⟨r,j⟩,f,d⟩:=Option.map_eq_some_iff.1 h;refine AW.block ((q a s r j f k).mono ?_);rintro l i ⟨rfl,rfl⟩;cases l with
   |exit z=>
    simp only at d ⊢;split at d;rename_i p;injection d with d h3
    subst d;subst h3;rw[if_pos p];exact⟨rfl,rfl⟩;rename_i p;injection d with d h3
    subst d;subst h3;rw[if_neg p];exact⟨rfl,rfl⟩
   |_=>simp only[Prod.mk.injEq] at d;obtain⟨rfl,rfl⟩:=d;exact⟨rfl,rfl⟩
  |loop a=>
   refine AW.loop (α:=Nat) (fun m i=>m<=n+1/\E5 G T m (.loop a) (aE i)=some (e,st')) id (n+1) ⟨aZE _,h⟩ (fun m i x=>?_)
   obtain⟨x,v⟩:=x;cases m with
   |zero=>simp[E5] at v
   |succ m=>
    simp only[E5] at v;obtain⟨⟨r,j⟩,f,d⟩:=bAk.1 v;refine (u m (by omega) a i r j f k).mono ?_;rintro l C ⟨rfl,rfl⟩;cases l with
    |normal=>exact⟨m,⟨by omega,d⟩,by simp⟩
    |_=>simp only[Option.some.injEq,Prod.mk.injEq] at d;obtain⟨rfl,rfl⟩:=d;exact⟨rfl,rfl⟩
end
end
section
def Ax(call:aO)(f:FuncId)(a:L AV):Option AV:=
 (call f a []).bind fun r=>
  let v:=bG (fun id=>decide (0<=id)) ((bX (jV r.1) ⟨[r.1],r.2⟩).sl.getD 0 .junk)
  if dH (fun _=>true) v then some v else none
section
variable {P:Program}{G:aF}{k:Nat}
theorem QC.quiet{call:aO}(c:cI P G call){f:FuncId}{b:L AV}{v:AV}(h:Ax call f b=some v):QC P G f b v:=by
 unfold Ax at h;obtain⟨⟨w,u⟩,n,h⟩:=bAk.1 h;simp only at h;split at h;rename_i p;injection h with h
 obtain⟨_,m⟩:=c _ _ _ _ _ n [] rfl;refine m.gh (fun a o ⟨h3,h4⟩ _=>?_)
 subst h3;obtain⟨j,i,r⟩:=gC (k:=0) (jV a) ⟨[a],o⟩;have e:aE j=bX (jV a) ⟨[a],u⟩:=by rw[r];simp only[aE,h4]
 have d:j.sl.length=1:=by
  have:=congrArg (fun q=>q.sl.length) e
  simp only[aE,mT] at this;simpa using this
 obtain⟨y,l⟩:=List.length_eq_one_iff.1 d;have g:=Gh.drop (k:=0) (as:=j) 0 (aZE _);refine⟨v,[], ?_,aZV _,rfl,rfl⟩;have t:v=bG (fun id=>decide (0<=id)) y:=by
  rw[<- h,<- e];simp[aE,l]
 have:=i.trans g;rw[l] at this;simpa[t] using this;cases h
theorem QC.run{T:Tbl}(b:TOK P T)(n:Nat){f:FuncId}{a:L AV}{v:AV}(h:Ax (M5 T (E5 G T n)) f a=some v):QC P G f a v:=
 QC.quiet (Sf b (aOK b n)) h
end
end
section
open Go.ChangeShapes Go.WideShapes Go.ChangeAt Go.RowKit
section
variable {H:Type}{enc:TypeId×Value->H}{P:Program}{G:aF}
def iY(W:World):Fz:=fun b=>W.heap[b]?
theorem Ho(W:World):dV (iY W) [] [] W:=⟨fun _ _ h=>h,rfl,fun i _ _ h=>by simp[cF] at h,fun i _ h=>by simp[cF] at h,fun i _ _ h=>by simp at h⟩
theorem Ay{W W':World}{k:Nat}{F':Fz}{γ':L OI}(h:iL k (iY W) [] W F' γ' W'):Below W.heap.size W W':=
 ⟨h.os,h.tape,h.output,h.size,fun b a=>h.far b a (fun i h=>by simp[cF] at h)⟩
theorem aCh{f:FuncId}{b:L AV}{a:Array Value}{W:World}(i:QC P G f b (vb true))(h:fZ (iY W) G)(g:mR (iY W) [] b a):Calls P f a W fun e W'=>e=.returned (.bool true)/\Below W.heap.size W W':=by
 refine (i (iY W) [] a W (Ho W) h g).mono ?_;rintro e W' ⟨r,j,o,F',γ',rfl,⟨rfl,rfl⟩,_,c,l,d⟩;exact⟨by rw[cX d],Ay c⟩
theorem B4(j:laidOutB P=true){W i:World}{c:Nat->Bool}:∀{f:L TypeId}{vs:L Value}{e:L (DataW H)}{b:L MemPlace},(∀t∈f,P.readableRec t=true/\t<P.types.size)-> DataW.TrodAll enc P W 0 (fun _=>true) true f vs e b->(∀x∈b,W.sameAt i x)->(∀x∈b,c x.block=true)->DataW.TrodAll enc P i 0 c true f vs e b
 | [],vs,e,b,_,h,_,_=>by
  obtain⟨rfl,rfl,rfl⟩:=trodAll_nil h;exact h
 | t::f,vs,e,b,g,h,l,hp=>by
  obtain⟨v,u,d,m,p,q,rfl,rfl,rfl,n,r⟩:=trodAll_cons h;exact⟨p,q,WideElems.Trod_stays j (g t aZT).1 (g t aZT).2 n (fun x a=>l x (List.mem_append_left _ a)) (fun x a=>hp x (List.mem_append_left _ a)),
   B4 j (fun t h=>g t (aZ3 _ h)) r (fun x a=>l x (List.mem_append_right _ a)) (fun x a=>hp x (List.mem_append_right _ a)),rfl⟩
theorem aCi{f:Func}{s:ChangeSpec}{a m c j:Bool}{W W':World}{args:Array Value}{l I:L (DataW H)}{before:L MemPlace}{tb:TypeId} (T:laidOutB P=true) (F:∀t∈f.params.toList,P.readableRec t=true/\t<P.types.size) (w:s.vars=[]) (u:f.resultTypes=#[tb]) (v:P.underlying tb=some .bool) (y:DataW.Whole enc P f.params.toList s.vars a W args.toList l I before) (D:s.fn H (l++I)={ results:=[.lit (.bool true)],args:=l }) (A:Below W.heap.size W W'):s.post enc P f a m c j W args (.bool true) W':=by
 have n:=fun p hp=>y.lt (p:=p) hp
 have z:=y;obtain⟨p,q,O,M,C,X,U⟩:=y;rw[w] at M;obtain⟨rfl,rfl⟩:=trodVars_none M;have B:before=p:=by simpa using C
 subst B;have e:∀x∈before,W.sameAt W' x:=fun x V=>A.same (n x V)
 have d:∀ h:Nat->Bool,(∀ p∈before,h p.block=true)->DataW.TrodAll enc P W' 0 h true f.params.toList args.toList (s.fn H (l++[])).args before:=fun h E=>by
  rw[D];exact B4 T F O e E
 have i:∀ (b:Nat) (h:Nat->Bool) (N:Bool),DataW.TrodAll enc P W' b h N f.resultTypes.toList ((Value.bool true).resultList f.resultTypes.size) (s.fn H (l++[])).results []:=fun b h N=>by
  rw[D,u];exact trodAll_mk1 (shut_bool v true)
 have r:∀p∈before,(fun b=>decide (b<W.heap.size)) p.block=true:=fun p hp=>by simpa using n p hp
 have g:∀ h:Nat->Bool,DataW.TrodVars enc P W' h s.vars (s.fn H (l++[])).vars []:=fun h=>by
  rw[D,w];first | rfl | trivial | exact⟨rfl,rfl⟩
 refine⟨l,[],before,[],before,[],z,i _ _ _,d _ r,g _,A.frame _,fun _=>?_⟩
 refine⟨?_,_,_,([]++before)++[],⟨[]++before,[],trodAll_append (d _ (fun _ _=>rfl)) (i _ _ _),g _,rfl,?_,?_⟩,?_⟩
 exact ok_one u rfl (by simp[Value.okWide,v,Cell.okWide,Cell.ok]);intro b off hp;have J:=X b off (by simpa using hp);have Y:=e (.cell b off) (by simpa using hp);have h3:=A.block b (n (.cell b off) (by simpa using hp));simp only[World.frozen?] at J ⊢;rw[h3];exact J;intro S;simpa using U S;intro p hp _;simpa using hp
end
end
section
variable {G:aF}
theorem Pc:∀(a:L Nat)(s t:AS),s.sl=t.sl->s.hp=t.hp.map aP->(bX a s).sl=(bX a t).sl
 |[],s,t,h,_=>h
 | id::r,s,t,h,b=>by
  simp only[bX,b,bL];cases aL t.hp id with
  | arr c z es=>
   simp only[aP];refine Pc r _ _ (by simp only[h]) ?_;simp only[bAd,aZ5,aP];congr 1;exact aZ1 (fun o _=>by simp only[Function.comp_apply,pF,I7])
  | box cs=>exact Pc r _ _ h b
  | dead=>exact Pc r _ _ h b
theorem QC.frz{P:Program}{f:FuncId}{b:L AV}{v:AV}{R:AV->L aD->Prop}(h:AC P G f b [] R) (n:∀e o,R e o->bG (fun id=>decide (0<=id)) ((bX (jV e) ⟨[e],o⟩).sl.getD 0 .junk)=v):QC P G f b v:=by
 refine h.gh (fun a o q _=>?_)
 obtain⟨l,i,p⟩:=gC (k:=0) (jV a) ⟨[a],o⟩;have j:(bX (jV a) (aE ⟨[a],o⟩)).sl=(bX (jV a) ⟨[a],o⟩).sl:=Pc (jV a) _ _ rfl rfl;have d:l.sl=(bX (jV a) ⟨[a],o⟩).sl:=by rw[<- j,<- p];rfl
 have c:l.sl.length=1:=by rw[d,mT];rfl
 obtain⟨y,m⟩:=List.length_eq_one_iff.1 c;have g:=Gh.drop (k:=0) (as:=l) 0 (aZE _);refine⟨v,[],?_,aZV _,rfl,rfl⟩;have r:v=bG (fun id=>decide (0<=id)) y:=by rw[<- n a o q,<- d,m];rfl
 have:=i.trans g;rw[m] at this;simpa[r] using this
theorem QC.drop{P:Program}{f:FuncId}{b:L AV}{v:AV}(h:AC P G f b [] fun c _=>c=v)(d:bG (fun id=>decide (0<=id)) v=v):QC P G f b v:=by
 refine h.gh (fun a o e _=>?_)
 subst e;refine⟨a,[],?_,aZV _,rfl,rfl⟩;have:=Gh.drop (k:=0) (as:=⟨[a],o⟩) 0 (aZE _);simp only[aZL,aZM,d,bAO] at this;exact this
theorem AC.drop{P:Program}{f:FuncId}{b:L AV}{objs:L aD}{Q:AV->L aD->Prop} (h:AC P G f b objs fun c o=>Q (bG (fun id=>decide (objs.length<=id)) c) ((o.take objs.length).map (cU fun id=>decide (objs.length<=id)))):AC P G f b objs Q:=by
 refine h.gh (fun a o d e=>⟨_,_,(show Gh objs.length ⟨[a],o⟩ _ from Gh.drop objs.length (aZE _)),by simp only[aZz,aZD];omega,d⟩)
end
section
section
variable {P:Program}{G:aF}{k:Nat}{st st':AS}{R:AS->Prop}
structure aCj (o:aD):Prop where
 ren:∀ρ,fA ρ o=o
 kill:∀p,cU p o=o
theorem aCj.arr(cap size:Nat)(es:L (L DC)):aCj (.arr cap size es):=⟨fun _=>rfl,fun _=>rfl⟩
theorem aCj.dcs(a:L DC):aCj (.box (kY a)):=by
 constructor<;>intro p<;>simp only[fA,cU,kY,aZ5]<;>congr 1
theorem W4{a:Option Nat}{b:AV}{o:aD}{j:Nat}(h:iW (aL st.hp j)=true):iX [j] st a b [o]=⟨aR st.sl a (dP (cQ [j] st.hp.length) b),st.hp.set j (fA (cQ [j] st.hp.length) o)⟩:=by
 have hp:∀id,(([j]:L Nat).contains id&&!iW (aL st.hp id))=false:=by
  intro id;by_cases c:id=j;subst c;simp[h];simp[c]
 simp only[iX,rC hp,rE hp,lB,aZL,aZM,bAZ,List.drop_nil,bAy,aZB,aZC]
theorem WR.callB{o:aN}{rest:L aN}{f:FuncId}{b:L aH}{a:L AV}{j:Nat}{d v:aD}{r A:AV}(p:jR G st o.guard)(B:o.ai=.call f b)
  (g:AC P G f a [d] fun w os=>w=r/\os=[v]) (m:aCj d) (n:aCj v) (y:aL st.hp j=d) (l:iW d=true)
  (c:b.map (aM G st.sl)=a.map (dP (cQ [j] st.hp.length))) (D:dP (cQ [j] st.hp.length) r=A)
  (E:(⟨aR st.sl o.dst A,st.hp.set j v⟩:AS)=st') (h:WR P G k rest R st'):WR P G k (o::rest) R st:=by
 have q:d≠.dead:=by intro e;rw[e] at l;cases l
 refine WR.call (J:=[j]) p B g (by simp) rfl (fun t i x u z=>?_) c (fun w os C=>?_)
 cases t with
 |zero=>simp at u z;subst u;subst z;rw[m.ren];exact fM y q
 |succ t=>simp at u
 obtain⟨rfl,rfl⟩:=C;rw[W4 (by rw[y];exact l),n.ren,D,E];exact h
theorem Gh.nilB{id j:Nat}{cs:L aV}(size:Nat)(D:aL st.hp id=.box cs)(z:cs[j]?=some (cK (.slice none 0 0))):Gh k st ⟨st.sl,st.hp.set id (.box (cs.set j (.bld st.hp.length 0)))++[.arr 0 size []]⟩:=by
 intro F γ a w t J M;have p:=fM D (by simp);have f:id<st.hp.length:=aK p;obtain⟨d,E⟩:=dV.nilp (k:=k) size t;have n:∀(i:Nat)(o:OI),γ[i]?=some o->(γ++[OI.arr none 0])[i]?=some o:=fun _ _ h=>bY h
 refine⟨F,γ++[OI.arr none 0],E,⟨d.fz,by simp[t.len],d.nd,d.disj,fun i o x e y=>?_⟩,J.ext (fun _ _ h=>h) n,by simp;omega⟩
 by_cases q:id=i;subst q;rw[aZU (by simpa using f),aZ7 f] at e;injection e with e;subst e
 have g:=d.ok id _ x (by rw[aZU f];exact p) y;cases x with
 |box b=>
  obtain⟨vs,T,I,u,B⟩:=g;refine⟨vs,T,I,by simpa using u,fun m c v l C=>?_⟩
  by_cases A:j=m
  ·subst A;rw[aZ7 (aK z)] at l;injection l with l;subst l
   have h3:=B j _ v z C;cases h3 with|dc _ _ h3=>
   cases h3;exact .bldN _ 0 (by rw[<- t.len];simp)
  rw[aZY A] at l;exact B m c v l C
 |arr b c=>exact g.elim
 |dead=>exact g.elim
 refine d.ok i o x ?_ y;by_cases r:i<st.hp.length;rw[aZU (by simpa using r),aZY q] at e;rw[aZU r];exact e;rw[aZ0 (by simpa using Nat.le_of_not_lt r)] at e;rw[aZ0 (Nat.le_of_not_lt r)];simpa using e
end
end
section
def stX(G:aF)(st:AS)(size:Nat)(x v:aH):Option AS:=
 match aM G st.sl x with
 |.one (.ptr id off)=>
  match cellsOf (aM G st.sl v) with
  |some vs=>
   match aL st.hp id with
   |.box cs=>if vs.length=size/\off+size<=cs.length then some ⟨st.sl,st.hp.set id (.box (dA cs off vs))⟩ else none
   |_=>none
  |none=>none
 |.one (.ept id i s off)=>
  match (cellsOf (aM G st.sl v)).bind dcs with
  |some a=>
   match aL st.hp id with
   |.arr cap b es=>
    match es[i]? with
    |some e=>if s=b/\a.length=size/\off+size<=e.length then some ⟨st.sl,st.hp.set id (.arr cap b (es.set i (e.take off++a++e.drop (off+size))))⟩ else none
    |none=>none
   |_=>none
  |none=>none
 |_=>none
def zs(z:L Value):Nat->L aV
 |0=>[]
 |n+1=>zs z n++[cK (z.getD (n % z.length) undef)]
def gD(size:Nat):Nat->L DC->L (L DC)
 |0,_=>[]
 |n+1,a=>a.take size::gD size n (a.drop size)
def bsX(G:aF)(st:AS)(a:Option Nat)(size len:Nat)(z:L Value)(c:L (Nat×aH)):Option AS:=
 match len with
 |0=>if c.isEmpty then some ⟨aR st.sl a (.one (.bld st.hp.length 0)),st.hp++[.arr 0 size []]⟩ else none
 |len+1=>(iQ (zs z ((len+1)*size)) (c.map fun (j,x)=>(j*size,size,aM G st.sl x))).bind fun cs=>(dcs cs).bind fun b=>
  if b.length=(len+1)*size then some ⟨aR st.sl a (vl (gD size (len+1) b)),st.hp⟩ else none
def exX(G:aF)(st:AS)(o:aN):Option AS:=
 match o.ai with
 |.alloc z=>some ⟨aR st.sl o.dst (.one (.ptr st.hp.length 0)),st.hp++[.box (z.map cK)]⟩
 |.box x=>(cellsOf (aM G st.sl x)).map fun cs=>⟨aR st.sl o.dst (.one (.ptr st.hp.length 0)),st.hp++[.box cs]⟩
 |.store size x v=>match o.dst with|none=>stX G st size x v|some _=>none
 |.bslc size len z a=>bsX G st o.dst size len z a
 |ai=>(dL G st ai).map fun v=>⟨aR st.sl o.dst v,st.hp⟩
def gO(st:AS)(d:Option Nat):Option AV->Option AS
 |some v=>some ⟨aR st.sl d v,st.hp⟩
 |none=>none
def aOL(st:AS)(d:Option Nat):Option (L aV)->Option AS
 |some cs=>some ⟨aR st.sl d (.one (.ptr st.hp.length 0)),st.hp++[.box cs]⟩
 |none=>none
def stD(G:aF)(st:AS)(size:Nat)(x v:aH):Option Nat->Option AS
 |none=>stX G st size x v
 |some _=>none
def aOM(n size:Nat)(x:AV):Option Int->Option AV
 |some i=>aEk n size x i
 |none=>none
def aJN(hp:L aD)(size:Nat)(x:AV):Option Int->Option AV
 |some i=>Cv hp size x i
 |none=>none
def aJO(x:AV):Option Int->Option AV
 |some i=>Gz x i
 |none=>none
def aON(n:Nat)(x:AV):Option Int->Option AV
 |some i=>Wl n x i
 |none=>none
def Z3(k:IntKind):Option Int->Option AV
 |some n=>some (dX (.int k (k.wrap n)))
 |none=>none
def Z4:Option ByteArray->Option AV
 |some s=>some (dX (.int .i64 s.size))
 |none=>none
def aJP:Option (L aV)->Option AV
 |some cs=>some (.agg cs)
 |none=>none
def evX(G:aF)(sl:L AV)(hp:L aD):AI->Option AV
 |.mov x=>some (aM G sl x)
 |.pick c a b=>Cw (aM G sl c) (aM G sl a) (aM G sl b)
 |.load g s x=>mK hp g s (aM G sl x)
 |.bin d x y=>fX d (aM G sl x) (aM G sl y)
 |.un d x=>unV d (aM G sl x)
 |.conv k x=>Z3 k (bI (aM G sl x))
 |.addo o x=>F9 o (aM G sl x)
 |.ixA n s x i=>aOM n s (aM G sl x) (bI (aM G sl i))
 |.ixL s x i=>aJN hp s (aM G sl x) (bI (aM G sl i))
 |.ixS x i=>aJO (aM G sl x) (bI (aM G sl i))
 |.ixV n x i=>aON n (aM G sl x) (bI (aM G sl i))
 |.s2p n x=>aBO n (aM G sl x)
 |.build z e=>aJP (iQ (z.map cK) (e.map fun (o,s,x)=>(o,s,aM G sl x)))
 |.ext x n=>Wk (aM G sl x) n
 |.lenS x=>Z4 (dO (aM G sl x))
 |.lenL x=>tJ (aM G sl x)
 |ai=>dL G ⟨sl,hp⟩ ai
def Hp(G:aF)(st:AS)(d:Option Nat):AI->Option AS
 |.alloc z=>some ⟨aR st.sl d (.one (.ptr st.hp.length 0)),st.hp++[.box (z.map cK)]⟩
 |.box x=>aOL st d (cellsOf (aM G st.sl x))
 |.store size x v=>stD G st size x v d
 |.bslc size len z a=>bsX G st d size len z a
 |ai=>gO st d (evX G st.sl st.hp ai)
theorem aE8(G:aF)(sl:L AV)(hp:L aD)(ai:AI):evX G sl hp ai=dL G ⟨sl,hp⟩ ai:=by
 cases ai<;>first|rfl|skip
 case conv k x=>simp only[evX,dL];cases bI (aM G sl x)<;>rfl
 case ixA n s x i=>simp only[evX,dL];cases bI (aM G sl i)<;>rfl
 case ixL s x i=>simp only[evX,dL];cases bI (aM G sl i)<;>rfl
 case ixS x i=>simp only[evX,dL];cases bI (aM G sl i)<;>rfl
 case ixV n x i=>simp only[evX,dL];cases bI (aM G sl i)<;>rfl
 case build z ps=>simp only[evX,dL];cases iQ (z.map cK) (ps.map fun (o,s,x)=>(o,s,aM G sl x))<;>rfl
 case lenS x=>simp only[evX,dL];cases dO (aM G sl x)<;>rfl
theorem Ce(G:aF)(st:AS)(o:aN):Hp G st o.dst o.ai=exX G st o:=by
 obtain⟨d,a,g⟩:=o;have b:gO st d (evX G st.sl st.hp a)=(dL G st a).map fun v=>⟨aR st.sl d v,st.hp⟩:=by
  rw[aE8];cases dL G st a<;>rfl
 cases a<;>first|rfl|exact b|skip
 case box x=>simp only[Hp,exX];cases cellsOf (aM G st.sl x)<;>rfl
def AI.isCall:AI->Bool
 |.call _ _=>true
 |.callv _ _=>true
 |.app _ _ _ _ _=>true
 |.apps _ _=>true
 |.mk _ _ _ _ _=>true
 |.clr _ _ _=>true
 |.cpys _ _=>true
 |.cvsb _=>true
 |_=>false
def aCl(G:aF):L aN->AS->Option (L aN×AS)
 |[],st=>some ([],st)
 |o::l,st=>if o.guard=none/\o.ai.isCall=false then (exX G st o).bind fun st'=>aCl G l st' else some (o::l,st)
def unG:Option (Nat×Bool)->AI->Bool
 |none,a=>!a.isCall
 |some _,_=>false
def aCm(G:aF):L aN->Option AS->Option (L aN×AS)
 |_,none=>none
 |[],some st=>some ([],st)
 |o::l,some st=>bif unG o.guard o.ai then aCm G l (Hp G st o.dst o.ai) else some (o::l,st)
theorem aCn(G:aF)(l:L aN):aCm G l none=none:=by cases l<;>rfl
theorem Z5(G:aF):∀(l:L aN)(st:AS),aCm G l (some st)=aCl G l st
 |[],st=>rfl
 | o::l,st=>by
  simp only[aCm,aCl,Ce];obtain⟨d,a,g⟩:=o;cases g with
  | some g=>simp[unG]
  | none=>
   cases b:a.isCall with
   | true=>simp[unG,b]
   | false=>
    simp only[unG,b,aZ2,cond_true,true_and,if_true];cases exX G st ⟨d,a,none⟩ with
    | none=>simp[aCn]
    | some st'=>simp[Z5 G l st']
def M7(G:aF)(g:Nat)(b:Bool):L aN->AS->Option (L aN×AS)
 |[],st=>some ([],st)
 |o::l,st=>if o.guard=some (g,b)/\o.ai.isCall=false/\o.dst≠some g then (exX G st o).bind fun st'=>M7 G g b l st' else some (o::l,st)
theorem mZ:∀{cs:L aV}{a:L DC},dcs cs=some a->cs=kY a
 |[],a,h=>by simp[dcs] at h;subst h;rfl
 | .dc d::cs,a,h=>by
  simp only[dcs] at h;cases b:dcs cs with
  | none=>simp_all
  | some c=>
   simp only[b,aZF,Option.some.injEq] at h;subst h;rw[mZ b];rfl
 |.ptr _ _::cs,a,h=>by simp[dcs] at h
 |.bld _ _::cs,a,h=>by simp[dcs] at h
 |.ept _ _ _ _::cs,a,h=>by simp[dcs] at h
 |.bls _ _ _ _::cs,a,h=>by simp[dcs] at h
 |.ref _::cs,a,h=>by simp[dcs] at h
 |.mpc _::cs,a,h=>by simp[dcs] at h
 |.fn _ _::cs,a,h=>by simp[dcs] at h
 |.junk::cs,a,h=>by simp[dcs] at h
theorem M8(z:L Value):∀n,zs z n=(List.range n).map fun i=>cK (z.getD (i % z.length) undef)
 |0=>rfl
 |n+1=>by rw[zs,M8 z n,List.range_succ,bAg];rfl
theorem lF(size:Nat):∀(n:Nat)(a:L DC),a.length=n*size->(gD size n a).flatten=a/\(∀e∈gD size n a,e.length=size)/\(gD size n a).length=n
 |0,a,h=>by grind[gD]
 | n+1,a,h=>by
  have f:a.length=n * size+size:=by grind
  obtain⟨b,d,h3⟩:=lF size n (a.drop size) (by grind);refine⟨by simp[gD,b],fun e c=>?_,by simp[gD,h3]⟩
  simp only[gD,bAQ] at c
  grind
section
variable {P:Program}{G:aF}{k:Nat}{st st':AS}{R:AS->Prop}
theorem WR.bsX{o:aN}{rest:L aN}{size len:Nat}{z:L Value}{a:L (Nat×aH)}(b:jR G st o.guard)(d:o.ai=.bslc size len z a) (h:Go.Proofs.YtalhnjjchkmfeaaGreatDoor.bsX G st o.dst size len z a=some st') (f:WR P G k rest R st'):WR P G k (o::rest) R st:=by
 unfold Go.Proofs.YtalhnjjchkmfeaaGreatDoor.bsX at h;cases len with
 |zero=>
  simp only at h;split at h;rename_i i;injection h with h;subst h
  have c:a=[]:=by simp_all
  subst c;exact WR.bslc (es:=[]) b d (by simp[iQ,kY]) (by simp) rfl f;cases h
 |succ len=>
  simp only at h;cases hf:iQ (zs z ((len+1)*size)) (a.map fun (j,x)=>(j*size,size,aM G st.sl x)) with
  |none=>simp_all
  |some cs=>
   simp only[hf,aZQ] at h;cases e:dcs cs with
   |none=>simp_all
   |some g=>
    simp only[e,aZQ] at h;grind[lF,M8,WR.bslcF,gD,mZ]
theorem WR.stX{o:aN}{rest:L aN}{size:Nat}{x v:aH}(d:jR G st o.guard)(f:o.ai=.store size x v)(c:o.dst=none) (h:Go.Proofs.YtalhnjjchkmfeaaGreatDoor.stX G st size x v=some st') (q:WR P G k rest R st'):WR P G k (o::rest) R st:=by
 unfold Go.Proofs.YtalhnjjchkmfeaaGreatDoor.stX at h;split at h;grind[id,WR.store];rename_i id i s off r;split at h;rename_i t p;split at h;rename_i cap u es g;split at h;rename_i e n;split at h;rename_i j;injection h with h;subst h
 obtain⟨rfl,a,b⟩:=j;obtain⟨cs,l,m⟩:=bAk.1 p;exact WR.storeE d f c r (by grind[mZ]) g n a b rfl q;cases h;cases h;cases h;cases h;cases h
theorem WR.exX{o:aN}{rest:L aN}(a:jR G st o.guard)(g:o.ai.isCall=false)(h:Go.Proofs.YtalhnjjchkmfeaaGreatDoor.exX G st o=some st')(b:WR P G k rest R st'):WR P G k (o::rest) R st:=by
 obtain⟨c,f,i⟩:=o;cases f<;>first|(simp[AI.isCall] at g;done)|skip
 case alloc z=>simp only[Go.Proofs.YtalhnjjchkmfeaaGreatDoor.exX,Option.some.injEq] at h;subst h;exact WR.alloc a rfl b
 case box x=>
  simp only[Go.Proofs.YtalhnjjchkmfeaaGreatDoor.exX] at h;obtain⟨cs,e,rfl⟩:=Option.map_eq_some_iff.1 h;exact WR.box a rfl e b
 case store size x v=>
  simp only[Go.Proofs.YtalhnjjchkmfeaaGreatDoor.exX] at h;cases c with
  |none=>exact WR.stX a rfl rfl h b
  |some d=>cases h
 case bslc size len z ps=>exact WR.bsX a rfl h b
 all_goals
  simp only[Go.Proofs.YtalhnjjchkmfeaaGreatDoor.exX] at h;obtain⟨v,e,rfl⟩:=Option.map_eq_some_iff.1 h;exact WR.pur a e b
theorem aJQ{o:aN}{g:Nat}(f:o.ai.isCall=false)(b:o.dst≠some g)(h:exX G st o=some st'):aM G st'.sl (.t g)=aM G st.sl (.t g):=by
 obtain⟨a,c,i⟩:=o;cases c<;>first|(simp[AI.isCall] at f;done)|skip
 case alloc z=>grind[exX,Option.some.injEq,qH]
 case box x=>
  simp only[exX] at h;obtain⟨cs,e,rfl⟩:=Option.map_eq_some_iff.1 h;exact qH b
 case store size x v=>
  simp only[exX] at h;cases a with
  |some d=>cases h
  |none=>
   simp only[stX] at h;grind
 case bslc size len z ps=>
  simp only[exX,bsX] at h;grind[qH,Option.bind_eq_some_iff]
 all_goals
  simp only[exX] at h;obtain⟨v,e,rfl⟩:=Option.map_eq_some_iff.1 h;exact qH b
theorem WR.rX:∀(ops:L aN)(st:AS)(rest:L aN)(st':AS),aCl G ops st=some (rest,st')->WR P G k rest R st'->WR P G k ops R st
 |[],st,rest,st',h,a=>by simp[aCl] at h;obtain⟨rfl,rfl⟩:=h;exact a
 | o::ops,st,rest,st',h,a=>by
  simp only[aCl] at h;split at h
  ·rename_i b;obtain⟨e,c,d⟩:=bAk.1 h;exact WR.exX (by rw[b.1];trivial) b.2 c (WR.rX ops e rest st' d a)
  ·simp_all
theorem WR.rGX{g:Nat}{b:Bool}:∀(ops:L aN)(st:AS)(rest:L aN)(st':AS),cO (aM G st.sl (.t g))=some b->M7 G g b ops st=some (rest,st')->WR P G k rest R st'->WR P G k ops R st
 |[],st,rest,st',c,h,a=>by simp[M7] at h;obtain⟨rfl,rfl⟩:=h;exact a
 | o::ops,st,rest,st',c,h,a=>by
  simp only[M7] at h;split at h
  ·rename_i d;obtain⟨i,e,f⟩:=bAk.1 h;exact WR.exX (by rw[d.1];exact c) d.2.1 e (WR.rGX ops i rest st' (by grind[aJQ]) f a)
  ·simp_all
def nq:Nat->Nat->Bool
 |0,0=>true
 |0,_+1=>false
 |_+1,0=>false
 |n+1,m+1=>nq n m
theorem jK:∀a b:Nat,nq a b=(a==b)
 |0,0=>rfl
 |0,b+1=>by simp[nq]
 |a+1,0=>by simp[nq]
 |a+1,b+1=>by simp_all[nq,jK,bA1]
def W5:Option Nat->Nat->Bool
 |none,_=>true
 |some d,g=>!(nq d g)
def eqb:Bool->Bool->Bool
 |true,true=>true
 |false,false=>true
 |_,_=>false
theorem Pd(d:Option Nat)(g:Nat):W5 d g=decide (d≠some g):=by
 cases d with
 |none=>simp[W5]
 |some d=>grind[W5,jK]
theorem E7(a b:Bool):eqb a b=(a==b):=by cases a<;>cases b<;>rfl
def guG(g:Nat)(b:Bool):Option (Nat×Bool)->Option Nat->AI->Bool
 |some (c,b'),d,a=>nq g c&&(eqb b b'&&!a.isCall&&W5 d g)
 |none,_,_=>false
def M9(G:aF)(g:Nat)(b:Bool):L aN->Option AS->Option (L aN×AS)
 |_,none=>none
 |[],some st=>some ([],st)
 |o::l,some st=>bif guG g b o.guard o.dst o.ai then M9 G g b l (Hp G st o.dst o.ai) else some (o::l,st)
theorem W6(G:aF)(g:Nat)(b:Bool)(l:L aN):M9 G g b l none=none:=by cases l<;>rfl
theorem Sg(G:aF)(g:Nat)(b:Bool):∀(l:L aN)(st:AS),M9 G g b l (some st)=M7 G g b l st
 |[],st=>rfl
 | o::l,st=>by
  obtain⟨d,a,c⟩:=o;simp only[M9,M7];have e:Hp G st d a=exX G st ⟨d,a,c⟩:=Ce G st ⟨d,a,c⟩;rw[e];have h:guG g b c d a=decide (c=some (g,b)/\a.isCall=false/\d≠some g):=by
   cases c with
   | none=>simp[guG]
   | some q=>
    obtain⟨i,b'⟩:=q;simp only[guG,Pd,E7,jK];rw[bA1];simp only[aZO,beq_iff_eq,bAD,decide_eq_true_eq,Option.some.injEq,Prod.mk.injEq];constructor
    ·simp_all
    ·simp_all
  rw[h];by_cases f:c=some (g,b)/\a.isCall=false/\d≠some g
  ·simp only[decide_eq_true f,cond_true,if_pos f];cases exX G st ⟨d,a,c⟩ with
   | none=>simp[W6]
   | some st'=>simp[Sg G g b l st']
  ·grind
theorem WR.x1{o:aN}{ops rest:L aN}(_:o.guard=none)(_:o.ai.isCall=false)(h:aCm G (o::ops) (some st)=some (rest,st'))(a:WR P G k rest R st'):WR P G k (o::ops) R st:=WR.rX _ _ _ _ (by grind[Z5]) a
theorem WR.xg{o:aN}{ops rest:L aN}{g:Nat}{b:Bool}(_:o.guard=some (g,b))(_:o.ai.isCall=false)(a:cO (aM G st.sl (.t g))=some b)(h:M9 G g b (o::ops) (some st)=some (rest,st'))(c:WR P G k rest R st'):WR P G k (o::ops) R st:=WR.rGX _ _ _ _ a (by grind[Sg]) c
def aOO:AI->Bool
 |.alloc _=>true
 |.box _=>true
 |.store _ _ _=>true
 |_=>false
def W7:Bool->AI->Bool
 |true,a=>uQ a
 |false,a=>aOO a
def Na(G:aF):L (Bool×aN)->AS->Option (L (Bool×aN)×AS)
 |[],st=>some ([],st)
 |(b,o)::l,st=>if o.guard=none/\W7 b o.ai=true then (exX G st o).bind fun st'=>Na G l st' else some ((b,o)::l,st)
def B5(G:aF):L (Bool×aN)->Option AS->Option (L (Bool×aN)×AS)
 |_,none=>none
 |[],some st=>some ([],st)
 |o::l,some st=>bif unGD o.2.guard o.1 o.2.ai then B5 G l (Hp G st o.2.dst o.2.ai) else some (o::l,st)
where unGD:Option (Nat×Bool)->Bool->AI->Bool
 |none,b,ai=>W7 b ai
 |some _,_,_=>false
theorem W8(G:aF)(l:L (Bool×aN)):B5 G l none=none:=by cases l<;>rfl
theorem Sh(G:aF):∀(l:L (Bool×aN)) (st:AS),B5 G l (some st)=Na G l st
 |[],st=>rfl
 | o::l,st=>by
  obtain⟨b,d,a,g⟩:=o;simp only[B5,Na];have e:Hp G st d a=exX G st ⟨d,a,g⟩:=Ce G st ⟨d,a,g⟩;rw[e];cases g with
  | some g=>simp[B5.unGD]
  | none=>
   cases c:W7 b a with
   | false=>simp[B5.unGD,c]
   | true=>
    simp only[B5.unGD,c,cond_true,true_and,if_true];cases exX G st ⟨d,a,none⟩ with
    | none=>simp[W8]
    | some st'=>simp[Sh G l st']
theorem Si{o:aN}(h:o.ai.isPure=true):exX G st o=(dL G st o.ai).map fun v=>⟨aR st.sl o.dst v,st.hp⟩:=by
 obtain⟨b,a,c⟩:=o;cases a<;>first|(simp[AI.isPure] at h;done)|rfl
theorem WD.rX:∀(ops:L (Bool×aN)) (st:AS) (rest:L (Bool×aN)) (st':AS),Na G ops st=some (rest,st')->kB P G k R rest st'->kB P G k R ops st
 |[],st,rest,st',h,t=>by simp[Na] at h;obtain⟨rfl,rfl⟩:=h;exact t
 | (b,o)::ops,st,rest,st',h,t=>by
  simp only[Na] at h;split at h
  ·rename_i c;obtain⟨C,a,A⟩:=bAk.1 h;have f:=WD.rX ops C rest st' A t;obtain⟨r,hp⟩:=c;cases b with
   | true=>
    simp only[W7] at hp;rw[Si (I2 hp)] at a;obtain⟨v,g,rfl⟩:=Option.map_eq_some_iff.1 a;exact⟨v,.inr ⟨by rw[r];trivial,.inl (by rw[E3 hp];exact g)⟩,f⟩
   | false=>
    simp only[W7] at hp;obtain⟨j,w,D⟩:=o;simp only at r;subst r;cases w<;>first | (grind[aOO]) | skip
    case alloc z=>simp only[exX,Option.some.injEq] at a;subst a;exact WD.allocE trivial rfl rfl f
    case box x=>
     simp only[exX] at a;obtain⟨cs,h3,rfl⟩:=Option.map_eq_some_iff.1 a;exact WD.boxE trivial rfl h3 rfl f
    case store size x v=>
     simp only[exX] at a;cases j with
     | some d=>cases a
     | none=>
      simp only[stX] at a;split at a
      ·rename_i id off u;split at a
       ·rename_i vs g;split at a
        ·rename_i cs l;split at a
         ·rename_i c;injection a with a
          exact WD.storeX trivial rfl rfl u g l c.1 c.2 a f
         ·cases a
        ·cases a
       ·cases a
      ·rename_i id i s off u;split at a
       ·rename_i y g;split at a
        ·rename_i cap E es l;split at a
         ·rename_i e B;split at a
          ·rename_i c;injection a with a;subst a
           obtain⟨rfl,m,n⟩:=c;obtain⟨cs,p,q⟩:=bAk.1 g;exact .inr ⟨trivial,rfl,.inr ⟨id,i,s,off,cap,es,e,y,u,by rw[p,mZ q],l,B,m,n,f⟩⟩
          ·cases a
         ·cases a
        ·cases a
       ·cases a
      ·cases a
  ·simp_all
theorem WD.x1{b:Bool}{o:aN}{ops rest:L (Bool×aN)}(_:o.guard=none)(_:W7 b o.ai=true)(h:B5 G ((b,o)::ops) (some st)=some (rest,st'))(a:kB P G k R rest st'):kB P G k R ((b,o)::ops) st:=WD.rX _ _ _ _ (by grind[Sh]) a
def guD(g:Nat)(c:Bool):Bool->Option (Nat×Bool)->Option Nat->AI->Bool
 |true,some (e,b),d,a=>nq g e&&(eqb c b&&uQ a&&W5 d g)
 |_,_,_,_=>false
def Nb(G:aF)(g:Nat)(c:Bool):L (Bool×aN)->Option AS->Option (L (Bool×aN)×AS)
 |_,none=>none
 |[],some st=>some ([],st)
 |o::l,some st=>bif guD g c o.1 o.2.guard o.2.dst o.2.ai then Nb G g c l (Hp G st o.2.dst o.2.ai) else some (o::l,st)
theorem W9(G:aF)(g:Nat)(c:Bool)(l:L (Bool×aN)):Nb G g c l none=none:=by cases l<;>rfl
theorem Sj(G:aF)(g:Nat)(c:Bool):∀(l:L (Bool×aN)) (st:AS),Nb G g c l (some st)=M0 G g c l st
 |[],st=>rfl
 | o::l,st=>by
  obtain⟨b,d,a,f⟩:=o;simp only[Nb,M0];have i:guD g c b f d a=decide (b=true/\f=some (g,c)/\uQ a=true/\d≠some g):=by
   cases f with
   | none=>cases b<;>simp[guD]
   | some q=>
    obtain⟨m,j⟩:=q;cases b with
    | false=>simp[guD]
    | true=>
     simp only[guD,Pd,E7,jK];rw[bA1];simp only[aZO,beq_iff_eq,decide_eq_true_eq,Option.some.injEq,Prod.mk.injEq,true_and];constructor
     ·simp_all
     ·simp_all
  rw[i];by_cases h:b=true/\f=some (g,c)/\uQ a=true/\d≠some g
  ·simp only[decide_eq_true h,cond_true,if_pos h];have e:Hp G st d a=exX G st ⟨d,a,f⟩:=Ce G st ⟨d,a,f⟩;rw[e,Si (o:=⟨d,a,f⟩) (I2 h.2.2.1)];cases dL G st a with
   | none=>simp[W9]
   | some v=>simp[Sj G g c l]
  ·grind
theorem WD.xg{b:Bool}{o:aN}{ops rest:L (Bool×aN)}{g:Nat}{c:Bool}(_:o.guard=some (g,c))(_:o.ai.isPure=true)(a:cO (aM G st.sl (.t g))=some c)(h:Nb G g c ((b,o)::ops) (some st)=some (rest,st'))(d:kB P G k R rest st'):kB P G k R ((b,o)::ops) st:=WD.runG _ _ _ _ a (by grind[Sj]) d
def skO(g:Nat)(c:Bool):Option (Nat×Bool)->Option Nat->Bool
 |some (b,a),d=>nq g b&&(eqb c a&&W5 d g)
 |none,_=>false
theorem aE9(g:Nat)(c:Bool)(a:Option (Nat×Bool))(d:Option Nat):skO g c a d=decide (a=some (g,c)/\d≠some g):=by
 cases a with
 |none=>simp[skO]
 |some q=>
  obtain⟨e,b⟩:=q;simp only[skO,Pd,E7,jK];grind
def skY(g:Nat)(c:Bool):L aN->AS->L aN×AS
 |[],st=>([],st)
 |o::l,st=>bif skO g c o.guard o.dst then skY g c l ⟨aR st.sl o.dst (.tup []),st.hp⟩ else (o::l,st)
theorem aFa(g:Nat)(c:Bool):∀(l:L aN)(st:AS),skY g c l st=skipG g c l st
 |[],st=>rfl
 | o::l,st=>by
  simp only[skY,skipG,aE9];by_cases a:o.guard=some (g,c)/\o.dst≠some g
  ·simp_all[decide_eq_true,cond_true,if_pos,aFa]
  grind
def aFb(g:Nat)(c:Bool):L (Bool×aN)->AS->L (Bool×aN)×AS
 |[],st=>([],st)
 |o::l,st=>bif skO g c o.2.guard o.2.dst then aFb g c l ⟨aR st.sl o.2.dst (.tup []),st.hp⟩ else (o::l,st)
theorem Z6(g:Nat)(c:Bool):∀(l:L (Bool×aN)) (st:AS),aFb g c l st=E4 g c l st
 |[],st=>rfl
 | (b,o)::l,st=>by
  simp only[aFb,E4,aE9];by_cases a:o.guard=some (g,c)/\o.dst≠some g
  ·simp_all[decide_eq_true,cond_true,if_pos,Z6]
  grind
def gN(c:Bool):AV->Bool
 |.one (.dc (.raw (.bool b)))=>eqb b (!c)
 |.tup []=>true
 |_=>false
theorem aNS{g:Nat}{c:Bool}(h:gN c (aM G st.sl (.t g))=true):G0 G st (some (g,c)):=by
 show cO (aM G st.sl (.t g))=some (!c)\/aM G st.sl (.t g)=.tup [];generalize aM G st.sl (.t g)=v at h;unfold gN at h;split at h;rename_i b;rw[E7,beq_iff_eq] at h;subst h;exact .inl rfl;all_goals simp_all
theorem WR.xs{o:aN}{ops rest:L aN}{g:Nat}{c:Bool}(_:o.guard=some (g,c))(a:gN c (aM G st.sl (.t g))=true)(h:skY g c (o::ops) st=(rest,st'))(b:WR P G k rest R st'):WR P G k (o::ops) R st:=WR.skipG _ _ _ _ (aNS a) (by grind[aFa]) b
theorem WD.xs{b:Bool}{o:aN}{ops rest:L (Bool×aN)}{g:Nat}{c:Bool}(_:o.guard=some (g,c))(a:gN c (aM G st.sl (.t g))=true)(h:aFb g c ((b,o)::ops) st=(rest,st'))(d:kB P G k R rest st'):kB P G k R ((b,o)::ops) st:=WD.skipG _ _ _ _ (aNS a) (by grind[Z6]) d
end
theorem aXA(a b:Nat):nq a b=decide (a=b):=by rw[jK];rfl
attribute [go_sem] eq_self decide_true decide_false uQ aXA W5 skO skY aFb gN Nb guD aCm M9 B5 B5.unGD unG guG cond_true cond_false Hp evX stD aOM aJN aJO Z3 Z4 aJP aOO W7 stX bsX zs gD dcs AI.isCall iQ tP bBf List.isEmpty_nil List.isEmpty_cons
end
section
theorem ifp{c:Prop}[Decidable c]{α:Sort _}{a b:α}(h:c):ite c a b=a:=if_pos h
theorem ifn{c:Prop}[Decidable c]{α:Sort _}{a b:α}(h:¬ c):ite c a b=b:=if_neg h
section
variable {P:Program}{G:aF}{k:Nat}{st st':AS}{R:AS->Prop}{o:aN}{rest:L aN}
theorem VLe.int{k:IntKind}{a b:Int}(h:a=b):VLe (.one (.dc (.raw (.int k a)))) (.one (.dc (.raw (.int k b)))):=by subst h;exact .refl _
def tK:Nat->L AV
 |0=>[]
 |n+1=>.junk::tK n
theorem Sk:∀n,tK n=List.replicate n .junk
 |0=>rfl
 |n+1=>by rw[tK,Sk n,List.replicate_succ]
theorem AC.of_codeJ{f:FuncId}{b:Func}{n:Nat}{d:L lC}{c:eK}{a:L AV}{objs:L aD}{Q:AV->L aD->Prop}(hf:P.funcs[f]?=some b)(g:b.ntmps=n) (e:b.body.bind (bW P)=some c) (i:b.results.toList.mapM (jS P)=some d) (h:AW P G objs.length c (Fin objs.length d Q) ⟨a++tK (n-a.length),objs⟩):AC P G f a objs Q:=AC.of_codeF hf g e i (by rw[<- Sk];exact h)
def nzC:aV->aV
 |.dc (.raw (.slice none 0 0))=>.dc (.slc [])
 |.dc (.ptr cs)=>.ref cs
 |c=>c
def nzT:TV->TV
 |.one c=>.one (nzC c)
 |.agg cs=>.agg (cs.map nzC)
def G3:AV->AV
 |.one c=>.one (nzC c)
 |.agg cs=>.agg (cs.map nzC)
 |.tup l=>.tup (l.map nzT)
 |.junk=>.junk
theorem Xa{F:Fz}{γ:L OI}{c:aV}{v:Value}(h:RC F γ c v):RC F γ (nzC c) v:=by
 unfold nzC;split;cases h with|dc _ _ h=>cases h with|raw _ h=>exact .dc _ _ (.nil _ _)
 cases h with|dc _ _ h=>cases h with|ptr _ b off g d a=>exact .ref _ b off g d a
 exact h
theorem Z7{F:Fz}{γ:L OI}{cs:L aV}{vs:Array Value}(h:∀(i:Nat) c v,cs[i]?=some c->vs[i]?=some v->RC F γ c v):∀(i:Nat) c v,(cs.map nzC)[i]?=some c->vs[i]?=some v->RC F γ c v:=by
 intro i c v a e;rw[aZI] at a;obtain⟨b,d,rfl⟩:=Option.map_eq_some_iff.1 a;exact Xa (h i b v d e)
theorem aFd{F:Fz}{γ:L OI}{a:AV}{v:Value}(h:RV F γ a v):RV F γ (G3 a) v:=by
 cases h with
 |one c v h=>exact .one _ _ (Xa h)
 |agg cs vs b h=>exact .agg _ _ (by simpa using b) (Z7 h)
 |tup l vs b h=>
  refine .tup _ _ (by simpa using b) (fun i t v d f=>?_)
  rw[aZI] at d;obtain⟨g,e,rfl⟩:=Option.map_eq_some_iff.1 d;cases h i g v e f with
  |one c v h=>exact .one _ _ (Xa h)
  |agg cs vs b h=>exact .agg _ _ (by simpa using b) (Z7 h)
 |junk v=>exact .junk v
theorem AC.nz{f:FuncId}{b:L AV}{objs:L aD}{Q:AV->L aD->Prop}(h:AC P G f b objs fun e os=>Q (G3 e) os):AC P G f b objs Q:=by
 refine h.gh (fun a os n m=>⟨G3 a,os,?_,m,n⟩)
 intro F γ p w j d l;refine⟨F,γ,iL.refl _ _ _ _,j,⟨d.1,d.2.1,fun i e v c g=>?_⟩,l⟩
 cases i with
 |zero=>simp at c;subst c;exact aFd (d.2.2 0 a v rfl g)
 |succ i=>simp at c
def bsD(G:aF)(st:AS)(a:Option Nat)(size len:Nat)(z:L Value)(c:L (Nat×aH)):Option AS:=
 (iQ (zs z (len*size)) (c.map fun (j,x)=>(j*size,size,aM G st.sl x))).bind fun cs=>(dcs cs).bind fun b=>
  if b.length=len*size then some ⟨aR st.sl a (.one (.bld st.hp.length len)),st.hp++[.arr len size (gD size len b)]⟩ else none
theorem WD.bs{b:aN}{l:L (Bool×aN)}{size len:Nat}{z:L Value}{d:L (Nat×aH)}(a:jR G st b.guard)(g:b.ai=.bslc size len z d) (h:bsD G st b.dst size len z d=some st') (m:kB P G k R l st'):kB P G k R ((false,b)::l) st:=by
 unfold bsD at h;obtain⟨cs,hf,h⟩:=bAk.1 h;obtain⟨c,i,h⟩:=bAk.1 h;split at h;rename_i j;injection h with h
 obtain⟨e,f,h3⟩:=lF size len c j;rw[M8] at hf;exact WD.bslcE (es:=gD size len c) a g (by rw[e,<- mZ i];exact hf) f h3 h m;cases h
def gK(b:Bool):AV->Option Bool
 |.one (.dc (.raw (.bool c)))=>some (eqb c b)
 |.tup []=>some false
 |_=>none
theorem aJS{g:Nat}{b:Bool}(h:gK b (aM G st.sl (.t g))=some true):cO (aM G st.sl (.t g))=some b:=by
 generalize aM G st.sl (.t g)=v at h;unfold gK at h;split at h;rename_i c;injection h with h;rw[E7,beq_iff_eq] at h;subst h;rfl
 cases h;cases h
theorem aFe{g:Nat}{b:Bool}(h:gK b (aM G st.sl (.t g))=some false):G0 G st (some (g,b)):=by
 show cO (aM G st.sl (.t g))=some (!b)\/aM G st.sl (.t g)=.tup [];generalize aM G st.sl (.t g)=v at h;unfold gK at h;split at h;rename_i c;injection h with h;rw[E7] at h;left;cases b<;>cases c<;>first|rfl|cases h
 exact .inr rfl;cases h
end
attribute [go_sem] nzC nzT G3 List.map_replicate bsD bA7 Int.cast_ofNat_Int decide_true decide_false jR bAU if_false aZX aZ2 aZ8 bAh Bool.and_true Bool.and_false E2 ifp ifn aZJ
attribute [go_sem] decide_eq_false_iff_not aZO Bool.or_eq_true bAD Bool.not_eq_false' beq_iff_eq bne_iff_ne ne_eq beq_eq_false_iff_ne bne_eq_false_iff_eq Bool.true_eq_false Bool.and_eq_false_iff Bool.or_eq_false_iff Decidable.not_not bAu Int.natCast_one
attribute [go_sem] bAs Nat.one_mul Nat.zero_mul Nat.mul_zero Nat.mod_one Nat.zero_mod bAz Int.toNat_zero Int.toNat_one bBe
